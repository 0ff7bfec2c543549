/-
  Parts of the proof, one behind the other: contracts of functions and plain laws. No condition.
-/
import Derived.OrdersHeld
import Derived.Shelf.SlSortCmp.Whole1
import Derived.Test.YtifkgmbghcmdeaaProg
import Derived.WalkKit
import Derived.Deep.LoopGhost
import Derived.Deep.Draws
import Derived.Lib.Walk
import Derived.Lib.Small
import Derived.Lib.Slices
import Derived.Shelf.RegionOpenPlain
import Derived.Deep.QuietTactic
import Derived.Test.YtifkgmbghcmdeaaPt3TjurinaNumbe
/-
  Local algebras: the rows of products, and the counts. No condition.
-/
namespace Go.Proofs.Ytifkgmbghcmdeaa
open Go Go.RowKit

def triN : Nat → Nat
  | 0 => 0
  | n + 1 => triN n + n + 1
theorem triN_mono {a b : Nat} (h : a ≤ b) : triN a ≤ triN b := by
  induction h with
  | refl => exact Nat.le_refl _
  | step _ ih => rw [triN]; omega
theorem triN_two : ∀ n : Nat, n * (n + 1) = 2 * triN n
  | 0 => rfl
  | n + 1 => by
    have h := triN_two n
    rw [triN]
    have e : (n + 1) * (n + 1 + 1) = n * (n + 1) + 2 * (n + 1) := by rw [Nat.succ_mul n, Nat.mul_succ n]; omega
    omega
theorem triN_int (x : Int) (h : 0 ≤ x) : x * (x + 1) = 2 * (triN x.toNat : Int) := by
  obtain ⟨n, rfl⟩ : ∃ n : Nat, x = n := ⟨x.toNat, by omega⟩
  have := triN_two n
  rw [Int.toNat_natCast]
  have e : ((n : Nat) : Int) * (((n : Nat) : Int) + 1) = ((n * (n + 1) : Nat) : Int) := by rw [Int.natCast_mul]; rfl
  rw [e, this]; omega
/-- The place of a monomial. -/
def plN (i j : Nat) : Nat := triN (i + j) + i
theorem plN_lt {i j M : Nat} (h : i + j ≤ M) : plN i j < triN (M + 1) := by
  have h1 := triN_mono (show i + j + 1 ≤ M + 1 by omega)
  rw [triN] at h1
  unfold plN; omega
theorem plN_ge {i j M : Nat} (h : M < i + j) : triN (M + 1) ≤ plN i j := by
  have h1 := triN_mono (show M + 1 ≤ i + j by omega)
  unfold plN; omega
/-- The row of a product of a polynomial and a monomial, up to the degree M; the first k terms. -/
def prR (f : List (List Int)) (a b M : Nat) : Nat → List Int
  | 0 => List.replicate (triN (M + 1)) 0
  | k + 1 => if geti (gets f (k : Nat)) 0 + geti (gets f (k : Nat)) 1 + a + b ≤ M then (prR f a b M k).set (plN (geti (gets f (k : Nat)) 0 + a).toNat (geti (gets f (k : Nat)) 1 + b).toNat) (geti (gets f (k : Nat)) 2) else prR f a b M k
theorem prR_len (f : List (List Int)) (a b M : Nat) : ∀ k, (prR f a b M k).length = triN (M + 1)
  | 0 => by simp [prR]
  | k + 1 => by rw [prR]; split <;> simp [prR_len f a b M k]
/-- The terms of a polynomial are in range. -/
def PoR (f : List (List Int)) : Prop := ∀ k : Nat, k < f.length → (gets f (k : Nat)).length = 3 ∧ (0 ≤ geti (gets f (k : Nat)) 0 ∧ geti (gets f (k : Nat)) 0 ≤ 60) ∧ (0 ≤ geti (gets f (k : Nat)) 1 ∧ geti (gets f (k : Nat)) 1 ≤ 60) ∧ (1 ≤ geti (gets f (k : Nat)) 2 ∧ geti (gets f (k : Nat)) 2 ≤ 55440)
theorem poR_of {f : List (List Int)} (h : isPo f = true) : PoR f := fun k hk => by
  obtain ⟨h1, h2, h3, h4, _⟩ := (isPo_of h).2 k hk
  exact ⟨h1, h2, h3, h4⟩
theorem prR_in {f : List (List Int)} (hf : PoR f) (a b M : Nat) : ∀ k, k ≤ f.length → inF (prR f a b M k)
  | 0, _ => inF_rep _
  | k + 1, hk => by
    have ih := prR_in hf a b M k (by omega)
    rw [prR]; split
    · intro i
      rw [geti_set]; split
      · have := hf k (by omega); omega
      · exact ih i
    · exact ih
/-- The product as a vector. -/
def pv (f : List (List Int)) (a b : Nat) : Nat → Nat → Int
  | 0, _ => 0
  | k + 1, i => if plN (geti (gets f (k : Nat)) 0 + a).toNat (geti (gets f (k : Nat)) 1 + b).toNat = i then geti (gets f (k : Nat)) 2 else pv f a b k i
theorem prR_pv {f : List (List Int)} (hf : PoR f) (a b M : Nat) : ∀ k, k ≤ f.length → ∀ i, i < triN (M + 1) → vec (prR f a b M k) i = pv f a b k i
  | 0, _, i, hi => by
    unfold vec; rw [prR, pv]; unfold geti
    rw [List.getD_eq_getElem?_getD, List.getElem?_replicate]; split <;> rfl
  | k + 1, hk, i, hi => by
    have ih := prR_pv hf a b M k (by omega) i hi
    obtain ⟨_, h0, h1, _⟩ := hf k (by omega)
    rw [prR, pv]
    by_cases hle : geti (gets f (k : Nat)) 0 + geti (gets f (k : Nat)) 1 + a + b ≤ M
    · rw [if_pos hle]
      have hlt := plN_lt (i := (geti (gets f (k : Nat)) 0 + a).toNat) (j := (geti (gets f (k : Nat)) 1 + b).toNat) (M := M) (by omega)
      unfold vec
      rw [geti_set, Int.toNat_natCast, prR_len]
      by_cases e : plN (geti (gets f (k : Nat)) 0 + a).toNat (geti (gets f (k : Nat)) 1 + b).toNat = i
      · rw [if_pos ⟨e, by omega⟩, if_pos e]
      · rw [if_neg (fun h => e h.1), if_neg e]; exact ih
    · rw [if_neg hle]
      have hge := plN_ge (i := (geti (gets f (k : Nat)) 0 + a).toNat) (j := (geti (gets f (k : Nat)) 1 + b).toNat) (M := M) (by omega)
      rw [if_neg (by omega)]; exact ih
/-- What is of too great a degree is nothing. -/
theorem pv_high {f : List (List Int)} {a b M : Nat} : ∀ k, (∀ j : Nat, j < k → 0 ≤ geti (gets f (j : Nat)) 0 ∧ 0 ≤ geti (gets f (j : Nat)) 1 ∧ (M : Int) < geti (gets f (j : Nat)) 0 + geti (gets f (j : Nat)) 1 + a + b) → ∀ i, i < triN (M + 1) → pv f a b k i = 0
  | 0, _, i, _ => rfl
  | k + 1, h, i, hi => by
    rw [pv]
    have h1 := h k (by omega)
    have hge := plN_ge (i := (geti (gets f (k : Nat)) 0 + a).toNat) (j := (geti (gets f (k : Nat)) 1 + b).toNat) (M := M) (by omega)
    rw [if_neg (by omega)]
    exact pv_high k (fun j hj => h j (by omega)) i hi

/-! ### The rows come in -/
def cnB (f : List (List Int)) (M a : Nat) (L : Rws) : Nat → Rws
  | 0 => L
  | b + 1 => addR (cnB f M a L b) (prR f a b M f.length)
def cnA (f : List (List Int)) (M C : Nat) (L : Rws) : Nat → Rws
  | 0 => L
  | a + 1 => cnB f M a (cnA f M C L a) (C - a)
def cnF (fs : List (List (List Int))) (M : Nat) (rc : List (List Int) → Nat) : Nat → Rws
  | 0 => []
  | n + 1 => cnA (fs.getD n []) M (rc (fs.getD n [])) (cnF fs M rc n) (rc (fs.getD n []))
theorem cnB_ok {f : List (List Int)} (hf : PoR f) (M a : Nat) {L : Rws} (hL : RwI (triN (M + 1)) L) : ∀ b, RwI (triN (M + 1)) (cnB f M a L b)
  | 0 => hL
  | b + 1 => (cnB_ok hf M a hL b).add (prR_len _ _ _ _ _) (prR_in hf _ _ _ _ (Nat.le_refl _))
theorem cnA_ok {f : List (List Int)} (hf : PoR f) (M C : Nat) {L : Rws} (hL : RwI (triN (M + 1)) L) : ∀ a, RwI (triN (M + 1)) (cnA f M C L a)
  | 0 => hL
  | a + 1 => cnB_ok hf M a (cnA_ok hf M C hL a) _
theorem cnF_ok {fs : List (List (List Int))} (hf : ∀ n : Nat, n < fs.length → PoR (fs.getD n [])) (M : Nat) (rc : List (List Int) → Nat) : ∀ n, n ≤ fs.length → RwI (triN (M + 1)) (cnF fs M rc n)
  | 0, _ => ⟨rw_nil _, List.Pairwise.nil⟩
  | n + 1, h => cnA_ok (hf n (by omega)) M _ (cnF_ok hf M rc n (by omega)) _
theorem cnB_span {f : List (List Int)} (hf : PoR f) (M a : Nat) {L : Rws} (hL : RwI (triN (M + 1)) L) {G : (Nat → Int) → Prop} (h : SpanEq (triN (M + 1)) (GR L) G) : ∀ n, SpanEq (triN (M + 1)) (GR (cnB f M a L n)) (fun g => G g ∨ ∃ b, b < n ∧ g = vec (prR f a b M f.length))
  | 0 => h.trans ⟨fun g hg => .gen (.inl hg), fun g hg => by
      rcases hg with hg | ⟨b, hb, _⟩
      · exact .gen hg
      · omega⟩
  | n + 1 => by
    have ih := cnB_span hf M a hL h n
    refine (add_span (cnB_ok hf M a hL n) (prR_len _ _ _ _ _) (prR_in hf _ _ _ _ (Nat.le_refl _))).trans ((ih.or _).trans ⟨fun g hg => .gen ?_, fun g hg => .gen ?_⟩)
    · rcases hg with (hg | ⟨b, hb, e⟩) | e
      · exact .inl hg
      · exact .inr ⟨b, by omega, e⟩
      · exact .inr ⟨n, by omega, e⟩
    · rcases hg with hg | ⟨b, hb, e⟩
      · exact .inl (.inl hg)
      · by_cases eb : b = n
        · subst eb; exact .inr e
        · exact .inl (.inr ⟨b, by omega, e⟩)
theorem cnA_span {f : List (List Int)} (hf : PoR f) (M C : Nat) {L : Rws} (hL : RwI (triN (M + 1)) L) {G : (Nat → Int) → Prop} (h : SpanEq (triN (M + 1)) (GR L) G) : ∀ n, SpanEq (triN (M + 1)) (GR (cnA f M C L n)) (fun g => G g ∨ ∃ a b, a < n ∧ b < C - a ∧ g = vec (prR f a b M f.length))
  | 0 => h.trans ⟨fun g hg => .gen (.inl hg), fun g hg => by
      rcases hg with hg | ⟨a, b, hb, _⟩
      · exact .gen hg
      · omega⟩
  | n + 1 => by
    have ih := cnA_span hf M C hL h n
    refine (cnB_span hf M n (cnA_ok hf M C hL n) ih (C - n)).trans ⟨fun g hg => .gen ?_, fun g hg => .gen ?_⟩
    · rcases hg with (hg | ⟨a, b, ha, hb, e⟩) | ⟨b, hb, e⟩
      · exact .inl hg
      · exact .inr ⟨a, b, by omega, hb, e⟩
      · exact .inr ⟨n, b, by omega, hb, e⟩
    · rcases hg with hg | ⟨a, b, ha, hb, e⟩
      · exact .inl (.inl hg)
      · by_cases ea : a = n
        · subst ea; exact .inr ⟨b, hb, e⟩
        · exact .inl (.inr ⟨a, b, by omega, hb, e⟩)
theorem cnF_span {fs : List (List (List Int))} (hf : ∀ n : Nat, n < fs.length → PoR (fs.getD n [])) (M : Nat) (rc : List (List Int) → Nat) : ∀ n, n ≤ fs.length → SpanEq (triN (M + 1)) (GR (cnF fs M rc n)) (fun g => ∃ k a b, k < n ∧ a < rc (fs.getD k []) ∧ b < rc (fs.getD k []) - a ∧ g = vec (prR (fs.getD k []) a b M (fs.getD k []).length))
  | 0, _ => ⟨fun g ⟨t, ht, _⟩ => (by cases ht), fun g ⟨k, a, b, hk, _⟩ => by omega⟩
  | n + 1, h => by
    have ih := cnF_span hf M rc n (by omega)
    refine (cnA_span (hf n (by omega)) M _ (cnF_ok hf M rc n (by omega)) ih _).trans ⟨fun g hg => .gen ?_, fun g hg => .gen ?_⟩
    · rcases hg with ⟨k, a, b, hk, r⟩ | ⟨a, b, r⟩
      · exact ⟨k, a, b, by omega, r⟩
      · exact ⟨n, a, b, by omega, r⟩
    · obtain ⟨k, a, b, hk, r⟩ := hg
      by_cases ek : k = n
      · subst ek; exact .inr ⟨a, b, r⟩
      · exact .inl ⟨k, a, b, by omega, r⟩

/-! ### The counts do not see the bound, nor the order of the polynomials -/
/-- How many factors the program takes: by the order of the polynomial. -/
def rcI (M : Nat) (f : List (List Int)) : Nat := if f.length = 0 then 0 else ((M : Int) - geti (gets f 0) 0 - geti (gets f 0) 1 + 1).toNat
/-- All products. -/
def GA (fs : List (List (List Int))) (g : Nat → Int) : Prop := ∃ f ∈ fs, ∃ a b : Nat, a + b ≤ 17 ∧ g = pv f a b f.length
/-- Polynomials: in range, the least degree first. -/
structure PoO (f : List (List Int)) : Prop where
  r : PoR f
  o : ∀ k : Nat, k < f.length → geti (gets f 0) 0 + geti (gets f 0) 1 ≤ geti (gets f (k : Nat)) 0 + geti (gets f (k : Nat)) 1
theorem getD_mem {α : Type} {l : List α} {d : α} {n : Nat} (h : n < l.length) : l.getD n d ∈ l := by
  rw [List.getD_eq_getElem?_getD, List.getElem?_eq_getElem h]
  exact List.getElem_mem h
theorem sp_of_eq {m : Nat} {G : (Nat → Int) → Prop} {v w : Nat → Int} (h : Sp m G v) (e : ∀ i, i < m → w i = v i) : Sp m G w := h.congr fun i hi => by rw [e i hi]
theorem span_I {fs : List (List (List Int))} (hf : ∀ f ∈ fs, PoO f) {M : Nat} (hM : M ≤ 17) : SpanEq (triN (M + 1)) (GR (cnF fs M (rcI M) fs.length)) (GA fs) := by
  refine (cnF_span (fun n hn => (hf _ (getD_mem hn)).r) M (rcI M) fs.length (Nat.le_refl _)).trans ⟨?_, ?_⟩
  · rintro g ⟨k, a, b, hk, ha, hb, rfl⟩
    have hm : fs.getD k [] ∈ fs := getD_mem hk
    generalize fs.getD k [] = f at hm ha hb
    have hp := hf f hm
    have hab : a + b ≤ 17 := by
      unfold rcI at ha hb
      split at ha
      · omega
      · rename_i h0
        rw [if_neg h0] at hb
        have := hp.r 0 (by omega)
        simp only [show ((0 : Nat) : Int) = 0 from rfl] at this
        omega
    exact sp_of_eq (.gen ⟨f, hm, a, b, hab, rfl⟩) fun i hi => prR_pv hp.r a b M f.length (Nat.le_refl _) i hi
  · rintro g ⟨f, hm, a, b, hab, rfl⟩
    have hp := hf f hm
    obtain ⟨k, hk, e⟩ := List.getElem_of_mem hm
    have ek : fs.getD k [] = f := by rw [List.getD_eq_getElem?_getD, List.getElem?_eq_getElem hk]; exact e
    by_cases hin : a < rcI M f ∧ b < rcI M f - a
    · exact sp_of_eq (.gen ⟨k, a, b, hk, by rw [ek]; exact hin.1, by rw [ek]; exact hin.2, rfl⟩) fun i hi => by rw [ek]; exact (prR_pv hp.r a b M f.length (Nat.le_refl _) i hi).symm
    · refine .zero fun i hi => ?_
      have : pv f a b f.length i = 0 := pv_high (M := M) f.length (fun j hj => ?_) i hi
      · rw [this]; rfl
      · have h1 := hp.r j hj
        have h2 := hp.o j hj
        unfold rcI at hin
        rw [if_neg (by omega)] at hin
        omega
theorem span_S {fs : List (List (List Int))} (hf : ∀ f ∈ fs, PoO f) : SpanEq (triN 18) (GR (cnF fs 17 (fun _ => 18) fs.length)) (GA fs) := by
  refine (cnF_span (fun n hn => (hf _ (getD_mem hn)).r) 17 (fun _ => 18) fs.length (Nat.le_refl _)).trans ⟨?_, ?_⟩
  · rintro g ⟨k, a, b, hk, ha, hb, rfl⟩
    have hm : fs.getD k [] ∈ fs := getD_mem hk
    generalize fs.getD k [] = f at hm
    exact sp_of_eq (.gen ⟨f, hm, a, b, by omega, rfl⟩) fun i hi => prR_pv (hf f hm).r a b 17 f.length (Nat.le_refl _) i hi
  · rintro g ⟨f, hm, a, b, hab, rfl⟩
    obtain ⟨k, hk, e⟩ := List.getElem_of_mem hm
    have ek : fs.getD k [] = f := by rw [List.getD_eq_getElem?_getD, List.getElem?_eq_getElem hk]; exact e
    exact sp_of_eq (.gen ⟨k, a, b, hk, by omega, by omega, rfl⟩) fun i hi => by rw [ek]; exact (prR_pv (hf f hm).r a b 17 f.length (Nat.le_refl _) i hi).symm
open Classical in
/-- Is a place the first one of a vector of the ideal? -/
noncomputable def isLd (fs : List (List (List Int))) (p : Nat) : Bool := decide (Leads (triN 18) (GA fs) p)
theorem isLd_iff (fs : List (List (List Int))) (p : Nat) : isLd fs p = true ↔ Leads (triN 18) (GA fs) p := by unfold isLd; simp
theorem ld_I {fs : List (List (List Int))} (hf : ∀ f ∈ fs, PoO f) {M : Nat} (hM : M ≤ 17) {p : Nat} (hp : p < triN (M + 1)) : (fndR (cnF fs M (rcI M) fs.length) (p : Nat)).isSome = isLd fs p := by
  have h1 := fnd_leads (cnF_ok (fun n hn => (hf _ (getD_mem hn)).r) M (rcI M) fs.length (Nat.le_refl _)) p
  have h2 := (span_I hf hM).leads p
  have h3 := leads_cut (G := GA fs) (n := triN 18) (triN_mono (by omega)) hp
  rw [Bool.eq_iff_iff, h1, h2, ← h3, isLd_iff]
theorem ld_S {fs : List (List (List Int))} (hf : ∀ f ∈ fs, PoO f) (p : Nat) : (fndR (cnF fs 17 (fun _ => 18) fs.length) (p : Nat)).isSome = isLd fs p := by
  have h1 := fnd_leads (cnF_ok (fun n hn => (hf _ (getD_mem hn)).r) 17 (fun _ => 18) fs.length (Nat.le_refl _)) p
  have h2 := (span_S hf).leads p
  rw [Bool.eq_iff_iff, h1, h2, isLd_iff]
theorem ld_perm {fs gs : List (List (List Int))} (h : ∀ f, f ∈ fs ↔ f ∈ gs) (p : Nat) : isLd fs p = isLd gs p := by
  rw [Bool.eq_iff_iff, isLd_iff, isLd_iff]
  have e : GA fs = GA gs := by
    funext g
    exact propext ⟨fun ⟨f, hf, r⟩ => ⟨f, (h f).1 hf, r⟩, fun ⟨f, hf, r⟩ => ⟨f, (h f).2 hf, r⟩⟩
  rw [e]

/-- How many places of the degree d, of the first n, are taken. -/
def tkN (P : Nat → Bool) (d : Nat) : Nat → Nat
  | 0 => 0
  | n + 1 => tkN P d n + (if P (triN d + n) then 1 else 0)
theorem tkN_le (P : Nat → Bool) (d : Nat) : ∀ n, tkN P d n ≤ n
  | 0 => Nat.le_refl _
  | n + 1 => by have := tkN_le P d n; rw [tkN]; split <;> omega
theorem tkN_congr {P Q : Nat → Bool} (d : Nat) : ∀ n, (∀ j, j < n → P (triN d + j) = Q (triN d + j)) → tkN P d n = tkN Q d n
  | 0, _ => rfl
  | n + 1, h => by rw [tkN, tkN, tkN_congr d n fun j hj => h j (by omega), h n (by omega)]
/-- The count of the degree d. -/
def hcN (P : Nat → Bool) (d : Nat) : Nat := d + 1 - tkN P d (d + 1)
/-- How many of the first n numbers of rows lie in the degree d. -/
def pkN (L : Rws) (d : Nat) : Nat → Nat
  | 0 => 0
  | n + 1 => pkN L d n + (if (triN d : Int) ≤ geti (valsOf L) (n : Nat) ∧ geti (valsOf L) (n : Nat) ≤ (triN (d + 1) : Int) - 1 then 1 else 0)
theorem pkN_le (L : Rws) (d : Nat) : ∀ n, pkN L d n ≤ n
  | 0 => Nat.le_refl _
  | n + 1 => by have := pkN_le L d n; rw [pkN]; split <;> omega
theorem tkN_filter (P : Nat → Bool) (d : Nat) : ∀ n, tkN P d n = (((List.range n).map fun j => triN d + j).filter P).length
  | 0 => rfl
  | n + 1 => by
    rw [tkN, tkN_filter P d n, List.range_succ, List.map_append, List.filter_append, List.length_append]
    simp only [List.map_cons, List.map_nil, List.filter_cons, List.filter_nil]
    split <;> simp
theorem pkN_filter (L : Rws) (d : Nat) : ∀ n, n ≤ L.length → pkN L d n = ((L.take n).filter fun t => decide ((triN d : Int) ≤ t.1 ∧ t.1 ≤ (triN (d + 1) : Int) - 1)).length
  | 0, _ => rfl
  | n + 1, h => by
    rw [pkN, pkN_filter L d n (by omega), List.take_succ_eq_append_getElem (by omega), List.filter_append, List.length_append, geti_vals (by omega)]
    simp only [List.filter_cons, List.filter_nil, decide_eq_true_eq]
    split <;> simp
theorem pk_tk {m : Nat} {L : Rws} (h : RwI m L) (d : Nat) : pkN L d L.length = tkN (fun p => (fndR L (p : Nat)).isSome) d (d + 1) := by
  rw [pkN_filter L d L.length (Nat.le_refl _), List.take_length, tkN_filter]
  have key : ∀ t ∈ L, 0 ≤ t.1 := fun t ht => by
    obtain ⟨i, hi, rfl⟩ := List.getElem_of_mem ht
    have a := h.ok.at_ i hi
    rw [List.getD_eq_getElem?_getD, List.getElem?_eq_getElem hi] at a
    exact a.2.2.1
  have hp : (((L.filter fun t => decide ((triN d : Int) ≤ t.1 ∧ t.1 ≤ (triN (d + 1) : Int) - 1)).map fun t => t.1.toNat)).Perm (((List.range (d + 1)).map fun j => triN d + j).filter fun p => (fndR L (p : Nat)).isSome) := by
    refine (List.perm_ext_iff_of_nodup ?_ ?_).2 fun p => ?_
    · unfold List.Nodup
      rw [List.pairwise_map]
      refine List.Pairwise.imp_of_mem (fun {x y} hx hy hxy => ?_) (h.nd.filter _)
      have a := key x (List.mem_filter.1 hx).1
      have b := key y (List.mem_filter.1 hy).1
      omega
    · unfold List.Nodup
      refine List.Pairwise.filter _ ?_
      rw [List.pairwise_map]
      exact List.nodup_range.imp fun hxy e => hxy (by omega)
    · have e1 : triN (d + 1) = triN d + d + 1 := rfl
      simp only [List.mem_map, List.mem_filter, decide_eq_true_eq, List.mem_range]
      constructor
      · rintro ⟨t, ⟨ht, h1, h2⟩, rfl⟩
        refine ⟨⟨t.1.toNat - triN d, by omega, by omega⟩, ?_⟩
        unfold fndR
        rw [List.findIdx?_isSome, List.any_eq_true]
        exact ⟨t, ht, decide_eq_true (by have := key t ht; omega)⟩
      · rintro ⟨⟨j, hj, rfl⟩, hs⟩
        obtain ⟨k, hk⟩ := Option.isSome_iff_exists.1 hs
        obtain ⟨h1, h2⟩ := fnd_at hk
        exact ⟨L.getD k (0, []), ⟨getD_mem h1, by omega, by omega⟩, by omega⟩
  have := hp.length_eq
  simpa using this
end Go.Proofs.Ytifkgmbghcmdeaa
/-
  A few polynomials (structs of one slice) handed on as a slice. No condition.
-/
namespace Go.Proofs.Ytifkgmbghcmdeaa
open Go Go.RowKit

/-- A slice of structs of one cell, each of which is a slice of rows. -/
def polsRo (fs : List (List (List Int))) : Ro where
  p w ok v := ∃ vs : List Value, RowAt w ok v vs ∧ vs.length = fs.length ∧ ∀ (i : Nat) u, vs[i]? = some u → IntssAt w ok u (fs.getD i [])
  up k h := by
    obtain ⟨vs, h1, h2, h3⟩ := h
    exact ⟨vs, h1.mono k, h2, fun i u hu => (h3 i u hu).mono k⟩
/-- A place of such a slice. -/
def polRo (f : List (List Int)) : Ro where
  p w ok v := ∃ b off u, v = .pointer (some ⟨b, off, none⟩) ∧ ok b ∧ w.cell? ⟨b, off, none⟩ = some u ∧ IntssAt w ok u f
  up k h := by
    obtain ⟨b, off, u, h1, h2, h3, h4⟩ := h
    have hlt := World.block_lt_of_cell? _ _ h3
    have hk := k b h2 hlt
    exact ⟨b, off, u, h1, hk.1, (World.cell?_of_block hk.2).trans h3, h4.mono k⟩

theorem run_load1 {P : Program} {t : TypeId} {zs : List Value} [ht : TStruct P t 1 zs] {a : Addr} {u : Value} {w : World} (hc : w.cell? a = some u) : (Instr.loadAt t (.pointer (some a))).run P w = .ok (.agg #[u]) w := by
  obtain ⟨dd, hu, hd⟩ := ht.und
  obtain ⟨ii, hi, hs, _⟩ := ht.info
  have h1 : (isAgg t).run P w = .ok true w := by
    unfold isAgg
    simp only [Sem.run_bind, run_underlying hu, Result.andThen_ok]
    cases dd <;> first | rfl | simp at hd
  have h2 : (loadCells a 1).run P w = .ok #[u] w := by
    have := run_loadCells_list (P := P) w a [u] (fun j v hv => by
      match j, hv with
      | 0, hv =>
        simp at hv; subst hv
        rw [Addr.add_zero']; exact hc)
    simpa using this
  simp only [Instr.loadAt, Instr.sureAddr, loadVar, Sem.run_bind, Sem.run_pure, Result.andThen_ok, h1, if_true, sizeOf, typeInfo, run_program]
  simp [hi, hs, h2]

section
variable {P : Program} {wl : Bool} {env : Env} {os : List AO} {d : Option Tmp} {ty : TypeId} {pos : String} {af : Array Edge} {g : Option (Nat × Bool)}

theorem ro_at {base : Nat} {w : World} {gs : List Gh} {tm : Array Value} (hr : Rel base w gs env os tm) {x : Operand} {r : Ro} (hx : AV.ev env x = .ro r) : r.p w (okOf gs os) (Act.eval ⟨tm, []⟩ x) := by
  have h := hr.ev x
  rw [hx] at h
  generalize Act.eval ⟨tm, []⟩ x = v at h
  cases h with
  | ro h1 => exact h1

theorem q_lenps {t e : TypeId} [ht : TSlice P t e] {x : Operand} {fs : List (List (List Int))} (hx : AV.ev env x = .ro (polsRo fs)) :
    QOp P wl ⟨d, .call { callee := .builtin .len, args := #[x], argTypes := #[t] }, ty, pos, af, g⟩ env os (.i fs.length) :=
  .of_run fun _ w gs tm hr => by
    obtain ⟨vs, ⟨a, cap, hv, _⟩, h2, _⟩ := ro_at hr hx
    rw [h2] at hv
    refine ⟨_, .val _, fun w' _ => ?_⟩
    simp [execOp, resolve, invoke, builtin, hv, Builtin.len_, run_underlying ht.und, goInt]

theorem q_idxps {t e : TypeId} {zs : List Value} [ht : TSlice P t e] [he : TStruct P e 1 zs] {x y : Operand} {fs : List (List (List Int))} {i : Int} (hx : AV.ev env x = .ro (polsRo fs)) (hy : AV.ev env y = .i i) (h0 : 0 ≤ i) (h1 : i < fs.length) :
    QOp P wl ⟨d, .indexAddr t x y, ty, pos, af, g⟩ env os (.ro (polRo (fs.getD i.toNat []))) :=
  .of_run fun _ w gs tm hr => by
    obtain ⟨vs, ⟨a, cap, hv, _, _, h4⟩, h2, h3⟩ := ro_at hr hx
    obtain ⟨b, off, rfl, hok, hc⟩ := h4 (by omega)
    obtain ⟨ie, hi, hs, _⟩ := he.info
    have hin : i.toNat < vs.length := by omega
    have hrun := fun w' => run_idx (P := P) ht.und hi hs ⟨b, off, none⟩ vs.length cap i h0 (by omega) w'
    have e3 : (⟨b, off, none⟩ : Addr).add i.toNat = ⟨b, off + i.toNat, none⟩ := add_none _ _ _
    refine ⟨.pointer (some ⟨b, off + i.toNat, none⟩), .ro ⟨b, off + i.toNat, vs[i.toNat], rfl, hok, hc _ _ (List.getElem?_eq_getElem hin), h3 _ _ (List.getElem?_eq_getElem hin)⟩, fun w' _ => ?_⟩
    simp only [execOp, hv, hr.evv hy, Sem.run_bind, hrun, Result.andThen_ok, Sem.run_pure, e3]

theorem q_ldps {t : TypeId} {zs : List Value} [ht : TStruct P t 1 zs] {x : Operand} {f : List (List Int)} (hx : AV.ev env x = .ro (polRo f)) :
    QOp P false ⟨d, .load t x, ty, pos, af, g⟩ env os (.agg [.intss f]) :=
  .of_runb fun _ w gs tm hr => by
    obtain ⟨b, off, u, hv, hok, hc, hf⟩ := ro_at hr hx
    have h1 : u.oneCell' = true := by obtain ⟨vs, ⟨a, cap, rfl, _⟩, _⟩ := hf; rfl
    refine ⟨.agg [u].toArray, .agg rfl (by simpa using h1) (rv_list rfl fun j hj => ?_), fun w' hw' => ?_⟩
    · match j, hj with
      | 0, _ => exact .intss hf
    · have hcell := below_cell hw' hc
      simp only [execOp, hv, Sem.run_bind, run_load1 (P := P) (t := t) hcell, Result.andThen_ok, Sem.run_pure]

variable {l rest : List Oper} {K : APost} {q : Md}
theorem w_lenps {d : Tmp} {t e : TypeId} [TSlice P t e] {x : Operand} {fs : List (List (List Int))} (hw : wantedA l env ⟨some d, .call { callee := .builtin .len, args := #[x], argTypes := #[t] }, ty, pos, af, g⟩ = some true) (hx : evo env x = some (.ro (polsRo fs)))
    (h' : AOps P q l rest K (env.up d (.i fs.length)) os) : AOps P q l (⟨some d, .call { callee := .builtin .len, args := #[x], argTypes := #[t] }, ty, pos, af, g⟩ :: rest) K env os := AOps.qo hw (q_lenps (ev_of hx)) h'
theorem w_idxps {d : Tmp} {t e : TypeId} {zs : List Value} [TSlice P t e] [TStruct P e 1 zs] {x y : Operand} {fs : List (List (List Int))} {i : Int} (hw : wantedA l env ⟨some d, .indexAddr t x y, ty, pos, af, g⟩ = some true) (hx : evo env x = some (.ro (polsRo fs))) (hy : evo env y = some (.i i)) (h0 : 0 ≤ i) (h1 : i < fs.length)
    (h' : AOps P q l rest K (env.up d (.ro (polRo (fs.getD i.toNat [])))) os) : AOps P q l (⟨some d, .indexAddr t x y, ty, pos, af, g⟩ :: rest) K env os := AOps.qo hw (q_idxps (ev_of hx) (ev_of hy) h0 h1) h'
theorem w_ldps {d : Tmp} {t : TypeId} {zs : List Value} [TStruct P t 1 zs] {x : Operand} {f : List (List Int)} (hw : wantedA l env ⟨some d, .load t x, ty, pos, af, g⟩ = some true) (hq : q.wl = false) (hx : evo env x = some (.ro (polRo f)))
    (h' : AOps P q l rest K (env.up d (.agg [.intss f])) os) : AOps P q l (⟨some d, .load t x, ty, pos, af, g⟩ :: rest) K env os := AOps.qo hw (by rw [hq]; exact q_ldps (ev_of hx)) h'
end
end Go.Proofs.Ytifkgmbghcmdeaa
/-
  Lists of polynomials (structs of one slice): their parts, own lists of polynomials; parts of own slices handed back. No condition.
-/
namespace Go.Proofs.Ytifkgmbghcmdeaa
open Go Go.RowKit
section
variable {P : Program} {wl : Bool} {env : Env} {os : List AO} {d : Option Tmp} {ty : TypeId} {pos : String} {af : Array Edge} {g : Option (Nat × Bool)}

theorem q_faps {t : TypeId} [ht : TField P t 0 0] {x : Operand} {f : List (List Int)} (hx : AV.ev env x = .ro (polRo f)) :
    QOp P wl ⟨d, .fieldAddr t x 0, ty, pos, af, g⟩ env os (.ro (polRo f)) :=
  .of_run fun _ w gs tm hr => by
    obtain ⟨b, off, u, hv, hok, hc, hf⟩ := ro_at hr hx
    refine ⟨.pointer (some ⟨b, off, none⟩), .ro ⟨b, off, u, rfl, hok, hc, hf⟩, fun w' _ => ?_⟩
    obtain ⟨fs, fd, ii, h1, h2, h3, h4, h5, _⟩ := ht.fld
    simp [execOp, hv, Instr.fieldAt, run_underlying h1, h2, Instr.sureAddr, fieldPlace, sizeOf, typeInfo, h4, h5, h3, add_none]
theorem q_ldpt {t : TypeId} [ht : TCell P t] {x : Operand} {f : List (List Int)} (hx : AV.ev env x = .ro (polRo f)) :
    QOp P false ⟨d, .load t x, ty, pos, af, g⟩ env os (.intss f) :=
  .of_runb fun _ w gs tm hr => by
    obtain ⟨b, off, u, hv, hok, hc, hf⟩ := ro_at hr hx
    refine ⟨u, .intss hf, fun w' hw' => ?_⟩
    have hcell := below_cell hw' hc
    simp only [execOp, hv, Sem.run_bind, run_load_cell hcell, Result.andThen_ok, Sem.run_pure]

/-- A new own slice of whatever cells. -/
theorem l_slrnew {o : Oper} {e : TypeId} {avs : List AV} (hl : avs.length ≤ maxLen)
    (hrun : ∀ base w gs tm, Rel base w gs env os tm → ∃ vs : List Value, vs.length = avs.length ∧ (∀ i : Nat, RV w (okOf gs os) gs (vs.getD i undef) (avs.getD i .any)) ∧
      (execOp (Act.eval ⟨tm, []⟩) o).run P w = .ok (.value (.slice (some ⟨w.heap.size, 0, none⟩) avs.length avs.length)) (w.alloc (.cells vs.toArray e))) :
    LOp P o env os (.own os.length) env (os ++ [.slr e avs]) := by
  intro base w gs tm hr
  obtain ⟨vs, h1, h2, h3⟩ := hrun base w gs tm hr
  have hbel := below_alloc w (.cells vs.toArray e)
  have hno : AO.slr e avs ≠ .dead → ∀ b, b ∈ [w.heap.size] → w.heap.size ≤ b ∧ b < (w.alloc (.cells vs.toArray e)).heap.size := fun _ b hb => by simp at hb; simp [hb]
  let gn : Gh := ⟨.slice (some ⟨w.heap.size, 0, none⟩) avs.length avs.length, w.heap.size, [w.heap.size], []⟩
  have kp := keeps_new (g := gn) (o := .slr e avs) hr.hl hbel hno
  have hgs : ∀ (i : Nat) g', gs[i]? = some g' → (gs ++ [gn])[i]? = some g' := fun i g' e => by
    rw [List.getElem?_append_left (List.getElem?_eq_some_iff.1 e).1]; exact e
  refine ⟨_, _, gs ++ [gn], .inl h3, hr.new hbel _ _ hno ?_, ?_, hbel.mono hr.hb⟩
  · refine ⟨vs, ⟨by simp, .inr ⟨w.heap.size, vs.length, vs.toArray, by rw [h1], hr.hb, heap_alloc_new w _, Nat.le_refl _, by omega, by simp, by simp⟩⟩, h1, fun i => (h2 i).mono kp hgs, .inr ⟨rfl, rfl⟩⟩
  · have := RV.own (w := w.alloc (.cells vs.toArray e)) (ok := okOf (gs ++ [gn]) (os ++ [.slr e avs])) (len_new (gs := gs) (g := gn))
    rw [hr.hl] at this
    exact this
theorem one_of {w : World} {ok : Nat → Prop} {gs : List Gh} {u : Value} {a : AV} (h : RV w ok gs u (.agg [a])) : ∃ s, u = .agg #[s] ∧ RV w ok gs s a ∧ s.oneCell' = true := by
  cases h with
  | @agg vs _ a1 a2 a3 =>
    match vs, a1 with
    | [s], _ => exact ⟨s, rfl, by simpa using a3 0, a2 s (by simp)⟩
theorem l_bspl1 {t e : TypeId} {zs : List Value} [ht : TSlice P t e] [he : TStruct P e 1 zs] {x : Operand} {a : AV} (hx : AV.ev env x = .agg [a]) :
    LOp P ⟨d, .buildSlice t 1 #[(0, x)], ty, pos, af, g⟩ env os (.own os.length) env (os ++ [.slr e [a]]) :=
  l_slrnew (by simp [maxLen]) fun base w gs tm hr => by
    have h1 := hr.ev x
    rw [hx] at h1
    obtain ⟨s1, e1, r1, o1⟩ := one_of h1
    obtain ⟨ii, hi, hs, hz, hl⟩ := he.info
    obtain ⟨z, rfl⟩ : ∃ z, zs = [z] := by
      match zs, hl with
      | [z], _ => exact ⟨z, rfl⟩
    refine ⟨[s1], rfl, rv_list rfl fun i hi => ?_, ?_⟩
    · match i, hi with
      | 0, _ => exact r1
    · simp [execOp, Instr.buildSlice, run_underlying ht.und, sizeOf, typeInfo, zeroValue, hi, hs, hz, Instr.fill, newRow, e1, Value.cells, ar1]
theorem l_bspl2 {t e : TypeId} {zs : List Value} [ht : TSlice P t e] [he : TStruct P e 1 zs] {x y : Operand} {a b : AV} (hx : AV.ev env x = .agg [a]) (hy : AV.ev env y = .agg [b]) :
    LOp P ⟨d, .buildSlice t 2 #[(0, x), (1, y)], ty, pos, af, g⟩ env os (.own os.length) env (os ++ [.slr e [a, b]]) :=
  l_slrnew (by simp [maxLen]) fun base w gs tm hr => by
    have h1 := hr.ev x
    have h2 := hr.ev y
    rw [hx] at h1
    rw [hy] at h2
    obtain ⟨s1, e1, r1, o1⟩ := one_of h1
    obtain ⟨s2, e2, r2, o2⟩ := one_of h2
    obtain ⟨ii, hi, hs, hz, hl⟩ := he.info
    obtain ⟨z, rfl⟩ : ∃ z, zs = [z] := by
      match zs, hl with
      | [z], _ => exact ⟨z, rfl⟩
    refine ⟨[s1, s2], rfl, rv_list rfl fun i hi => ?_, ?_⟩
    · match i, hi with
      | 0, _ => exact r1
      | 1, _ => exact r2
    · simp [execOp, Instr.buildSlice, run_underlying ht.und, sizeOf, typeInfo, zeroValue, hi, hs, hz, Instr.fill, newRow, e1, e2, Value.cells, ar2]
theorem ar3' : Array.range 3 = #[0, 1, 2] := by apply Array.ext'; simp [List.range_succ]
theorem l_bspl3 {t e : TypeId} {zs : List Value} [ht : TSlice P t e] [he : TStruct P e 1 zs] {x y z : Operand} {a b c : AV} (hx : AV.ev env x = .agg [a]) (hy : AV.ev env y = .agg [b]) (hz0 : AV.ev env z = .agg [c]) :
    LOp P ⟨d, .buildSlice t 3 #[(0, x), (1, y), (2, z)], ty, pos, af, g⟩ env os (.own os.length) env (os ++ [.slr e [a, b, c]]) :=
  l_slrnew (by simp [maxLen]) fun base w gs tm hr => by
    have h1 := hr.ev x
    have h2 := hr.ev y
    have h3 := hr.ev z
    rw [hx] at h1
    rw [hy] at h2
    rw [hz0] at h3
    obtain ⟨s1, e1, r1, o1⟩ := one_of h1
    obtain ⟨s2, e2, r2, o2⟩ := one_of h2
    obtain ⟨s3, e3, r3, o3⟩ := one_of h3
    obtain ⟨ii, hi, hs, hz, hl⟩ := he.info
    obtain ⟨z, rfl⟩ : ∃ z, zs = [z] := by
      match zs, hl with
      | [z], _ => exact ⟨z, rfl⟩
    refine ⟨[s1, s2, s3], rfl, rv_list rfl fun i hi => ?_, ?_⟩
    · match i, hi with
      | 0, _ => exact r1
      | 1, _ => exact r2
      | 2, _ => exact r3
    · simp [execOp, Instr.buildSlice, run_underlying ht.und, sizeOf, typeInfo, zeroValue, hi, hs, hz, Instr.fill, newRow, e1, e2, e3, Value.cells, ar3']
/-- One polynomial is appended. -/
theorem src_one {y : Operand} {q : Nat} {e : TypeId} {a : AV} (hy : AV.ev env y = .own q) (hs : os[q]? = some (.slr e [a])) (ho : OneC env os a) : Src env os y [a] := by
  intro base w gs tm hr
  have hyv := hr.ev y
  rw [hy] at hyv
  generalize hv : Act.eval ⟨tm, []⟩ y = v at hyv
  cases hyv with
  | @own _ gh hg =>
    obtain ⟨vs, a1, a2, a3, a4⟩ := hr.ho _ _ _ hg hs
    match vs, a2 with
    | [u], _ =>
      have hu := a3 0
      simp only [List.getD_cons_zero] at hu
      obtain ⟨b, cap, e1, e2, e3, _⟩ := own_slice a1 (i := 0) (by simp)
      refine ⟨some ⟨b, 0, none⟩, cap, [u], e1, rfl, fun _ => ⟨⟨b, 0, none⟩, rfl, fun j u' hj => ?_⟩, fun u' hu' => ?_, a3⟩
      · have hj0 : j = 0 := by have := (List.getElem?_eq_some_iff.1 hj).1; simp at this; exact this
        subst hj0
        rw [add_none]
        rw [e3]; exact hj
      · simp at hu'; subst hu'
        exact (ho base w gs tm hr _ hu).1

/-! ### Read as a list of polynomials -/
/-- The element 'a' reads as the polynomial 'f'; the handles behind it. -/
inductive PlE (os : List AO) : AV → List (List Int) → List Nat → Prop
  | intss (f : List (List Int)) : PlE os (.intss f) f []
  | nil : PlE os (.val (.slice none 0 0)) [] []
  | sls {h : Nat} {e e2 : TypeId} {f : List (List Int)} : os[h]? = some (.sls e e2 f) → PlE os (.own h) f [h]
theorem PlE.at {base : Nat} {w : World} {gs : List Gh} {ok : Nat → Prop} {a : AV} {f : List (List Int)} {hs : List Nat} (he : PlE os a f hs) (hro : ∀ (h : Nat) g o, gs[h]? = some g → os[h]? = some o → RO base w (okOf gs os) gs g o)
    (hok : ∀ h, h ∈ hs → ∀ g o, gs[h]? = some g → os[h]? = some o → o ≠ .dead → ∀ b, b ∈ g.bl → ok b) (kp : Keeps (okOf gs os) ok w w) {u : Value} (hu : RV w (okOf gs os) gs u a) : IntssAt w ok u f := by
  cases he with
  | intss => cases hu with | intss h => exact h.mono kp
  | nil => cases hu; exact IntssAt.nil
  | @sls h e e2 _ h1 =>
    cases hu with
    | own hg =>
      obtain ⟨vs, bs, mb, a1, a2, a3, a4, a5, a6, a7, a8⟩ := hro _ _ _ hg h1
      have hb := hok h (by simp) _ _ hg h1 (by simp)
      refine ⟨vs, RowAt.of_owns' a1 fun b hbb => hb b ?_, a2, fun i u hu => ⟨RowAt.of_owns' (a5 i u hu).1 fun b hbb => hb b ?_, (a5 i u hu).2.1⟩⟩
      · rw [a7]
        rcases a6 with ⟨h6, _⟩ | ⟨h6, h6'⟩
        · rw [h6] at hbb; cases hbb
        · rw [h6] at hbb; cases hbb; simp [h6']
      · have hi := (List.getElem?_eq_some_iff.1 hu).1
        rw [a7]
        refine List.mem_append.2 (.inr (List.mem_flatten.2 ⟨bs.getD i [], ?_, by rw [← (a5 i u hu).2.2, hbb]; simp⟩))
        rw [List.getD_eq_getElem?_getD, List.getElem?_eq_getElem (by omega)]
        simp
def PlL (os : List AO) : List AV → List (List (List Int)) → List Nat → Prop
  | [], [], hs => hs = []
  | a :: avs, f :: fs, hs => ∃ h1 h2, PlE os a f h1 ∧ PlL os avs fs h2 ∧ hs = h1 ++ h2
  | _, _, _ => False
theorem pll_nil : PlL os [] [] [] := rfl
theorem pll_cons {a : AV} {avs : List AV} {f : List (List Int)} {fs : List (List (List Int))} {h1 hs : List Nat} (p1 : PlE os a f h1) (p2 : PlL os avs fs hs) : PlL os (a :: avs) (f :: fs) (h1 ++ hs) := ⟨h1, hs, p1, p2, rfl⟩
theorem PlL.get : ∀ {avs : List AV} {fs : List (List (List Int))} {hs : List Nat}, PlL os avs fs hs → avs.length = fs.length ∧ ∀ (i : Nat) a, avs[i]? = some a → ∃ h1, PlE os a (fs.getD i []) h1 ∧ ∀ h, h ∈ h1 → h ∈ hs
  | [], [], hs, _ => ⟨rfl, fun i a h => by simp at h⟩
  | a :: avs, f :: fs, hs, ⟨h1, h2, p1, p2, e⟩ => by
    have ih := PlL.get p2
    refine ⟨by simp [ih.1], fun i x hx => ?_⟩
    match i with
    | 0 =>
      simp at hx; subst hx
      exact ⟨h1, by simpa using p1, fun h hh => by rw [e]; simp [hh]⟩
    | i + 1 =>
      obtain ⟨h3, q1, q2⟩ := ih.2 i x (by simpa using hx)
      exact ⟨h3, by simpa using q1, fun h hh => by rw [e]; simp [q2 h hh]⟩
  | [], _ :: _, _, h => h.elim
  | _ :: _, [], _, h => h.elim
theorem reads_pll {m : Nat} {e : TypeId} {avs : List AV} {fs : List (List (List Int))} {hs : List Nat} (hm : os[m]? = some (.slr e avs)) (hl : PlL os avs fs hs) : Reads os (m :: hs) (.own m) (polsRo fs) := by
  intro base w gs ok hro hok kp v hv
  cases hv with
  | @own _ gm hg =>
    obtain ⟨vs, a1, a2, a3, a4⟩ := hro _ _ _ hg hm
    have hb := hok m (by simp) _ _ hg hm (by simp)
    have hg2 := hl.get
    refine ⟨vs, RowAt.of_owns' a1 fun b hbb => hb b (a4.mem hbb), by rw [a2]; exact hg2.1, fun i u hu => ?_⟩
    have hi := (List.getElem?_eq_some_iff.1 hu).1
    have h3 := a3 i
    rw [List.getD_eq_getElem?_getD, hu, List.getD_eq_getElem?_getD, List.getElem?_eq_getElem (show i < avs.length by omega)] at h3
    obtain ⟨h1, q1, q2⟩ := hg2.2 i avs[i] (List.getElem?_eq_getElem (by omega))
    exact q1.at hro (fun h hh => hok h (List.mem_cons_of_mem _ (q2 h hh))) kp h3

/-! ### Parts of own slices -/
theorem Ret1.osub {h off len : Nat} {e : TypeId} {xs : List Int} (hs : os[h]? = some (.sli e xs)) : Ret1 os (.osub h off len) (.osub 0 off len) [.sli e xs] := fun base w gs env tm hr u hu => by
  cases hu with
  | osub hg hp hc hm =>
    exact ⟨[_], .one (hr.ho _ _ _ hg hs) fun b hb => hr.hn _ _ _ hg hs (by simp) b hb, .osub rfl hp hc hm⟩
theorem q_slice3 {t e : TypeId} [ht : TSlice P t e] [he : TCell P e] {x y z : Operand} {h : Nat} {e' : TypeId} {xs : List Int} {n : Int} (hx : AV.ev env x = .own h) (hs : os[h]? = some (.sli e' xs)) (hy : AV.ev env y = .i n) (hz : AV.ev env z = .i n) (h0 : 0 ≤ n) (h1 : n ≤ xs.length) :
    QOp P wl ⟨d, .slice t x none (some y) (some z), ty, pos, af, g⟩ env os (.osub h 0 n.toNat) :=
  .of_run fun _ w gs tm hr => by
    have hh := hr.ev x
    rw [hx] at hh
    generalize hv : Act.eval ⟨tm, []⟩ x = v at hh
    cases hh with
    | @own _ gh hg =>
      obtain ⟨a1, a2, a3⟩ := hr.ho _ _ _ hg hs
      obtain ⟨a, cap, ev, hc, hm, ha⟩ := sliced_own a1 a3
      have e1 := elem_of (P := P) ht.und
      refine ⟨sliced a 0 n.toNat n.toNat 1, ?_, fun w' _ => ?_⟩
      · refine RV.osub hg (fun hp => ?_) (by omega) (by omega)
        rw [if_neg (by omega), ha (by omega)]
        simp [add_none]
      · have hrun := run_slice_hm (P := P) w' t a xs.length cap (by rw [e1]; exact ht.und) .i64 .i64 n n h0 (Int.le_refl _) (by omega)
        rw [e1, run_size] at hrun
        have hat := run_sliceAt_slice (P := P) w' t (.slice a xs.length cap) none (some (.int .i64 n)) (some (.int .i64 n)) (by rw [e1]; exact ht.und)
        simp only [execOp, hv, ev, hr.evv hy, hr.evv hz, Option.map_none, Option.map_some, Sem.run_bind, hat, hrun, Result.andThen_ok, Sem.run_pure]

end
section
variable {P : Program} {env : Env} {os : List AO} {d : Tmp} {ty : TypeId} {pos : String} {af : Array Edge} {g : Option (Nat × Bool)} {l rest : List Oper} {K : APost} {q : Md}
theorem w_faps {t : TypeId} [TField P t 0 0] {x : Operand} {f : List (List Int)} (hw : wantedA l env ⟨some d, .fieldAddr t x 0, ty, pos, af, g⟩ = some true) (hx : evo env x = some (.ro (polRo f)))
    (h' : AOps P q l rest K (env.up d (.ro (polRo f))) os) : AOps P q l (⟨some d, .fieldAddr t x 0, ty, pos, af, g⟩ :: rest) K env os := AOps.qo hw (q_faps (ev_of hx)) h'
theorem w_ldpt {t : TypeId} [TCell P t] {x : Operand} {f : List (List Int)} (hw : wantedA l env ⟨some d, .load t x, ty, pos, af, g⟩ = some true) (hq : q.wl = false) (hx : evo env x = some (.ro (polRo f)))
    (h' : AOps P q l rest K (env.up d (.intss f)) os) : AOps P q l (⟨some d, .load t x, ty, pos, af, g⟩ :: rest) K env os := AOps.qo hw (by rw [hq]; exact q_ldpt (ev_of hx)) h'
theorem w_slice3 {t e : TypeId} [TSlice P t e] [TCell P e] {x y z : Operand} {h : Nat} {e' : TypeId} {xs : List Int} {n : Int} (hw : wantedA l env ⟨some d, .slice t x none (some y) (some z), ty, pos, af, g⟩ = some true) (hx : evo env x = some (.own h)) (hs : os[h]? = some (.sli e' xs)) (hy : evo env y = some (.i n)) (hz : evo env z = some (.i n)) (h0 : 0 ≤ n) (h1 : n ≤ xs.length)
    (h' : AOps P q l rest K (env.up d (.osub h 0 n.toNat)) os) : AOps P q l (⟨some d, .slice t x none (some y) (some z), ty, pos, af, g⟩ :: rest) K env os := AOps.qo hw (q_slice3 (ev_of hx) hs (ev_of hy) (ev_of hz) h0 h1) h'
theorem w_bspl1 {t e : TypeId} {zs : List Value} [TSlice P t e] [TStruct P e 1 zs] {x : Operand} {a : AV} {m : Nat} (hx : evo env x = some (.agg [a])) (hm : os.length = m)
    (h' : AOps P .seq l rest K (env.up d (.own m)) (os ++ [.slr e [a]])) : AOps P .seq l (⟨some d, .buildSlice t 1 #[(0, x)], ty, pos, af, none⟩ :: rest) K env os := by
  subst hm; exact AOps.lo (l_bspl1 (ev_of hx)) h'
theorem w_bspl2 {t e : TypeId} {zs : List Value} [TSlice P t e] [TStruct P e 1 zs] {x y : Operand} {a b : AV} {m : Nat} (hx : evo env x = some (.agg [a])) (hy : evo env y = some (.agg [b])) (hm : os.length = m)
    (h' : AOps P .seq l rest K (env.up d (.own m)) (os ++ [.slr e [a, b]])) : AOps P .seq l (⟨some d, .buildSlice t 2 #[(0, x), (1, y)], ty, pos, af, none⟩ :: rest) K env os := by
  subst hm; exact AOps.lo (l_bspl2 (ev_of hx) (ev_of hy)) h'
theorem w_bspl3 {t e : TypeId} {zs : List Value} [TSlice P t e] [TStruct P e 1 zs] {x y z : Operand} {a b c : AV} {m : Nat} (hx : evo env x = some (.agg [a])) (hy : evo env y = some (.agg [b])) (hz : evo env z = some (.agg [c])) (hm : os.length = m)
    (h' : AOps P .seq l rest K (env.up d (.own m)) (os ++ [.slr e [a, b, c]])) : AOps P .seq l (⟨some d, .buildSlice t 3 #[(0, x), (1, y), (2, z)], ty, pos, af, none⟩ :: rest) K env os := by
  subst hm; exact AOps.lo (l_bspl3 (ev_of hx) (ev_of hy) (ev_of hz)) h'
theorem w_apppl {t e : TypeId} {bytes : Nat} {z : Value} [TSlice P t e] [TElem P e (.agg #[z]) bytes] {x y : Operand} {p h : Nat} {e' e1 : TypeId} {avs : List AV} {a : AV}
    (hx : evo env x = some (.own p)) (hs : os[p]? = some (.slr e' avs)) (hee : e' = e) (hy : evo env y = some (.own h)) (hh : os[h]? = some (.slr e1 [a])) (hone : OneC env os a) (hb : (avs.length + 1) * bytes ≤ 140737488355328) (hk : avs.map (AV.kill p) = avs) (hk2 : [a].map (AV.kill p) = [a]) (hzc : (Value.agg #[z]).cells.size = 1)
    (h' : AOps P .seq l rest K (Env.up (env.mp (AV.kill p)) d (.own p)) ((os.map (AO.kill p)).set p (.slr e (avs ++ [a])))) :
    AOps P .seq l (⟨some d, .call { callee := .builtin .append, args := #[x, y], argTypes := #[t, t] }, ty, pos, af, none⟩ :: rest) K env os := AOps.lo (l_append_src (ev_of hx) hs hee (src_one (ev_of hy) hh hone) hb hk hk2 hzc) h'
end
end Go.Proofs.Ytifkgmbghcmdeaa
/-
  Local algebras: how the reference reduces a row; places. No condition but bounds.
-/
namespace Go.Proofs.Ytifkgmbghcmdeaa
open Go Go.RowKit
attribute [local irreducible] AWp AOps ResIs Ret1 QOp LOp COp AFnV AFn Imms LeE LeO
set_option maxHeartbeats 1000000
set_option linter.unusedSimpArgs false
set_option linter.unusedVariables false

theorem l17Inverse_c (z : Int) (hz : 0 ≤ z ∧ z ≤ 55440) : AFnV Try.prog 93 [.i z] (.int .i64 (pwF z 55439)) := by
  (refine AFnV.start Try.func93 Try.ntmps93 rfl (by kernel_rfl) fun hk => ?_; simp only [Env.start, enumF, List.length_cons, List.length_nil, Nat.reduceAdd, Nat.reduceSub, List.cons_append, List.nil_append])
  repeat' (first | (apply AOps.nil; try simp only [List.nil_append, List.cons_append, List.set_cons_zero, List.set_cons_succ, List.length_cons, List.length_nil, Nat.reduceAdd, AV.sh, AV.sh1, AV.sh0, AO.sh, List.map_cons, List.map_nil, Nat.zero_add, Nat.add_zero, setAll]) | (apply w_assign; exact rfl; exact rfl) | apply AWp.seq | apply AWp.region | apply AWp.block)
  refine AWp.loop (ι := Int × Int × Int) (fun s => ⟨21, [(0, .i s.1), (4, .i s.2.1), (3, .i s.2.2)]⟩) (fun _ => []) (fun s => (0 ≤ s.1 ∧ s.1 ≤ 55440) ∧ (0 ≤ s.2.1 ∧ s.2.1 ≤ 4611686018427387904) ∧ (0 ≤ s.2.2 ∧ s.2.2 ≤ 55440) ∧ s.2.2 * s.1 ^ s.2.1.toNat % 55441 = pwF z 55439) (fun s => s.2.1.toNat) (z, 55439, 1) ⟨hz, by simp, by simp, by unfold pwF; dsimp only; rw [Int.one_mul]⟩ ⟨lee rfl (by (repeat (first | exact le_nil | refine le_eq rfl rfl ?_))), by (repeat (exact lo_nil)), rfl, rfl⟩ ?_
  rintro ⟨x, k, o⟩ ⟨h0, h1, h2, h3⟩
  simp only at h0 h1 h2 h3
  have b1 := mulB h2.1 h2.2 h0.1 h0.2
  have b2 := mulB h0.1 h0.2 h0.1 h0.2
  have b3 := modF (o * x)
  have b4 := modF (x * x)
  repeat' (first | (apply AOps.nil; try simp only [List.nil_append, List.cons_append, List.set_cons_zero, List.set_cons_succ, List.length_cons, List.length_nil, Nat.reduceAdd, AV.sh, AV.sh1, AV.sh0, AO.sh, List.map_cons, List.map_nil, Nat.zero_add, Nat.add_zero, setAll]) | (apply w_move; exact rfl; exact rfl) | (apply w_assign; exact rfl; exact rfl) | apply AWp.seq | apply AWp.region | ((apply AWp.condP; exact rfl) <;> intro h) | apply AWp.block | apply AWp.ret | apply AWp.exit | apply AWp.skip | ((first | apply w_gtr | apply w_eql | apply w_mul); iterate 3 exact rfl) | (apply w_rem; exact rfl; exact rfl; exact rfl; (focus (omega; done)); (focus (omega; done))) | (apply w_quo; exact rfl; exact rfl; exact rfl; (focus (omega; done)); (focus (omega; done))) | (apply inI_of <;> omega))
  · exact ⟨(x * x % 55441, k / 2, o * x % 55441), ⟨b4, by simp only; omega, b3, by simp only; rw [pw_odd (by omega) (by omega), h3]⟩, by simp only; omega, ⟨lee rfl (by (repeat (first | exact le_nil | refine le_eq rfl rfl ?_))), by (repeat (exact lo_nil)), rfl, rfl⟩⟩
  · exact ⟨(x * x % 55441, k / 2, o), ⟨b4, by simp only; omega, h2, by simp only; rw [pw_even (by omega) (by omega), h3]⟩, by simp only; omega, ⟨lee rfl (by (repeat (first | exact le_nil | refine le_eq rfl rfl ?_))), by (repeat (exact lo_nil)), rfl, rfl⟩⟩
  · have e : k = 0 := by omega
    subst e
    exact .int Try.results93 rfl (by rw [← h3]; simp; omega)

/-- The place of a monomial. -/
def plI (x y : Int) : Int := ((plN x.toNat y.toNat : Nat) : Int)
theorem plI_eq {x y : Int} (hx : 0 ≤ x ∧ x ≤ 1000) (hy : 0 ≤ y ∧ y ≤ 1000) : (x + y) * (x + y + 1) = 2 * (triN (x + y).toNat : Int) ∧ plI x y = (triN (x + y).toNat : Int) + x ∧ (triN (x + y).toNat : Int) ≤ 2001000 := by
  have h := triN_int (x + y) (by omega)
  refine ⟨h, ?_, ?_⟩
  · unfold plI plN
    rw [show x.toNat + y.toNat = (x + y).toNat by omega]
    omega
  · have h1 := triN_mono (show (x + y).toNat ≤ 2000 by omega)
    have h2 := triN_two 2000
    omega
theorem column_c (x y : Int) (hx : 0 ≤ x ∧ x ≤ 1000) (hy : 0 ≤ y ∧ y ≤ 1000) : AFnV Try.prog 107 [.i x, .i y] (.int .i64 (plI x y)) := by
  obtain ⟨h1, h2, h3⟩ := plI_eq hx hy
  (refine AFnV.start Try.func107 Try.ntmps107 rfl (by kernel_rfl) fun hk => ?_; simp only [Env.start, enumF, List.length_cons, List.length_nil, Nat.reduceAdd, Nat.reduceSub, List.cons_append, List.nil_append])
  repeat' (first | (apply AOps.nil; try simp only [List.nil_append, List.cons_append, List.set_cons_zero, List.set_cons_succ, List.length_cons, List.length_nil, Nat.reduceAdd, AV.sh, AV.sh1, AV.sh0, AO.sh, List.map_cons, List.map_nil, Nat.zero_add, Nat.add_zero, setAll]) | (apply w_move; exact rfl; exact rfl) | (apply w_assign; exact rfl; exact rfl) | apply AWp.seq | apply AWp.region | apply AWp.ret | ((first | apply w_add | apply w_mul); iterate 3 exact rfl) | (apply w_quo; exact rfl; exact rfl; exact rfl; (focus (omega; done)); (focus (omega; done))) | (apply inI_of <;> omega))
  all_goals exact .int Try.results107 rfl (by omega)
theorem l17Place_c (x y : Int) (hx : 0 ≤ x ∧ x ≤ 1000) (hy : 0 ≤ y ∧ y ≤ 1000) : AFnV Try.prog 105 [.i x, .i y] (.int .i64 (plI x y)) := by
  obtain ⟨h1, h2, h3⟩ := plI_eq hx hy
  (refine AFnV.start Try.func105 Try.ntmps105 rfl (by kernel_rfl) fun hk => ?_; simp only [Env.start, enumF, List.length_cons, List.length_nil, Nat.reduceAdd, Nat.reduceSub, List.cons_append, List.nil_append])
  repeat' (first | (apply AOps.nil; try simp only [List.nil_append, List.cons_append, List.set_cons_zero, List.set_cons_succ, List.length_cons, List.length_nil, Nat.reduceAdd, AV.sh, AV.sh1, AV.sh0, AO.sh, List.map_cons, List.map_nil, Nat.zero_add, Nat.add_zero, setAll]) | (apply w_move; exact rfl; exact rfl) | (apply w_assign; exact rfl; exact rfl) | apply AWp.seq | apply AWp.region | apply AWp.ret | ((first | apply w_add | apply w_mul); iterate 3 exact rfl) | (apply w_quo; exact rfl; exact rfl; exact rfl; (focus (omega; done)); (focus (omega; done))) | (apply inI_of <;> omega))
  all_goals exact .int Try.results105 rfl (by omega)

set_option maxHeartbeats 8000000 in
theorem l17Reduce_c (m : Nat) (L : Rws) (hL : RwOk m L) (hn : L.length ≤ 10000) (row : List Int) (hl : row.length = m) (hm : 1 ≤ m ∧ m ≤ 10000) (hr : inF row) :
    AFnC Try.prog 106 [.own 0, .own 1, .own 2] [.sls 22 2 (rowsOf L), .sli 2 (valsOf L), .sli 2 row]
      (fun r os => r = .tup [.own 0, .own 1] ∧ os = [.sls 22 2 (rowsOf (addR L row)), .sli 2 (valsOf (addR L row))]) := by
  have hvl := valsOf_len L
  have hrwl := rowsOf_len L
  (refine AFnC.start Try.func106 Try.ntmps106 rfl (by kernel_rfl) fun K => ?_; simp only [Env.start, enumF, List.map_cons, List.map_nil, AV.sh, List.length_cons, List.length_nil, Nat.reduceAdd, Nat.reduceSub, List.cons_append, List.nil_append])
  repeat' (first | (apply AOps.nil; try simp only [List.nil_append, List.cons_append, List.set_cons_zero, List.set_cons_succ, List.length_cons, List.length_nil, Nat.reduceAdd, AV.sh, AV.sh1, AV.sh0, AO.sh, List.map_cons, List.map_nil, Nat.zero_add, Nat.add_zero, setAll]) | (apply w_assign; exact rfl; exact rfl) | apply AWp.seq | apply AWp.region | apply AWp.block)
  refine AWp.loop (ι := Nat × List Int) (fun x => ⟨94, [(0, .own 1), (1, .own 2), (2, .own 3), (8, .i x.1)]⟩) (fun x => [.keep 1 K, .sls 22 2 (rowsOf L), .sli 2 (valsOf L), .sli 2 x.2])
    (fun x => x.1 ≤ m ∧ RdI m x.1 x.2 ∧ redR L (m - x.1) x.2 x.1 = redR L m row 0) (fun x => m - x.1) (0, row) ⟨Nat.zero_le _, ⟨hl, hr, fun k hk => by omega⟩, rfl⟩ ⟨lee rfl (by (repeat (first | exact le_nil | refine le_eq rfl rfl ?_))), by (repeat (first | exact lo_nil | refine lo_eq rfl ?_)), rfl, rfl⟩ ?_
  rintro ⟨p, r⟩ ⟨hp, hI, hred⟩
  dsimp only at hp hI hred
  have hrl := hI.len
  have hin := hI.inf p
  have hix := l01Index_e L (p : Nat) (by omega)
  by_cases hpm : p < m
  · have em : m - p = (m - (p + 1)) + 1 := by omega
    rw [em, redR] at hred
    have et : (((p : Nat) : Int).toNat : Int) = (p : Int) := by omega
    by_cases hz : geti r (p : Nat) = 0
    · rw [if_pos hz] at hred
      have hz' : geti r (((p : Nat) : Int).toNat : Nat) = 0 := by rw [et]; exact hz
      repeat' (first | (apply AOps.nil; try simp only [List.nil_append, List.cons_append, List.set_cons_zero, List.set_cons_succ, List.length_cons, List.length_nil, Nat.reduceAdd, AV.sh, AV.sh1, AV.sh0, AO.sh, List.map_cons, List.map_nil, Nat.zero_add, Nat.add_zero, setAll]) | (apply w_move; exact rfl; exact rfl) | (apply w_assign; exact rfl; exact rfl) | apply AWp.seq | apply AWp.region | ((apply AWp.condP; exact rfl) <;> intro h) | apply AWp.block | apply AWp.ret | apply AWp.exit | apply AWp.skip | (apply w_len; exact rfl; exact rfl; first | exact .ints _ | exact .intss _ | exact .sli rfl | exact .sls rfl | exact .slr rfl | exact .orow rfl | exact .nil) | omega | ((first | apply w_lss | apply w_eql | apply w_add | apply w_idx | apply w_ld); iterate 3 exact rfl) | (apply w_idxo; exact rfl; exact rfl; (exact .sli rfl); exact rfl) | (apply w_ldo; iterate 4 exact rfl) | (apply inI_of <;> omega))
      exact ⟨(p + 1, r), ⟨by dsimp only; omega, hI.next hz, hred⟩, by dsimp only; omega, ⟨lee rfl (by (repeat (first | exact le_nil | refine le_eq rfl rfl ?_))), by (repeat (first | exact lo_nil | refine lo_eq rfl ?_)), rfl, rfl⟩⟩
    · rw [if_neg hz] at hred
      have hz' : ¬ geti r (((p : Nat) : Int).toNat : Nat) = 0 := by rw [et]; exact hz
      unfold idxI at hix
      cases hf : fndR L (p : Nat) with
      | none =>
        rw [hf] at hred hix
        dsimp only at hix
        have hinv := l17Inverse_c (geti r (((p : Nat) : Int).toNat : Nat)) (by rw [et]; exact hin)
        rw [show pwF (geti r (((p : Nat) : Int).toNat : Nat)) 55439 = pwF (geti r (p : Nat)) 55439 by rw [et]] at hinv
        have hsb := pwF_in (geti r (p : Nat)) 55439
        generalize hs : pwF (geti r (p : Nat)) 55439 = s at hinv hred hsb
        repeat' (first | (apply AOps.nil; try simp only [List.nil_append, List.cons_append, List.set_cons_zero, List.set_cons_succ, List.length_cons, List.length_nil, Nat.reduceAdd, AV.sh, AV.sh1, AV.sh0, AO.sh, List.map_cons, List.map_nil, Nat.zero_add, Nat.add_zero, setAll]) | (apply w_move; exact rfl; exact rfl) | (apply w_assign; exact rfl; exact rfl) | apply AWp.seq | apply AWp.region | ((apply AWp.condP; exact rfl) <;> intro h) | apply AWp.block | apply AWp.ret | apply AWp.exit | apply AWp.skip | (apply w_len; exact rfl; exact rfl; first | exact .ints _ | exact .intss _ | exact .sli rfl | exact .sls rfl | exact .slr rfl | exact .orow rfl | exact .nil) | (apply w_call (hix); exact rfl; exact rfl; focus ((repeat (first | exact im_nil | refine im_cons rfl (.val _) ?_ | refine im_cons rfl (.sli rfl) ?_)); done)) | (apply w_call (hinv); exact rfl; exact rfl; focus ((repeat (first | exact im_nil | refine im_cons rfl (.val _) ?_)); done)) | omega | ((first | apply w_lss | apply w_eql | apply w_idx | apply w_ld); iterate 3 exact rfl) | (apply w_idxo; exact rfl; exact rfl; (exact .sli rfl); exact rfl) | (apply w_ldo; iterate 4 exact rfl))
        refine AWp.loop (ι := Nat) (fun k => ⟨94, [(0, .own 1), (1, .own 2), (2, .own 3), (8, .i p), (10, .i s), (11, .i k)]⟩) (fun k => [.keep 1 K, .sls 22 2 (rowsOf L), .sli 2 (valsOf L), .sli 2 (updR r (sclG r s) p k)])
          (fun k => p ≤ k ∧ k ≤ m) (fun k => m - k) p ⟨Nat.le_refl _, by omega⟩ ?_ ?_
        · have e0 := (updR_none r (sclG r s) (Nat.le_refl p)).symm
          exact ⟨lee rfl (by (repeat (first | exact le_nil | refine le_eq rfl rfl ?_))), by (repeat (first | exact lo_nil | refine lo_eq rfl ?_ | refine lo_eq (congrArg (AO.sli _) (e0)) ?_)), rfl, rfl⟩
        rintro k ⟨k1', k1⟩
        have ul := updR_len r (sclG r s) p k
        by_cases hk : k < m
        · have ek : (((k : Nat) : Int).toNat : Int) = (k : Int) := by omega
          have ek2 : ((k : Nat) : Int).toNat = k := by omega
          have e1 : geti (updR r (sclG r s) p k) (((k : Nat) : Int).toNat : Nat) = geti r (k : Nat) := by rw [ek, geti_upd (by omega), if_neg (by omega)]
          have b1 := hI.inf k
          have b2 := mulP b1.1 b1.2 hsb.1 hsb.2
          rw [← e1] at b2
          have b3 := modP (geti (updR r (sclG r s) p k) (((k : Nat) : Int).toNat : Nat) * s)
          have e6 : (updR r (sclG r s) p k).set ((k : Nat) : Int).toNat (geti (updR r (sclG r s) p k) (((k : Nat) : Int).toNat : Nat) * s % 55441) = updR r (sclG r s) p (k + 1) := by
            rw [e1, ek2]; exact updR_set k1' (by omega) rfl
          repeat' (first | (apply AOps.nil; try simp only [List.nil_append, List.cons_append, List.set_cons_zero, List.set_cons_succ, List.length_cons, List.length_nil, Nat.reduceAdd, AV.sh, AV.sh1, AV.sh0, AO.sh, List.map_cons, List.map_nil, Nat.zero_add, Nat.add_zero, setAll]) | (apply w_move; exact rfl; exact rfl) | (apply w_assign; exact rfl; exact rfl) | apply AWp.seq | apply AWp.region | ((apply AWp.condP; exact rfl) <;> intro h) | apply AWp.block | apply AWp.exit | apply AWp.skip | (apply w_len; exact rfl; exact rfl; first | exact .ints _ | exact .intss _ | exact .sli rfl | exact .sls rfl | exact .slr rfl | exact .orow rfl | exact .nil) | omega | ((first | apply w_lss | apply w_add | apply w_mul | apply w_idx | apply w_ld); iterate 3 exact rfl) | (apply w_rem; exact rfl; exact rfl; exact rfl; (focus (omega; done)); (focus (omega; done))) | (apply w_idxo; exact rfl; exact rfl; (exact .sli rfl); exact rfl) | (apply w_ldo; iterate 4 exact rfl) | (apply w_sti; exact rfl; exact rfl; rotate_left 1; exact rfl; rotate_left 2) | (apply inI_of <;> omega))
          exact ⟨k + 1, ⟨by omega, by omega⟩, by omega, ⟨lee rfl (by (repeat (first | exact le_nil | refine le_eq rfl rfl ?_))), by (repeat (first | exact lo_nil | refine lo_eq rfl ?_ | refine lo_eq (congrArg (AO.sli _) (e6)) ?_)), rfl, rfl⟩⟩
        · have ek : k = m := by omega
          subst ek
          repeat' (first | (apply AOps.nil; try simp only [List.nil_append, List.cons_append, List.set_cons_zero, List.set_cons_succ, List.length_cons, List.length_nil, Nat.reduceAdd, AV.sh, AV.sh1, AV.sh0, AO.sh, List.map_cons, List.map_nil, Nat.zero_add, Nat.add_zero, setAll]) | (apply w_move; exact rfl; exact rfl) | (apply w_assign; exact rfl; exact rfl) | apply AWp.seq | apply AWp.region | ((apply AWp.condP; exact rfl) <;> intro h) | apply AWp.block | apply AWp.ret | apply AWp.exit | apply AWp.skip | (apply w_len; exact rfl; exact rfl; first | exact .ints _ | exact .intss _ | exact .sli rfl | exact .sls rfl | exact .slr rfl | exact .orow rfl | exact .nil) | ((first | apply w_bsr1 | apply w_lss | apply w_idx); iterate 3 exact rfl) | (apply w_appr; exact rfl; exact rfl; exact rfl; exact rfl; exact rfl; exact rfl; exact rfl; rotate_left 1; simp only [Env.mp, List.map_cons, List.map_nil, List.set_cons_zero, List.set_cons_succ, AV.kill, AV.kill1, AO.kill, AV.rin, AV.rin1, AV.noRow, AV.noRow1, AO.via, reduceIte, Nat.reduceEqDiff, Nat.reduceLT, Env.up, Nat.zero_ne_one, Nat.one_ne_zero, Nat.reduceAdd, List.cons_append, List.nil_append]; rotate_left 1) | omega | ((apply w_bs1); iterate 2 exact rfl) | (apply w_app; exact rfl; exact rfl; exact rfl; exact rfl; (exact .sli rfl); rotate_left 1; simp only [Env.mp, List.map_cons, List.map_nil, List.set_cons_zero, List.set_cons_succ, AV.kill, AV.kill1, AO.kill, AV.noRow, AV.noRow1, AO.via, reduceIte, Nat.reduceEqDiff, Nat.reduceLT, Env.up, Nat.zero_ne_one, Nat.one_ne_zero, Nat.reduceAdd, List.cons_append, List.nil_append]; rotate_left 1) | (apply inI_of <;> omega) | (simp <;> omega))
          have ea : addR L row = L ++ [((p : Int), updR r (sclG r s) p k)] := by
            unfold addR
            rw [hl, ← hred]
            simp only
            rw [hrl]
          refine ⟨⟨94, [(6, .own 1), (7, .own 2)]⟩, [.sls 22 2 (rowsOf L ++ [updR r (sclG r s) p k]), .sli 2 (valsOf L ++ [(p : Int)])], .tup [.own 0, .own 1], .or ?_, .a2 Try.results106 rfl rfl, by simp [AV.fl, AV.fl1, AV.fl0], ⟨rfl, ?_⟩, by simp [AO.plain]⟩
          · (apply Or.inl; refine ⟨lee rfl ?_, ?_, rfl, rfl⟩; (focus ((repeat (first | exact le_nil | refine le_eq rfl rfl ?_)); done)); (focus ((repeat (first | exact lo_nil | refine lo_eq rfl ?_)); done)))
          · rw [ea]; simp [rowsOf, valsOf]
      | some k0 =>
        rw [hf] at hred hix
        dsimp only at hix
        obtain ⟨hk0, ek0⟩ := fnd_at hf
        obtain ⟨a1, a2, a3, a4, a5, a6⟩ := hL.at_ k0 hk0
        have hnx := hI.red hL hf hpm
        have rg := rowsOf_getD L k0
        generalize hs : 55441 - geti r (p : Nat) = s at hred hnx
        have hsb : 1 ≤ s ∧ s ≤ 55441 := by omega
        have hs' : 55441 - geti r (((p : Nat) : Int).toNat : Nat) = s := by rw [et]; exact hs
        repeat' (first | (apply AOps.nil; try simp only [List.nil_append, List.cons_append, List.set_cons_zero, List.set_cons_succ, List.length_cons, List.length_nil, Nat.reduceAdd, AV.sh, AV.sh1, AV.sh0, AO.sh, List.map_cons, List.map_nil, Nat.zero_add, Nat.add_zero, setAll]) | (apply w_move; exact rfl; exact rfl) | (apply w_assign; exact rfl; exact rfl) | apply AWp.seq | apply AWp.region | ((apply AWp.condP; exact rfl) <;> intro h) | apply AWp.block | apply AWp.ret | apply AWp.exit | apply AWp.skip | (apply AWp.regionQ; kernel_rfl; kernel_rfl) | (apply w_len; exact rfl; exact rfl; first | exact .ints _ | exact .intss _ | exact .sli rfl | exact .sls rfl | exact .slr rfl | exact .orow rfl | exact .nil) | (apply w_call (hix); exact rfl; exact rfl; focus ((repeat (first | exact im_nil | refine im_cons rfl (.val _) ?_ | refine im_cons rfl (.sli rfl) ?_)); done)) | omega | ((first | apply w_lss | apply w_eql | apply w_sub | apply w_idx | apply w_ld); iterate 3 exact rfl) | (apply w_idxo; exact rfl; exact rfl; (first | exact .sli rfl | exact .sls rfl); exact rfl) | (apply w_ldo; iterate 4 exact rfl) | (apply w_ldls; iterate 4 exact rfl) | (apply inI_of <;> omega))
        rw [hs']
        refine AWp.loop (ι := Nat) (fun k => ⟨94, [(0, .own 1), (1, .own 2), (2, .own 3), (8, .i p), (12, .i s), (13, .orow 1 k0), (14, .i k)]⟩) (fun k => [.keep 1 K, .sls 22 2 (rowsOf L), .sli 2 (valsOf L), .sli 2 (updR r (adrG r s (rwAt L k0)) p k)])
          (fun k => p ≤ k ∧ k ≤ m) (fun k => m - k) p ⟨Nat.le_refl _, by omega⟩ ?_ ?_
        · have e0 := (updR_none r (adrG r s (rwAt L k0)) (Nat.le_refl p)).symm
          exact ⟨lee rfl (by (repeat (first | exact le_nil | refine le_eq rfl rfl ?_))), by (repeat (first | exact lo_nil | refine lo_eq rfl ?_ | refine lo_eq (congrArg (AO.sli _) (e0)) ?_)), rfl, rfl⟩
        rintro k ⟨k1', k1⟩
        have ul := updR_len r (adrG r s (rwAt L k0)) p k
        by_cases hk : k < m
        · have ek : (((k : Nat) : Int).toNat : Int) = (k : Int) := by omega
          have ek2 : ((k : Nat) : Int).toNat = k := by omega
          have e1 : geti (updR r (adrG r s (rwAt L k0)) p k) (((k : Nat) : Int).toNat : Nat) = geti r (k : Nat) := by rw [ek, geti_upd (by omega), if_neg (by omega)]
          have b1 := hI.inf k
          have c1 := a2 (((k : Nat) : Int).toNat : Nat)
          have gl : ((rowsOf L).getD k0 []).length = m := by rw [rg]; exact a1
          rw [← rg] at c1
          have b2 : 0 ≤ s * geti ((rowsOf L).getD k0 []) (((k : Nat) : Int).toNat : Nat) ∧ s * geti ((rowsOf L).getD k0 []) (((k : Nat) : Int).toNat : Nat) ≤ 3073649041 := by
            refine ⟨Int.mul_nonneg (by omega) c1.1, ?_⟩
            have := Int.mul_le_mul hsb.2 c1.2 c1.1 (by omega : (0 : Int) ≤ 55441)
            omega
          have b3 := modP (geti (updR r (adrG r s (rwAt L k0)) p k) (((k : Nat) : Int).toNat : Nat) + s * geti ((rowsOf L).getD k0 []) (((k : Nat) : Int).toNat : Nat))
          have e6 : (updR r (adrG r s (rwAt L k0)) p k).set ((k : Nat) : Int).toNat ((geti (updR r (adrG r s (rwAt L k0)) p k) (((k : Nat) : Int).toNat : Nat) + s * geti ((rowsOf L).getD k0 []) (((k : Nat) : Int).toNat : Nat)) % 55441) = updR r (adrG r s (rwAt L k0)) p (k + 1) := by
            rw [e1, ek2, rg]; exact updR_set k1' (by omega) rfl
          repeat' (first | (apply AOps.nil; try simp only [List.nil_append, List.cons_append, List.set_cons_zero, List.set_cons_succ, List.length_cons, List.length_nil, Nat.reduceAdd, AV.sh, AV.sh1, AV.sh0, AO.sh, List.map_cons, List.map_nil, Nat.zero_add, Nat.add_zero, setAll]) | (apply w_move; exact rfl; exact rfl) | apply AWp.seq | apply AWp.region | ((apply AWp.condP; exact rfl) <;> intro h) | apply AWp.block | apply AWp.exit | apply AWp.skip | (apply w_len; exact rfl; exact rfl; first | exact .ints _ | exact .intss _ | exact .sli rfl | exact .sls rfl | exact .slr rfl | exact .orow rfl | exact .nil) | omega | ((apply w_lss); iterate 3 exact rfl))
          refine AWp.regionA (by kernel_rfl) (envC := ⟨94, [(0, .own 1), (1, .own 2), (2, .own 3), (8, .i p), (12, .i s), (13, .orow 1 k0), (14, .i k)]⟩) (osC := [.keep 1 K, .sls 22 2 (rowsOf L), .sli 2 (valsOf L), .sli 2 ((updR r (adrG r s (rwAt L k0)) p k).set ((k : Nat) : Int).toNat ((geti (updR r (adrG r s (rwAt L k0)) p k) (((k : Nat) : Int).toNat : Nat) + s * geti ((rowsOf L).getD k0 []) (((k : Nat) : Int).toNat : Nat)) % 55441))]) rfl rfl ?_ ?_
          · rw [← e1] at b1
            repeat' (first | (apply AOps.nil; try simp only [List.nil_append, List.cons_append, List.set_cons_zero, List.set_cons_succ, List.length_cons, List.length_nil, Nat.reduceAdd, AV.sh, AV.sh1, AV.sh0, AO.sh, List.map_cons, List.map_nil, Nat.zero_add, Nat.add_zero, setAll]) | (apply w_move; exact rfl; exact rfl) | omega | ((first | apply w_add | apply w_mul | apply w_idx | apply w_ld); iterate 3 exact rfl) | (apply w_rem; exact rfl; exact rfl; exact rfl; (focus (omega; done)); (focus (omega; done))) | (apply w_idxo; exact rfl; exact rfl; (exact .sli rfl); exact rfl) | ((first | apply w_idxr | apply w_ldr); iterate 4 exact rfl) | (apply w_ldo; iterate 4 exact rfl) | (apply w_ldrp; iterate 4 exact rfl) | (apply w_sti; exact rfl; exact rfl; rotate_left 1; exact rfl; rotate_left 2) | apply AllOf.nil | (apply AllOf.cons; exact rfl) | (apply AAny.take; exact rfl; exact rfl; kernel_rfl; kernel_rfl) | (apply AAny.all; exact rfl) | (apply AAny.done; exact rfl) | (apply inI_of <;> omega))
            all_goals (apply Or.inl; refine ⟨lee rfl ?_, ?_, rfl, rfl⟩; (focus ((repeat (first | exact le_nil | refine le_eq rfl rfl ?_)); done)); (focus ((repeat (first | exact lo_nil | refine lo_eq rfl ?_)); done)))
          repeat' (first | (apply AOps.nil; try simp only [List.nil_append, List.cons_append, List.set_cons_zero, List.set_cons_succ, List.length_cons, List.length_nil, Nat.reduceAdd, AV.sh, AV.sh1, AV.sh0, AO.sh, List.map_cons, List.map_nil, Nat.zero_add, Nat.add_zero, setAll]) | (apply w_move; exact rfl; exact rfl) | (apply w_assign; exact rfl; exact rfl) | apply AWp.region | ((apply w_add); iterate 3 exact rfl) | (apply inI_of <;> omega))
          exact ⟨k + 1, ⟨by omega, by omega⟩, by omega, ⟨lee rfl (by (repeat (first | exact le_nil | refine le_eq rfl rfl ?_))), by (repeat (first | exact lo_nil | refine lo_eq rfl ?_ | refine lo_eq (congrArg (AO.sli _) (e6)) ?_)), rfl, rfl⟩⟩
        · have ek : k = m := by omega
          subst ek
          repeat' (first | (apply AOps.nil; try simp only [List.nil_append, List.cons_append, List.set_cons_zero, List.set_cons_succ, List.length_cons, List.length_nil, Nat.reduceAdd, AV.sh, AV.sh1, AV.sh0, AO.sh, List.map_cons, List.map_nil, Nat.zero_add, Nat.add_zero, setAll]) | (apply w_move; exact rfl; exact rfl) | (apply w_assign; exact rfl; exact rfl) | apply AWp.seq | apply AWp.region | ((apply AWp.condP; exact rfl) <;> intro h) | apply AWp.block | apply AWp.exit | apply AWp.skip | (apply w_len; exact rfl; exact rfl; first | exact .ints _ | exact .intss _ | exact .sli rfl | exact .sls rfl | exact .slr rfl | exact .orow rfl | exact .nil) | omega | ((first | apply w_lss | apply w_add); iterate 3 exact rfl) | (apply inI_of <;> omega))
          have e0 : updR r (adrG r s (rwAt L k0)) p k = updR r (adrG r s (rwAt L k0)) p r.length := by rw [hrl]
          exact ⟨(p + 1, updR r (adrG r s (rwAt L k0)) p r.length), ⟨by dsimp only; omega, hnx, hred⟩, by dsimp only; omega, ⟨lee rfl (by (repeat (first | exact le_nil | refine le_eq rfl rfl ?_))), by (repeat (first | exact lo_nil | refine lo_eq rfl ?_ | refine lo_eq (congrArg (AO.sli _) (e0)) ?_)), rfl, rfl⟩⟩
  · have e : p = m := by omega
    subst e
    repeat' (first | (apply AOps.nil; try simp only [List.nil_append, List.cons_append, List.set_cons_zero, List.set_cons_succ, List.length_cons, List.length_nil, Nat.reduceAdd, AV.sh, AV.sh1, AV.sh0, AO.sh, List.map_cons, List.map_nil, Nat.zero_add, Nat.add_zero, setAll]) | (apply w_move; exact rfl; exact rfl) | (apply w_assign; exact rfl; exact rfl) | apply AWp.seq | apply AWp.region | ((apply AWp.condP; exact rfl) <;> intro h) | apply AWp.block | apply AWp.ret | apply AWp.exit | apply AWp.skip | (apply w_len; exact rfl; exact rfl; first | exact .ints _ | exact .intss _ | exact .sli rfl | exact .sls rfl | exact .slr rfl | exact .orow rfl | exact .nil) | omega | ((apply w_lss); iterate 3 exact rfl))
    rw [Nat.sub_self, redR] at hred
    have ea : addR L row = L := by unfold addR; rw [hl, ← hred]
    refine ⟨⟨94, [(6, .own 1), (7, .own 2)]⟩, [.sls 22 2 (rowsOf L), .sli 2 (valsOf L)], .tup [.own 0, .own 1], .or ?_, .a2 Try.results106 rfl rfl, by simp [AV.fl, AV.fl1, AV.fl0], ⟨rfl, by rw [ea]⟩, by simp [AO.plain]⟩
    (apply Or.inl; refine ⟨lee rfl ?_, ?_, rfl, rfl⟩; (focus ((repeat (first | exact le_nil | refine le_eq rfl rfl ?_)); done)); (focus ((repeat (first | exact lo_nil | refine lo_eq rfl ?_)); done)))
end Go.Proofs.Ytifkgmbghcmdeaa
/-
  Local algebras: the program's counts up to a degree. No condition but bounds.
-/
namespace Go.Proofs.Ytifkgmbghcmdeaa
open Go Go.RowKit
attribute [local irreducible] AWp AOps ResIs Ret1 QOp LOp COp AFnV AFn Imms LeE LeO
set_option maxHeartbeats 1000000
set_option linter.unusedSimpArgs false
set_option linter.unusedVariables false

/-- The first n counts. -/
def cntL (P : Nat → Bool) : Nat → List Int
  | 0 => []
  | n + 1 => cntL P n ++ [(hcN P n : Int)]
theorem cntL_len (P : Nat → Bool) : ∀ n, (cntL P n).length = n
  | 0 => rfl
  | n + 1 => by simp [cntL, cntL_len P n]
theorem hcN_int (P : Nat → Bool) (d : Nat) : (hcN P d : Int) = (d : Int) + 1 - (tkN P d (d + 1) : Int) := by
  have := tkN_le P d (d + 1)
  unfold hcN; omega
theorem pl_top (M : Nat) (hM : M ≤ 1000) : plI (M : Int) 0 + 1 = (triN (M + 1) : Int) := by
  have := (plI_eq (x := (M : Int)) (y := 0) (by omega) (by omega)).2.1
  rw [this, show ((M : Int) + 0).toNat = M by omega, triN]; omega
theorem pl_deg {d i : Nat} (h : i ≤ d) (hd : d ≤ 1000) : plI (i : Int) ((d : Int) - (i : Int)) = ((triN d + i : Nat) : Int) := by
  have := (plI_eq (x := (i : Int)) (y := (d : Int) - (i : Int)) (by omega) (by omega)).2.1
  rw [this, show ((i : Int) + ((d : Int) - (i : Int))).toNat = d by omega]; omega

set_option maxHeartbeats 16000000 in
theorem countsUpTo_c (fs : List (List (List Int))) (hf : ∀ f ∈ fs, PoO f ∧ f.length ≤ 200) (hn : fs.length ≤ 1000) (M : Nat) (hM : M ≤ 17) : AFn Try.prog 87 [.ro (polsRo fs), .i M] (IsInts 2 (cntL (isLd fs) (M + 1))) := by
  have hM18 : triN (M + 1) ≤ 171 := triN_mono (show M + 1 ≤ 18 by omega)
  have htop := pl_top M (by omega)
  have hcol0 := column_c (M : Int) 0 (by omega) (by omega)
  have htp : 1 ≤ triN (M + 1) := by rw [triN]; omega
  (refine AFn.start Try.func87 Try.ntmps87 rfl (by kernel_rfl) fun hk => ?_; simp only [Env.start, enumF, List.length_cons, List.length_nil, Nat.reduceAdd, Nat.reduceSub, List.cons_append, List.nil_append])
  repeat' (first | (apply AOps.nil; try simp only [List.nil_append, List.cons_append, List.set_cons_zero, List.set_cons_succ, List.length_cons, List.length_nil, Nat.reduceAdd, AV.sh, AV.sh1, AV.sh0, AO.sh, List.map_cons, List.map_nil, Nat.zero_add, Nat.add_zero, setAll]) | (apply w_move; exact rfl; exact rfl) | (apply w_assign; exact rfl; exact rfl) | apply AWp.seq | apply AWp.region | apply AWp.block | ((first | apply w_lenps | apply w_alst); iterate 2 exact rfl) | ((apply w_echmake); iterate 1 exact rfl) | (apply w_build1; exact rfl; exact rfl; (exact one_own rfl True.intro)) | (apply w_stst; iterate 5 exact rfl))
  refine AWp.loop (ι := Nat) (fun n => ⟨137, [(1, .i M), (5, .optr 1 0), (22, .ro (polsRo fs)), (23, .i fs.length), (24, .i n)]⟩) (fun n => [.ob (echOb none 2 (cnF fs M (rcI M) n)), .bx 63 [.own 0]]) (fun n => n ≤ fs.length) (fun n => fs.length - n) 0 (by omega) ⟨lee rfl (by (repeat (first | exact le_nil | refine le_eq rfl rfl ?_))), by (repeat (first | exact lo_nil | refine lo_eq rfl ?_)), rfl, rfl⟩ ?_
  rintro n hn0
  by_cases hn1 : n < fs.length
  · have hm : fs.getD n [] ∈ fs := getD_mem hn1
    have hcn : cnF fs M (rcI M) (n + 1) = cnA (fs.getD n []) M (rcI M (fs.getD n [])) (cnF fs M (rcI M) n) (rcI M (fs.getD n [])) := rfl
    have hLn := cnF_ok (fun n hn => (hf _ (getD_mem hn)).1.r) M (rcI M) n (by omega)
    obtain ⟨hp, hpl⟩ := hf _ hm
    obtain ⟨f, hfe⟩ : ∃ f, f = fs.getD n [] := ⟨_, rfl⟩
    have hfe2 : fs.getD ((n : Nat) : Int).toNat [] = f := hfe.symm
    rw [← hfe] at hm hcn hp hpl
    generalize hL0 : cnF fs M (rcI M) n = L0 at hcn hLn
    repeat' (first | (apply AOps.nil; try simp only [List.nil_append, List.cons_append, List.set_cons_zero, List.set_cons_succ, List.length_cons, List.length_nil, Nat.reduceAdd, AV.sh, AV.sh1, AV.sh0, AO.sh, List.map_cons, List.map_nil, Nat.zero_add, Nat.add_zero, setAll]) | (apply w_move; exact rfl; exact rfl) | apply AWp.seq | apply AWp.region | ((apply AWp.condP; exact rfl) <;> intro h) | apply AWp.block | apply AWp.exit | apply AWp.skip | (apply w_len; exact rfl; exact rfl; first | exact .ints _ | exact .intss _ | exact .sli rfl | exact .sls rfl | exact .slr rfl | exact .orow rfl | exact .nil) | ((first | apply w_faps | apply w_alst); iterate 2 exact rfl) | (apply w_idxps; iterate 3 exact rfl) | (apply w_ldps; iterate 3 exact rfl) | (rw [hfe2]) | omega | ((first | apply w_lss | apply w_eql | apply w_add | apply w_ld | apply w_fa); iterate 3 exact rfl) | (apply w_ldb; iterate 5 exact rfl) | (apply w_stst; iterate 5 exact rfl) | (apply inI_of <;> omega))
    · have h0 : f.length = 0 := by omega
      have e0 : cnF fs M (rcI M) (n + 1) = L0 := by
        rw [hcn, show rcI M f = 0 by unfold rcI; rw [if_pos h0]]; rfl
      exact ⟨n + 1, hn1, by omega, by rw [e0]; exact ⟨lee rfl (by (repeat (first | exact le_nil | refine le_eq rfl rfl ?_))), by (repeat (first | exact lo_nil | refine lo_eq rfl ?_)), rfl, rfl⟩⟩
    · have h0 : ¬ f.length = 0 := by omega
      obtain ⟨r0, r1, r2, _⟩ := hp.r 0 (by omega)
      simp only [show ((0 : Nat) : Int) = 0 from rfl] at r0 r1 r2
      have hC : rcI M f = ((M : Int) - geti (gets f 0) 0 - geti (gets f 0) 1 + 1).toNat := by unfold rcI; rw [if_neg h0]
      repeat' (first | (apply AOps.nil; try simp only [List.nil_append, List.cons_append, List.set_cons_zero, List.set_cons_succ, List.length_cons, List.length_nil, Nat.reduceAdd, AV.sh, AV.sh1, AV.sh0, AO.sh, List.map_cons, List.map_nil, Nat.zero_add, Nat.add_zero, setAll]) | (apply w_move; exact rfl; exact rfl) | (apply w_assign; exact rfl; exact rfl) | apply AWp.seq | apply AWp.region | apply AWp.block | (apply AWp.regionQ; kernel_rfl; kernel_rfl) | omega | ((first | apply w_sub | apply w_idx | apply w_ld | apply w_fa); iterate 3 exact rfl) | ((first | apply w_idxs | apply w_lds); iterate 3 exact rfl) | (apply w_ldb; iterate 5 exact rfl) | (apply inI_of <;> omega))
      generalize hR : (M : Int) - geti (gets f 0) 0 - geti (gets f 0) 1 = R at hC
      generalize rcI M f = C at hC hcn
      refine AWp.loop (ι := Nat) (fun a => ⟨137, [(1, .i M), (5, .optr 1 0), (7, .optr 2 0), (8, .i R), (9, .i a), (22, .ro (polsRo fs)), (23, .i fs.length), (24, .i n)]⟩) (fun a => [.ob (echOb none 2 (cnA f M C L0 a)), .bx 63 [.own 0], .bx 50 [.intss f]]) (fun a => a ≤ C) (fun a => C - a) 0 (Nat.zero_le _) ⟨lee rfl (by (repeat (first | exact le_nil | refine le_eq rfl rfl ?_))), by (repeat (first | exact lo_nil | refine lo_eq rfl ?_)), rfl, rfl⟩ ?_
      rintro a ha0
      by_cases ha1 : a < C
      · have hLa := cnA_ok hp.r M C hLn a
        have hca : cnA f M C L0 (a + 1) = cnB f M a (cnA f M C L0 a) (C - a) := rfl
        generalize cnA f M C L0 a = La at hLa hca
        repeat' (first | (apply AOps.nil; try simp only [List.nil_append, List.cons_append, List.set_cons_zero, List.set_cons_succ, List.length_cons, List.length_nil, Nat.reduceAdd, AV.sh, AV.sh1, AV.sh0, AO.sh, List.map_cons, List.map_nil, Nat.zero_add, Nat.add_zero, setAll]) | (apply w_move; exact rfl; exact rfl) | (apply w_assign; exact rfl; exact rfl) | apply AWp.seq | apply AWp.region | ((apply AWp.condP; exact rfl) <;> intro h) | apply AWp.block | apply AWp.exit | apply AWp.skip | omega | ((apply w_leq); iterate 3 exact rfl))
        refine AWp.loop (ι := Nat) (fun b => ⟨137, [(1, .i M), (5, .optr 1 0), (7, .optr 2 0), (8, .i R), (9, .i a), (10, .i b), (22, .ro (polsRo fs)), (23, .i fs.length), (24, .i n)]⟩) (fun b => [.ob (echOb none 2 (cnB f M a La b)), .bx 63 [.own 0], .bx 50 [.intss f]]) (fun b => b ≤ C - a) (fun b => C - a - b) 0 (Nat.zero_le _) ⟨lee rfl (by (repeat (first | exact le_nil | refine le_eq rfl rfl ?_))), by (repeat (first | exact lo_nil | refine lo_eq rfl ?_)), rfl, rfl⟩ ?_
        rintro b hb0
        by_cases hb1 : b < C - a
        · have hLb := cnB_ok hp.r M a hLa b
          have hLbl := hLb.len
          have hcb : cnB f M a La (b + 1) = addR (cnB f M a La b) (prR f a b M f.length) := rfl
          have hadd := add_c (triN (M + 1)) (cnB f M a La b) hLb.ok (prR f a b M f.length) (prR_len _ _ _ _ _) (by omega) (prR_in hp.r _ _ _ _ (Nat.le_refl _))
          rw [← hcb] at hadd
          have hab : a + b ≤ 17 := by omega
          have e0 : List.replicate (plI (M : Int) 0 + 1).toNat (0 : Int) = prR f a b M 0 := by rw [htop, Int.toNat_natCast]; rfl
          repeat' (first | (apply AOps.nil; try simp only [List.nil_append, List.cons_append, List.set_cons_zero, List.set_cons_succ, List.length_cons, List.length_nil, Nat.reduceAdd, AV.sh, AV.sh1, AV.sh0, AO.sh, List.map_cons, List.map_nil, Nat.zero_add, Nat.add_zero, setAll]) | (apply w_move; exact rfl; exact rfl) | (apply w_assign; exact rfl; exact rfl) | apply AWp.seq | apply AWp.region | ((apply AWp.condP; exact rfl) <;> intro h) | apply AWp.block | apply AWp.exit | apply AWp.skip | (apply w_len; exact rfl; exact rfl; first | exact .ints _ | exact .intss _ | exact .sli rfl | exact .sls rfl | exact .slr rfl | exact .orow rfl | exact .nil) | (apply w_call (hcol0); exact rfl; exact rfl; focus ((repeat (first | exact im_nil | refine im_cons rfl (.val _) ?_)); done)) | omega | ((first | apply w_leq | apply w_add | apply w_ld | apply w_fa); iterate 3 exact rfl) | (apply w_ldb; iterate 5 exact rfl) | (apply w_mki; exact rfl; exact rfl; rotate_left 3; exact rfl; rotate_left 1) | (apply inI_of <;> omega))
          refine AWp.loop (ι := Nat) (fun k => ⟨137, [(1, .i M), (5, .optr 1 0), (7, .optr 2 0), (8, .i R), (9, .i a), (10, .i b), (11, .own 3), (22, .ro (polsRo fs)), (23, .i fs.length), (24, .i n), (64, .intss f), (65, .i f.length), (66, .i k)]⟩) (fun k => [.ob (echOb none 2 (cnB f M a La b)), .bx 63 [.own 0], .bx 50 [.intss f], .sli 2 (prR f a b M k)]) (fun k => k ≤ f.length) (fun k => f.length - k) 0 (Nat.zero_le _) ⟨lee rfl (by (repeat (first | exact le_nil | refine le_eq rfl rfl ?_))), by (repeat (first | exact lo_nil | refine lo_eq rfl ?_)), rfl, rfl⟩ ?_
          rintro k hk0
          have hpl2 := prR_len f a b M k
          by_cases hk1 : k < f.length
          · obtain ⟨t0, t1, t2, t3⟩ := hp.r k hk1
            by_cases hle : geti (gets f (k : Nat)) 0 + geti (gets f (k : Nat)) 1 + a + b ≤ M
            · have hpr : prR f a b M (k + 1) = (prR f a b M k).set (plN (geti (gets f (k : Nat)) 0 + a).toNat (geti (gets f (k : Nat)) 1 + b).toNat) (geti (gets f (k : Nat)) 2) := by rw [prR, if_pos hle]
              have hcol := column_c (geti (gets f (k : Nat)) 0 + a) (geti (gets f (k : Nat)) 1 + b) (by omega) (by omega)
              have hlt := plN_lt (i := (geti (gets f (k : Nat)) 0 + a).toNat) (j := (geti (gets f (k : Nat)) 1 + b).toNat) (M := M) (by omega)
              unfold plI at hcol
              repeat' (first | (apply AOps.nil; try simp only [List.nil_append, List.cons_append, List.set_cons_zero, List.set_cons_succ, List.length_cons, List.length_nil, Nat.reduceAdd, AV.sh, AV.sh1, AV.sh0, AO.sh, List.map_cons, List.map_nil, Nat.zero_add, Nat.add_zero, setAll]) | (apply w_assign; exact rfl; exact rfl) | apply AWp.seq | apply AWp.region | ((apply AWp.condP; exact rfl) <;> intro h) | apply AWp.block | apply AWp.exit | apply AWp.skip | omega | ((first | apply w_lss | apply w_idx | apply w_ld); iterate 3 exact rfl) | ((first | apply w_idxs | apply w_lds); iterate 3 exact rfl))
              (apply AWp.regionQ; kernel_rfl; kernel_rfl)
              repeat' (first | (apply AOps.nil; try simp only [List.nil_append, List.cons_append, List.set_cons_zero, List.set_cons_succ, List.length_cons, List.length_nil, Nat.reduceAdd, AV.sh, AV.sh1, AV.sh0, AO.sh, List.map_cons, List.map_nil, Nat.zero_add, Nat.add_zero, setAll]) | (apply w_move; exact rfl; exact rfl) | apply AWp.region | ((apply AWp.condP; exact rfl) <;> intro h) | apply AWp.skip | omega | ((first | apply w_leq | apply w_add | apply w_idx | apply w_ld); iterate 3 exact rfl) | (apply inI_of <;> omega))
              refine AWp.regionA (by kernel_rfl) (envC := ⟨137, [(1, .i M), (5, .optr 1 0), (7, .optr 2 0), (8, .i R), (9, .i a), (10, .i b), (11, .own 3), (22, .ro (polsRo fs)), (23, .i fs.length), (24, .i n), (64, .intss f), (65, .i f.length), (66, .i k)]⟩) (osC := [.ob (echOb none 2 (cnB f M a La b)), .bx 63 [.own 0], .bx 50 [.intss f], .sli 2 ((prR f a b M k).set (((plN (geti (gets f (k : Nat)) 0 + a).toNat (geti (gets f (k : Nat)) 1 + b).toNat : Nat) : Int)).toNat (geti (gets f (k : Nat)) 2))]) rfl rfl ?_ ?_
              · repeat' (first | (apply AOps.nil; try simp only [List.nil_append, List.cons_append, List.set_cons_zero, List.set_cons_succ, List.length_cons, List.length_nil, Nat.reduceAdd, AV.sh, AV.sh1, AV.sh0, AO.sh, List.map_cons, List.map_nil, Nat.zero_add, Nat.add_zero, setAll]) | (apply w_move; exact rfl; exact rfl) | (apply w_call (hcol); exact rfl; exact rfl; focus ((repeat (first | exact im_nil | refine im_cons rfl (.val _) ?_)); done)) | omega | ((first | apply w_add | apply w_idx | apply w_ld); iterate 3 exact rfl) | (apply w_idxo; exact rfl; exact rfl; (exact .sli rfl); exact rfl) | (apply w_sti; exact rfl; exact rfl; rotate_left 1; exact rfl; rotate_left 2) | apply AllOf.nil | (apply AllOf.cons; exact rfl) | (apply AAny.take; exact rfl; exact rfl; kernel_rfl; kernel_rfl) | (apply AAny.all; exact rfl) | (apply AAny.done; exact rfl) | (apply inI_of <;> omega))
                all_goals (apply Or.inl; refine ⟨lee rfl ?_, ?_, rfl, rfl⟩; (focus ((repeat (first | exact le_nil | refine le_eq rfl rfl ?_)); done)); (focus ((repeat (first | exact lo_nil | refine lo_eq rfl ?_)); done)))
              repeat' (first | (apply AOps.nil; try simp only [List.nil_append, List.cons_append, List.set_cons_zero, List.set_cons_succ, List.length_cons, List.length_nil, Nat.reduceAdd, AV.sh, AV.sh1, AV.sh0, AO.sh, List.map_cons, List.map_nil, Nat.zero_add, Nat.add_zero, setAll]) | (apply w_move; exact rfl; exact rfl) | apply AWp.region | ((apply w_add); iterate 3 exact rfl) | (apply inI_of <;> omega))
              exact ⟨k + 1, hk1, by omega, ⟨lee rfl (by (repeat (first | exact le_nil | refine le_eq rfl rfl ?_))), by (repeat (first | exact lo_nil | refine lo_eq rfl ?_ | refine lo_eq (congrArg (AO.sli _) (hpr.symm)) ?_)), rfl, rfl⟩⟩
            · have hpr : prR f a b M (k + 1) = prR f a b M k := by rw [prR, if_neg hle]
              repeat' (first | (apply AOps.nil; try simp only [List.nil_append, List.cons_append, List.set_cons_zero, List.set_cons_succ, List.length_cons, List.length_nil, Nat.reduceAdd, AV.sh, AV.sh1, AV.sh0, AO.sh, List.map_cons, List.map_nil, Nat.zero_add, Nat.add_zero, setAll]) | (apply w_move; exact rfl; exact rfl) | (apply w_assign; exact rfl; exact rfl) | apply AWp.seq | apply AWp.region | ((apply AWp.condP; exact rfl) <;> intro h) | apply AWp.block | apply AWp.exit | apply AWp.skip | (apply AWp.regionQ; kernel_rfl; kernel_rfl) | omega | ((first | apply w_lss | apply w_leq | apply w_add | apply w_idx | apply w_ld); iterate 3 exact rfl) | ((first | apply w_idxs | apply w_lds); iterate 3 exact rfl) | (apply inI_of <;> omega))
              exact ⟨k + 1, hk1, by omega, ⟨lee rfl (by (repeat (first | exact le_nil | refine le_eq rfl rfl ?_))), by (repeat (first | exact lo_nil | refine lo_eq rfl ?_ | refine lo_eq (congrArg (AO.sli _) (hpr.symm)) ?_)), rfl, rfl⟩⟩
          · have ek : k = f.length := by omega
            subst ek
            repeat' (first | (apply AOps.nil; try simp only [List.nil_append, List.cons_append, List.set_cons_zero, List.set_cons_succ, List.length_cons, List.length_nil, Nat.reduceAdd, AV.sh, AV.sh1, AV.sh0, AO.sh, List.map_cons, List.map_nil, Nat.zero_add, Nat.add_zero, setAll]) | (apply w_move; exact rfl; exact rfl) | (apply w_assign; exact rfl; exact rfl) | apply AWp.seq | apply AWp.region | ((apply AWp.condP; exact rfl) <;> intro h) | apply AWp.block | apply AWp.exit | apply AWp.skip | ((apply w_calle 0 (hadd)); exact rfl; exact rfl; (focus ((repeat (first | exact imu_nil | refine imu_cons rfl (.sli rfl (by decide)) ?_ | refine imu_cons rfl (imu_agg1 (.own rfl)) ?_)); done)); simp only [Env.mp, List.map_cons, List.map_nil, List.set_cons_zero, List.set_cons_succ, AV.kill, AV.kill1, AO.kill, AV.noRow, AV.noRow1, AO.via, reduceIte, Nat.reduceEqDiff, Nat.reduceLT, Env.up, Nat.zero_ne_one, Nat.one_ne_zero, Nat.reduceAdd, List.cons_append, List.nil_append]) | omega | ((first | apply w_lss | apply w_add); iterate 3 exact rfl) | (apply w_ldst; iterate 5 exact rfl) | (apply inI_of <;> omega))
            exact ⟨b + 1, by omega, by omega, ⟨lee rfl (by (repeat (first | exact le_nil | refine le_eq rfl rfl ?_))), by (repeat (first | exact lo_nil | refine lo_eq rfl ?_)), rfl, rfl⟩⟩
        · have eb : b = C - a := by omega
          subst eb
          repeat' (first | (apply AOps.nil; try simp only [List.nil_append, List.cons_append, List.set_cons_zero, List.set_cons_succ, List.length_cons, List.length_nil, Nat.reduceAdd, AV.sh, AV.sh1, AV.sh0, AO.sh, List.map_cons, List.map_nil, Nat.zero_add, Nat.add_zero, setAll]) | (apply w_move; exact rfl; exact rfl) | (apply w_assign; exact rfl; exact rfl) | apply AWp.seq | apply AWp.region | ((apply AWp.condP; exact rfl) <;> intro h) | apply AWp.block | apply AWp.exit | apply AWp.skip | omega | ((first | apply w_leq | apply w_add); iterate 3 exact rfl) | (apply inI_of <;> omega))
          exact ⟨a + 1, by omega, by omega, by rw [hca]; exact ⟨lee rfl (by (repeat (first | exact le_nil | refine le_eq rfl rfl ?_))), by (repeat (first | exact lo_nil | refine lo_eq rfl ?_)), rfl, rfl⟩⟩
      · have ea : a = C := by omega
        subst ea
        repeat' (first | (apply AOps.nil; try simp only [List.nil_append, List.cons_append, List.set_cons_zero, List.set_cons_succ, List.length_cons, List.length_nil, Nat.reduceAdd, AV.sh, AV.sh1, AV.sh0, AO.sh, List.map_cons, List.map_nil, Nat.zero_add, Nat.add_zero, setAll]) | (apply w_move; exact rfl; exact rfl) | (apply w_assign; exact rfl; exact rfl) | apply AWp.seq | apply AWp.region | ((apply AWp.condP; exact rfl) <;> intro h) | apply AWp.block | apply AWp.exit | apply AWp.skip | omega | ((first | apply w_leq | apply w_add); iterate 3 exact rfl) | (apply inI_of <;> omega))
        exact ⟨n + 1, hn1, by omega, by rw [hcn]; exact ⟨lee rfl (by (repeat (first | exact le_nil | refine le_eq rfl rfl ?_))), by (repeat (first | exact lo_nil | refine lo_eq rfl ?_)), rfl, rfl⟩⟩
  · have en : n = fs.length := by omega
    subst en
    have hL := cnF_ok (fun n hn => (hf _ (getD_mem hn)).1.r) M (rcI M) fs.length (Nat.le_refl _)
    have hld : ∀ p : Nat, p < triN (M + 1) → (fndR (cnF fs M (rcI M) fs.length) (p : Nat)).isSome = isLd fs p := fun p hp => ld_I (fun f hf2 => (hf f hf2).1) hM hp
    generalize cnF fs M (rcI M) fs.length = L at hL hld
    have hLl := hL.len
    repeat' (first | (apply AOps.nil; try simp only [List.nil_append, List.cons_append, List.set_cons_zero, List.set_cons_succ, List.length_cons, List.length_nil, Nat.reduceAdd, AV.sh, AV.sh1, AV.sh0, AO.sh, List.map_cons, List.map_nil, Nat.zero_add, Nat.add_zero, setAll]) | (apply w_assign; exact rfl; exact rfl) | apply AWp.seq | apply AWp.region | ((apply AWp.condP; exact rfl) <;> intro h) | apply AWp.block | apply AWp.exit | apply AWp.skip | omega | ((apply w_lss); iterate 3 exact rfl) | (apply w_bs0; iterate 1 exact rfl))
    refine AWp.loop (ι := Nat) (fun d => ⟨137, [(1, .i M), (5, .optr 1 0), (14, .own 2), (15, .i d)]⟩) (fun d => [.ob (echOb none 2 L), .bx 63 [.own 0], .sli 2 (cntL (isLd fs) d)]) (fun d => d ≤ M + 1) (fun d => M + 1 - d) 0 (by omega) ⟨lee rfl (by (repeat (first | exact le_nil | refine le_eq rfl rfl ?_))), by (repeat (first | exact lo_nil | refine lo_eq rfl ?_)), rfl, rfl⟩ ?_
    rintro d hd0
    have hcl := cntL_len (isLd fs) d
    by_cases hd1 : d < M + 1
    · repeat' (first | (apply AOps.nil; try simp only [List.nil_append, List.cons_append, List.set_cons_zero, List.set_cons_succ, List.length_cons, List.length_nil, Nat.reduceAdd, AV.sh, AV.sh1, AV.sh0, AO.sh, List.map_cons, List.map_nil, Nat.zero_add, Nat.add_zero, setAll]) | (apply w_move; exact rfl; exact rfl) | (apply w_assign; exact rfl; exact rfl) | apply AWp.seq | apply AWp.region | ((apply AWp.condP; exact rfl) <;> intro h) | apply AWp.block | apply AWp.ret | apply AWp.exit | apply AWp.skip | omega | ((first | apply w_leq | apply w_add); iterate 3 exact rfl) | (apply inI_of <;> omega))
      refine AWp.loop (ι := Nat) (fun i => ⟨137, [(1, .i M), (5, .optr 1 0), (14, .own 2), (15, .i d), (16, .i ((d : Int) + 1 - (tkN (isLd fs) d i : Int))), (113, .i ((d : Int) + 1)), (114, .i i)]⟩) (fun i => [.ob (echOb none 2 L), .bx 63 [.own 0], .sli 2 (cntL (isLd fs) d)]) (fun i => i ≤ d + 1) (fun i => d + 1 - i) 0 (by omega) ?_ ?_
      · have e0 : (d : Int) + 1 - (tkN (isLd fs) d 0 : Int) = (d : Int) + 1 := by simp [tkN]
        exact ⟨lee rfl (by (repeat (first | exact le_nil | refine le_eq rfl rfl ?_))), by (repeat (first | exact lo_nil | refine lo_eq rfl ?_)), rfl, rfl⟩
      rintro i hi0
      have htl := tkN_le (isLd fs) d i
      by_cases hi1 : i < d + 1
      · have hcol := column_c (i : Int) ((d : Int) - (i : Int)) (by omega) (by omega)
        have hpd := pl_deg (d := d) (i := i) (by omega) (by omega)
        have hlt : triN d + i < triN (M + 1) := by
          have := triN_mono (show d + 1 ≤ M + 1 by omega)
          rw [triN] at this; omega
        have hP := hld (triN d + i) hlt
        rw [hpd] at hcol
        have htk : tkN (isLd fs) d (i + 1) = tkN (isLd fs) d i + (if isLd fs (triN d + i) then 1 else 0) := rfl
        cases hfn : fndR L ((triN d + i : Nat) : Int) with
        | some k0 =>
          rw [hfn] at hP
          have hP' : isLd fs (triN d + i) = true := hP.symm
          rw [hP', if_pos rfl] at htk
          repeat' (first | (apply AOps.nil; try simp only [List.nil_append, List.cons_append, List.set_cons_zero, List.set_cons_succ, List.length_cons, List.length_nil, Nat.reduceAdd, AV.sh, AV.sh1, AV.sh0, AO.sh, List.map_cons, List.map_nil, Nat.zero_add, Nat.add_zero, setAll]) | (apply w_move; exact rfl; exact rfl) | (apply w_assign; exact rfl; exact rfl) | apply AWp.seq | apply AWp.region | ((apply AWp.condP; exact rfl) <;> intro h) | (apply AWp.condT; exact rfl) | apply AWp.block | apply AWp.exit | apply AWp.skip | (apply AWp.regionQ; kernel_rfl; kernel_rfl) | (apply w_call (hcol); exact rfl; exact rfl; focus ((repeat (first | exact im_nil | refine im_cons rfl (.val _) ?_)); done)) | (apply w_echhit (hfn); exact rfl; exact rfl; exact rfl; exact rfl; exact rfl) | omega | ((first | apply w_lss | apply w_add | apply w_sub | apply w_ld | apply w_fa | apply w_extv); iterate 3 exact rfl) | ((first | apply w_lds | apply w_ext); iterate 3 exact rfl) | (apply w_ldb; iterate 5 exact rfl) | (apply inI_of <;> omega))
          exact ⟨i + 1, by omega, by omega, ⟨lee rfl (by (repeat (first | exact le_nil | refine le_eq rfl rfl ?_ | refine le_eq rfl (congrArg AV.i (by omega)) ?_))), by (repeat (first | exact lo_nil | refine lo_eq rfl ?_)), rfl, rfl⟩⟩
        | none =>
          rw [hfn] at hP
          have hP' : isLd fs (triN d + i) = false := hP.symm
          rw [hP', if_neg (by simp)] at htk
          repeat' (first | (apply AOps.nil; try simp only [List.nil_append, List.cons_append, List.set_cons_zero, List.set_cons_succ, List.length_cons, List.length_nil, Nat.reduceAdd, AV.sh, AV.sh1, AV.sh0, AO.sh, List.map_cons, List.map_nil, Nat.zero_add, Nat.add_zero, setAll]) | (apply w_move; exact rfl; exact rfl) | (apply w_assign; exact rfl; exact rfl) | apply AWp.seq | apply AWp.region | ((apply AWp.condP; exact rfl) <;> intro h) | (apply AWp.condF; exact rfl) | apply AWp.block | apply AWp.exit | apply AWp.skip | (apply AWp.regionQ; kernel_rfl; kernel_rfl) | (apply w_call (hcol); exact rfl; exact rfl; focus ((repeat (first | exact im_nil | refine im_cons rfl (.val _) ?_)); done)) | (apply w_echmiss (hfn); exact rfl; exact rfl; exact rfl; exact rfl; exact rfl) | omega | ((first | apply w_lss | apply w_add | apply w_sub | apply w_ld | apply w_fa | apply w_extv); iterate 3 exact rfl) | ((first | apply w_lds | apply w_ext); iterate 3 exact rfl) | (apply w_ldb; iterate 5 exact rfl) | (apply inI_of <;> omega))
          exact ⟨i + 1, by omega, by omega, ⟨lee rfl (by (repeat (first | exact le_nil | refine le_eq rfl rfl ?_ | refine le_eq rfl (congrArg AV.i (by omega)) ?_))), by (repeat (first | exact lo_nil | refine lo_eq rfl ?_)), rfl, rfl⟩⟩
      · have ei : i = d + 1 := by omega
        subst ei
        have hh := hcN_int (isLd fs) d
        have e9 : cntL (isLd fs) d ++ [(d : Int) + 1 - (tkN (isLd fs) d (d + 1) : Int)] = cntL (isLd fs) (d + 1) := by rw [← hh]; rfl
        repeat' (first | (apply AOps.nil; try simp only [List.nil_append, List.cons_append, List.set_cons_zero, List.set_cons_succ, List.length_cons, List.length_nil, Nat.reduceAdd, AV.sh, AV.sh1, AV.sh0, AO.sh, List.map_cons, List.map_nil, Nat.zero_add, Nat.add_zero, setAll]) | (apply w_move; exact rfl; exact rfl) | (apply w_assign; exact rfl; exact rfl) | apply AWp.seq | apply AWp.region | ((apply AWp.condP; exact rfl) <;> intro h) | apply AWp.block | apply AWp.exit | apply AWp.skip | omega | ((first | apply w_lss | apply w_add); iterate 3 exact rfl) | ((apply w_bs1); iterate 2 exact rfl) | (apply w_app; exact rfl; exact rfl; exact rfl; exact rfl; (exact .sli rfl); rotate_left 1; simp only [Env.mp, List.map_cons, List.map_nil, List.set_cons_zero, List.set_cons_succ, AV.kill, AV.kill1, AO.kill, AV.noRow, AV.noRow1, AO.via, reduceIte, Nat.reduceEqDiff, Nat.reduceLT, Env.up, Nat.zero_ne_one, Nat.one_ne_zero, Nat.reduceAdd, List.cons_append, List.nil_append]; rotate_left 1) | (apply inI_of <;> omega) | (simp <;> omega))
        exact ⟨d + 1, by omega, by omega, ⟨lee rfl (by (repeat (first | exact le_nil | refine le_eq rfl rfl ?_))), by (repeat (first | exact lo_nil | refine lo_eq rfl ?_ | refine lo_eq (congrArg (AO.sli _) (e9)) ?_)), rfl, rfl⟩⟩
    · have ed : d = M + 1 := by omega
      subst ed
      repeat' (first | (apply AOps.nil; try simp only [List.nil_append, List.cons_append, List.set_cons_zero, List.set_cons_succ, List.length_cons, List.length_nil, Nat.reduceAdd, AV.sh, AV.sh1, AV.sh0, AO.sh, List.map_cons, List.map_nil, Nat.zero_add, Nat.add_zero, setAll]) | (apply w_move; exact rfl; exact rfl) | (apply w_assign; exact rfl; exact rfl) | apply AWp.seq | apply AWp.region | ((apply AWp.condP; exact rfl) <;> intro h) | apply AWp.block | apply AWp.ret | apply AWp.exit | apply AWp.skip | omega | ((apply w_leq); iterate 3 exact rfl))
      exact ⟨_, _, _, .v1 Try.results87 rfl, .sli rfl, rfl, rfl⟩
end Go.Proofs.Ytifkgmbghcmdeaa
/-
  Local algebras: the reference's counts. No condition but bounds.
-/
namespace Go.Proofs.Ytifkgmbghcmdeaa
open Go Go.RowKit
attribute [local irreducible] AWp AOps ResIs Ret1 QOp LOp COp AFnV AFn Imms LeE LeO
set_option maxHeartbeats 1000000
set_option linter.unusedSimpArgs false
set_option linter.unusedVariables false

/-- Is one of the first k terms in range? -/
def smB (f : List (List Int)) (a b : Nat) : Nat → Bool
  | 0 => false
  | k + 1 => if geti (gets f (k : Nat)) 0 + geti (gets f (k : Nat)) 1 + a + b ≤ (17 : Nat) then true else smB f a b k
theorem smB_no {f : List (List Int)} {a b : Nat} : ∀ k, smB f a b k = false → prR f a b 17 k = List.replicate (triN 18) 0
  | 0, _ => rfl
  | k + 1, h => by
    unfold smB at h
    split at h
    · cases h
    · rename_i hn
      rw [prR, if_neg hn]
      exact smB_no k h
theorem redR_zero {L : Rws} {m : Nat} : ∀ n p, redR L n (List.replicate m 0) p = none
  | 0, _ => rfl
  | n + 1, p => by
    rw [redR, if_pos]
    · exact redR_zero n (p + 1)
    · unfold geti
      rw [List.getD_eq_getElem?_getD, List.getElem?_replicate]; split <;> rfl
theorem addR_zero {L : Rws} {m : Nat} : addR L (List.replicate m 0) = L := by unfold addR; rw [redR_zero]

set_option maxHeartbeats 16000000 in
theorem l17Counts_c (fs : List (List (List Int))) (hf : ∀ f ∈ fs, PoO f ∧ f.length ≤ 200) (hn : fs.length ≤ 1000) : AFn Try.prog 86 [.ro (polsRo fs)] (IsInts 2 (cntL (isLd fs) 18)) := by
  have h171 : triN 18 = 171 := rfl
  have h171' : triN (17 + 1) = 171 := rfl
  (refine AFn.start Try.func86 Try.ntmps86 rfl (by kernel_rfl) fun hk => ?_; simp only [Env.start, enumF, List.length_cons, List.length_nil, Nat.reduceAdd, Nat.reduceSub, List.cons_append, List.nil_append])
  repeat' (first | (apply AOps.nil; try simp only [List.nil_append, List.cons_append, List.set_cons_zero, List.set_cons_succ, List.length_cons, List.length_nil, Nat.reduceAdd, AV.sh, AV.sh1, AV.sh0, AO.sh, List.map_cons, List.map_nil, Nat.zero_add, Nat.add_zero, setAll]) | (apply w_move; exact rfl; exact rfl) | (apply w_assign; exact rfl; exact rfl) | apply AWp.seq | apply AWp.region | apply AWp.block | ((first | apply w_bsr0 | apply w_bs0); iterate 1 exact rfl) | ((first | apply w_add | apply w_mul); iterate 3 exact rfl) | (apply w_quo; exact rfl; exact rfl; exact rfl; (focus (omega; done)); (focus (omega; done))) | (apply inI_of <;> omega))
  refine AWp.loop (ι := Nat) (fun n => ⟨139, [(0, .ro (polsRo fs)), (3, .i 17), (4, .i 171), (5, .own 0), (6, .own 1), (7, .i n)]⟩) (fun n => [.sls 22 2 (rowsOf (cnF fs 17 (fun _ => 18) n)), .sli 2 (valsOf (cnF fs 17 (fun _ => 18) n))]) (fun n => n ≤ fs.length) (fun n => fs.length - n) 0 (by omega) ⟨lee rfl (by (repeat (first | exact le_nil | refine le_eq rfl rfl ?_))), by (repeat (first | exact lo_nil | refine lo_eq rfl ?_)), rfl, rfl⟩ ?_
  rintro n hn0
  by_cases hn1 : n < fs.length
  · have hm : fs.getD n [] ∈ fs := getD_mem hn1
    have hcn : cnF fs 17 (fun _ => 18) (n + 1) = cnA (fs.getD n []) 17 18 (cnF fs 17 (fun _ => 18) n) 18 := rfl
    have hLn := cnF_ok (fun n hn => (hf _ (getD_mem hn)).1.r) 17 (fun _ => 18) n (by omega)
    obtain ⟨hp, hpl⟩ := hf _ hm
    obtain ⟨f, hfe⟩ : ∃ f, f = fs.getD n [] := ⟨_, rfl⟩
    have hfe2 : fs.getD ((n : Nat) : Int).toNat [] = f := hfe.symm
    rw [← hfe] at hm hcn hp hpl
    generalize hL0 : cnF fs 17 (fun _ => 18) n = L0 at hcn hLn
    repeat' (first | (apply AOps.nil; try simp only [List.nil_append, List.cons_append, List.set_cons_zero, List.set_cons_succ, List.length_cons, List.length_nil, Nat.reduceAdd, AV.sh, AV.sh1, AV.sh0, AO.sh, List.map_cons, List.map_nil, Nat.zero_add, Nat.add_zero, setAll]) | (apply w_move; exact rfl; exact rfl) | (apply w_assign; exact rfl; exact rfl) | apply AWp.seq | apply AWp.region | ((apply AWp.condP; exact rfl) <;> intro h) | apply AWp.block | apply AWp.exit | apply AWp.skip | ((apply w_lenps); iterate 2 exact rfl) | omega | ((apply w_lss); iterate 3 exact rfl))
    refine AWp.loop (ι := Nat) (fun a => ⟨139, [(0, .ro (polsRo fs)), (3, .i 17), (4, .i 171), (5, .own 0), (6, .own 1), (7, .i n), (8, .i a)]⟩) (fun a => [.sls 22 2 (rowsOf (cnA f 17 18 L0 a)), .sli 2 (valsOf (cnA f 17 18 L0 a))]) (fun a => a ≤ 18) (fun a => 18 - a) 0 (by omega) ⟨lee rfl (by (repeat (first | exact le_nil | refine le_eq rfl rfl ?_))), by (repeat (first | exact lo_nil | refine lo_eq rfl ?_)), rfl, rfl⟩ ?_
    rintro a ha0
    by_cases ha1 : a < 18
    · have hLa := cnA_ok hp.r 17 18 hLn a
      have hca : cnA f 17 18 L0 (a + 1) = cnB f 17 a (cnA f 17 18 L0 a) (18 - a) := rfl
      generalize cnA f 17 18 L0 a = La at hLa hca
      repeat' (first | (apply AOps.nil; try simp only [List.nil_append, List.cons_append, List.set_cons_zero, List.set_cons_succ, List.length_cons, List.length_nil, Nat.reduceAdd, AV.sh, AV.sh1, AV.sh0, AO.sh, List.map_cons, List.map_nil, Nat.zero_add, Nat.add_zero, setAll]) | (apply w_move; exact rfl; exact rfl) | (apply w_assign; exact rfl; exact rfl) | apply AWp.seq | apply AWp.region | ((apply AWp.condP; exact rfl) <;> intro h) | apply AWp.block | apply AWp.exit | apply AWp.skip | omega | ((apply w_leq); iterate 3 exact rfl))
      refine AWp.loopS (ι := Nat) (fun b => ⟨139, [(0, .ro (polsRo fs)), (3, .i 17), (4, .i 171), (5, .own 0), (6, .own 1), (7, .i n), (8, .i a), (9, .i b)]⟩) (fun b => [.sls 22 2 (rowsOf (cnB f 17 a La b)), .sli 2 (valsOf (cnB f 17 a La b))]) (fun b => b ≤ 18 - a) (fun b => 18 - a - b) 0 (Nat.zero_le _) ⟨lee rfl (by (repeat (first | exact le_nil | refine le_eq rfl rfl ?_))), by (repeat (first | exact lo_nil | refine lo_eq rfl ?_)), rfl, rfl⟩ ?_
      rintro b hb0
      by_cases hb1 : b < 18 - a
      · have hLb := cnB_ok hp.r 17 a hLa b
        have hLbl := hLb.len
        have hcb : cnB f 17 a La (b + 1) = addR (cnB f 17 a La b) (prR f a b 17 f.length) := rfl
        have hred := l17Reduce_c (triN 18) (cnB f 17 a La b) hLb.ok (by omega) (prR f a b 17 f.length) (prR_len _ _ _ _ _) (by omega) (prR_in hp.r _ _ _ _ (Nat.le_refl _))
        rw [← hcb] at hred
        have e0 : List.replicate (171 : Int).toNat (0 : Int) = prR f a b 17 0 := rfl
        generalize hLB : cnB f 17 a La b = LB at hred hLb hLbl hcb
        repeat' (first | (apply AOps.nil; try simp only [List.nil_append, List.cons_append, List.set_cons_zero, List.set_cons_succ, List.length_cons, List.length_nil, Nat.reduceAdd, AV.sh, AV.sh1, AV.sh0, AO.sh, List.map_cons, List.map_nil, Nat.zero_add, Nat.add_zero, setAll]) | (apply w_move; exact rfl; exact rfl) | (apply w_assign; exact rfl; exact rfl) | apply AWp.seq | apply AWp.region | ((apply AWp.condP; exact rfl) <;> intro h) | apply AWp.block | apply AWp.exit | apply AWp.skip | omega | ((first | apply w_leq | apply w_add); iterate 3 exact rfl) | (apply w_mki; exact rfl; exact rfl; rotate_left 3; exact rfl; rotate_left 1) | (apply inI_of <;> omega))
        refine AWp.loop (ι := Nat) (fun k => ⟨139, [(0, .ro (polsRo fs)), (3, .i 17), (4, .i 171), (5, .own 0), (6, .own 1), (7, .i n), (8, .i a), (9, .i b), (10, .own 2), (11, .b (smB f a b k)), (12, .i k)]⟩) (fun k => [.sls 22 2 (rowsOf LB), .sli 2 (valsOf LB), .sli 2 (prR f a b 17 k)]) (fun k => k ≤ f.length) (fun k => f.length - k) 0 (Nat.zero_le _) ⟨lee rfl (by (repeat (first | exact le_nil | refine le_eq rfl rfl ?_))), by (repeat (first | exact lo_nil | refine lo_eq rfl ?_)), rfl, rfl⟩ ?_
        rintro k hk0
        have hpl2 := prR_len f a b 17 k
        by_cases hk1 : k < f.length
        · obtain ⟨t0, t1, t2, t3⟩ := hp.r k hk1
          by_cases hle : geti (gets f (k : Nat)) 0 + geti (gets f (k : Nat)) 1 + a + b ≤ (17 : Nat)
          · have hpr : prR f a b 17 (k + 1) = (prR f a b 17 k).set (plN (geti (gets f (k : Nat)) 0 + a).toNat (geti (gets f (k : Nat)) 1 + b).toNat) (geti (gets f (k : Nat)) 2) := by rw [prR, if_pos hle]
            have hsm : smB f a b (k + 1) = true := by rw [smB, if_pos hle]
            have hcol := l17Place_c (geti (gets f (k : Nat)) 0 + a) (geti (gets f (k : Nat)) 1 + b) (by omega) (by omega)
            have hlt := plN_lt (i := (geti (gets f (k : Nat)) 0 + a).toNat) (j := (geti (gets f (k : Nat)) 1 + b).toNat) (M := 17) (by omega)
            unfold plI at hcol
            repeat' (first | (apply AOps.nil; try simp only [List.nil_append, List.cons_append, List.set_cons_zero, List.set_cons_succ, List.length_cons, List.length_nil, Nat.reduceAdd, AV.sh, AV.sh1, AV.sh0, AO.sh, List.map_cons, List.map_nil, Nat.zero_add, Nat.add_zero, setAll]) | (apply w_move; exact rfl; exact rfl) | (apply w_assign; exact rfl; exact rfl) | apply AWp.seq | apply AWp.region | ((apply AWp.condP; exact rfl) <;> intro h) | ((apply AWp.condB; exact rfl) <;> intro h) | apply AWp.block | apply AWp.exit | apply AWp.skip | (apply w_len; exact rfl; exact rfl; first | exact .ints _ | exact .intss _ | exact .sli rfl | exact .sls rfl | exact .slr rfl | exact .orow rfl | exact .nil) | ((apply w_faps); iterate 2 exact rfl) | (apply w_ldpt; iterate 3 exact rfl) | (apply w_idxps; iterate 3 exact rfl) | (rw [hfe2]) | omega | ((first | apply w_lss | apply w_idx | apply w_ld); iterate 3 exact rfl) | ((first | apply w_idxs | apply w_lds); iterate 3 exact rfl))
            (apply AWp.regionQ; kernel_rfl; kernel_rfl)
            repeat' (first | (apply AOps.nil; try simp only [List.nil_append, List.cons_append, List.set_cons_zero, List.set_cons_succ, List.length_cons, List.length_nil, Nat.reduceAdd, AV.sh, AV.sh1, AV.sh0, AO.sh, List.map_cons, List.map_nil, Nat.zero_add, Nat.add_zero, setAll]) | (apply w_move; exact rfl; exact rfl) | apply AWp.seq | apply AWp.region | ((apply AWp.condP; exact rfl) <;> intro h) | apply AWp.skip | omega | ((first | apply w_leq | apply w_add | apply w_idx | apply w_ld); iterate 3 exact rfl) | (apply inI_of <;> omega))
            refine AWp.regionA (by kernel_rfl) (envC := ⟨139, [(0, .ro (polsRo fs)), (3, .i 17), (4, .i 171), (5, .own 0), (6, .own 1), (7, .i n), (8, .i a), (9, .i b), (10, .own 2), (12, .i k)]⟩) (osC := [.sls 22 2 (rowsOf LB), .sli 2 (valsOf LB), .sli 2 ((prR f a b 17 k).set (((plN (geti (gets f (k : Nat)) 0 + a).toNat (geti (gets f (k : Nat)) 1 + b).toNat : Nat) : Int)).toNat (geti (gets f (k : Nat)) 2))]) rfl rfl ?_ ?_
            · repeat' (first | (apply AOps.nil; try simp only [List.nil_append, List.cons_append, List.set_cons_zero, List.set_cons_succ, List.length_cons, List.length_nil, Nat.reduceAdd, AV.sh, AV.sh1, AV.sh0, AO.sh, List.map_cons, List.map_nil, Nat.zero_add, Nat.add_zero, setAll]) | (apply w_move; exact rfl; exact rfl) | (apply w_call (hcol); exact rfl; exact rfl; focus ((repeat (first | exact im_nil | refine im_cons rfl (.val _) ?_)); done)) | omega | ((first | apply w_add | apply w_idx | apply w_ld); iterate 3 exact rfl) | (apply w_idxo; exact rfl; exact rfl; (exact .sli rfl); exact rfl) | (apply w_sti; exact rfl; exact rfl; rotate_left 1; exact rfl; rotate_left 2) | apply AllOf.nil | (apply AllOf.cons; exact rfl) | (apply AAny.take; exact rfl; exact rfl; kernel_rfl; kernel_rfl) | (apply AAny.all; exact rfl) | (apply AAny.done; exact rfl) | (apply inI_of <;> omega))
              all_goals (apply Or.inl; refine ⟨lee rfl ?_, ?_, rfl, rfl⟩; (focus ((repeat (first | exact le_nil | refine le_eq rfl rfl ?_)); done)); (focus ((repeat (first | exact lo_nil | refine lo_eq rfl ?_)); done)))
            repeat' (first | (apply AOps.nil; try simp only [List.nil_append, List.cons_append, List.set_cons_zero, List.set_cons_succ, List.length_cons, List.length_nil, Nat.reduceAdd, AV.sh, AV.sh1, AV.sh0, AO.sh, List.map_cons, List.map_nil, Nat.zero_add, Nat.add_zero, setAll]) | (apply w_move; exact rfl; exact rfl) | (apply w_assign; exact rfl; exact rfl) | apply AWp.region | ((apply w_add); iterate 3 exact rfl) | (apply inI_of <;> omega))
            exact ⟨k + 1, hk1, by omega, by rw [hsm]; exact ⟨lee rfl (by (repeat (first | exact le_nil | refine le_eq rfl rfl ?_))), by (repeat (first | exact lo_nil | refine lo_eq rfl ?_ | refine lo_eq (congrArg (AO.sli _) (hpr.symm)) ?_)), rfl, rfl⟩⟩
          · have hpr : prR f a b 17 (k + 1) = prR f a b 17 k := by rw [prR, if_neg hle]
            have hsm : smB f a b (k + 1) = smB f a b k := by rw [smB, if_neg hle]
            repeat' (first | (apply AOps.nil; try simp only [List.nil_append, List.cons_append, List.set_cons_zero, List.set_cons_succ, List.length_cons, List.length_nil, Nat.reduceAdd, AV.sh, AV.sh1, AV.sh0, AO.sh, List.map_cons, List.map_nil, Nat.zero_add, Nat.add_zero, setAll]) | (apply w_move; exact rfl; exact rfl) | (apply w_assign; exact rfl; exact rfl) | apply AWp.seq | apply AWp.region | ((apply AWp.condP; exact rfl) <;> intro h) | ((apply AWp.condB; exact rfl) <;> intro h) | apply AWp.block | apply AWp.exit | apply AWp.skip | (apply w_len; exact rfl; exact rfl; first | exact .ints _ | exact .intss _ | exact .sli rfl | exact .sls rfl | exact .slr rfl | exact .orow rfl | exact .nil) | ((apply w_faps); iterate 2 exact rfl) | (apply w_ldpt; iterate 3 exact rfl) | (apply w_idxps; iterate 3 exact rfl) | (rw [hfe2]) | omega | ((first | apply w_lss | apply w_idx | apply w_ld); iterate 3 exact rfl) | ((first | apply w_idxs | apply w_lds); iterate 3 exact rfl))
            (apply AWp.regionQ; kernel_rfl; kernel_rfl)
            repeat' (first | (apply AOps.nil; try simp only [List.nil_append, List.cons_append, List.set_cons_zero, List.set_cons_succ, List.length_cons, List.length_nil, Nat.reduceAdd, AV.sh, AV.sh1, AV.sh0, AO.sh, List.map_cons, List.map_nil, Nat.zero_add, Nat.add_zero, setAll]) | (apply w_move; exact rfl; exact rfl) | (apply w_assign; exact rfl; exact rfl) | apply AWp.seq | apply AWp.region | ((apply AWp.condP; exact rfl) <;> intro h) | apply AWp.skip | omega | ((first | apply w_leq | apply w_add | apply w_idx | apply w_ld); iterate 3 exact rfl) | (apply inI_of <;> omega))
            exact ⟨k + 1, hk1, by omega, by rw [hsm]; exact ⟨lee rfl (by (repeat (first | exact le_nil | refine le_eq rfl rfl ?_))), by (repeat (first | exact lo_nil | refine lo_eq rfl ?_ | refine lo_eq (congrArg (AO.sli _) (hpr.symm)) ?_)), rfl, rfl⟩⟩
        · have ek : k = f.length := by omega
          subst ek
          cases hsm : smB f a b f.length with
          | true =>
            repeat' (first | (apply AOps.nil; try simp only [List.nil_append, List.cons_append, List.set_cons_zero, List.set_cons_succ, List.length_cons, List.length_nil, Nat.reduceAdd, AV.sh, AV.sh1, AV.sh0, AO.sh, List.map_cons, List.map_nil, Nat.zero_add, Nat.add_zero, setAll]) | (apply w_move; exact rfl; exact rfl) | (apply w_assign; exact rfl; exact rfl) | apply AWp.seq | apply AWp.region | ((apply AWp.condP; exact rfl) <;> intro h) | (apply AWp.condT; exact rfl) | apply AWp.block | apply AWp.exit | apply AWp.skip | (apply w_len; exact rfl; exact rfl; first | exact .ints _ | exact .intss _ | exact .sli rfl | exact .sls rfl | exact .slr rfl | exact .orow rfl | exact .nil) | ((apply w_faps); iterate 2 exact rfl) | (apply w_ldpt; iterate 3 exact rfl) | (apply w_idxps; iterate 3 exact rfl) | (apply w_callc [0, 1, 2] (hred); exact rfl; (exact handed3 rfl rfl rfl rfl True.intro True.intro True.intro); (focus ((repeat (first | exact imu_nil | refine imu_cons rfl (.own rfl) ?_)); done)); rintro r os0 ⟨rfl, rfl⟩; try simp only [List.nil_append, List.cons_append, List.set_cons_zero, List.set_cons_succ, List.length_cons, List.length_nil, Nat.reduceAdd, AV.sh, AV.sh1, AV.sh0, AO.sh, List.map_cons, List.map_nil, Nat.zero_add, Nat.add_zero, setAll]) | (rw [hfe2]) | omega | ((first | apply w_lss | apply w_add | apply w_extv); iterate 3 exact rfl) | ((apply w_ext); iterate 3 exact rfl) | (apply inI_of <;> omega))
            refine ⟨b + 1, by omega, by omega, ?_⟩
            (apply Or.inr; refine ⟨[3, 4], ⟨by decide, fun x hx => Nat.lt_of_lt_of_le ((by decide : ∀ x ∈ ([3, 4] : List Nat), x < 5) x hx) (Nat.le_of_ble_eq_true rfl)⟩, lee rfl ?_, ?_, rfl, rfl⟩; (focus ((repeat (first | exact le_nil | refine le_eq rfl rfl ?_)); done)); (focus ((repeat (first | exact lo_nil | refine lo_eq rfl ?_)); done)))
          | false =>
            have e1 : cnB f 17 a La (b + 1) = LB := by rw [hcb, smB_no _ hsm, addR_zero]
            repeat' (first | (apply AOps.nil; try simp only [List.nil_append, List.cons_append, List.set_cons_zero, List.set_cons_succ, List.length_cons, List.length_nil, Nat.reduceAdd, AV.sh, AV.sh1, AV.sh0, AO.sh, List.map_cons, List.map_nil, Nat.zero_add, Nat.add_zero, setAll]) | (apply w_move; exact rfl; exact rfl) | (apply w_assign; exact rfl; exact rfl) | apply AWp.seq | apply AWp.region | ((apply AWp.condP; exact rfl) <;> intro h) | (apply AWp.condF; exact rfl) | apply AWp.block | apply AWp.exit | apply AWp.skip | (apply w_len; exact rfl; exact rfl; first | exact .ints _ | exact .intss _ | exact .sli rfl | exact .sls rfl | exact .slr rfl | exact .orow rfl | exact .nil) | ((apply w_faps); iterate 2 exact rfl) | (apply w_ldpt; iterate 3 exact rfl) | (apply w_idxps; iterate 3 exact rfl) | (rw [hfe2]) | omega | ((first | apply w_lss | apply w_add); iterate 3 exact rfl) | (apply inI_of <;> omega))
            refine ⟨b + 1, by omega, by omega, .inl ?_⟩
            rw [e1]
            exact ⟨lee rfl (by (repeat (first | exact le_nil | refine le_eq rfl rfl ?_))), by (repeat (first | exact lo_nil | refine lo_eq rfl ?_)), rfl, rfl⟩
      · have eb : b = 18 - a := by omega
        subst eb
        repeat' (first | (apply AOps.nil; try simp only [List.nil_append, List.cons_append, List.set_cons_zero, List.set_cons_succ, List.length_cons, List.length_nil, Nat.reduceAdd, AV.sh, AV.sh1, AV.sh0, AO.sh, List.map_cons, List.map_nil, Nat.zero_add, Nat.add_zero, setAll]) | (apply w_move; exact rfl; exact rfl) | (apply w_assign; exact rfl; exact rfl) | apply AWp.seq | apply AWp.region | ((apply AWp.condP; exact rfl) <;> intro h) | apply AWp.block | apply AWp.exit | apply AWp.skip | omega | ((first | apply w_leq | apply w_add); iterate 3 exact rfl) | (apply inI_of <;> omega))
        exact ⟨a + 1, by omega, by omega, by rw [hca]; exact ⟨lee rfl (by (repeat (first | exact le_nil | refine le_eq rfl rfl ?_))), by (repeat (first | exact lo_nil | refine lo_eq rfl ?_)), rfl, rfl⟩⟩
    · have ea : a = 18 := by omega
      subst ea
      repeat' (first | (apply AOps.nil; try simp only [List.nil_append, List.cons_append, List.set_cons_zero, List.set_cons_succ, List.length_cons, List.length_nil, Nat.reduceAdd, AV.sh, AV.sh1, AV.sh0, AO.sh, List.map_cons, List.map_nil, Nat.zero_add, Nat.add_zero, setAll]) | (apply w_move; exact rfl; exact rfl) | (apply w_assign; exact rfl; exact rfl) | apply AWp.seq | apply AWp.region | ((apply AWp.condP; exact rfl) <;> intro h) | apply AWp.block | apply AWp.exit | apply AWp.skip | omega | ((first | apply w_leq | apply w_add); iterate 3 exact rfl) | (apply inI_of <;> omega))
      exact ⟨n + 1, hn1, by omega, by rw [hcn]; exact ⟨lee rfl (by (repeat (first | exact le_nil | refine le_eq rfl rfl ?_))), by (repeat (first | exact lo_nil | refine lo_eq rfl ?_)), rfl, rfl⟩⟩
  · have en : n = fs.length := by omega
    subst en
    have hL := cnF_ok (fun n hn => (hf _ (getD_mem hn)).1.r) 17 (fun _ => 18) fs.length (Nat.le_refl _)
    have hld : ∀ p : Nat, (fndR (cnF fs 17 (fun _ => 18) fs.length) (p : Nat)).isSome = isLd fs p := fun p => ld_S (fun f hf2 => (hf f hf2).1) p
    generalize cnF fs 17 (fun _ => 18) fs.length = L at hL hld
    have hLl := hL.len
    have hvl := valsOf_len L
    repeat' (first | (apply AOps.nil; try simp only [List.nil_append, List.cons_append, List.set_cons_zero, List.set_cons_succ, List.length_cons, List.length_nil, Nat.reduceAdd, AV.sh, AV.sh1, AV.sh0, AO.sh, List.map_cons, List.map_nil, Nat.zero_add, Nat.add_zero, setAll]) | (apply w_move; exact rfl; exact rfl) | (apply w_assign; exact rfl; exact rfl) | apply AWp.seq | apply AWp.region | ((apply AWp.condP; exact rfl) <;> intro h) | apply AWp.block | apply AWp.exit | apply AWp.skip | ((apply w_lenps); iterate 2 exact rfl) | omega | ((apply w_lss); iterate 3 exact rfl) | (apply w_bs0; iterate 1 exact rfl))
    refine AWp.loop (ι := Nat) (fun d => ⟨139, [(3, .i 17), (6, .own 1), (14, .own 2), (15, .i d)]⟩) (fun d => [.dead, .sli 2 (valsOf L), .sli 2 (cntL (isLd fs) d)]) (fun d => d ≤ 18) (fun d => 18 - d) 0 (by omega) ⟨lee rfl (by (repeat (first | exact le_nil | refine le_eq rfl rfl ?_))), by (repeat (first | exact lo_nil | refine lo_dead ?_ | refine lo_eq rfl ?_)), rfl, rfl⟩ ?_
    rintro d hd0
    have hcl := cntL_len (isLd fs) d
    by_cases hd1 : d < 18
    · have hpk := pk_tk hL d
      rw [tkN_congr (Q := isLd fs) d (d + 1) fun j hj => hld (triN d + j)] at hpk
      have t1 := triN_int (d : Int) (by omega)
      have t2 := triN_int ((d : Int) + 1) (by omega)
      rw [Int.toNat_natCast] at t1
      rw [show ((d : Int) + 1).toNat = d + 1 by omega, show (d : Int) + 1 + 1 = (d : Int) + 2 by omega] at t2
      have t3 := triN_mono (show d + 1 ≤ 18 by omega)
      have t4 := triN_mono (show d ≤ 18 by omega)
      repeat' (first | (apply AOps.nil; try simp only [List.nil_append, List.cons_append, List.set_cons_zero, List.set_cons_succ, List.length_cons, List.length_nil, Nat.reduceAdd, AV.sh, AV.sh1, AV.sh0, AO.sh, List.map_cons, List.map_nil, Nat.zero_add, Nat.add_zero, setAll]) | (apply w_move; exact rfl; exact rfl) | (apply w_assign; exact rfl; exact rfl) | apply AWp.seq | apply AWp.region | ((apply AWp.condP; exact rfl) <;> intro h) | apply AWp.block | apply AWp.ret | apply AWp.exit | apply AWp.skip | omega | ((first | apply w_leq | apply w_add); iterate 3 exact rfl) | (apply inI_of <;> omega))
      refine AWp.loop (ι := Nat) (fun k => ⟨139, [(3, .i 17), (6, .own 1), (14, .own 2), (15, .i d), (16, .i ((d : Int) + 1 - (pkN L d k : Int))), (17, .i k)]⟩) (fun k => [.dead, .sli 2 (valsOf L), .sli 2 (cntL (isLd fs) d)]) (fun k => k ≤ L.length) (fun k => L.length - k) 0 (by omega) ?_ ?_
      · have e0 : (d : Int) + 1 - (pkN L d 0 : Int) = (d : Int) + 1 := by simp [pkN]
        exact ⟨lee rfl (by (repeat (first | exact le_nil | refine le_eq rfl rfl ?_))), by (repeat (first | exact lo_nil | refine lo_dead ?_ | refine lo_eq rfl ?_)), rfl, rfl⟩
      rintro k hk0
      have hple := pkN_le L d k
      by_cases hk1 : k < L.length
      · have q : AFnV Try.prog 37 [.i (geti (valsOf L) (((k : Nat) : Int).toNat : Nat)), .i ((d : Int) * ((d : Int) + 1) / 2), .i (((d : Int) + 1) * ((d : Int) + 2) / 2 - 1)] (.bool (decide ((triN d : Int) ≤ geti (valsOf L) (k : Nat) ∧ geti (valsOf L) (k : Nat) ≤ (triN (d + 1) : Int) - 1))) := by
          have q0 := l01In_c (geti (valsOf L) (((k : Nat) : Int).toNat : Nat)) ((d : Int) * ((d : Int) + 1) / 2) (((d : Int) + 1) * ((d : Int) + 2) / 2 - 1)
          have e : decide ((d : Int) * ((d : Int) + 1) / 2 ≤ geti (valsOf L) (((k : Nat) : Int).toNat : Nat) ∧ geti (valsOf L) (((k : Nat) : Int).toNat : Nat) ≤ ((d : Int) + 1) * ((d : Int) + 2) / 2 - 1) = decide ((triN d : Int) ≤ geti (valsOf L) (k : Nat) ∧ geti (valsOf L) (k : Nat) ≤ (triN (d + 1) : Int) - 1) := by
            rw [show (d : Int) * ((d : Int) + 1) / 2 = (triN d : Int) by omega, show ((d : Int) + 1) * ((d : Int) + 2) / 2 = (triN (d + 1) : Int) by omega, Int.toNat_natCast]
          rw [e] at q0
          exact q0
        by_cases hin : (triN d : Int) ≤ geti (valsOf L) (k : Nat) ∧ geti (valsOf L) (k : Nat) ≤ (triN (d + 1) : Int) - 1
        · have e1 : pkN L d (k + 1) = pkN L d k + 1 := by rw [pkN, if_pos hin]
          rw [decide_eq_true hin] at q
          repeat' (first | (apply AOps.nil; try simp only [List.nil_append, List.cons_append, List.set_cons_zero, List.set_cons_succ, List.length_cons, List.length_nil, Nat.reduceAdd, AV.sh, AV.sh1, AV.sh0, AO.sh, List.map_cons, List.map_nil, Nat.zero_add, Nat.add_zero, setAll]) | (apply w_move; exact rfl; exact rfl) | (apply w_assign; exact rfl; exact rfl) | apply AWp.seq | apply AWp.region | ((apply AWp.condP; exact rfl) <;> intro h) | (apply AWp.condT; exact rfl) | apply AWp.block | apply AWp.exit | apply AWp.skip | (apply w_len; exact rfl; exact rfl; first | exact .ints _ | exact .intss _ | exact .sli rfl | exact .sls rfl | exact .slr rfl | exact .orow rfl | exact .nil) | (apply w_call (q); exact rfl; exact rfl; focus ((repeat (first | exact im_nil | refine im_cons rfl (.val _) ?_)); done)) | omega | ((first | apply w_lss | apply w_add | apply w_sub | apply w_mul | apply w_idx | apply w_ld); iterate 3 exact rfl) | (apply w_quo; exact rfl; exact rfl; exact rfl; (focus (omega; done)); (focus (omega; done))) | (apply w_idxo; exact rfl; exact rfl; (exact .sli rfl); exact rfl) | (apply w_ldo; iterate 4 exact rfl) | (apply inI_of <;> omega))
          exact ⟨k + 1, hk1, by omega, ⟨lee rfl (by (repeat (first | exact le_nil | refine le_eq rfl rfl ?_ | refine le_eq rfl (congrArg AV.i (by omega)) ?_))), by (repeat (first | exact lo_nil | refine lo_dead ?_ | refine lo_eq rfl ?_)), rfl, rfl⟩⟩
        · have e1 : pkN L d (k + 1) = pkN L d k := by rw [pkN, if_neg hin]; rfl
          rw [decide_eq_false hin] at q
          repeat' (first | (apply AOps.nil; try simp only [List.nil_append, List.cons_append, List.set_cons_zero, List.set_cons_succ, List.length_cons, List.length_nil, Nat.reduceAdd, AV.sh, AV.sh1, AV.sh0, AO.sh, List.map_cons, List.map_nil, Nat.zero_add, Nat.add_zero, setAll]) | (apply w_move; exact rfl; exact rfl) | (apply w_assign; exact rfl; exact rfl) | apply AWp.seq | apply AWp.region | ((apply AWp.condP; exact rfl) <;> intro h) | (apply AWp.condF; exact rfl) | apply AWp.block | apply AWp.exit | apply AWp.skip | (apply w_len; exact rfl; exact rfl; first | exact .ints _ | exact .intss _ | exact .sli rfl | exact .sls rfl | exact .slr rfl | exact .orow rfl | exact .nil) | (apply w_call (q); exact rfl; exact rfl; focus ((repeat (first | exact im_nil | refine im_cons rfl (.val _) ?_)); done)) | omega | ((first | apply w_lss | apply w_add | apply w_sub | apply w_mul | apply w_idx | apply w_ld); iterate 3 exact rfl) | (apply w_quo; exact rfl; exact rfl; exact rfl; (focus (omega; done)); (focus (omega; done))) | (apply w_idxo; exact rfl; exact rfl; (exact .sli rfl); exact rfl) | (apply w_ldo; iterate 4 exact rfl) | (apply inI_of <;> omega))
          exact ⟨k + 1, hk1, by omega, ⟨lee rfl (by (repeat (first | exact le_nil | refine le_eq rfl rfl ?_ | refine le_eq rfl (congrArg AV.i (by omega)) ?_))), by (repeat (first | exact lo_nil | refine lo_dead ?_ | refine lo_eq rfl ?_)), rfl, rfl⟩⟩
      · have ek : k = L.length := by omega
        subst ek
        have hh := hcN_int (isLd fs) d
        rw [← hpk] at hh
        have e9 : cntL (isLd fs) d ++ [(d : Int) + 1 - (pkN L d L.length : Int)] = cntL (isLd fs) (d + 1) := by rw [← hh]; rfl
        repeat' (first | (apply AOps.nil; try simp only [List.nil_append, List.cons_append, List.set_cons_zero, List.set_cons_succ, List.length_cons, List.length_nil, Nat.reduceAdd, AV.sh, AV.sh1, AV.sh0, AO.sh, List.map_cons, List.map_nil, Nat.zero_add, Nat.add_zero, setAll]) | (apply w_move; exact rfl; exact rfl) | (apply w_assign; exact rfl; exact rfl) | apply AWp.seq | apply AWp.region | ((apply AWp.condP; exact rfl) <;> intro h) | apply AWp.block | apply AWp.exit | apply AWp.skip | (apply w_len; exact rfl; exact rfl; first | exact .ints _ | exact .intss _ | exact .sli rfl | exact .sls rfl | exact .slr rfl | exact .orow rfl | exact .nil) | omega | ((first | apply w_lss | apply w_add); iterate 3 exact rfl) | ((apply w_bs1); iterate 2 exact rfl) | (apply w_app; exact rfl; exact rfl; exact rfl; exact rfl; (exact .sli rfl); rotate_left 1; simp only [Env.mp, List.map_cons, List.map_nil, List.set_cons_zero, List.set_cons_succ, AV.kill, AV.kill1, AO.kill, AV.noRow, AV.noRow1, AO.via, reduceIte, Nat.reduceEqDiff, Nat.reduceLT, Env.up, Nat.zero_ne_one, Nat.one_ne_zero, Nat.reduceAdd, List.cons_append, List.nil_append]; rotate_left 1) | (apply inI_of <;> omega) | (simp <;> omega))
        exact ⟨d + 1, by omega, by omega, ⟨lee rfl (by (repeat (first | exact le_nil | refine le_eq rfl rfl ?_))), by (repeat (first | exact lo_nil | refine lo_dead ?_ | refine lo_eq rfl ?_ | refine lo_eq (congrArg (AO.sli _) (e9)) ?_)), rfl, rfl⟩⟩
    · have ed : d = 18 := by omega
      subst ed
      repeat' (first | (apply AOps.nil; try simp only [List.nil_append, List.cons_append, List.set_cons_zero, List.set_cons_succ, List.length_cons, List.length_nil, Nat.reduceAdd, AV.sh, AV.sh1, AV.sh0, AO.sh, List.map_cons, List.map_nil, Nat.zero_add, Nat.add_zero, setAll]) | (apply w_move; exact rfl; exact rfl) | (apply w_assign; exact rfl; exact rfl) | apply AWp.seq | apply AWp.region | ((apply AWp.condP; exact rfl) <;> intro h) | apply AWp.block | apply AWp.ret | apply AWp.exit | apply AWp.skip | omega | ((apply w_leq); iterate 3 exact rfl))
      exact ⟨_, _, _, .v1 Try.results86 rfl, .sli rfl, rfl, rfl⟩
end Go.Proofs.Ytifkgmbghcmdeaa
/-
  Local algebras: the counts up to the last one that is not 0. No condition but bounds.
-/
namespace Go.Proofs.Ytifkgmbghcmdeaa
open Go Go.RowKit
attribute [local irreducible] AWp AOps ResIs Ret1 QOp LOp COp AFnV AFn Imms LeE LeO
set_option maxHeartbeats 1000000
set_option linter.unusedSimpArgs false
set_option linter.unusedVariables false

theorem geti_snoc (l : List Int) (x : Int) (i : Nat) : geti (l ++ [x]) (i : Nat) = if i < l.length then geti l (i : Nat) else if i = l.length then x else 0 := by
  rw [geti_app]
  split
  · rfl
  · split
    · rename_i h; subst h; simp [geti]
    · rw [geti_out]; simp; omega
theorem geti_cnt (P : Nat → Bool) : ∀ (n d : Nat), d < n → geti (cntL P n) (d : Nat) = (hcN P d : Int)
  | n + 1, d, h => by
    rw [cntL, geti_snoc, cntL_len]
    by_cases e : d < n
    · rw [if_pos e]; exact geti_cnt P n d e
    · rw [if_neg e, if_pos (by omega), show d = n by omega]
theorem take_cnt (P : Nat → Bool) : ∀ (n d : Nat), d ≤ n → (cntL P n).take d = cntL P d
  | 0, d, h => by
    have : d = 0 := by omega
    subst this; rfl
  | n + 1, d, h => by
    by_cases e : d = n + 1
    · subst e; rw [List.take_of_length_le (by rw [cntL_len]; exact Nat.le_refl _)]
    · rw [cntL, List.take_append_of_le_length (by rw [cntL_len]; omega)]
      exact take_cnt P n d (by omega)
/-- The sum of the first n counts. -/
def sumH (P : Nat → Bool) : Nat → Nat
  | 0 => 0
  | n + 1 => sumH P n + hcN P n
/-- Nothing stops the scan below n. -/
def goOn (P : Nat → Bool) (n : Nat) : Prop := ∀ j, j < n → hcN P j ≠ 0 ∧ sumH P (j + 1) ≤ 16
def isStop (P : Nat → Bool) (d : Nat) : Prop := (hcN P d = 0 ∨ 16 < sumH P (d + 1)) ∧ goOn P d
theorem goOn_le {P : Nat → Bool} : ∀ n, goOn P n → n ≤ sumH P n
  | 0, _ => Nat.le_refl _
  | n + 1, h => by
    have := goOn_le n fun j hj => h j (by omega)
    have := (h n (by omega)).1
    rw [sumH]; omega
theorem goOn_17 {P : Nat → Bool} (h : goOn P 17) : False := by
  have h1 := goOn_le 17 h
  have h2 := (h 16 (by omega)).2
  simp only [show 16 + 1 = 17 from rfl] at h2
  omega
theorem stop_uniq {P : Nat → Bool} {a b : Nat} (h1 : isStop P a) (h2 : isStop P b) : a = b := by
  rcases Nat.lt_trichotomy a b with h | h | h
  · have := h2.2 a h; rcases h1.1 with e | e <;> omega
  · exact h
  · have := h1.2 b h; rcases h2.1 with e | e <;> omega
theorem goOn_succ {P : Nat → Bool} {n : Nat} (h : goOn P n) (h0 : hcN P n ≠ 0) (h1 : sumH P (n + 1) ≤ 16) : goOn P (n + 1) := fun j hj => by
  by_cases e : j = n
  · subst e; exact ⟨h0, h1⟩
  · exact h j (by omega)
open Classical in
noncomputable def stopN (P : Nat → Bool) : Nat := if h : ∃ d, isStop P d then Classical.choose h else 0
theorem stopN_eq {P : Nat → Bool} {d : Nat} (h : isStop P d) : stopN P = d := by
  have hx : ∃ d, isStop P d := ⟨d, h⟩
  unfold stopN
  rw [dif_pos hx]
  exact stop_uniq (Classical.choose_spec hx) h
/-- The error, and the counts. -/
noncomputable def locE (P : Nat → Bool) : Int := if hcN P (stopN P) = 0 then 0 else 3
noncomputable def locL (P : Nat → Bool) : List Int := if hcN P (stopN P) = 0 then cntL P (stopN P) else []
theorem loc_zero {P : Nat → Bool} {d : Nat} (h0 : hcN P d = 0) (hg : goOn P d) : locE P = 0 ∧ locL P = cntL P d := by
  have e := stopN_eq (P := P) (d := d) ⟨.inl h0, hg⟩
  unfold locE locL
  rw [e, if_pos h0, if_pos h0]; exact ⟨rfl, rfl⟩
theorem loc_big {P : Nat → Bool} {d : Nat} (h0 : hcN P d ≠ 0) (h1 : 16 < sumH P (d + 1)) (hg : goOn P d) : locE P = 3 ∧ locL P = [] := by
  have e := stopN_eq (P := P) (d := d) ⟨.inr h1, hg⟩
  unfold locE locL
  rw [e, if_neg h0, if_neg h0]; exact ⟨rfl, rfl⟩
theorem hcN_le (P : Nat → Bool) (d : Nat) : hcN P d ≤ d + 1 := by unfold hcN; omega
theorem sumH_go {P : Nat → Bool} {n : Nat} (h : goOn P n) : sumH P n ≤ 16 := by
  cases n with
  | zero => simp [sumH]
  | succ n => exact (h n (by omega)).2

/-- A part of a list, and a code. -/
def IsPC (T : TypeId) (xs : List Int) (e : Int) (r : AV) (os : List AO) : Prop := if e = 0 then ∃ (cs : List Int) (d : Nat), d ≤ cs.length ∧ (cs.drop 0).take d = xs ∧ r = .tup [.osub 0 0 d, .i 0] ∧ os = [.sli T cs] else r = .tup [.val (.slice none 0 0), .i e] ∧ os = []
theorem isPC_0 {T : TypeId} {xs : List Int} : IsPC T xs 0 = fun r os => ∃ (cs : List Int) (d : Nat), d ≤ cs.length ∧ (cs.drop 0).take d = xs ∧ r = .tup [.osub 0 0 d, .i 0] ∧ os = [.sli T cs] := by
  funext r os; unfold IsPC; rw [if_pos rfl]
theorem isPC_n {T : TypeId} {xs : List Int} {e : Int} (h : e ≠ 0) : IsPC T xs e = fun r os => r = .tup [.val (.slice none 0 0), .i e] ∧ os = [] := by
  funext r os; unfold IsPC; rw [if_neg h]

set_option maxHeartbeats 8000000 in
theorem localCounts_c (fs : List (List (List Int))) (hf : ∀ f ∈ fs, PoO f ∧ f.length ≤ 200) (hn : fs.length ≤ 1000) : AFn Try.prog 52 [.ro (polsRo fs)] (IsPC 2 (locL (isLd fs)) (locE (isLd fs))) := by
  have hcu := fun M hM => countsUpTo_c fs hf hn M hM
  generalize isLd fs = P at hcu ⊢
  (refine AFn.start Try.func52 Try.ntmps52 rfl (by kernel_rfl) fun hk => ?_; simp only [Env.start, enumF, List.length_cons, List.length_nil, Nat.reduceAdd, Nat.reduceSub, List.cons_append, List.nil_append])
  repeat' (first | (apply AOps.nil; try simp only [List.nil_append, List.cons_append, List.set_cons_zero, List.set_cons_succ, List.length_cons, List.length_nil, Nat.reduceAdd, AV.sh, AV.sh1, AV.sh0, AO.sh, List.map_cons, List.map_nil, Nat.zero_add, Nat.add_zero, setAll]) | (apply w_assign; exact rfl; exact rfl) | apply AWp.seq | apply AWp.region | apply AWp.block)
  refine AWp.loopS (ι := Nat) (fun M => ⟨35, [(0, .ro (polsRo fs)), (4, .i M)]⟩) (fun M => []) (fun M => M = 4 ∨ M = 8 ∨ M = 16 ∨ (M = 32 ∧ goOn P 17)) (fun M => 32 - M) 4 (.inl rfl) ⟨lee rfl (by (repeat (first | exact le_nil | refine le_eq rfl rfl ?_))), by (repeat (exact lo_nil)), rfl, rfl⟩ ?_
  intro M hM
  by_cases hM2 : M ≤ 16
  · have hc := hcu M (by omega)
    have hcl := cntL_len P (M + 1)
    repeat' (first | (apply AOps.nil; try simp only [List.nil_append, List.cons_append, List.set_cons_zero, List.set_cons_succ, List.length_cons, List.length_nil, Nat.reduceAdd, AV.sh, AV.sh1, AV.sh0, AO.sh, List.map_cons, List.map_nil, Nat.zero_add, Nat.add_zero, setAll]) | (apply w_move; exact rfl; exact rfl) | (apply w_assign; exact rfl; exact rfl) | apply AWp.seq | apply AWp.region | ((apply AWp.condP; exact rfl) <;> intro h) | apply AWp.block | apply AWp.ret | apply AWp.exit | apply AWp.skip | (apply w_len; exact rfl; exact rfl; first | exact .ints _ | exact .intss _ | exact .sli rfl | exact .sls rfl | exact .slr rfl | exact .orow rfl | exact .nil) | (apply w_callm (hc); (focus ((repeat (first | exact im_nil | refine im_cons rfl (.ro _) ?_ | refine im_cons rfl (.val _) ?_)); done)); rintro r os0 ⟨rfl, rfl⟩; try simp only [List.nil_append, List.cons_append, List.set_cons_zero, List.set_cons_succ, List.length_cons, List.length_nil, Nat.reduceAdd, AV.sh, AV.sh1, AV.sh0, AO.sh, List.map_cons, List.map_nil, Nat.zero_add, Nat.add_zero, setAll]) | omega | ((apply w_leq); iterate 3 exact rfl))
    refine AWp.loop (ι := Nat) (fun d => ⟨35, [(0, .ro (polsRo fs)), (4, .i M), (5, .i (sumH P d : Int)), (6, .own 0), (16, .own 0), (17, .i (M + 1 : Nat)), (18, .i d)]⟩) (fun d => [.sli 2 (cntL P (M + 1))]) (fun d => d ≤ M + 1 ∧ goOn P d) (fun d => M + 1 - d) 0 ⟨by omega, fun j hj => by omega⟩ ?_ ?_
    · have e0 : ((cntL P (M + 1)).length : Int) = ((M + 1 : Nat) : Int) := by rw [hcl]
      exact ⟨lee rfl (by (repeat (first | exact le_nil | refine le_eq rfl rfl ?_ | refine le_eq rfl (congrArg AV.i (by omega)) ?_))), by (repeat (first | exact lo_nil | refine lo_eq rfl ?_)), rfl, rfl⟩
    rintro d ⟨hd0, hg⟩
    by_cases hd1 : d < M + 1
    · have hgc : geti (cntL P (M + 1)) (((d : Nat) : Int).toNat : Nat) = (hcN P d : Int) := by rw [Int.toNat_natCast]; exact geti_cnt P (M + 1) d hd1
      have hle := hcN_le P d
      have hs := sumH_go hg
      have hss : sumH P (d + 1) = sumH P d + hcN P d := rfl
      by_cases h0 : hcN P d = 0
      · obtain ⟨e1, e2⟩ := loc_zero h0 hg
        repeat' (first | (apply AOps.nil; try simp only [List.nil_append, List.cons_append, List.set_cons_zero, List.set_cons_succ, List.length_cons, List.length_nil, Nat.reduceAdd, AV.sh, AV.sh1, AV.sh0, AO.sh, List.map_cons, List.map_nil, Nat.zero_add, Nat.add_zero, setAll]) | (apply w_move; exact rfl; exact rfl) | (apply w_assign; exact rfl; exact rfl) | apply AWp.seq | apply AWp.region | ((apply AWp.condP; exact rfl) <;> intro h) | apply AWp.block | apply AWp.ret | apply AWp.exit | apply AWp.skip | (apply w_slice3; iterate 5 exact rfl) | (rw [hgc]) | omega | ((first | apply w_lss | apply w_eql | apply w_idx | apply w_ld); iterate 3 exact rfl) | (apply w_idxo; exact rfl; exact rfl; (exact .sli rfl); exact rfl) | (apply w_ldo; iterate 4 exact rfl))
        rw [e1, e2, isPC_0]
        exact ⟨_, _, _, .a2 Try.results52 rfl rfl, .tup2 (.osub rfl), _, d, by omega, by rw [List.drop_zero]; exact take_cnt P _ d (by omega), rfl, rfl⟩
      · by_cases h1 : 16 < sumH P (d + 1)
        · obtain ⟨e1, e2⟩ := loc_big h0 h1 hg
          repeat' (first | (apply AOps.nil; try simp only [List.nil_append, List.cons_append, List.set_cons_zero, List.set_cons_succ, List.length_cons, List.length_nil, Nat.reduceAdd, AV.sh, AV.sh1, AV.sh0, AO.sh, List.map_cons, List.map_nil, Nat.zero_add, Nat.add_zero, setAll]) | (apply w_move; exact rfl; exact rfl) | (apply w_assign; exact rfl; exact rfl) | apply AWp.seq | apply AWp.region | ((apply AWp.condP; exact rfl) <;> intro h) | apply AWp.block | apply AWp.ret | apply AWp.exit | apply AWp.skip | (apply w_slice3; iterate 5 exact rfl) | (rw [hgc]) | omega | ((first | apply w_lss | apply w_gtr | apply w_eql | apply w_add | apply w_idx | apply w_ld); iterate 3 exact rfl) | (apply w_idxo; exact rfl; exact rfl; (exact .sli rfl); exact rfl) | (apply w_ldo; iterate 4 exact rfl) | (apply inI_of <;> omega))
          rw [e1, e2, isPC_n (by decide)]
          exact ⟨_, _, _, .a2 Try.results52 rfl rfl, .tup2 (.val _), rfl, rfl⟩
        · repeat' (first | (apply AOps.nil; try simp only [List.nil_append, List.cons_append, List.set_cons_zero, List.set_cons_succ, List.length_cons, List.length_nil, Nat.reduceAdd, AV.sh, AV.sh1, AV.sh0, AO.sh, List.map_cons, List.map_nil, Nat.zero_add, Nat.add_zero, setAll]) | (apply w_move; exact rfl; exact rfl) | (apply w_assign; exact rfl; exact rfl) | apply AWp.seq | apply AWp.region | ((apply AWp.condP; exact rfl) <;> intro h) | apply AWp.block | apply AWp.ret | apply AWp.exit | apply AWp.skip | (apply w_slice3; iterate 5 exact rfl) | (rw [hgc]) | omega | ((first | apply w_lss | apply w_gtr | apply w_eql | apply w_add | apply w_idx | apply w_ld); iterate 3 exact rfl) | (apply w_idxo; exact rfl; exact rfl; (exact .sli rfl); exact rfl) | (apply w_ldo; iterate 4 exact rfl) | (apply inI_of <;> omega))
          exact ⟨d + 1, ⟨hd1, goOn_succ hg h0 (by omega)⟩, by omega, ⟨lee rfl (by (repeat (first | exact le_nil | refine le_eq rfl rfl ?_))), by (repeat (first | exact lo_nil | refine lo_eq rfl ?_)), rfl, rfl⟩⟩
    · have ed : d = M + 1 := by omega
      subst ed
      repeat' (first | (apply AOps.nil; try simp only [List.nil_append, List.cons_append, List.set_cons_zero, List.set_cons_succ, List.length_cons, List.length_nil, Nat.reduceAdd, AV.sh, AV.sh1, AV.sh0, AO.sh, List.map_cons, List.map_nil, Nat.zero_add, Nat.add_zero, setAll]) | (apply w_move; exact rfl; exact rfl) | (apply w_assign; exact rfl; exact rfl) | apply AWp.seq | apply AWp.region | ((apply AWp.condP; exact rfl) <;> intro h) | apply AWp.block | apply AWp.exit | apply AWp.skip | omega | ((first | apply w_lss | apply w_mul); iterate 3 exact rfl) | (apply inI_of <;> omega))
      refine ⟨2 * M, ?_, by omega, .inl ⟨lee rfl (by (repeat (first | exact le_nil | refine le_eq rfl rfl ?_ | refine le_eq rfl (congrArg AV.i (by omega)) ?_))), by (repeat (exact lo_nil)), rfl, rfl⟩⟩
      rcases hM with rfl | rfl | rfl | ⟨rfl, _⟩
      · exact .inr (.inl rfl)
      · exact .inr (.inr (.inl rfl))
      · exact .inr (.inr (.inr ⟨rfl, hg⟩))
      · omega
  · exfalso
    rcases hM with rfl | rfl | rfl | ⟨_, h⟩
    · omega
    · omega
    · omega
    · exact goOn_17 h

set_option maxHeartbeats 8000000 in
theorem l17Local_c (fs : List (List (List Int))) (hf : ∀ f ∈ fs, PoO f ∧ f.length ≤ 200) (hn : fs.length ≤ 1000) : AFn Try.prog 49 [.ro (polsRo fs)] (IsRC 2 (locL (isLd fs)) (locE (isLd fs))) := by
  have hc := l17Counts_c fs hf hn
  generalize isLd fs = P at hc ⊢
  have hcl := cntL_len P 18
  (refine AFn.start Try.func49 Try.ntmps49 rfl (by kernel_rfl) fun hk => ?_; simp only [Env.start, enumF, List.length_cons, List.length_nil, Nat.reduceAdd, Nat.reduceSub, List.cons_append, List.nil_append])
  repeat' (first | (apply AOps.nil; try simp only [List.nil_append, List.cons_append, List.set_cons_zero, List.set_cons_succ, List.length_cons, List.length_nil, Nat.reduceAdd, AV.sh, AV.sh1, AV.sh0, AO.sh, List.map_cons, List.map_nil, Nat.zero_add, Nat.add_zero, setAll]) | (apply w_move; exact rfl; exact rfl) | (apply w_assign; exact rfl; exact rfl) | apply AWp.seq | apply AWp.region | apply AWp.block | (apply w_callm (hc); (focus ((repeat (first | exact im_nil | refine im_cons rfl (.ro _) ?_)); done)); rintro r os0 ⟨rfl, rfl⟩; try simp only [List.nil_append, List.cons_append, List.set_cons_zero, List.set_cons_succ, List.length_cons, List.length_nil, Nat.reduceAdd, AV.sh, AV.sh1, AV.sh0, AO.sh, List.map_cons, List.map_nil, Nat.zero_add, Nat.add_zero, setAll]) | (apply w_bs0; iterate 1 exact rfl))
  refine AWp.loop (ι := Nat) (fun d => ⟨38, [(4, .own 0), (5, .i (sumH P d : Int)), (6, .own 1), (7, .i d)]⟩) (fun d => [.sli 2 (cntL P 18), .sli 2 (cntL P d)]) (fun d => d ≤ 17 ∧ goOn P d) (fun d => 18 - d) 0 ⟨by omega, fun j hj => by omega⟩ ⟨lee rfl (by (repeat (first | exact le_nil | refine le_eq rfl rfl ?_))), by (repeat (first | exact lo_nil | refine lo_eq rfl ?_)), rfl, rfl⟩ ?_
  rintro d ⟨hd0, hg⟩
  have hd1 : d < 17 := by
    rcases Nat.lt_or_ge d 17 with h | h
    · exact h
    · have : d = 17 := by omega
      subst this
      exact (goOn_17 hg).elim
  have hgc : geti (cntL P 18) (((d : Nat) : Int).toNat : Nat) = (hcN P d : Int) := by rw [Int.toNat_natCast]; exact geti_cnt P 18 d (by omega)
  have hle := hcN_le P d
  have hs := sumH_go hg
  have hss : sumH P (d + 1) = sumH P d + hcN P d := rfl
  have hcd := cntL_len P d
  by_cases h0 : hcN P d = 0
  · obtain ⟨e1, e2⟩ := loc_zero h0 hg
    repeat' (first | (apply AOps.nil; try simp only [List.nil_append, List.cons_append, List.set_cons_zero, List.set_cons_succ, List.length_cons, List.length_nil, Nat.reduceAdd, AV.sh, AV.sh1, AV.sh0, AO.sh, List.map_cons, List.map_nil, Nat.zero_add, Nat.add_zero, setAll]) | (apply w_move; exact rfl; exact rfl) | (apply w_assign; exact rfl; exact rfl) | apply AWp.seq | apply AWp.region | ((apply AWp.condP; exact rfl) <;> intro h) | apply AWp.block | apply AWp.ret | apply AWp.exit | apply AWp.skip | (apply w_len; exact rfl; exact rfl; first | exact .ints _ | exact .intss _ | exact .sli rfl | exact .sls rfl | exact .slr rfl | exact .orow rfl | exact .nil) | (rw [hgc]) | omega | ((first | apply w_lss | apply w_eql | apply w_idx | apply w_ld); iterate 3 exact rfl) | (apply w_idxo; exact rfl; exact rfl; (exact .sli rfl); exact rfl) | (apply w_ldo; iterate 4 exact rfl))
    rw [e1, e2]
    exact ⟨_, _, _, .a2 Try.results49 rfl rfl, .tup2 (.sli rfl), rfl, rfl⟩
  · by_cases h1 : 16 < sumH P (d + 1)
    · obtain ⟨e1, e2⟩ := loc_big h0 h1 hg
      repeat' (first | (apply AOps.nil; try simp only [List.nil_append, List.cons_append, List.set_cons_zero, List.set_cons_succ, List.length_cons, List.length_nil, Nat.reduceAdd, AV.sh, AV.sh1, AV.sh0, AO.sh, List.map_cons, List.map_nil, Nat.zero_add, Nat.add_zero, setAll]) | (apply w_move; exact rfl; exact rfl) | (apply w_assign; exact rfl; exact rfl) | apply AWp.seq | apply AWp.region | ((apply AWp.condP; exact rfl) <;> intro h) | apply AWp.block | apply AWp.ret | apply AWp.exit | apply AWp.skip | (apply w_len; exact rfl; exact rfl; first | exact .ints _ | exact .intss _ | exact .sli rfl | exact .sls rfl | exact .slr rfl | exact .orow rfl | exact .nil) | (rw [hgc]) | omega | ((first | apply w_lss | apply w_gtr | apply w_eql | apply w_add | apply w_idx | apply w_ld); iterate 3 exact rfl) | ((apply w_bs1); iterate 2 exact rfl) | (apply w_idxo; exact rfl; exact rfl; (exact .sli rfl); exact rfl) | (apply w_ldo; iterate 4 exact rfl) | (apply w_app; exact rfl; exact rfl; exact rfl; exact rfl; (exact .sli rfl); rotate_left 1; simp only [Env.mp, List.map_cons, List.map_nil, List.set_cons_zero, List.set_cons_succ, AV.kill, AV.kill1, AO.kill, AV.noRow, AV.noRow1, AO.via, reduceIte, Nat.reduceEqDiff, Nat.reduceLT, Env.up, Nat.zero_ne_one, Nat.one_ne_zero, Nat.reduceAdd, List.cons_append, List.nil_append]; rotate_left 1) | (apply inI_of <;> omega) | (simp <;> omega))
      rw [e1, e2]
      exact ⟨_, _, _, .a2 Try.results49 rfl rfl, .tup2 (.nil _), rfl, rfl⟩
    · repeat' (first | (apply AOps.nil; try simp only [List.nil_append, List.cons_append, List.set_cons_zero, List.set_cons_succ, List.length_cons, List.length_nil, Nat.reduceAdd, AV.sh, AV.sh1, AV.sh0, AO.sh, List.map_cons, List.map_nil, Nat.zero_add, Nat.add_zero, setAll]) | (apply w_move; exact rfl; exact rfl) | (apply w_assign; exact rfl; exact rfl) | apply AWp.seq | apply AWp.region | ((apply AWp.condP; exact rfl) <;> intro h) | apply AWp.block | apply AWp.ret | apply AWp.exit | apply AWp.skip | (apply w_len; exact rfl; exact rfl; first | exact .ints _ | exact .intss _ | exact .sli rfl | exact .sls rfl | exact .slr rfl | exact .orow rfl | exact .nil) | (rw [hgc]) | omega | ((first | apply w_lss | apply w_gtr | apply w_eql | apply w_add | apply w_idx | apply w_ld); iterate 3 exact rfl) | ((apply w_bs1); iterate 2 exact rfl) | (apply w_idxo; exact rfl; exact rfl; (exact .sli rfl); exact rfl) | (apply w_ldo; iterate 4 exact rfl) | (apply w_app; exact rfl; exact rfl; exact rfl; exact rfl; (exact .sli rfl); rotate_left 1; simp only [Env.mp, List.map_cons, List.map_nil, List.set_cons_zero, List.set_cons_succ, AV.kill, AV.kill1, AO.kill, AV.noRow, AV.noRow1, AO.via, reduceIte, Nat.reduceEqDiff, Nat.reduceLT, Env.up, Nat.zero_ne_one, Nat.one_ne_zero, Nat.reduceAdd, List.cons_append, List.nil_append]; rotate_left 1) | (apply inI_of <;> omega) | (simp <;> omega))
      exact ⟨d + 1, ⟨by omega, goOn_succ hg h0 (by omega)⟩, by omega, ⟨lee rfl (by (repeat (first | exact le_nil | refine le_eq rfl rfl ?_))), by (repeat (first | exact lo_nil | refine lo_eq rfl ?_)), rfl, rfl⟩⟩
end Go.Proofs.Ytifkgmbghcmdeaa
/-
  Regions that draw their order: a load is taken first where nothing that may come ahead of it writes. No condition.
-/
namespace Go.Proofs.Ytifkgmbghcmdeaa
open Go Go.RowKit

/-- Whatever order is picked; behind an operation of G what was there is there still. -/
def wpAnyG (P : Program) (ops : Array Oper) (Q : Exit → Act → World → Prop) (G : Nat → Bool) : Nat → Array Bool → Act → World → Prop
  | 0, listed, a, w => Region.ready .any ops listed = [] ∧ Q .normal a w
  | fuel + 1, listed, a, w =>
    (Region.ready .any ops listed = [] → Q .normal a w) ∧
    ∀ i ∈ Region.ready .any ops listed, wpOp P ops Q i (fun a' w' => (G i = true → Below w.heap.size w w') ∧ wpAnyG P ops Q G fuel (listed.setIfInBounds i true) a' w') a w

theorem wpAny_of_G {P : Program} {ops : Array Oper} {Q : Exit → Act → World → Prop} {G : Nat → Bool} : ∀ (fuel : Nat) (listed : Array Bool) (a : Act) (w : World), wpAnyG P ops Q G fuel listed a w → wpAny P .any ops Q fuel listed a w
  | 0, _, _, _, h => h
  | fuel + 1, _, _, _, h => ⟨h.1, fun i hi => wpOp_mono (fun a' w' h' => wpAny_of_G fuel _ a' w' h'.2) (h.2 i hi)⟩

theorem wpAnyG_first {P : Program} {ops : Array Oper} {Q : Exit → Act → World → Prop} {G : Nat → Bool} {w0 : World} {i : Nat} {oi : Oper} {v : Value} (hi : ops[i]? = some oi) (hsel : ∀ (j : Nat) (o : Oper) cs b, ops[j]? = some o → o.op ≠ .select cs b)
    (hQ : ∀ c a w, Q (.panic c) (a.put oi.dst v) w → Q (.panic c) a w) (W : Nat → Bool)
    (hW : ∀ j oj, ops[j]? = some oj → W j = true → ∃ e ∈ oj.after, Region.binds .any e = true ∧ (e.on = i ∨ W e.on = true)) :
    ∀ (fuel : Nat) (listed : Array Bool) (a : Act) (w : World),
      (∀ j, W j = true → listed.getD j true = false) → listed.getD i true = false →
      (∀ j oj, ops[j]? = some oj → j ≠ i → listed.getD j true = false → W j = false → G j = true ∧ oi.apart ops oj = true) →
      i ∈ Region.ready .any ops listed → YieldsIf P ops (fun w' => Below w0.heap.size w0 w') oi v a → Below w0.heap.size w0 w →
      wpAnyG P ops Q G fuel (listed.setIfInBounds i true) (a.put oi.dst v) w → wpAnyG P ops Q G (fuel + 1) listed a w := by
  intro fuel
  induction fuel with
  | zero =>
    intro listed a w _ _ _ hr hy hS H
    refine ⟨fun h => (by rw [h] at hr; cases hr), fun j hj => ?_⟩
    by_cases hji : j = i
    · subst hji; exact hy.wpOp hi hS ⟨fun _ => Below.refl _ _, H⟩
    · have := ready_mono hj hji
      rw [H.1] at this
      cases this
  | succ fuel ih =>
    intro listed a w hWl hil hfree hr hy hS H
    refine ⟨fun h => (by rw [h] at hr; cases hr), fun j hj => ?_⟩
    by_cases hji : j = i
    · subst hji; exact hy.wpOp hi hS ⟨fun _ => Below.refl _ _, H⟩
    · have h1 := H.2 j (ready_mono hj hji)
      obtain ⟨hjun, oj, hoj, hall⟩ := mem_ready.1 hj
      have hWj : W j = false := by
        cases hc : W j with
        | false => rfl
        | true =>
          obtain ⟨e, he, hb, hor⟩ := hW j oj hoj hc
          have h1 := hall e he hb
          have tf : listed.getD e.on true = false → False := fun h0 => by
            rcases Nat.lt_or_ge e.on listed.size with h' | h'
            · simp [h'] at h0 h1; rw [h0] at h1; cases h1
            · simp [Array.getElem?_eq_none h'] at h1
          rcases hor with hor | hor
          · rw [hor] at tf; exact (tf hil).elim
          · exact (tf (hWl _ hor)).elim
      obtain ⟨hG, hap⟩ := hfree j oj hoj hji hjun hWj
      have h2 := wpOp_putIf hoj hap (fun cs b => hsel i oi cs b hi) (fun cs b => hsel j oj cs b hoj) hQ hy h1
      have gne : ∀ {k : Nat}, k ≠ j → (listed.setIfInBounds j true).getD k true = listed.getD k true := fun hk => getD_set_ne true (Ne.symm hk)
      refine wpOp_mono (fun a' w' h3 => ⟨h3.2.1, ih (listed.setIfInBounds j true) a' w' ?_ ?_ ?_ (ready_mono hr (Ne.symm hji)) h3.1 ?_ ?_⟩) h2
      · intro k hk
        rw [gne (fun e => by subst e; rw [hWj] at hk; cases hk)]
        exact hWl k hk
      · rw [gne (fun e => hji e.symm)]; exact hil
      · intro k ok hk hki hun hWk
        by_cases hkj : k = j
        · subst hkj
          exact hfree k ok hk hki hjun hWk
        · rw [gne hkj] at hun
          exact hfree k ok hk hki hun hWk
      · have := h3.2.1 hG
        exact hS.trans (this.mono hS.size)
      · rw [Array.setIfInBounds_comm _ _ hji]
        exact h3.2.2

theorem wpAnyG_firstY {P : Program} {ops : Array Oper} {Q : Exit → Act → World → Prop} {G : Nat → Bool} {i : Nat} {oi : Oper} {v : Value} (hi : ops[i]? = some oi) (hsel : ∀ (j : Nat) (o : Oper) cs b, ops[j]? = some o → o.op ≠ .select cs b)
    (hQ : ∀ c a w, Q (.panic c) (a.put oi.dst v) w → Q (.panic c) a w) :
    ∀ (fuel : Nat) (listed : Array Bool) (a : Act) (w : World),
      (∀ j oj, ops[j]? = some oj → j ≠ i → listed.getD j true = false → (∀ e ∈ oj.after, Region.binds .any e = true → e.on ≠ i) → oi.apart ops oj = true) →
      i ∈ Region.ready .any ops listed → Yields P ops oi v a →
      wpAnyG P ops Q G fuel (listed.setIfInBounds i true) (a.put oi.dst v) w → wpAnyG P ops Q G (fuel + 1) listed a w := by
  intro fuel
  induction fuel with
  | zero =>
    intro listed a w _ hr hy H
    refine ⟨fun h => (by rw [h] at hr; cases hr), fun j hj => ?_⟩
    by_cases hji : j = i
    · subst hji; exact hy.wpOp hi ⟨fun _ => Below.refl _ _, H⟩
    · have := ready_mono hj hji
      rw [H.1] at this
      cases this
  | succ fuel ih =>
    intro listed a w hfree hr hy H
    refine ⟨fun h => (by rw [h] at hr; cases hr), fun j hj => ?_⟩
    by_cases hji : j = i
    · subst hji; exact hy.wpOp hi ⟨fun _ => Below.refl _ _, H⟩
    · have h1 := H.2 j (ready_mono hj hji)
      obtain ⟨hjun, oj, hoj, hall⟩ := mem_ready.1 hj
      have hnot : ∀ e ∈ oj.after, Region.binds .any e = true → e.on ≠ i := fun e he hb heq => by
        have h1 := hall e he hb
        have h0 := (mem_ready.1 hr).1
        rw [heq] at h1
        rcases Nat.lt_or_ge i listed.size with h' | h'
        · simp [h'] at h0 h1; rw [h0] at h1; cases h1
        · simp [Array.getElem?_eq_none h'] at h1
      have h2 := wpOp_put hoj (hfree j oj hoj hji hjun hnot) (fun cs b => hsel i oi cs b hi) (fun cs b => hsel j oj cs b hoj) hQ hy h1
      have hfree' : ∀ k ok, ops[k]? = some ok → k ≠ i → (listed.setIfInBounds j true).getD k true = false →
          (∀ e ∈ ok.after, Region.binds .any e = true → e.on ≠ i) → oi.apart ops ok = true := fun k ok hk hki hun hno => by
        refine hfree k ok hk hki ?_ hno
        by_cases hjk : j = k
        · subst hjk; exact hjun
        · rw [getD_set_ne true hjk] at hun; exact hun
      refine wpOp_mono (fun a' w' h3 => ⟨h3.2.1, ih (listed.setIfInBounds j true) a' w' hfree' (ready_mono hr (Ne.symm hji)) h3.1 ?_⟩) h2
      rw [Array.setIfInBounds_comm _ _ hji]
      exact h3.2.2

/-- What writes nothing: no world asked, a load, a call of one of these functions. -/
def gentB (qs : List Nat) (o : Oper) : Bool :=
  wlessB o || match o.op with
    | .load _ _ => true
    | .call c => match c.callee with
      | .value (.func f) => qs.contains f
      | _ => false
    | _ => false
def gentle (qs : List Nat) (l : List Oper) (j : Nat) : Bool := match l[j]? with | some o => gentB qs o | none => false

/-- Which ones wait for i. -/
def waitsFor (i : Nat) : List Oper → List Bool → List Bool
  | [], acc => acc
  | o :: os, acc => waitsFor i os (acc ++ [o.after.toList.any fun e => Region.binds .any e && (e.on == i || acc.getD e.on false)])
def okW (l : List Oper) (i : Nat) (W : List Bool) : Bool := (List.range l.length).all fun j => !W.getD j false || match l[j]? with | some o => o.after.toList.any fun e => Region.binds .any e && (e.on == i || W.getD e.on false) | none => false
/-- i may be taken first. -/
def freeG (qs : List Nat) (l : List Oper) (listed : List Bool) (i : Nat) : Bool :=
  let W := waitsFor i l []
  okW l i W && W.length == l.length && (List.range l.length).all (fun j => !W.getD j false || !listed.getD j true) && !listed.getD i true &&
    match l[i]? with
    | none => false
    | some oi => (List.range l.length).all fun j => j == i || listed.getD j true || W.getD j false || match l[j]? with
      | some oj => gentB qs oj && oi.apart l.toArray oj
      | none => true

def AAnyG (P : Program) (qs : List Nat) (l : List Oper) (fuel : Nat) (listed : List Bool) (K : APost) (env : Env) (os : List AO) : Prop :=
  ∀ base w0 w gs tm, Rel base w gs env os tm → Below base w0 w → ∀ X Rt, wpAnyG P l.toArray (Post base w0 K X Rt) (gentle qs l) fuel listed.toArray ⟨tm, []⟩ w

/-- Each of these comes up next. -/
def AllOfG (P : Program) (qs : List Nat) (l : List Oper) (fuel : Nat) (listed : List Bool) (K : APost) (env : Env) (os : List AO) : List Nat → Prop
  | [] => True
  | i :: is => (∃ o, l[i]? = some o ∧ AOps P (cond (gentB qs o) .quiet .seq) l [o] (fun env os => AAnyG P qs l fuel (listed.set i true) K env os) env os) ∧ AllOfG P qs l fuel listed K env os is

section
variable {P : Program} {N : APost} {X : Nat → APost} {Rt : APost} {env : Env} {os : List AO} {l : List Oper} {K : APost} {fuel : Nat} {listed : List Bool} {qs : List Nat}

theorem AllOfG.get : ∀ {rs : List Nat}, AllOfG P qs l fuel listed K env os rs → ∀ i ∈ rs, ∃ o, l[i]? = some o ∧ AOps P (cond (gentB qs o) .quiet .seq) l [o] (fun env os => AAnyG P qs l fuel (listed.set i true) K env os) env os
  | [], _, i, h => by cases h
  | j :: rs, h, i, hi => by
    rcases List.mem_cons.1 hi with rfl | hi
    · exact h.1
    · exact AllOfG.get h.2 i hi
theorem AllOfG.nil : AllOfG P qs l fuel listed K env os [] := trivial
theorem AllOfG.consS {i : Nat} {o : Oper} {is : List Nat} (ho : l[i]? = some o) (hg : gentB qs o = false) (h : AOps P .seq l [o] (fun env os => AAnyG P qs l fuel (listed.set i true) K env os) env os) (hs : AllOfG P qs l fuel listed K env os is) :
    AllOfG P qs l fuel listed K env os (i :: is) := ⟨⟨o, ho, by rw [hg]; exact h⟩, hs⟩

theorem AAnyG.all {i : Nat} {is : List Nat} (hr : rdyGo listed 0 l = i :: is) (h : AllOfG P qs l fuel listed K env os (i :: is)) : AAnyG P qs l (fuel + 1) listed K env os := by
  intro base w0 w gs tm hrel hb X Rt
  refine ⟨fun h0 => ?_, fun j hj => ?_⟩
  · have : i ∈ Region.ready .any l.toArray listed.toArray := mem_rdy.2 (by rw [hr]; simp)
    rw [h0] at this; cases this
  · have hj' := mem_rdy.1 hj
    rw [hr] at hj'
    obtain ⟨o, ho, hop⟩ := h.get j hj'
    have ho' : l.toArray[j]? = some o := by simpa using ho
    have hgj : gentle qs l j = gentB qs o := by unfold gentle; rw [ho]
    have kk : ∀ a w', Post base w0 (fun env os => AAnyG P qs l fuel (listed.set j true) K env os) X Rt .normal a w' → wpAnyG P l.toArray (Post base w0 K X Rt) (gentle qs l) fuel (listed.toArray.setIfInBounds j true) a w' := by
      rintro a w' ⟨env', os', gs', h1, h2, h3, h4⟩
      have ea : a = ⟨a.tmps, []⟩ := by cases a; simp_all
      rw [ea]
      have := h4 base w0 w' gs' a.tmps h1 h3 X Rt
      rwa [show listed.toArray.setIfInBounds j true = (listed.set j true).toArray from by simp]
    cases hg : gentB qs o with
    | false =>
      rw [hg] at hop
      have := hop base w0 w gs tm hrel hb X Rt
      unfold wpOp
      rw [ho']
      unfold wpList at this
      simp only
      rw [hgj, hg]
      split
      · rename_i hw
        rw [if_pos hw] at this
        rcases this with this | ⟨h1, ⟨a, w', h2⟩⟩
        · exact .inl (Oper.wp_mono2 (fun a w' h => ⟨fun e => (by cases e), kk a w' h⟩) (fun _ _ _ h => (h : False).elim) (fun ⟨_, _, h⟩ => (h : False).elim) this)
        · exact (h2 : False).elim
      · rename_i hw
        rw [if_neg hw] at this
        exact ⟨fun e => (by cases e), kk _ _ this⟩
    | true =>
      rw [hg] at hop
      have := hop base w gs tm hrel
      unfold wpOp
      rw [ho']
      unfold wpQuiet at this
      simp only
      have kq : ∀ (a : Act) w', Below w.heap.size w w' → wpQuiet P l.toArray (fun w' => Below w.heap.size w w') (fun a' => ∃ env' os' gs', AAnyG P qs l fuel (listed.set j true) K env' os' ∧ a'.defers = [] ∧ ∀ w', Below w.heap.size w w' → Rel base w' gs' env' os' a'.tmps) [] a →
          (gentle qs l j = true → Below w.heap.size w w') ∧ wpAnyG P l.toArray (Post base w0 K X Rt) (gentle qs l) fuel (listed.toArray.setIfInBounds j true) a w' := by
        rintro a w' hbw ⟨env', os', gs', h1, h2, h3⟩
        exact ⟨fun _ => hbw, kk a w' ⟨env', os', gs', h3 w' hbw, h2, hb.trans (hbw.mono hrel.hb), h1⟩⟩
      split
      · rename_i hw
        rw [if_pos hw] at this
        obtain ⟨v, hv, hn⟩ := this
        refine .inl (Oper.wp_of_quiet (C := fun w' => Below w.heap.size w w') (K := fun a' => a' = Act.put ⟨tm, []⟩ o.dst v) (Below.refl _ _) ?_ ⟨v, hv, rfl⟩)
        intro a' w' hw' he
        subst he
        exact kq _ w' hw' hn
      · rename_i hw
        rw [if_neg hw] at this
        exact kq _ w (Below.refl _ _) this

theorem AAnyG.done (hr : rdyGo listed 0 l = []) (h : K env os) : AAnyG P qs l fuel listed K env os := by
  intro base w0 w gs tm hrel hb X Rt
  have hr' : Region.ready .any l.toArray listed.toArray = [] := by
    apply List.eq_nil_iff_forall_not_mem.2
    intro j hj
    have := mem_rdy.1 hj
    rw [hr] at this; cases this
  cases fuel with
  | zero => exact ⟨hr', env, os, gs, hrel, rfl, hb, h⟩
  | succ n => exact ⟨fun _ => ⟨env, os, gs, hrel, rfl, hb, h⟩, by rw [hr']; intro j hj; cases hj⟩

theorem run_load_val {P : Program} {ρ : Operand → Value} {d : Option Tmp} {t : TypeId} {x : Operand} {ty : TypeId} {pos : String} {af : Array Edge} {g : Option (Nat × Bool)} {w w' : World} {n : Next} (h : (execOp ρ ⟨d, .load t x, ty, pos, af, g⟩).run P w = .ok n w') : ∃ u, n = .value u := by
  simp only [execOp, Sem.run_bind, Sem.run_pure, Result.andThen] at h
  split at h
  · cases h; exact ⟨_, rfl⟩
  · cases h

theorem free_parts {i : Nat} {oi : Oper} (hi : l[i]? = some oi) (h : freeG qs l listed i = true) : ∃ W : Nat → Bool,
    (∀ j oj, l[j]? = some oj → W j = true → ∃ e ∈ oj.after, Region.binds .any e = true ∧ (e.on = i ∨ W e.on = true)) ∧ (∀ j, W j = true → listed.getD j true = false) ∧ listed.getD i true = false ∧
    (∀ j oj, l[j]? = some oj → j ≠ i → listed.getD j true = false → W j = false → gentle qs l j = true ∧ oi.apart l.toArray oj = true) := by
  simp only [freeG, hi, okW, Bool.and_eq_true, List.all_eq_true, List.mem_range] at h
  obtain ⟨⟨⟨⟨h1, h2⟩, h3⟩, h4⟩, h5⟩ := h
  have hlen : (waitsFor i l []).length = l.length := by simpa using h2
  have lt : ∀ j, (waitsFor i l []).getD j false = true → j < l.length := fun j hj => by
    rcases Nat.lt_or_ge j l.length with h | h
    · exact h
    · rw [List.getD_eq_getElem?_getD, List.getElem?_eq_none (by omega)] at hj; cases hj
  refine ⟨fun j => (waitsFor i l []).getD j false, fun j oj hj hw => ?_, fun j hw => ?_, by simpa using h4, fun j oj hj hne hun hw => ?_⟩
  · have := h1 j (lt j hw)
    simp only [hw, hj, Bool.not_true, Bool.false_or, List.any_eq_true, Bool.and_eq_true, Bool.or_eq_true, beq_iff_eq] at this
    obtain ⟨e, he, hb, hor⟩ := this
    exact ⟨e, by simpa using he, hb, hor⟩
  · have := h3 j (lt j hw)
    simp only [hw, Bool.not_true, Bool.false_or] at this
    simpa using this
  · have := h5 j (List.getElem?_eq_some_iff.1 hj).1
    have hne' : (j == i) = false := by simpa using hne
    simp only [hj, hne', hun, hw, Bool.false_or, Bool.and_eq_true] at this
    exact ⟨by unfold gentle; rw [hj]; exact this.1, this.2⟩

/-- An operation that needs no world is taken first. -/
theorem AAnyG.takeW {i : Nat} {o : Oper} (hi : findW l (rdyGo listed 0 l) = some i) (ho : l[i]? = some o) (hs : Region.noSelect l.toArray = true) (hf : Region.free .any l.toArray listed.toArray i = true)
    (h : AOps P .wless l [o] (fun env os => AAnyG P qs l fuel (listed.set i true) K env os) env os) : AAnyG P qs l (fuel + 1) listed K env os := by
  intro base w0 w gs tm hrel hb X Rt
  obtain ⟨v, hy, env', os', gs', hk, hd, hr'⟩ := h base w gs tm hrel
  have ho' : l.toArray[i]? = some o := by simpa using ho
  refine wpAnyG_firstY (oi := o) (v := v) ho' (Region.noSelect_spec hs) (fun _ _ _ h => h.elim) fuel listed.toArray _ _ (Region.free_spec ho' hf) (mem_rdy.2 (findW_mem hi)) hy ?_
  have := hk base w0 w gs' _ hr' hb X Rt
  rw [show listed.toArray.setIfInBounds i true = (listed.set i true).toArray from by simp]
  have e : (⟨(Act.put ⟨tm, []⟩ o.dst v).tmps, []⟩ : Act) = Act.put ⟨tm, []⟩ o.dst v := by
    have : (Act.put ⟨tm, []⟩ o.dst v).defers = [] := hd
    generalize Act.put ⟨tm, []⟩ o.dst v = a at this
    cases a; simp_all
  rw [e] at this
  exact this

def isLoad (o : Oper) : Bool := match o.op with | .load _ _ => true | _ => false
def findL (qs : List Nat) (l : List Oper) (listed : List Bool) : List Nat → Option Nat
  | [] => none
  | i :: is => cond ((match l[i]? with | some o => isLoad o | none => false) && freeG qs l listed i) (some i) (findL qs l listed is)
theorem findL_spec : ∀ {is : List Nat} {i : Nat}, findL qs l listed is = some i → i ∈ is ∧ freeG qs l listed i = true
  | [], _, h => by cases h
  | j :: is, i, h => by
    simp only [findL] at h
    cases hb : ((match l[j]? with | some o => isLoad o | none => false) && freeG qs l listed j) with
    | true => rw [hb] at h; simp at h; subst h; rw [Bool.and_eq_true] at hb; exact ⟨by simp, hb.2⟩
    | false => rw [hb] at h; have := findL_spec h; exact ⟨List.mem_cons_of_mem _ this.1, this.2⟩

/-- A load is taken first. -/
theorem AAnyG.takeL {i : Nat} {d : Option Tmp} {t : TypeId} {x : Operand} {ty : TypeId} {pos : String} {af : Array Edge} {g : Option (Nat × Bool)} (hi : findL qs l listed (rdyGo listed 0 l) = some i) (ho : l[i]? = some ⟨d, .load t x, ty, pos, af, g⟩) (hs : Region.noSelect l.toArray = true)
    (h : AOps P .quiet l [⟨d, .load t x, ty, pos, af, g⟩] (fun env os => AAnyG P qs l fuel (listed.set i true) K env os) env os) : AAnyG P qs l (fuel + 1) listed K env os := by
  intro base w0 w gs tm hrel hb X Rt
  have hq := h base w gs tm hrel
  obtain ⟨hm, hf⟩ := findL_spec hi
  obtain ⟨W, f1, f2, f3, f4⟩ := free_parts ho hf
  have key : ∀ v, YieldsIf P l.toArray (fun w' => Below w.heap.size w w') ⟨d, .load t x, ty, pos, af, g⟩ v ⟨tm, []⟩ →
      wpQuiet P l.toArray (fun w' => Below w.heap.size w w') (fun a' => ∃ env' os' gs', AAnyG P qs l fuel (listed.set i true) K env' os' ∧ a'.defers = [] ∧ ∀ w', Below w.heap.size w w' → Rel base w' gs' env' os' a'.tmps) [] (Act.put ⟨tm, []⟩ d v) →
      wpAnyG P l.toArray (Post base w0 K X Rt) (gentle qs l) (fuel + 1) listed.toArray ⟨tm, []⟩ w := by
    rintro v hy ⟨env', os', gs', hk, hd, hr'⟩
    refine wpAnyG_first (w0 := w) (v := v) (by simpa using ho) (Region.noSelect_spec hs) (fun _ _ _ h => h.elim) W (fun j oj hj => f1 j oj (by simpa using hj)) fuel listed.toArray _ _
      (fun j hj => by have := f2 j hj; simpa [List.getD_eq_getElem?_getD, Array.getD_eq_getD_getElem?] using this) (by simpa [List.getD_eq_getElem?_getD, Array.getD_eq_getD_getElem?] using f3)
      (fun j oj hj hne hun => f4 j oj (by simpa using hj) hne (by simpa [List.getD_eq_getElem?_getD, Array.getD_eq_getD_getElem?] using hun)) (mem_rdy.2 hm) hy (Below.refl _ _) ?_
    have := hk base w0 w gs' _ (hr' w (Below.refl _ _)) hb X Rt
    rw [show listed.toArray.setIfInBounds i true = (listed.set i true).toArray from by simp]
    have e : (⟨(Act.put ⟨tm, []⟩ d v).tmps, []⟩ : Act) = Act.put ⟨tm, []⟩ d v := by
      have : (Act.put ⟨tm, []⟩ d v).defers = [] := hd
      generalize Act.put ⟨tm, []⟩ d v = a at this
      cases a; simp_all
    rw [e] at this
    exact this
  unfold wpQuiet at hq
  split at hq
  · rename_i hw
    obtain ⟨v, hv, hn⟩ := hq
    refine key v (.inl ⟨hw, fun w' hw' => ?_⟩) hn
    have := hv w' hw'
    unfold Oper.quietAt at this
    generalize hrun : (execOp (Act.eval ⟨tm, []⟩) ⟨d, .load t x, ty, pos, af, g⟩).run P w' = r at this
    cases r with
    | ok n w1 =>
      obtain ⟨u, rfl⟩ := run_load_val hrun
      simp only [Oper.quietUpon] at this
      rw [this.1, this.2]
    | halt y w1 => simp only [Oper.quietUpon] at this
  · rename_i hw
    exact key undef (.inr ⟨by simpa using hw, rfl⟩) hq

/-- A region that draws its order: every order comes to a state that may be seen as (envC, osC). 'qs': functions that are only called for their plain values. -/
theorem AWp.regionG (qs : List Nat) {id : Nat} (hm : P.follows .mixedOrders = true) {envC : Env} {osC : List AO} {n : Nat} (hn : l.length = n) {listed : List Bool} (hl : List.replicate n false = listed)
    (h : AAnyG P qs l n listed (fun e o => Fit e o envC osC ∨ ∃ σ, FitS σ e o envC osC) env os) (hk : N envC osC) : AWp P (.region id l.toArray true) N X Rt env os := by
  refine AWp.regionA hm hn hl (fun base w0 w gs tm hr hb X Rt => wpAny_of_G _ _ _ _ (h base w0 w gs tm hr hb X Rt)) hk
end
end Go.Proofs.Ytifkgmbghcmdeaa
/-
  A term put into terms in order: the reference's. No condition but a bound on the sizes.
-/
namespace Go.Proofs.Ytifkgmbghcmdeaa
open Go Go.RowKit
attribute [local irreducible] AWp AOps ResIs Ret1 QOp LOp COp AFnV AFn Imms LeE LeO
set_option maxHeartbeats 1000000
set_option linter.unusedSimpArgs false
set_option linter.unusedVariables false

theorem l01Own_c (xs : List Int) (h2 : xs.length ≤ 1048576) : AFn Try.prog 92 [.ints xs] (IsInts 2 xs) := by
  (refine AFn.start Try.func92 Try.ntmps92 rfl (by kernel_rfl) fun hk => ?_; simp only [Env.start, enumF, List.length_cons, List.length_nil, Nat.reduceAdd, Nat.reduceSub, List.cons_append, List.nil_append])
  repeat' (first | (apply AOps.nil; try simp only [List.nil_append, List.cons_append, List.set_cons_zero, List.set_cons_succ, List.length_cons, List.length_nil, Nat.reduceAdd, AV.sh, AV.sh1, AV.sh0, AO.sh, List.map_cons, List.map_nil, Nat.zero_add, Nat.add_zero, setAll]) | (apply w_move; exact rfl; exact rfl) | (apply w_assign; exact rfl; exact rfl) | apply AWp.seq | apply AWp.region | apply AWp.ret | (apply w_bs0; iterate 1 exact rfl) | (apply w_app; exact rfl; exact rfl; exact rfl; exact rfl; (exact .ints _); rotate_left 1; simp only [Env.mp, List.map_cons, List.map_nil, List.set_cons_zero, List.set_cons_succ, AV.kill, AV.kill1, AO.kill, AV.noRow, AV.noRow1, AO.via, reduceIte, Nat.reduceEqDiff, Nat.reduceLT, Env.up, Nat.zero_ne_one, Nat.one_ne_zero, Nat.reduceAdd, List.cons_append, List.nil_append]; rotate_left 1) | (simp <;> omega))
  all_goals exact ⟨_, _, _, .v1 Try.results92 rfl, .sli rfl, rfl, rfl⟩

theorem l01Own2_c (xss : List (List Int)) (hb : xss.length ≤ 1048576) (hr : ∀ xs ∈ xss, xs.length ≤ 1048576) : AFn Try.prog 109 [.intss xss] (IsIntss 22 2 xss) := by
  (refine AFn.start Try.func109 Try.ntmps109 rfl (by kernel_rfl) fun hk => ?_; simp only [Env.start, enumF, List.length_cons, List.length_nil, Nat.reduceAdd, Nat.reduceSub, List.cons_append, List.nil_append])
  repeat' (first | (apply AOps.nil; try simp only [List.nil_append, List.cons_append, List.set_cons_zero, List.set_cons_succ, List.length_cons, List.length_nil, Nat.reduceAdd, AV.sh, AV.sh1, AV.sh0, AO.sh, List.map_cons, List.map_nil, Nat.zero_add, Nat.add_zero, setAll]) | (apply w_assign; exact rfl; exact rfl) | apply AWp.seq | apply AWp.region | apply AWp.block | ((apply w_bsr0); iterate 1 exact rfl))
  refine AWp.loop (ι := Nat) (fun i => ⟨21, [(0, .intss xss), (3, .own 0), (4, .i i)]⟩) (fun i => [.sls 22 2 (xss.take i)]) (fun i => i ≤ xss.length) (fun i => xss.length - i) 0 (by omega) ⟨lee rfl (by (repeat (first | exact le_nil | refine le_eq rfl rfl ?_))), by (repeat (first | exact lo_nil | refine lo_eq rfl ?_)), rfl, rfl⟩ ?_
  rintro i h0
  have e1 : (xss.take i).length = i := by simp; omega
  by_cases hi : i < xss.length
  · have hb2 := hr (gets xss i) (gets_mem (by omega) (by omega))
    have e2 : xss.take i ++ [gets xss i] = xss.take (i + 1) := by rw [List.take_succ_eq_append_getElem hi]; simp [gets, hi]
    repeat' (first | (apply AOps.nil; try simp only [List.nil_append, List.cons_append, List.set_cons_zero, List.set_cons_succ, List.length_cons, List.length_nil, Nat.reduceAdd, AV.sh, AV.sh1, AV.sh0, AO.sh, List.map_cons, List.map_nil, Nat.zero_add, Nat.add_zero, setAll]) | (apply w_move; exact rfl; exact rfl) | (apply w_assign; exact rfl; exact rfl) | apply AWp.seq | apply AWp.region | ((apply AWp.condP; exact rfl) <;> intro h) | apply AWp.block | apply AWp.ret | apply AWp.exit | apply AWp.skip | (apply w_len; exact rfl; exact rfl; first | exact .ints _ | exact .intss _ | exact .sli rfl | exact .sls rfl | exact .slr rfl | exact .orow rfl | exact .nil) | ((first | apply w_bsr1 | apply w_lss | apply w_add | apply w_idx | apply w_ld); iterate 3 exact rfl) | (apply w_appr; exact rfl; exact rfl; exact rfl; exact rfl; exact rfl; exact rfl; exact rfl; rotate_left 1; simp only [Env.mp, List.map_cons, List.map_nil, List.set_cons_zero, List.set_cons_succ, AV.kill, AV.kill1, AO.kill, AV.rin, AV.rin1, AV.noRow, AV.noRow1, AO.via, reduceIte, Nat.reduceEqDiff, Nat.reduceLT, Env.up, Nat.zero_ne_one, Nat.one_ne_zero, Nat.reduceAdd, List.cons_append, List.nil_append]; rotate_left 1) | (apply w_callm (l01Own_c _ hb2); (focus ((repeat (first | exact im_nil | refine im_cons rfl (.ints _) ?_)); done)); rintro r os0 ⟨rfl, rfl⟩; try simp only [List.nil_append, List.cons_append, List.set_cons_zero, List.set_cons_succ, List.length_cons, List.length_nil, Nat.reduceAdd, AV.sh, AV.sh1, AV.sh0, AO.sh, List.map_cons, List.map_nil, Nat.zero_add, Nat.add_zero, setAll]) | omega | ((first | apply w_idxs | apply w_lds); iterate 3 exact rfl) | (apply inI_of <;> omega))
    all_goals exact ⟨i + 1, by omega, by omega, ⟨lee rfl (by (repeat (first | exact le_nil | refine le_eq rfl rfl ?_))), by (repeat (first | exact lo_nil | refine lo_eq (congrArg (AO.sls _ _) (e2)) ?_)), rfl, rfl⟩⟩
  · repeat' (first | (apply AOps.nil; try simp only [List.nil_append, List.cons_append, List.set_cons_zero, List.set_cons_succ, List.length_cons, List.length_nil, Nat.reduceAdd, AV.sh, AV.sh1, AV.sh0, AO.sh, List.map_cons, List.map_nil, Nat.zero_add, Nat.add_zero, setAll]) | (apply w_move; exact rfl; exact rfl) | (apply w_assign; exact rfl; exact rfl) | apply AWp.seq | apply AWp.region | ((apply AWp.condP; exact rfl) <;> intro h) | apply AWp.block | apply AWp.ret | apply AWp.exit | apply AWp.skip | (apply w_len; exact rfl; exact rfl; first | exact .ints _ | exact .intss _ | exact .sli rfl | exact .sls rfl | exact .slr rfl | exact .orow rfl | exact .nil) | omega | ((apply w_lss); iterate 3 exact rfl))
    have e : i = xss.length := by omega
    subst e
    exact ⟨_, _, _, .v1 Try.results109 rfl, .sls rfl, rfl, by simp⟩

theorem before_c (i j a b : Int) (hi : 0 ≤ i ∧ i ≤ 100000) (hj : 0 ≤ j ∧ j ≤ 100000) (ha : 0 ≤ a ∧ a ≤ 100000) (hb : 0 ≤ b ∧ b ≤ 100000) :
    AFnV Try.prog 85 [.i i, .i j, .i a, .i b] (.bool (decide (i + j < a + b ∨ (i + j = a + b ∧ i < a)))) := by
  (refine AFnV.start Try.func85 Try.ntmps85 rfl (by kernel_rfl) fun hk => ?_; simp only [Env.start, enumF, List.length_cons, List.length_nil, Nat.reduceAdd, Nat.reduceSub, List.cons_append, List.nil_append])
  repeat' (first | (apply AOps.nil; try simp only [List.nil_append, List.cons_append, List.set_cons_zero, List.set_cons_succ, List.length_cons, List.length_nil, Nat.reduceAdd, AV.sh, AV.sh1, AV.sh0, AO.sh, List.map_cons, List.map_nil, Nat.zero_add, Nat.add_zero, setAll]) | (apply w_move; exact rfl; exact rfl) | (apply w_assign; exact rfl; exact rfl) | apply AWp.seq | apply AWp.region | ((apply AWp.condP; exact rfl) <;> intro h) | apply AWp.ret | apply AWp.skip | ((first | apply w_lss | apply w_neq | apply w_add); iterate 3 exact rfl) | (apply inI_of <;> omega))
  all_goals
    refine .bool Try.results85 rfl ?_
    rw [Bool.eq_iff_iff]
    simp
    omega

/-- A term: two exponents of moderate size and a number of the field. -/
def TOk (t : List Int) : Prop := t.length = 3 ∧ (0 ≤ geti t 0 ∧ geti t 0 ≤ 100000) ∧ (0 ≤ geti t 1 ∧ geti t 1 ≤ 100000) ∧ (0 ≤ geti t 2 ∧ geti t 2 ≤ 55440)
/-- The term comes ahead of (i, j). -/
def bef (i j : Int) (t : List Int) : Prop := geti t 0 + geti t 1 < i + j ∨ (geti t 0 + geti t 1 = i + j ∧ geti t 0 < i)
instance (i j : Int) (t : List Int) : Decidable (bef i j t) := by unfold bef; infer_instance
def putAt (ts : List (List Int)) (i j : Int) : Nat := ts.findIdx fun t => !decide (bef i j t)
/-- c, a number of the field, put in at (i, j). -/
def putT (ts : List (List Int)) (i j c : Int) : List (List Int) :=
  if putAt ts i j < ts.length ∧ geti (ts.getD (putAt ts i j) []) 0 = i ∧ geti (ts.getD (putAt ts i j) []) 1 = j then
    (if (geti (ts.getD (putAt ts i j) []) 2 + c) % 55441 = 0 then ts.take (putAt ts i j) ++ ts.drop (putAt ts i j + 1) else ts.set (putAt ts i j) ((ts.getD (putAt ts i j) []).set 2 ((geti (ts.getD (putAt ts i j) []) 2 + c) % 55441)))
  else if c = 0 then ts else ts.take (putAt ts i j) ++ [i, j, c] :: ts.drop (putAt ts i j)

theorem putAt_eq {ts : List (List Int)} {i j : Int} {n : Nat} (hn : n ≤ ts.length) (h1 : ∀ k, k < n → bef i j (ts.getD k [])) (h2 : n = ts.length ∨ ¬ bef i j (ts.getD n [])) : putAt ts i j = n := by
  unfold putAt
  rcases Nat.lt_or_ge n ts.length with h | h
  · rw [List.findIdx_eq h]
    refine ⟨?_, fun k hk => ?_⟩
    · have := h2.resolve_left (by omega)
      rw [List.getD_eq_getElem?_getD, List.getElem?_eq_getElem h] at this
      simpa using this
    · have := h1 k hk
      rw [List.getD_eq_getElem?_getD, List.getElem?_eq_getElem (by omega)] at this
      simpa using this
  · have e : n = ts.length := by omega
    subst e
    rw [List.findIdx_eq_length]
    intro t ht
    obtain ⟨k, hk⟩ := List.getElem?_of_mem ht
    have hkl := (List.getElem?_eq_some_iff.1 hk).1
    have := h1 k hkl
    rw [List.getD_eq_getElem?_getD, hk] at this
    simpa using this

theorem rows_take (ts : List (List Int)) (n : Nat) (h : n ≤ ts.length) : (List.range' 0 n).map (fun i => ts.getD i []) = ts.take n := by
  apply List.ext_getElem?
  intro k
  rw [List.getElem?_map, List.getElem?_take]
  by_cases hk : k < n
  · rw [if_pos hk, List.getElem?_range' (by omega)]
    simp [List.getD_eq_getElem?_getD, List.getElem?_eq_getElem (show k < ts.length by omega)]
  · rw [if_neg hk, List.getElem?_eq_none (by simp; omega)]; rfl
theorem rows_drop (ts : List (List Int)) (n : Nat) : (List.range' n (ts.length - n)).map (fun i => ts.getD i []) = ts.drop n := by
  apply List.ext_getElem?
  intro k
  rw [List.getElem?_map, List.getElem?_drop]
  by_cases hk : k < ts.length - n
  · rw [List.getElem?_range' (by omega)]
    simp [List.getD_eq_getElem?_getD, List.getElem?_eq_getElem (show n + k < ts.length by omega)]
  · rw [List.getElem?_eq_none (by simp; omega), List.getElem?_eq_none (by omega)]; rfl
theorem range_nodup {a n b m : Nat} (h : a + n ≤ b) : (List.range' a n ++ List.range' b m).Nodup := by
  rw [List.nodup_append]
  refine ⟨List.nodup_range', List.nodup_range', fun x hx y hy e => ?_⟩
  rw [List.mem_range'_1] at hx hy
  omega

theorem lim_del {K : Kp} {e e2 e3 : TypeId} {ts : List (List Int)} (l1 l2 : List Nat) : [AO.keep 1 K, .sls e e2 ts, .slr e3 (l1.map (AV.orow 1) ++ l2.map (AV.orow 1))].map (AO.lim 3) = [AO.keep 1 K, .sls e e2 ts, .slr e3 (l1.map (AV.orow 1) ++ l2.map (AV.orow 1))] := by
  have h : ∀ l : List Nat, (l.map (AV.orow 1)).map (AV.lim 3) = l.map (AV.orow 1) := fun l => by rw [List.map_map]; rfl
  simp only [List.map_cons, List.map_nil, AO.lim, List.map_append, h]
  rfl

set_option maxHeartbeats 8000000 in
theorem l17Put_c (ts : List (List Int)) (i j c : Int) (hts : ∀ t ∈ ts, TOk t) (hn : ts.length ≤ 1000000) (hi : 0 ≤ i ∧ i ≤ 100000) (hj : 0 ≤ j ∧ j ≤ 100000) (hc : 0 ≤ c ∧ c ≤ 1000000000000000) :
    AFnT Try.prog 108 [.own 0, .i i, .i j, .i c] 22 2 ts (fun r => r = putT ts i j (c % 55441)) := by
  have hown := l01Own2_c ts (by omega) (fun t ht => by have := (hts t ht).1; omega)
  have hat : ∀ n : Nat, n < ts.length → (ts.getD (n : Int).toNat []).length = 3 ∧ (0 ≤ geti (ts.getD (n : Int).toNat []) ((Int.toNat 0 : Nat) : Int) ∧ geti (ts.getD (n : Int).toNat []) ((Int.toNat 0 : Nat) : Int) ≤ 100000) ∧ (0 ≤ geti (ts.getD (n : Int).toNat []) ((Int.toNat 1 : Nat) : Int) ∧ geti (ts.getD (n : Int).toNat []) ((Int.toNat 1 : Nat) : Int) ≤ 100000) ∧
      (0 ≤ geti (ts.getD (n : Int).toNat []) ((Int.toNat 2 : Nat) : Int) ∧ geti (ts.getD (n : Int).toNat []) ((Int.toNat 2 : Nat) : Int) ≤ 55440) := fun n hn => by
    have : ts.getD n [] ∈ ts := by rw [List.getD_eq_getElem?_getD, List.getElem?_eq_getElem hn]; exact List.getElem_mem hn
    exact hts _ this
  (refine AFnT.start Try.func108 Try.ntmps108 rfl (by kernel_rfl) fun K => ?_; simp only [Env.start, enumF, List.map_cons, List.map_nil, AV.sh, List.length_cons, List.length_nil, Nat.reduceAdd, Nat.reduceSub, List.cons_append, List.nil_append])
  obtain ⟨cc, ecc⟩ : ∃ x, x = c % 55441 := ⟨_, rfl⟩
  have hcc : 0 ≤ cc ∧ cc ≤ 55440 := by omega
  simp only [← ecc]
  repeat' (first | (apply AOps.nil; try simp only [List.nil_append, List.cons_append, List.set_cons_zero, List.set_cons_succ, List.length_cons, List.length_nil, Nat.reduceAdd, AV.sh, AV.sh1, AV.sh0, AO.sh, List.map_cons, List.map_nil, Nat.zero_add, Nat.add_zero, setAll]) | (apply w_move; exact rfl; exact rfl) | (apply w_assign; exact rfl; exact rfl) | apply AWp.seq | apply AWp.region | apply AWp.block | ((apply w_add); iterate 3 exact rfl) | (apply w_rem; exact rfl; exact rfl; exact rfl; (focus (omega; done)); (focus (omega; done))) | (apply inI_of <;> omega))
  refine AWp.loop (ι := Nat) (fun n => ⟨113, [(0, .own 1), (1, .i i), (2, .i j), (3, .i cc), (9, .i n)]⟩) (fun _ => [.keep 1 K, .sls 22 2 ts]) (fun n => n ≤ ts.length ∧ ∀ k, k < n → bef i j (ts.getD k [])) (fun n => ts.length - n) 0 ⟨by omega, fun k hk => by omega⟩ ⟨lee rfl (by (repeat (first | exact le_nil | refine le_eq rfl rfl ?_ | refine le_eq rfl (congrArg AV.i (by omega)) ?_))), by (repeat (first | exact lo_nil | refine lo_eq rfl ?_)), rfl, rfl⟩ ?_
  rintro n ⟨n0, n1⟩
  clear ecc hc
  by_cases hlt : n < ts.length
  · obtain ⟨t1, t2, t3, t4⟩ := hat n hlt
    have cb := before_c (geti (ts.getD (n : Int).toNat []) ((Int.toNat 0 : Nat) : Int)) (geti (ts.getD (n : Int).toNat []) ((Int.toNat 1 : Nat) : Int)) i j (by omega) (by omega) hi hj
    by_cases hb : bef i j (ts.getD n [])
    · have ed : decide (geti (ts.getD (n : Int).toNat []) ((Int.toNat 0 : Nat) : Int) + geti (ts.getD (n : Int).toNat []) ((Int.toNat 1 : Nat) : Int) < i + j ∨ (geti (ts.getD (n : Int).toNat []) ((Int.toNat 0 : Nat) : Int) + geti (ts.getD (n : Int).toNat []) ((Int.toNat 1 : Nat) : Int) = i + j ∧ geti (ts.getD (n : Int).toNat []) ((Int.toNat 0 : Nat) : Int) < i)) = true := decide_eq_true hb
      rw [ed] at cb
      repeat' (first | (apply AOps.nil; try simp only [List.nil_append, List.cons_append, List.set_cons_zero, List.set_cons_succ, List.length_cons, List.length_nil, Nat.reduceAdd, AV.sh, AV.sh1, AV.sh0, AO.sh, List.map_cons, List.map_nil, Nat.zero_add, Nat.add_zero, setAll]) | ((apply AOps.splitP; exact rfl; exact rfl) <;> intro h) | (apply w_move; exact rfl; exact rfl) | (apply w_assign; exact rfl; exact rfl) | apply AWp.seq | apply AWp.region | (apply AWp.condT; exact rfl) | (apply AWp.condF; exact rfl) | apply AWp.block | apply AWp.exit | apply AWp.skip | (apply AWp.regionQ; kernel_rfl; kernel_rfl) | (apply w_skip; exact rfl) | (apply w_pickT; exact rfl; exact rfl; exact rfl) | (apply w_pickF; exact rfl; exact rfl; exact rfl) | (apply w_len; exact rfl; exact rfl; first | exact .ints _ | exact .intss _ | exact .sli rfl | exact .sls rfl | exact .slr rfl | exact .orow rfl | exact .nil) | (apply w_call (cb); exact rfl; exact rfl; focus ((repeat (first | exact im_nil | refine im_cons rfl (.val _) ?_)); done)) | omega | ((first | apply w_lss | apply w_add | apply w_idx | apply w_ld); iterate 3 exact rfl) | (apply w_idxo; exact rfl; exact rfl; (exact .sls rfl); exact rfl) | ((first | apply w_idxr | apply w_ldr); iterate 4 exact rfl) | (apply w_ldls; iterate 4 exact rfl) | (apply w_ldrp; iterate 4 exact rfl) | (apply inI_of <;> omega))
      refine ⟨n + 1, ⟨hlt, fun k hk => ?_⟩, by omega, ⟨lee rfl (by (repeat (first | exact le_nil | refine le_eq rfl rfl ?_))), by (repeat (first | exact lo_nil | refine lo_eq rfl ?_)), rfl, rfl⟩⟩
      by_cases e : k = n
      · subst e; exact hb
      · exact n1 k (by omega)
    · have ed : decide (geti (ts.getD (n : Int).toNat []) ((Int.toNat 0 : Nat) : Int) + geti (ts.getD (n : Int).toNat []) ((Int.toNat 1 : Nat) : Int) < i + j ∨ (geti (ts.getD (n : Int).toNat []) ((Int.toNat 0 : Nat) : Int) + geti (ts.getD (n : Int).toNat []) ((Int.toNat 1 : Nat) : Int) = i + j ∧ geti (ts.getD (n : Int).toNat []) ((Int.toNat 0 : Nat) : Int) < i)) = false := decide_eq_false hb
      rw [ed] at cb
      have ep := putAt_eq n0 n1 (.inr hb)
      by_cases hs : geti (ts.getD (n : Int).toNat []) ((Int.toNat 0 : Nat) : Int) = i ∧ geti (ts.getD (n : Int).toNat []) ((Int.toNat 1 : Nat) : Int) = j
      · have hput : putT ts i j cc = if (geti (ts.getD n []) 2 + cc) % 55441 = 0 then ts.take n ++ ts.drop (n + 1) else ts.set n ((ts.getD n []).set 2 ((geti (ts.getD n []) 2 + cc) % 55441)) := by
          unfold putT
          rw [ep, if_pos ⟨hlt, hs⟩]
        by_cases hz : (geti (ts.getD (n : Int).toNat []) ((Int.toNat 2 : Nat) : Int) + cc) % 55441 = 0
        · rw [if_pos (show (geti (ts.getD n []) 2 + cc) % 55441 = 0 from hz)] at hput
          repeat' (apply AWp.seq)
          refine AWp.regionQ (by kernel_rfl) (by kernel_rfl) ?_
          repeat' (first | (apply AOps.nil; try simp only [List.nil_append, List.cons_append, List.set_cons_zero, List.set_cons_succ, List.length_cons, List.length_nil, Nat.reduceAdd, AV.sh, AV.sh1, AV.sh0, AO.sh, List.map_cons, List.map_nil, Nat.zero_add, Nat.add_zero, setAll]) | ((apply AOps.splitP; exact rfl; exact rfl) <;> intro h) | (apply w_move; exact rfl; exact rfl) | (apply w_assign; exact rfl; exact rfl) | apply AWp.seq | apply AWp.region | ((apply AWp.condP; exact rfl) <;> intro h) | (apply AWp.condF; exact rfl) | apply AWp.exit | apply AWp.skip | (apply w_skip; exact rfl) | (apply w_pickT; exact rfl; exact rfl; exact rfl) | (apply w_pickF; exact rfl; exact rfl; exact rfl) | (apply w_len; exact rfl; exact rfl; first | exact .ints _ | exact .intss _ | exact .sli rfl | exact .sls rfl | exact .slr rfl | exact .orow rfl | exact .nil) | (apply w_call (cb); exact rfl; exact rfl; focus ((repeat (first | exact im_nil | refine im_cons rfl (.val _) ?_)); done)) | omega | ((first | apply w_lss | apply w_eql | apply w_add | apply w_idx | apply w_ld); iterate 3 exact rfl) | (apply w_rem; exact rfl; exact rfl; exact rfl; (focus (omega; done)); (focus (omega; done))) | (apply w_idxo; exact rfl; exact rfl; (exact .sls rfl); exact rfl) | ((first | apply w_idxr | apply w_ldr); iterate 4 exact rfl) | (apply w_ldls; iterate 4 exact rfl) | (apply w_ldrp; iterate 4 exact rfl) | (apply inI_of <;> omega))
          refine AWp.regionA (by kernel_rfl) (envC := ⟨113, [(8, .own 2)]⟩) (osC := [.keep 1 K, .sls 22 2 ts, .slr 22 ((List.range' 0 n).map (AV.orow 1) ++ (List.range' (n + 1) (ts.length - (n + 1))).map (AV.orow 1))]) rfl rfl ?_ ?_
          · repeat' (first | (apply AOps.nil; try simp only [List.nil_append, List.cons_append, List.set_cons_zero, List.set_cons_succ, List.length_cons, List.length_nil, Nat.reduceAdd, AV.sh, AV.sh1, AV.sh0, AO.sh, List.map_cons, List.map_nil, Nat.zero_add, Nat.add_zero, setAll]) | (apply w_move; exact rfl; exact rfl) | (apply w_assign; exact rfl; exact rfl) | (apply w_bslr0; exact rfl; try simp only [List.nil_append, List.cons_append, List.set_cons_zero, List.set_cons_succ, List.length_cons, List.length_nil, Nat.reduceAdd, AV.sh, AV.sh1, AV.sh0, AO.sh, List.map_cons, List.map_nil, Nat.zero_add, Nat.add_zero, setAll]) | (apply w_appsub; exact rfl; exact rfl; exact rfl; exact rfl; exact rfl; rotate_left 3; simp only [Env.mp, List.map_cons, List.map_nil, List.set_cons_zero, List.set_cons_succ, AV.kill, AV.kill1, AO.kill, AV.lose, AV.lose1, List.map_append, map_orow_kill, AV.noRow, AV.noRow1, AO.via, reduceIte, Nat.reduceEqDiff, Nat.reduceLT, Env.up, Nat.zero_ne_one, Nat.one_ne_zero, Nat.reduceAdd, List.cons_append, List.nil_append]; rotate_left 3; (focus (first | exact rfl | (simp only [List.map_append, List.map_cons, List.map_nil, map_orow_kill, AV.kill, reduceIte, Nat.reduceEqDiff]; done)); done)) | ((first | apply w_slshi | apply w_slslo); iterate 4 exact rfl) | omega | ((apply w_add); iterate 3 exact rfl) | apply AllOf.nil | (apply AllOf.cons; exact rfl) | (apply AAny.take; exact rfl; exact rfl; kernel_rfl; kernel_rfl) | (apply AAny.all; exact rfl) | (apply AAny.done; exact rfl) | (apply inI_of <;> omega) | (simp <;> omega))
            all_goals (apply Or.inl; refine ⟨lee rfl ?_, ?_, rfl, (lim_del _ _)⟩; (focus ((repeat (first | exact le_nil | refine le_eq rfl rfl ?_)); done)); (focus ((repeat (first | exact lo_nil | refine lo_eq rfl ?_)); done)))
          repeat' (apply AWp.ret)
          refine ⟨_, _, 2, _, Turns.merge (p := 2) (k := 1) (idx := List.range' 0 n ++ List.range' (n + 1) (ts.length - (n + 1))) (by rw [List.map_append]; rfl) rfl (range_nodup (by omega)), .v1 Try.results108 rfl, rfl, ?_, rfl⟩
          rw [hput, List.map_append, rows_take ts n n0, rows_drop]
        · rw [if_neg (show ¬ (geti (ts.getD n []) 2 + cc) % 55441 = 0 from hz)] at hput
          have hrl : ((ts.getD n []).length = 3) := t1
          repeat' (first | (apply AOps.nil; try simp only [List.nil_append, List.cons_append, List.set_cons_zero, List.set_cons_succ, List.length_cons, List.length_nil, Nat.reduceAdd, AV.sh, AV.sh1, AV.sh0, AO.sh, List.map_cons, List.map_nil, Nat.zero_add, Nat.add_zero, setAll]) | ((apply AOps.splitP; exact rfl; exact rfl) <;> intro h) | (apply w_move; exact rfl; exact rfl) | (apply w_assign; exact rfl; exact rfl) | apply AWp.seq | apply AWp.region | ((apply AWp.condP; exact rfl) <;> intro h) | (apply AWp.condF; exact rfl) | apply AWp.ret | apply AWp.exit | apply AWp.skip | (apply AWp.regionQ; kernel_rfl; kernel_rfl) | (apply w_skip; exact rfl) | (apply w_pickT; exact rfl; exact rfl; exact rfl) | (apply w_pickF; exact rfl; exact rfl; exact rfl) | (apply w_len; exact rfl; exact rfl; first | exact .ints _ | exact .intss _ | exact .sli rfl | exact .sls rfl | exact .slr rfl | exact .orow rfl | exact .nil) | (apply w_storp; exact rfl; exact rfl; rotate_left 2; exact rfl; rotate_left 2) | (apply w_call (cb); exact rfl; exact rfl; focus ((repeat (first | exact im_nil | refine im_cons rfl (.val _) ?_)); done)) | (apply w_callm (hown); (focus ((repeat (first | exact im_nil | refine im_cons rfl (.sls rfl) ?_)); done)); rintro r os0 ⟨rfl, rfl⟩; try simp only [List.nil_append, List.cons_append, List.set_cons_zero, List.set_cons_succ, List.length_cons, List.length_nil, Nat.reduceAdd, AV.sh, AV.sh1, AV.sh0, AO.sh, List.map_cons, List.map_nil, Nat.zero_add, Nat.add_zero, setAll]) | omega | ((first | apply w_lss | apply w_eql | apply w_add | apply w_idx | apply w_ld); iterate 3 exact rfl) | (apply w_rem; exact rfl; exact rfl; exact rfl; (focus (omega; done)); (focus (omega; done))) | (apply w_idxo; exact rfl; exact rfl; (exact .sls rfl); exact rfl) | ((first | apply w_idxr | apply w_ldr); iterate 4 exact rfl) | (apply w_ldls; iterate 4 exact rfl) | (apply w_ldrp; iterate 4 exact rfl) | (apply inI_of <;> omega))
          exact ⟨_, _, 2, _, .refl, .v1 Try.results108 rfl, rfl, hput.symm, rfl⟩
      · have hput : putT ts i j cc = if cc = 0 then ts else ts.take n ++ [i, j, cc] :: ts.drop n := by
          unfold putT
          rw [ep, if_neg (fun e => hs ⟨e.2.1, e.2.2⟩)]
        by_cases hz : cc = 0
        · rw [if_pos hz] at hput
          repeat' (first | (apply AOps.nil; try simp only [List.nil_append, List.cons_append, List.set_cons_zero, List.set_cons_succ, List.length_cons, List.length_nil, Nat.reduceAdd, AV.sh, AV.sh1, AV.sh0, AO.sh, List.map_cons, List.map_nil, Nat.zero_add, Nat.add_zero, setAll]) | ((apply AOps.splitP; exact rfl; exact rfl) <;> intro h) | (apply w_move; exact rfl; exact rfl) | (apply w_assign; exact rfl; exact rfl) | apply AWp.seq | apply AWp.region | ((apply AWp.condP; exact rfl) <;> intro h) | (apply AWp.condF; exact rfl) | apply AWp.ret | apply AWp.exit | apply AWp.skip | (apply AWp.regionQ; kernel_rfl; kernel_rfl) | (apply w_skip; exact rfl) | (apply w_pickT; exact rfl; exact rfl; exact rfl) | (apply w_pickF; exact rfl; exact rfl; exact rfl) | (apply w_len; exact rfl; exact rfl; first | exact .ints _ | exact .intss _ | exact .sli rfl | exact .sls rfl | exact .slr rfl | exact .orow rfl | exact .nil) | (apply w_call (cb); exact rfl; exact rfl; focus ((repeat (first | exact im_nil | refine im_cons rfl (.val _) ?_)); done)) | omega | ((first | apply w_lss | apply w_eql | apply w_idx | apply w_ld); iterate 3 exact rfl) | (apply w_idxo; exact rfl; exact rfl; (exact .sls rfl); exact rfl) | ((first | apply w_idxr | apply w_ldr); iterate 4 exact rfl) | (apply w_ldls; iterate 4 exact rfl) | (apply w_ldrp; iterate 4 exact rfl))
          all_goals exact ⟨_, _, 1, _, .refl, .v1 Try.results108 rfl, rfl, hput.symm, rfl⟩
        · rw [if_neg hz] at hput
          repeat' (first | (apply AOps.nil; try simp only [List.nil_append, List.cons_append, List.set_cons_zero, List.set_cons_succ, List.length_cons, List.length_nil, Nat.reduceAdd, AV.sh, AV.sh1, AV.sh0, AO.sh, List.map_cons, List.map_nil, Nat.zero_add, Nat.add_zero, setAll]) | ((apply AOps.splitP; exact rfl; exact rfl) <;> intro h) | (apply w_move; exact rfl; exact rfl) | (apply w_assign; exact rfl; exact rfl) | apply AWp.seq | apply AWp.region | ((apply AWp.condP; exact rfl) <;> intro h) | (apply AWp.condF; exact rfl) | apply AWp.ret | apply AWp.exit | apply AWp.skip | (apply AWp.regionQ; kernel_rfl; kernel_rfl) | (apply w_skip; exact rfl) | (apply w_pickT; exact rfl; exact rfl; exact rfl) | (apply w_pickF; exact rfl; exact rfl; exact rfl) | (apply w_len; exact rfl; exact rfl; first | exact .ints _ | exact .intss _ | exact .sli rfl | exact .sls rfl | exact .slr rfl | exact .orow rfl | exact .nil) | (apply w_bslr0; exact rfl; try simp only [List.nil_append, List.cons_append, List.set_cons_zero, List.set_cons_succ, List.length_cons, List.length_nil, Nat.reduceAdd, AV.sh, AV.sh1, AV.sh0, AO.sh, List.map_cons, List.map_nil, Nat.zero_add, Nat.add_zero, setAll]) | (apply w_bslr1; exact rfl; exact rfl; exact rfl; try simp only [List.nil_append, List.cons_append, List.set_cons_zero, List.set_cons_succ, List.length_cons, List.length_nil, Nat.reduceAdd, AV.sh, AV.sh1, AV.sh0, AO.sh, List.map_cons, List.map_nil, Nat.zero_add, Nat.add_zero, setAll]) | (apply w_appsub; exact rfl; exact rfl; exact rfl; exact rfl; exact rfl; rotate_left 3; simp only [Env.mp, List.map_cons, List.map_nil, List.set_cons_zero, List.set_cons_succ, AV.kill, AV.kill1, AO.kill, AV.lose, AV.lose1, List.map_append, map_orow_kill, AV.noRow, AV.noRow1, AO.via, reduceIte, Nat.reduceEqDiff, Nat.reduceLT, Env.up, Nat.zero_ne_one, Nat.one_ne_zero, Nat.reduceAdd, List.cons_append, List.nil_append]; rotate_left 3; (focus (exact rfl); done)) | (apply w_appslr; exact rfl; exact rfl; exact rfl; exact rfl; exact rfl; (focus ((repeat (first | exact rowsOk_map rfl | refine rowsOk_cons rfl ?_)); done)); rotate_left 1; (focus (simp only [List.map_append, List.map_cons, List.map_nil, map_orow_kill, AV.kill, reduceIte, Nat.reduceEqDiff]; done); done); (focus (simp only [List.map_append, List.map_cons, List.map_nil, map_orow_kill, AV.kill, reduceIte, Nat.reduceEqDiff]; done); done); simp only [Env.mp, List.map_cons, List.map_nil, List.set_cons_zero, List.set_cons_succ, AV.kill, AV.kill1, AO.kill, AV.lose, AV.lose1, List.map_append, map_orow_kill, AV.noRow, AV.noRow1, AO.via, reduceIte, Nat.reduceEqDiff, Nat.reduceLT, Env.up, Nat.zero_ne_one, Nat.one_ne_zero, Nat.reduceAdd, List.cons_append, List.nil_append]; rotate_left 1) | ((first | apply w_slshi | apply w_slslo | apply w_bs3); iterate 4 exact rfl) | (apply w_call (cb); exact rfl; exact rfl; focus ((repeat (first | exact im_nil | refine im_cons rfl (.val _) ?_)); done)) | omega | ((first | apply w_lss | apply w_eql | apply w_idx | apply w_ld); iterate 3 exact rfl) | (apply w_idxo; exact rfl; exact rfl; (exact .sls rfl); exact rfl) | ((first | apply w_idxr | apply w_ldr); iterate 4 exact rfl) | (apply w_ldls; iterate 4 exact rfl) | (apply w_ldrp; iterate 4 exact rfl) | (apply inI_of <;> omega) | (simp <;> omega))
          all_goals
            refine ⟨_, _, 4, _, Turns.gather (p := 4) (k := 1) (m := 2) (i1 := List.range' 0 n) (i2 := List.range' n (ts.length - n)) rfl rfl rfl rfl (range_nodup (by omega)), .v1 Try.results108 rfl, rfl, ?_, rfl⟩
            rw [hput, rows_take ts n n0, rows_drop]
  · have e : n = ts.length := by omega
    have ep := putAt_eq n0 n1 (.inl e)
    have hput : putT ts i j cc = if cc = 0 then ts else ts.take n ++ [i, j, cc] :: ts.drop n := by
      unfold putT
      rw [ep, if_neg (fun e => hlt e.1)]
    by_cases hz : cc = 0
    · rw [if_pos hz] at hput
      repeat' (first | (apply AOps.nil; try simp only [List.nil_append, List.cons_append, List.set_cons_zero, List.set_cons_succ, List.length_cons, List.length_nil, Nat.reduceAdd, AV.sh, AV.sh1, AV.sh0, AO.sh, List.map_cons, List.map_nil, Nat.zero_add, Nat.add_zero, setAll]) | ((apply AOps.splitP; exact rfl; exact rfl) <;> intro h) | (apply w_move; exact rfl; exact rfl) | (apply w_assign; exact rfl; exact rfl) | apply AWp.seq | apply AWp.region | ((apply AWp.condP; exact rfl) <;> intro h) | (apply AWp.condF; exact rfl) | apply AWp.ret | apply AWp.exit | apply AWp.skip | (apply AWp.regionQ; kernel_rfl; kernel_rfl) | (apply w_skip; exact rfl) | (apply w_pickF; exact rfl; exact rfl; exact rfl) | (apply w_len; exact rfl; exact rfl; first | exact .ints _ | exact .intss _ | exact .sli rfl | exact .sls rfl | exact .slr rfl | exact .orow rfl | exact .nil) | omega | ((first | apply w_lss | apply w_eql); iterate 3 exact rfl))
      all_goals exact ⟨_, _, 1, _, .refl, .v1 Try.results108 rfl, rfl, hput.symm, rfl⟩
    · rw [if_neg hz] at hput
      repeat' (first | (apply AOps.nil; try simp only [List.nil_append, List.cons_append, List.set_cons_zero, List.set_cons_succ, List.length_cons, List.length_nil, Nat.reduceAdd, AV.sh, AV.sh1, AV.sh0, AO.sh, List.map_cons, List.map_nil, Nat.zero_add, Nat.add_zero, setAll]) | ((apply AOps.splitP; exact rfl; exact rfl) <;> intro h) | (apply w_move; exact rfl; exact rfl) | (apply w_assign; exact rfl; exact rfl) | apply AWp.seq | apply AWp.region | ((apply AWp.condP; exact rfl) <;> intro h) | (apply AWp.condF; exact rfl) | apply AWp.ret | apply AWp.exit | apply AWp.skip | (apply AWp.regionQ; kernel_rfl; kernel_rfl) | (apply w_skip; exact rfl) | (apply w_pickF; exact rfl; exact rfl; exact rfl) | (apply w_len; exact rfl; exact rfl; first | exact .ints _ | exact .intss _ | exact .sli rfl | exact .sls rfl | exact .slr rfl | exact .orow rfl | exact .nil) | (apply w_bslr0; exact rfl; try simp only [List.nil_append, List.cons_append, List.set_cons_zero, List.set_cons_succ, List.length_cons, List.length_nil, Nat.reduceAdd, AV.sh, AV.sh1, AV.sh0, AO.sh, List.map_cons, List.map_nil, Nat.zero_add, Nat.add_zero, setAll]) | (apply w_bslr1; exact rfl; exact rfl; exact rfl; try simp only [List.nil_append, List.cons_append, List.set_cons_zero, List.set_cons_succ, List.length_cons, List.length_nil, Nat.reduceAdd, AV.sh, AV.sh1, AV.sh0, AO.sh, List.map_cons, List.map_nil, Nat.zero_add, Nat.add_zero, setAll]) | (apply w_appsub; exact rfl; exact rfl; exact rfl; exact rfl; exact rfl; rotate_left 3; simp only [Env.mp, List.map_cons, List.map_nil, List.set_cons_zero, List.set_cons_succ, AV.kill, AV.kill1, AO.kill, AV.lose, AV.lose1, List.map_append, map_orow_kill, AV.noRow, AV.noRow1, AO.via, reduceIte, Nat.reduceEqDiff, Nat.reduceLT, Env.up, Nat.zero_ne_one, Nat.one_ne_zero, Nat.reduceAdd, List.cons_append, List.nil_append]; rotate_left 3; (focus (exact rfl); done)) | (apply w_appslr; exact rfl; exact rfl; exact rfl; exact rfl; exact rfl; (focus ((repeat (first | exact rowsOk_map rfl | refine rowsOk_cons rfl ?_)); done)); rotate_left 1; (focus (simp only [List.map_append, List.map_cons, List.map_nil, map_orow_kill, AV.kill, reduceIte, Nat.reduceEqDiff]; done); done); (focus (simp only [List.map_append, List.map_cons, List.map_nil, map_orow_kill, AV.kill, reduceIte, Nat.reduceEqDiff]; done); done); simp only [Env.mp, List.map_cons, List.map_nil, List.set_cons_zero, List.set_cons_succ, AV.kill, AV.kill1, AO.kill, AV.lose, AV.lose1, List.map_append, map_orow_kill, AV.noRow, AV.noRow1, AO.via, reduceIte, Nat.reduceEqDiff, Nat.reduceLT, Env.up, Nat.zero_ne_one, Nat.one_ne_zero, Nat.reduceAdd, List.cons_append, List.nil_append]; rotate_left 1) | ((first | apply w_slshi | apply w_slslo | apply w_bs3); iterate 4 exact rfl) | omega | ((first | apply w_lss | apply w_eql); iterate 3 exact rfl) | (apply inI_of <;> omega) | (simp <;> omega))
      all_goals
        refine ⟨_, _, 4, _, Turns.gather (p := 4) (k := 1) (m := 2) (i1 := List.range' 0 n) (i2 := List.range' n (ts.length - n)) rfl rfl rfl rfl (range_nodup (by omega)), .v1 Try.results108 rfl, rfl, ?_, rfl⟩
        rw [hput, rows_take ts n n0, rows_drop]
end Go.Proofs.Ytifkgmbghcmdeaa
/-
  slices.SortFunc at slices of slices, by the library's own contract laid at this dump in plain words. No condition.
-/
namespace Go.Proofs.Ytifkgmbghcmdeaa
open Go Go.RowKit Go.Shelf
def laysSort_ren : Go.Shelf.Ren := ⟨fun | 6 => 90 | 15 => 112 | 14 => 111 | 28 => 122 | 29 => 123 | 20 => 114 | 21 => 115 | 22 => 116 | 23 => 117 | 24 => 118 | 25 => 119 | 26 => 120 | 27 => 121 | 46 => 125 | 47 => 126 | 48 => 127 | 49 => 128 | 50 => 129 | 57 => 130 | n => n, fun | 22 => 45 | 24 => 22 | 25 => 99 | 3 => 3 | 39 => 107 | 0 => 0 | 53 => 118 | 55 => 120 | 4 => 4 | 46 => 111 | 45 => 110 | 50 => 115 | 5 => 5 | 9 => 9 | 66 => 121 | 70 => 125 | 76 => 127 | 77 => 128 | n => n, fun | n => n⟩
theorem laysSort : Go.Proofs.SlLaysF.n6 Try.prog laysSort_ren := {
  mixed := by kernel_rfl
  f6 := ⟨Try.f90.name, by decide, Try.func90.trans (congrArg some (by kernel_rfl))⟩
  f14 := ⟨Try.f111.name, by decide, Try.func111.trans (congrArg some (by kernel_rfl))⟩
  f15 := Try.func112.trans (congrArg some (by kernel_rfl))
  f20 := ⟨Try.f114.name, by decide, Try.func114.trans (congrArg some (by kernel_rfl))⟩
  f21 := ⟨Try.f115.name, by decide, Try.func115.trans (congrArg some (by kernel_rfl))⟩
  f22 := ⟨Try.f116.name, by decide, Try.func116.trans (congrArg some (by kernel_rfl))⟩
  f23 := ⟨Try.f117.name, by decide, Try.func117.trans (congrArg some (by kernel_rfl))⟩
  f24 := ⟨Try.f118.name, by decide, Try.func118.trans (congrArg some (by kernel_rfl))⟩
  f25 := ⟨Try.f119.name, by decide, Try.func119.trans (congrArg some (by kernel_rfl))⟩
  f26 := ⟨Try.f120.name, by decide, Try.func120.trans (congrArg some (by kernel_rfl))⟩
  f27 := ⟨Try.f121.name, by decide, Try.func121.trans (congrArg some (by kernel_rfl))⟩
  f28 := Try.func122.trans (congrArg some (by kernel_rfl))
  f29 := Try.func123.trans (congrArg some (by kernel_rfl))
  f46 := ⟨Try.f125.name, by decide, Try.func125.trans (congrArg some (by kernel_rfl))⟩
  f47 := Try.func126.trans (congrArg some (by kernel_rfl))
  f48 := Try.func127.trans (congrArg some (by kernel_rfl))
  f49 := ⟨Try.f128.name, by decide, Try.func128.trans (congrArg some (by kernel_rfl))⟩
  f50 := ⟨Try.f129.name, by decide, Try.func129.trans (congrArg some (by kernel_rfl))⟩
  f57 := ⟨Try.f130.name, by decide, Try.func130.trans (congrArg some (by kernel_rfl))⟩
  t0 := Try.underlying0
  a0 := Try.isAgg0
  z0 := Try.sizeOf0
  v0 := Try.zeroValue0
  t3 := Try.underlying3
  a3 := Try.isAgg3
  z3 := Try.sizeOf3
  v3 := Try.zeroValue3
  t4 := Try.underlying4
  a4 := Try.isAgg4
  z4 := Try.sizeOf4
  v4 := Try.zeroValue4
  t5 := Try.underlying5
  a5 := Try.isAgg5
  z5 := Try.sizeOf5
  v5 := Try.zeroValue5
  t9 := Try.underlying9
  a9 := Try.isAgg9
  z9 := Try.sizeOf9
  v9 := Try.zeroValue9
  t22 := Try.underlying45
  a22 := Try.isAgg45
  z22 := Try.sizeOf45
  v22 := Try.zeroValue45
  a24 := Try.isAgg22
  z24 := Try.sizeOf22
  t25 := Try.underlying99
  a25 := Try.isAgg99
  z25 := Try.sizeOf99
  v25 := Try.zeroValue99
  t39 := Try.underlying107
  a39 := Try.isAgg107
  z39 := Try.sizeOf107
  v39 := Try.zeroValue107
  t45 := Try.underlying110
  a45 := Try.isAgg110
  z45 := Try.sizeOf110
  v45 := Try.zeroValue110
  t46 := Try.underlying111
  a46 := Try.isAgg111
  z46 := Try.sizeOf111
  v46 := Try.zeroValue111
  t50 := Try.underlying115
  a50 := Try.isAgg115
  z50 := Try.sizeOf115
  v50 := Try.zeroValue115
  t53 := Try.underlying118
  a53 := Try.isAgg118
  z53 := Try.sizeOf118
  v53 := Try.zeroValue118
  t55 := Try.underlying120
  a55 := Try.isAgg120
  z55 := Try.sizeOf120
  v55 := Try.zeroValue120
  t66 := Try.underlying121
  a66 := Try.isAgg121
  z66 := Try.sizeOf121
  v66 := Try.zeroValue121
  t70 := Try.underlying125
  a70 := Try.isAgg125
  z70 := Try.sizeOf125
  v70 := Try.zeroValue125
  t76 := Try.underlying127
  a76 := Try.isAgg127
  z76 := Try.sizeOf127
  v76 := Try.zeroValue127
  t77 := Try.underlying128
  a77 := Try.isAgg128
  z77 := Try.sizeOf128
  v77 := Try.zeroValue128 }
open Go.RowKit Go.Lib Go.Sort in
theorem slices_SortFunc {α : Type} [Inhabited α] (enc : α → Value) (h1 : OneCell enc) (cf : α → α → Int) (hO : SWO (ltOf cf)) (g : Nat) (cb : Array Value) (blk off cap : Nat) (d : Array α) (w : World) (eg : ∀ args w, (callFunc g args).run Try.prog w = .ok (.enter g args) w) (hcmp : CmpLays1 Try.prog g cb enc cf blk off d.size w) (hH : Holds enc w blk off d) (hblk : blk < w.heap.size) (hsz : d.size < 4611686018427387904) :
    Calls Try.prog 90 #[.slice (some ⟨blk, off, none⟩) d.size cap, .func (.func g) #[] cb] w fun e w' =>
      e = .returned (.tuple #[]) ∧ ∃ d' n os, PermIn 0 d.size d d' ∧ SortedIn (ltOf cf) 0 d.size d' ∧ w' = sortWorld enc w blk off n d' os := Any.slices_SortFunc laysSort enc h1 cf hO g cb blk off cap d w eg hcmp hH hblk hsz
end Go.Proofs.Ytifkgmbghcmdeaa
/-
  slices.SortFunc at own slices of rows, by any function that compares rows. No condition.
-/
namespace Go.Proofs.Ytifkgmbghcmdeaa
open Go Go.RowKit Go.Sort

/-- What the sort asks of a function that compares rows. -/
def CmpOk (G : FuncId) (cmp : List Int → List Int → Int) (R : List Int → Prop) : Prop :=
  HasBody Try.prog G ∧ (∀ (w : World) (v1 v2 : Value) (xs ys : List Int), IntsAt w (fun _ => True) v1 xs → IntsAt w (fun _ => True) v2 ys → R xs → R ys →
    Calls Try.prog G #[v1, v2] w fun e w' => e = .returned (.int .i64 (cmp xs ys)) ∧ ∃ q os', w' = grow (w.drewN q) os') ∧
  (∀ x, R x → ¬ cmp x x < 0) ∧ (∀ x y z, R x → R y → R z → cmp x y < 0 → cmp y z < 0 → cmp x z < 0) ∧ ∀ x y z, R x → R y → R z → ¬ cmp x y < 0 → ¬ cmp y z < 0 → ¬ cmp x z < 0

section
variable (enc : Nat → Value) (w : World) (blk m : Nat) (dk : Array Nat) (oss : Array Obj)
theorem sw_size : (sortWorld enc w blk 0 m dk oss).heap.size = w.heap.size + oss.size := by
  simp [sortWorld, grow, putRow, mapBlock, Go.Sort.ahead]
theorem sw_other {b : Nat} (hb : b ≠ blk) (hl : b < w.heap.size) : (sortWorld enc w blk 0 m dk oss).heap[b]? = w.heap[b]? := by
  simp only [sortWorld, grow, putRow, mapBlock, Go.Sort.ahead]
  rw [Array.getElem?_append_left (by simpa using hl), Array.getElem?_modify, if_neg (fun e => hb e.symm)]
theorem sw_row {cur : Array Value} {e : TypeId} {fr : Nat × Nat} (h : w.heap[blk]? = some (.cells cur e fr)) : (sortWorld enc w blk 0 m dk oss).heap[blk]? = some (.cells (putCells enc 0 dk cur) e fr) := by
  have hl := (Array.getElem?_eq_some_iff.1 h).1
  simp only [sortWorld, grow, putRow, mapBlock, Go.Sort.ahead]
  rw [Array.getElem?_append_left (by simpa using hl), Array.getElem?_modify, if_pos rfl, h]
  rfl
end

theorem take_put (enc : Nat → Value) (d : Array Nat) (cur : Array Value) (h : d.size ≤ cur.size) : (putCells enc 0 d cur).toList.take d.size = d.toList.map enc := by
  apply List.ext_getElem?
  intro i
  rw [List.getElem?_take]
  by_cases hi : i < d.size
  · rw [if_pos hi, Array.getElem?_toList, putCells, Array.getElem?_mapIdx, Array.getElem?_eq_getElem (by omega), List.getElem?_map, Array.getElem?_toList, Array.getElem?_eq_getElem hi]
    simp only [Option.map_some, Nat.zero_le, true_and, Nat.zero_add, Nat.sub_zero, hi, if_true]
    rw [getElem!_pos d i hi]
  · rw [if_neg hi, List.getElem?_eq_none (by simp; omega)]

section
variable {env : Env} {os : List AO} {d : Option Tmp} {ty : TypeId} {pos : String} {af : Array Edge} {g : Option (Nat × Bool)}

set_option maxHeartbeats 2000000 in
theorem c_sortg {G : FuncId} {cmp : List Int → List Int → Int} {R : List Int → Prop} (hcmpok : CmpOk G cmp R) {x y : Operand} {ats : Array TypeId} {h : Nat} {e e2 : TypeId} {xss : List (List Int)} (hx : AV.ev env x = .own h) (hs : os[h]? = some (.sls e e2 xss)) (hy : AV.ev env y = .val (.func (.func G) #[] #[])) (hp : ∀ xs ∈ xss, R xs) (hn : 0 < xss.length ∧ xss.length ≤ 1048576) :
    COp Try.prog ⟨d, .call { callee := .value (.func 90), args := #[x, y], argTypes := ats }, ty, pos, af, g⟩ env os
      (fun r e' o => ∃ idx : List Nat, idx.Perm (List.range xss.length) ∧ (∀ i j : Nat, i < j → j < idx.length → ¬ cmp (xss.getD (idx.getD j 0) []) (xss.getD (idx.getD i 0) []) < 0) ∧ r = .any ∧ e' = env.mp (AV.noRow h) ∧ o = ((((os ++ [AO.sli e2 []]).map (AO.via (AV.noRow h) h)).set h (.sls e e2 (idx.map fun i => xss.getD i []))).set os.length .dead)) := by
  intro base w gs tm hr
  have hxv := hr.ev x
  rw [hx] at hxv
  have hyv := hr.evv hy
  generalize hv : Act.eval ⟨tm, []⟩ x = v at hxv
  cases hxv with
  | @own _ gh hg =>
  obtain ⟨us, bs, mb, b1, b2, b3, b4, b5, b6, b7, b8⟩ := hr.ho _ _ _ hg hs
  rcases b1.2 with ⟨_, c2⟩ | ⟨blk, cap, cur, c1, c2, c3, c4, c5, c6, c7⟩
  · omega
  have hmb : gh.v.ownBlock = some blk := by rw [c1]; rfl
  have hblk : blk ∈ mb := by
    rcases b6 with ⟨q1, _⟩ | ⟨q1, q2⟩
    · rw [hmb] at q1; cases q1
    · rw [hmb] at q1; cases q1; simp [q2]
  have hmb1 : ∀ b ∈ mb, b = blk := by
    rcases b6 with ⟨q1, _⟩ | ⟨q1, q2⟩
    · rw [hmb] at q1; cases q1
    · rw [hmb] at q1; cases q1; intro b hb; rw [q2] at hb; simpa using hb
  have a8' : (mb ++ bs.flatten).Nodup := by rw [← b7]; exact b8
  have hlt : blk < w.heap.size := (Array.getElem?_eq_some_iff.1 c3).1
  have hbl0 : ∀ b, b ∈ gh.bl → b < w.heap.size := fun b hb => (hr.hn _ _ _ hg hs (by simp) b hb).2
  have rowblk : ∀ (j : Nat) u, us[j]? = some u → ∀ c, u.ownBlock = some c → c ∈ bs.flatten := by
    intro j u hj c hc
    have hjb : j < bs.length := by
      have := (List.getElem?_eq_some_iff.1 hj).1
      omega
    exact List.mem_flatten.2 ⟨bs.getD j [], by rw [List.getD_eq_getElem?_getD, List.getElem?_eq_getElem hjb]; simp, by rw [← (b5 j u hj).2.2, hc]; simp⟩
  have flne : ∀ c, c ∈ bs.flatten → c ≠ blk ∧ c < w.heap.size := fun c hc => ⟨fun e => (List.nodup_append.1 a8').2.2 blk hblk c hc e.symm, hbl0 c (by rw [b7]; exact List.mem_append.2 (.inr hc))⟩
  -- the rows by their numbers
  let n := xss.length
  let ix : Nat → Nat := fun i => if i < n then i else 0
  have hix : ∀ i, ix i < n := fun i => by show (if i < n then i else 0) < n; split <;> omega
  let enc : Nat → Value := fun i => us.getD (ix i) undef
  let row : Nat → List Int := fun i => xss.getD (ix i) []
  let cf : Nat → Nat → Int := fun i j => cmp (row i) (row j)
  have hus : ∀ i, us[ix i]? = some (enc i) := fun i => by
    have : ix i < us.length := by rw [b2]; exact hix i
    show us[ix i]? = some (us.getD (ix i) undef)
    rw [List.getD_eq_getElem?_getD, List.getElem?_eq_getElem this]; rfl
  have hrow : ∀ i, R (row i) := fun i => by
    have : ix i < xss.length := hix i
    refine hp _ ?_
    show xss.getD (ix i) [] ∈ xss
    rw [List.getD_eq_getElem?_getD, List.getElem?_eq_getElem this]
    exact List.getElem_mem this
  have henc : ∀ i, ∃ c cp, enc i = .slice c (row i).length cp := fun i => by
    obtain ⟨q1, q2, q3⟩ := b5 _ _ (hus i)
    obtain ⟨ua, uc, eu⟩ := ownsRow_slice q1
    exact ⟨ua, uc, eu⟩
  have h1 : OneCell enc := fun i => by obtain ⟨c, cp, q⟩ := henc i; rw [q]; rfl
  have hlt' : ∀ i j, ltOf cf i j = true ↔ cmp (row i) (row j) < 0 := fun i j => by
    unfold ltOf
    rw [decide_eq_true_iff]
  have hlf : ∀ i j, ltOf cf i j = false ↔ ¬ cmp (row i) (row j) < 0 := fun i j => by
    rw [← hlt', Bool.not_eq_true]
  have hO : SWO (ltOf cf) := by
    refine ⟨fun i => ?_, fun i j k p q => ?_, fun i j k p q => ?_⟩
    · rw [hlf]; exact hcmpok.2.2.1 _ (hrow i)
    · rw [hlt'] at *; exact hcmpok.2.2.2.1 _ _ _ (hrow i) (hrow j) (hrow k) p q
    · rw [hlf] at *; exact hcmpok.2.2.2.2 _ _ _ (hrow i) (hrow j) (hrow k) p q
  have hbd : HasBody Try.prog 90 := ⟨_, _, Try.func90, by kernel_rfl, rfl⟩
  have hbc := hcmpok.1
  have hsz : (Array.range n).size = us.length := by simp [n, b2]
  have hcmp : CmpLays1 Try.prog G #[] enc cf blk 0 (Array.range n).size w := by
    intro m oss dk hdk i j
    have hat : ∀ i, IntsAt (sortWorld enc w blk 0 m dk oss) (fun _ => True) (enc i) (row i) := fun i => by
      obtain ⟨q1, q2, q3⟩ := b5 _ _ (hus i)
      refine ⟨RowAt.of_owns (base := base) (e := e2) (ownsRow_of_block q1 fun c hc => ?_), q2⟩
      have := flne c (rowblk _ _ (hus i) c hc)
      exact sw_other enc w blk m dk oss this.1 this.2
    exact hcmpok.2.1 _ _ _ _ _ (hat i) (hat j) (hrow i) (hrow j)
  have hH : Holds enc w blk 0 (Array.range n) := by
    intro j hj
    have hj' : j < n := by simpa using hj
    obtain ⟨b', cp, r1, r2, r3, r4⟩ := own_slice b1 (i := j) (by rw [b2]; exact hj')
    have : b' = blk := by rw [hmb] at r2; exact (Option.some.inj r2).symm
    subst this
    rw [Nat.zero_add]
    refine ⟨?_, r4⟩
    have e1 : (Array.range n)[j]! = j := by rw [getElem!_pos _ j (by simpa using hj')]; simp
    have e2 : ix j = j := if_pos hj'
    rw [r3, e1, ← hus j, e2]
  refine ⟨_, _, run_call hbd [x, y] ats _ rfl w, ?_⟩
  have hcall := slices_SortFunc enc h1 cf hO G #[] blk 0 cap (Array.range n) w (fun args w => hbc.run args w) hcmp hH hlt (by simp [n]; omega)
  have eargs : ([x, y].map (Act.eval ⟨tm, []⟩)).toArray = #[.slice (some ⟨blk, 0, none⟩) (Array.range n).size cap, .func (.func G) #[] #[]] := by
    simp only [List.map_cons, List.map_nil, hv, hyv, c1, hsz]
  rw [eargs]
  refine hcall.mono ?_
  rintro e' w' ⟨rfl, d', m, oss, ⟨p1, p2, p3⟩, hsort, rfl⟩
  have hdl : d'.size = n := by simpa using p1
  have hperm : d'.toList.Perm (List.range n) := by
    have e1 : (d'.extract 0 (Array.range n).size).toList = d'.toList := by simp; rw [List.take_of_length_le (by simp [hdl])]
    have e2 : ((Array.range n).extract 0 (Array.range n).size).toList = List.range n := by simp
    rw [e1, e2] at p3
    exact p3
  let idx := d'.toList
  have hil : idx.length = n := by simpa [idx] using hdl
  have hin : ∀ i ∈ idx, i < n := fun i hi => List.mem_range.1 (hperm.mem_iff.1 hi)
  have hind : idx.Nodup := hperm.nodup_iff.2 List.nodup_range
  let cs : List (List Nat) := idx.map fun i => bs.getD i []
  let us' : List Value := idx.map enc
  have hus' : ∀ i ∈ idx, us[i]? = some (enc i) := fun i hi => by
    have := hus i
    have e2 : ix i = i := if_pos (hin i hi)
    rwa [e2] at this
  let g' : Gh := ⟨gh.v, gh.b, mb ++ cs.flatten, us'⟩
  have hcs : ∀ b, b ∈ cs.flatten → b ∈ bs.flatten := by
    intro b hb
    obtain ⟨l, hl, hbl⟩ := List.mem_flatten.1 hb
    obtain ⟨i, hi, rfl⟩ := List.mem_map.1 hl
    have hi2 : i < bs.length := by rw [b3]; exact hin i hi
    rw [List.getD_eq_getElem?_getD, List.getElem?_eq_getElem hi2] at hbl
    exact List.mem_flatten.2 ⟨_, List.getElem_mem hi2, hbl⟩
  -- a dummy object, to be taken in
  let gd : Gh := ⟨.slice none 0 0, 0, [], []⟩
  have hr1 : Rel base w (gs ++ [gd]) env (os ++ [.sli e2 []]) tm := hr.new (Below.refl _ _) (.sli e2 []) gd (fun _ b hb => by simp [gd] at hb) ⟨World.ownsRow_nil w base e2 1, fun x hx => by simp at hx, .inl ⟨rfl, rfl⟩⟩
  have hgl : h < gs.length := (List.getElem?_eq_some_iff.1 hg).1
  have hol : h < os.length := (List.getElem?_eq_some_iff.1 hs).1
  have hg1 : (gs ++ [gd])[h]? = some gh := by rw [List.getElem?_append_left hgl]; exact hg
  have hs1 : (os ++ [AO.sli e2 []])[h]? = some (.sls e e2 xss) := by rw [List.getElem?_append_left hol]; exact hs
  have hgd : (gs ++ [gd])[os.length]? = some gd := by rw [← hr.hl]; simp
  have hod : (os ++ [AO.sli e2 []])[os.length]? = some (.sli e2 []) := by simp
  have sv : SameV h (gs ++ [gd]) ((gs ++ [gd]).set h g') := by
    refine ⟨fun j z hj hz => ?_, fun z hz => ⟨g', ?_, ?_, ?_⟩⟩
    · rw [List.getElem?_set, if_neg (fun e => hj e.symm)]; exact hz
    · rw [List.getElem?_set, if_pos rfl, if_pos (by simp; omega)]
    · rw [hg1] at hz; cases hz; rfl
    · rw [hg1] at hz; cases hz; rfl
  have hkeep : ∀ b, b < w.heap.size → b ≠ blk → (sortWorld enc w blk 0 m d' oss).heap[b]? = w.heap[b]? := fun b hb hne => sw_other enc w blk m d' oss hne hb
  have hblkbl : blk ∈ gh.bl := by rw [b7]; exact List.mem_append.2 (.inl hblk)
  refine ⟨.tuple #[], .any, _, _, (gs ++ [gd]).set h g', rfl, ⟨idx, hperm, ?_, rfl, rfl, rfl⟩, hr1.absorb hg1 hs1 trivial hgd hod trivial (by omega) g' _ (AV.noRow h) rfl (fun b hb hn => hkeep b hb fun e => hn (by rw [e]; exact hblkbl)) (by rw [sw_size]; omega) ?_ (fun kp hv => hv.noRow kp sv) ?_, .any _, ?_⟩
  · intro i j hij hj
    have hj2 : j < d'.size := by rw [hdl, ← hil]; exact hj
    have hs2 := hsort i j (Nat.zero_le _) hij (by simpa using (by omega : j < n))
    rw [hlf, getElem!_pos d' j hj2, getElem!_pos d' i (by omega)] at hs2
    have q : ∀ a (ha : a < d'.size), row d'[a] = xss.getD (idx.getD a 0) [] := fun a ha => by
      have e3 : idx.getD a 0 = d'[a] := by
        show d'.toList.getD a 0 = _
        rw [List.getD_eq_getElem?_getD, Array.getElem?_toList, Array.getElem?_eq_getElem ha]; rfl
      have e4 : d'[a] < n := hin _ (by show d'[a] ∈ d'.toList; simp)
      rw [e3]
      show xss.getD (ix d'[a]) [] = _
      rw [show ix d'[a] = d'[a] from if_pos e4]
    rw [q j hj2, q i (by omega)] at hs2
    exact hs2
  · intro b hb
    have hbb : b ∈ gh.bl := by
      rw [b7]
      rcases List.mem_append.1 hb with hb | hb
      · exact List.mem_append.2 (.inl hb)
      · exact List.mem_append.2 (.inr (hcs b hb))
    refine ⟨.inl hbb, ?_⟩
    rw [sw_size]
    have := hbl0 b hbb
    omega
  · intro kp
    refine ⟨us', cs, mb, ?_, by simp [us'], by simp [cs], rfl, fun j u hj => ?_, b6, rfl, ?_⟩
    · refine ⟨by simp, .inr ⟨blk, cap, _, ?_, c2, sw_row enc w blk m d' oss c3, ?_, c5, ?_, ?_⟩⟩
      · show gh.v = _
        rw [c1]
        have : us'.length = us.length := by simp [us', hil, b2, n]
        rw [this]
      · have : us'.length = us.length := by simp [us', hil, b2, n]
        omega
      · simpa [putCells] using c6
      · have : us'.length * 1 = d'.size := by simp [us', hil, hdl]
        rw [this]
        exact take_put enc d' cur (by rw [c6, hdl]; omega)
    · obtain ⟨i, hi, rfl⟩ : ∃ i, idx[j]? = some i ∧ enc i = u := by
        rw [List.getElem?_map] at hj
        cases hjx : idx[j]? with
        | none => rw [hjx] at hj; cases hj
        | some i => rw [hjx] at hj; exact ⟨i, rfl, Option.some.inj hj⟩
      have him := List.mem_of_getElem? hi
      have g1 : (idx.map fun i => xss.getD i []).getD j [] = xss.getD i [] := by
        rw [List.getD_eq_getElem?_getD, List.getElem?_map, hi]; rfl
      have g2 : cs.getD j [] = bs.getD i [] := by
        show (idx.map fun i => bs.getD i []).getD j [] = _
        rw [List.getD_eq_getElem?_getD, List.getElem?_map, hi]; rfl
      obtain ⟨q1, q2, q3⟩ := b5 i _ (hus' i him)
      rw [g1, g2]
      refine ⟨ownsRow_of_block q1 fun c hc => ?_, q2, q3⟩
      have hcf := rowblk i _ (hus' i him) c hc
      exact hkeep c (flne c hcf).2 (flne c hcf).1
    · show (mb ++ cs.flatten).Nodup
      rw [List.nodup_append] at a8' ⊢
      refine ⟨a8'.1, nodup_sel a8'.2.1 hind (fun i hi => by rw [b3]; exact hin i hi), fun a ha b hb e => a8'.2.2 a ha b (hcs b hb) e⟩
  · refine ⟨rfl, rfl, rfl, by rw [sw_size]; omega, fun b hb => hkeep b (by have := hr.hb; omega) fun e => ?_⟩
    omega
end

section
variable {env : Env} {os : List AO} {d : Tmp} {ty : TypeId} {pos : String} {af : Array Edge} {l rest : List Oper} {K : APost}
theorem w_sortg {G : FuncId} {cmp : List Int → List Int → Int} {R : List Int → Prop} (hcmpok : CmpOk G cmp R) {x y : Operand} {ats : Array TypeId} {h : Nat} {e e2 : TypeId} {xss : List (List Int)} (hp : ∀ xs ∈ xss, R xs) (hn : 0 < xss.length ∧ xss.length ≤ 1048576) (hx : evo env x = some (.own h)) (hs : os[h]? = some (.sls e e2 xss)) (hy : evo env y = some (.val (.func (.func G) #[] #[])))
    (h' : ∀ idx : List Nat, idx.Perm (List.range xss.length) → (∀ i j : Nat, i < j → j < idx.length → ¬ cmp (xss.getD (idx.getD j 0) []) (xss.getD (idx.getD i 0) []) < 0) → AOps Try.prog .seq l rest K (Env.up (env.mp (AV.noRow h)) d .any) ((((os ++ [AO.sli e2 []]).map (AO.via (AV.noRow h) h)).set h (.sls e e2 (idx.map fun i => xss.getD i []))).set os.length .dead)) :
    AOps Try.prog .seq l (⟨some d, .call { callee := .value (.func 90), args := #[x, y], argTypes := ats }, ty, pos, af, none⟩ :: rest) K env os :=
  AOps.ca (c_sortg hcmpok (ev_of hx) hs (ev_of hy) hp hn) fun r e o ⟨idx, h1, h2, h3, h4, h5⟩ => by subst h3; subst h4; subst h5; exact h' idx h1 h2
end
end Go.Proofs.Ytifkgmbghcmdeaa
/-
  The comparison of terms that the sort is handed, walked by the kit's own steps. No condition but a bound on the exponents.
-/
namespace Go.Proofs.Ytifkgmbghcmdeaa
open Go Go.RowKit

/-- Terms by their degrees, and then by their first exponents. -/
def cmpW (x y : List Int) : Int := if Lib.compareInt (geti x 0 + geti x 1) (geti y 0 + geti y 1) = 0 then Lib.compareInt (geti x 0) (geti y 0) else Lib.compareInt (geti x 0 + geti x 1) (geti y 0 + geti y 1)

set_option maxHeartbeats 1000000 in
theorem compared_k (x y : Int) (w : World) : Calls Try.prog 110 #[.int .i64 x, .int .i64 y] w fun e w' => e = .returned (.int .i64 (Lib.compareInt x y)) ∧ w' = w := by
  go_enter Try.func110, Try.ntmps110
  go_wp2
  all_goals (go_ret; refine ⟨?_, rfl⟩; unfold Lib.compareInt; (repeat' split) <;> first | rfl | (exfalso; omega))

set_option maxHeartbeats 4000000 in
theorem compareTerms_k (b1 o1 c1 b2 o2 c2 : Nat) (x0 x1 y0 y1 : Int) (w : World) (h0 : w.cell? ⟨b1, o1, none⟩ = some (.int .i64 x0)) (h1 : w.cell? ⟨b1, o1 + 1, none⟩ = some (.int .i64 x1)) (g0 : w.cell? ⟨b2, o2, none⟩ = some (.int .i64 y0)) (g1 : w.cell? ⟨b2, o2 + 1, none⟩ = some (.int .i64 y1))
    (hx0 : 0 ≤ x0 ∧ x0 ≤ 100000) (hx1 : 0 ≤ x1 ∧ x1 ≤ 100000) (hy0 : 0 ≤ y0 ∧ y0 ≤ 100000) (hy1 : 0 ≤ y1 ∧ y1 ≤ 100000) :
    Calls Try.prog 89 #[.slice (some ⟨b1, o1, none⟩) 3 c1, .slice (some ⟨b2, o2, none⟩) 3 c2] w fun e w' =>
      e = .returned (.int .i64 (if Lib.compareInt (x0 + x1) (y0 + y1) = 0 then Lib.compareInt x0 y0 else Lib.compareInt (x0 + x1) (y0 + y1))) ∧ ∃ n, w' = w.drewN n := by
  have w1 : IntKind.i64.wrap (x0 + x1) = x0 + x1 := by rw [IntKind.wrap_i64]; omega
  have w2 : IntKind.i64.wrap (y0 + y1) = y0 + y1 := by rw [IntKind.wrap_i64]; omega
  have cc := fun w => compared_k (x0 + x1) (y0 + y1) w
  have cd := fun w => compared_k x0 y0 w
  clear hx0 hx1 hy0 hy1
  generalize Lib.compareInt (x0 + x1) (y0 + y1) = r at cc ⊢
  generalize Lib.compareInt x0 y0 = s at cd ⊢
  by_cases hr : r = 0
  · subst hr
    go_enter Try.func89, Try.ntmps89
    go_wp2_with fail
    go_quiet (first | (go_at_call 110; refine Calls.quiet_of_same (cc _)))
    go_wp2_with fail
    have k0 : (w.drewN nq).cell? ⟨b1, o1, none⟩ = some (.int .i64 x0) := h0
    have k1 : (w.drewN nq).cell? ⟨b2, o2, none⟩ = some (.int .i64 y0) := g0
    have A : Aside (∃ m, w.drewN nq = w.drewN m) := ⟨nq, rfl⟩
    generalize w.drewN nq = wq at k0 k1 A ⊢
    clear h0 h1 g0 g1
    go_quiet (first | (go_at_call 110; refine Calls.quiet_of_same (cd _)))
    go_wp2
    go_ret
    obtain ⟨m, rfl⟩ := A.out
    exact ⟨rfl, m + nq, by rw [World.drewN_drewN]⟩
  · go_enter Try.func89, Try.ntmps89
    go_wp2_with fail
    go_quiet (first | (go_at_call 110; refine Calls.quiet_of_same (cc _)))
    go_wp2
    go_ret
    exact ⟨rfl, nq, rfl⟩

/-- A term with exponents of moderate size. -/
def TB (r : List Int) : Prop := r.length = 3 ∧ (0 ≤ geti r 0 ∧ geti r 0 ≤ 100000) ∧ (0 ≤ geti r 1 ∧ geti r 1 ≤ 100000)
theorem cmpW_lt {x y : List Int} : cmpW x y < 0 ↔ (geti x 0 + geti x 1 < geti y 0 + geti y 1 ∨ (geti x 0 + geti x 1 = geti y 0 + geti y 1 ∧ geti x 0 < geti y 0)) := by
  unfold cmpW Lib.compareInt
  repeat' split
  all_goals omega
theorem term_cells {w : World} {v : Value} {xs : List Int} (h : IntsAt w (fun _ => True) v xs) (h3 : xs.length = 3) : ∃ b o c, v = .slice (some ⟨b, o, none⟩) 3 c ∧ w.cell? ⟨b, o, none⟩ = some (.int .i64 (geti xs 0)) ∧ w.cell? ⟨b, o + 1, none⟩ = some (.int .i64 (geti xs 1)) := by
  obtain ⟨⟨a, cap, rfl, e1, e2, e3⟩, _⟩ := h
  obtain ⟨b, o, rfl, _, hc⟩ := e3 (by simp; omega)
  match xs, h3 with
  | [p, q, r], _ =>
    refine ⟨b, o, cap, rfl, ?_, ?_⟩
    · have := hc 0 (.int .i64 p) rfl; simpa [geti] using this
    · have := hc 1 (.int .i64 q) rfl; simpa [geti] using this
theorem cmpW_ok : CmpOk 89 cmpW TB := by
  refine ⟨⟨_, _, Try.func89, by kernel_rfl, rfl⟩, ?_, ?_, ?_, ?_⟩
  · intro w v1 v2 xs ys h1 h2 t1 t2
    obtain ⟨b1, o1, c1, rfl, p0, p1⟩ := term_cells h1 t1.1
    obtain ⟨b2, o2, c2, rfl, q0, q1⟩ := term_cells h2 t2.1
    refine (compareTerms_k b1 o1 c1 b2 o2 c2 _ _ _ _ w p0 p1 q0 q1 t1.2.1 t1.2.2 t2.2.1 t2.2.2).mono ?_
    rintro e w' ⟨rfl, n, rfl⟩
    exact ⟨rfl, n, #[], by rw [Go.Sort.grow_empty]⟩
  · intro x _; rw [cmpW_lt]; omega
  · intro x y z _ _ _ h1 h2; rw [cmpW_lt] at *; omega
  · intro x y z _ _ _ h1 h2; rw [cmpW_lt] at *; omega
end Go.Proofs.Ytifkgmbghcmdeaa
/-
  Partial derivatives, and sorted lists: the plain law. No program.
-/
namespace Go.Proofs.Ytifkgmbghcmdeaa
open Go Go.RowKit
attribute [local irreducible] AWp AOps ResIs Ret1 QOp LOp COp AFnV AFn Imms LeE LeO
set_option maxHeartbeats 1000000
set_option linter.unusedSimpArgs false
set_option linter.unusedVariables false

/-- The derivative of a term by x (k = 0) or y. -/
def derT (k : Nat) (t : List Int) : List Int := if k = 0 then [geti t 0 - 1, geti t 1, geti t 0 * geti t 2 % 55441] else [geti t 0, geti t 1 - 1, geti t 1 * geti t 2 % 55441]
/-- The derivative of the first n terms. -/
def derL (k : Nat) (ts : List (List Int)) : Nat → List (List Int)
  | 0 => []
  | n + 1 => if 0 < geti (gets ts (n : Nat)) (k : Nat) then derL k ts n ++ [derT k (gets ts (n : Nat))] else derL k ts n

theorem derL_len (k : Nat) (ts : List (List Int)) : ∀ n, (derL k ts n).length ≤ n
  | 0 => Nat.le_refl _
  | n + 1 => by
    have := derL_len k ts n
    rw [derL]; split
    · rw [List.length_append]; simp; omega
    · omega
theorem derL_mem (k : Nat) (ts : List (List Int)) : ∀ n, ∀ d ∈ derL k ts n, ∃ m : Nat, m < n ∧ 0 < geti (gets ts (m : Nat)) (k : Nat) ∧ d = derT k (gets ts (m : Nat))
  | 0, d, h => by simp [derL] at h
  | n + 1, d, h => by
    rw [derL] at h
    split at h
    · rename_i hp
      rcases List.mem_append.1 h with h | h
      · obtain ⟨m, h1, h2⟩ := derL_mem k ts n d h
        exact ⟨m, by omega, h2⟩
      · simp at h
        exact ⟨n, by omega, hp, h⟩
    · obtain ⟨m, h1, h2⟩ := derL_mem k ts n d h
      exact ⟨m, by omega, h2⟩

theorem po_bef {ts : List (List Int)} (h : isPo ts = true) : ∀ (d i : Nat), i + d + 1 < ts.length → Bef (gets ts (i : Nat)) (gets ts ((i + d + 1 : Nat) : Int))
  | 0, i, hi => by
    have := ((isPo_of h).2 (i + 1) (by omega)).2.2.2.2 (by omega)
    rw [show (((i + 1 : Nat) : Int) - 1) = (i : Int) by omega] at this
    exact this
  | d + 1, i, hi => by
    have ih := po_bef h d i (by omega)
    have := ((isPo_of h).2 (i + (d + 1) + 1) (by omega)).2.2.2.2 (by omega)
    rw [show (((i + (d + 1) + 1 : Nat) : Int) - 1) = ((i + d + 1 : Nat) : Int) by omega] at this
    unfold Bef at *
    omega
theorem po_lt {ts : List (List Int)} (h : isPo ts = true) {i j : Nat} (hij : i < j) (hj : j < ts.length) : Bef (gets ts (i : Nat)) (gets ts (j : Nat)) := by
  have := po_bef h (j - i - 1) i (by omega)
  rwa [show i + (j - i - 1) + 1 = j by omega] at this

theorem cop_all : (List.range 61).all (fun a => a == 0 || Nat.gcd a 55441 == 1) = true := by decide +kernel
theorem mod_ne {a b : Int} (ha : 1 ≤ a ∧ a ≤ 60) (hb : 1 ≤ b ∧ b ≤ 55440) : a * b % 55441 ≠ 0 := by
  obtain ⟨x, rfl⟩ := Int.eq_ofNat_of_zero_le (show 0 ≤ a by omega)
  obtain ⟨y, rfl⟩ := Int.eq_ofNat_of_zero_le (show 0 ≤ b by omega)
  intro h
  have h1 : (x * y) % 55441 = 0 := by
    have : ((x * y % 55441 : Nat) : Int) = 0 := by rw [Int.natCast_emod, Int.natCast_mul]; exact h
    omega
  have hc := List.all_eq_true.1 cop_all x (List.mem_range.2 (by omega))
  simp only [Bool.or_eq_true, beq_iff_eq] at hc
  have hg : Nat.Coprime 55441 x := by
    rcases hc with hc | hc
    · omega
    · rw [Nat.coprime_comm]; exact hc
  have h2 : 55441 ∣ y := hg.dvd_of_dvd_mul_left (Nat.dvd_of_mod_eq_zero h1)
  have := Nat.le_of_dvd (by omega) h2
  omega
theorem mulTB {a b : Int} (ha : 0 ≤ a ∧ a ≤ 60) (hb : 1 ≤ b ∧ b ≤ 55440) : 0 ≤ a * b ∧ a * b ≤ 3326400 := by
  refine ⟨Int.mul_nonneg ha.1 (by omega), ?_⟩
  have := Int.mul_le_mul ha.2 hb.2 (by omega) (by omega : (0 : Int) ≤ 60)
  omega

theorem putT_end {ts : List (List Int)} {i j c : Int} (h : ∀ t ∈ ts, bef i j t) (hc : c ≠ 0) : putT ts i j c = ts ++ [[i, j, c]] := by
  have e : putAt ts i j = ts.length := putAt_eq (Nat.le_refl _) (fun k hk => by
    rw [List.getD_eq_getElem?_getD, List.getElem?_eq_getElem hk]; exact h _ (List.getElem_mem hk)) (.inl rfl)
  unfold putT
  rw [e, if_neg (fun h => Nat.lt_irrefl _ h.1), if_neg hc, List.take_length, List.drop_length]

theorem tok3 {a b c : Int} (h0 : 0 ≤ a ∧ a ≤ 60) (h1 : 0 ≤ b ∧ b ≤ 60) (h2 : 1 ≤ c ∧ c ≤ 55440) : TOk [a, b, c] ∧ (1 ≤ geti [a, b, c] 2) ∧ (geti [a, b, c] 0 ≤ 60 ∧ geti [a, b, c] 1 ≤ 60) := by
  have e0 : geti [a, b, c] 0 = a := rfl
  have e1 : geti [a, b, c] 1 = b := rfl
  have e2 : geti [a, b, c] 2 = c := rfl
  unfold TOk
  rw [e0, e1, e2]
  exact ⟨⟨rfl, by omega, by omega, by omega⟩, by omega, by omega, by omega⟩
/-- Terms that are derivatives of terms. -/
theorem der_ok {ts : List (List Int)} (h : isPo ts = true) {k : Nat} (hk : k = 0 ∨ k = 1) {n : Nat} (hn : n ≤ ts.length) : ∀ d ∈ derL k ts n, TOk d ∧ (1 ≤ geti d 2) ∧ (geti d 0 ≤ 60 ∧ geti d 1 ≤ 60) := by
  intro d hd
  obtain ⟨m, h1, h2, rfl⟩ := derL_mem k ts n d hd
  obtain ⟨q1, q2, q3, q4, _⟩ := (isPo_of h).2 m (by omega)
  unfold derT
  rcases hk with rfl | rfl
  · have z := mod_ne (a := geti (gets ts (m : Nat)) 0) (b := geti (gets ts (m : Nat)) 2) (by simp only [Int.natCast_zero] at h2; omega) q4
    have z2 := Int.emod_nonneg (geti (gets ts (m : Nat)) 0 * geti (gets ts (m : Nat)) 2) (show (55441 : Int) ≠ 0 by decide)
    have z3 := Int.emod_lt_of_pos (geti (gets ts (m : Nat)) 0 * geti (gets ts (m : Nat)) 2) (show (0 : Int) < 55441 by decide)
    simp only [Int.natCast_zero] at h2
    exact tok3 (by omega) (by omega) (by omega)
  · have z := mod_ne (a := geti (gets ts (m : Nat)) 1) (b := geti (gets ts (m : Nat)) 2) (by simp only [Int.natCast_one] at h2; omega) q4
    have z2 := Int.emod_nonneg (geti (gets ts (m : Nat)) 1 * geti (gets ts (m : Nat)) 2) (show (55441 : Int) ≠ 0 by decide)
    have z3 := Int.emod_lt_of_pos (geti (gets ts (m : Nat)) 1 * geti (gets ts (m : Nat)) 2) (show (0 : Int) < 55441 by decide)
    simp only [Int.natCast_one] at h2
    exact tok3 (by omega) (by omega) (by omega)
/-- The derivatives stand in order. -/
theorem der_bef {ts : List (List Int)} (h : isPo ts = true) {k : Nat} (hk : k = 0 ∨ k = 1) {n : Nat} (hn : n < ts.length) (hp : 0 < geti (gets ts (n : Nat)) (k : Nat)) : ∀ d ∈ derL k ts n, bef (geti (derT k (gets ts (n : Nat))) 0) (geti (derT k (gets ts (n : Nat))) 1) d := by
  intro d hd
  obtain ⟨m, h1, h2, rfl⟩ := derL_mem k ts n d hd
  have hb := po_lt h h1 hn
  unfold Bef at hb
  unfold bef derT
  rcases hk with rfl | rfl
  · simp only [if_true]
    simp only [geti, Int.toNat_zero, Int.toNat_one, List.getD_cons_zero, List.getD_cons_succ] at *
    omega
  · rw [if_neg (by decide), if_neg (by decide)]
    simp only [geti, Int.toNat_zero, Int.toNat_one, List.getD_cons_zero, List.getD_cons_succ] at *
    omega

/-- Two orders of the same rows, the second strict. -/
theorem sorted_eq {l m : List (List Int)} (hp : l.Perm m) (hl : l.Pairwise (fun a b => ¬ cmpW b a < 0)) (hm : m.Pairwise (fun a b => cmpW a b < 0)) : l = m := by
  refine List.Perm.eq_of_pairwise (le := fun a b => ¬ cmpW b a < 0) ?_ hl (hm.imp fun {a b} h => ?_) hp
  · intro a b ha hb h1 h2
    obtain ⟨i, hi, rfl⟩ := List.mem_iff_getElem.1 (hp.mem_iff.1 ha)
    obtain ⟨j, hj, rfl⟩ := List.mem_iff_getElem.1 hb
    rw [List.pairwise_iff_getElem] at hm
    rcases Nat.lt_trichotomy i j with h | h | h
    · exact absurd (hm i j hi hj h) h2
    · subst h; rfl
    · exact absurd (hm j i hj hi h) h1
  · rw [cmpW_lt] at *; omega
theorem sorted_idx {xss : List (List Int)} {idx : List Nat} (hp : idx.Perm (List.range xss.length)) (h : ∀ i j : Nat, i < j → j < idx.length → ¬ cmpW (xss.getD (idx.getD j 0) []) (xss.getD (idx.getD i 0) []) < 0) :
    (idx.map fun i => xss.getD i []).Perm xss ∧ (idx.map fun i => xss.getD i []).Pairwise (fun a b => ¬ cmpW b a < 0) := by
  constructor
  · refine (hp.map _).trans (List.Perm.of_eq ?_)
    apply List.ext_getElem
    · simp
    · intro i h1 h2
      simp [List.getD_eq_getElem?_getD, h2]
  · rw [List.pairwise_iff_getElem]
    intro i j hi hj hij
    rw [List.length_map] at hi hj
    have := h i j hij hj
    simp only [List.getD_eq_getElem?_getD, List.getElem?_eq_getElem hi, List.getElem?_eq_getElem hj, Option.getD_some] at this
    simpa [List.getD_eq_getElem?_getD] using this
theorem derL_strict {ts : List (List Int)} (h : isPo ts = true) {k : Nat} (hk : k = 0 ∨ k = 1) : ∀ n, n ≤ ts.length → (derL k ts n).Pairwise (fun a b => cmpW a b < 0)
  | 0, _ => List.Pairwise.nil
  | n + 1, hn => by
    have ih := derL_strict h hk n (by omega)
    rw [derL]
    split
    · rename_i hp
      rw [List.pairwise_append]
      refine ⟨ih, List.pairwise_singleton _ _, fun a ha b hb => ?_⟩
      simp only [List.mem_singleton] at hb
      subst hb
      have := der_bef h hk (by omega) hp a ha
      rw [cmpW_lt]
      unfold bef at this
      omega
    · exact ih

end Go.Proofs.Ytifkgmbghcmdeaa
