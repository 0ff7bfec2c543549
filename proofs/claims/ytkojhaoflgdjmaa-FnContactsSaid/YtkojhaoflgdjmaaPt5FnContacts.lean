/-
  Parts of the proof, one behind the other: contracts of functions and plain laws. No condition.
-/
import Derived.Laws.Bits64b
import Derived.Test.YtkojhaoflgdjmaaPt4FnContacts
/-
  Contacts of parametrisations, summed over the roots: the plain law. No condition.
-/
namespace Go.Proofs.Ytkojhaoflgdjmaa
open Go Go.RowKit

def mF (x y : Int) : Int := x * y % 55441
theorem pw_nat (z : Int) (n : Nat) : pwF z (n : Nat) = z ^ n % 55441 := by unfold pwF; rw [Int.toNat_natCast]
theorem mod_l (a b : Int) : (a % 55441) * b % 55441 = a * b % 55441 := mulmod a b
theorem mod_r (a b : Int) : a * (b % 55441) % 55441 = a * b % 55441 := mulmod' a b
theorem pw_shift (z e : Int) (k i : Nat) : pwF (mF z (pwF e (k : Nat))) (i : Nat) = pwF z (i : Nat) * pwF e ((i * k : Nat) : Int) % 55441 := by
  rw [pw_nat, pw_nat, pw_nat, pw_nat]
  unfold mF
  rw [powmod, mod_l, mod_r, Int.mul_pow, ← mod_r, powmod, mod_r, ← Int.pow_mul, Nat.mul_comm k i]
theorem pw_mF (x y : Int) (i : Nat) : pwF (mF x y) (i : Nat) = pwF x (i : Nat) * pwF y (i : Nat) % 55441 := by
  rw [pw_nat, pw_nat, pw_nat]
  unfold mF
  rw [powmod, Int.mul_pow, mod_l, mod_r]
theorem conj_get (a : List Int) (z : Int) {i : Nat} (h : i < a.length) : geti (conjK a z a.length) (i : Nat) = geti a (i : Nat) * pwF z (i : Nat) % 55441 := by
  simp [geti, conjK, h]
/-- One root more in both. -/
theorem val_shift (a : List Int) (z e : Int) (k : Nat) (s : Nat) : ∀ m : Nat, m ≤ a.length → val (conjK a (mF z (pwF e (k : Nat))) a.length) k m s = val (conjK a z a.length) k m s * pwF e (s : Nat) % 55441
  | 0, _ => by simp [val]
  | m + 1, h => by
    rw [val, val]
    by_cases hs : s = m * k
    · rw [if_pos hs, if_pos hs, conj_get a _ (by omega), conj_get a _ (by omega), pw_shift, ← hs, mod_r, mod_l, Int.mul_assoc]
    · rw [if_neg hs, if_neg hs]; exact val_shift a z e k s m (by omega)
theorem cancelF {u v x y : Int} (h : mF u v = 1) (hx : 0 ≤ x ∧ x ≤ 55440) (hy : 0 ≤ y ∧ y ≤ 55440) (e : x * u % 55441 = y * u % 55441) : x = y := by
  have key : ∀ t : Int, 0 ≤ t ∧ t ≤ 55440 → (t * u % 55441) * v % 55441 = t := fun t ht => by
    rw [mod_l, Int.mul_assoc, ← mod_r]
    have : u * v % 55441 = 1 := h
    rw [this, Int.mul_one, Int.emod_eq_of_lt ht.1 (by omega)]
  rw [← key x hx, ← key y hy, e]
theorem conj_in (a : List Int) (z : Int) : inF (conjK a z a.length) := fun i => by
  unfold geti conjK
  rw [List.getD_eq_getElem?_getD, List.getElem?_map]
  cases e : (List.range a.length)[i.toNat]? with
  | none => simp
  | some k => simpa using modF _
/-- Where two conjugates part. -/
def dF (a b : List Int) (A B S : Nat) (x y : Int) : Nat := dif (val (conjK a x a.length) A a.length) (val (conjK b y b.length) B b.length) S
theorem dif_congr {f g f' g' : Nat → Int} {S : Nat} (h : ∀ s, s < S → (f s = g s ↔ f' s = g' s)) : dif f g S = dif f' g' S := by
  have h1 := dif_le f g S
  have h2 := dif_le f' g' S
  rcases Nat.lt_or_ge (dif f g S) S with k | k
  · exact (dif_is (fun t ht => (h t (by omega)).1 (dif_eq ht)) k fun e => dif_ne k ((h _ k).2 e)).symm
  · rw [dif_all (f := f') (g := g') fun t ht => (h t ht).1 (dif_eq (B := S) (by omega))]; omega
theorem dF_swap (a b : List Int) (A B S : Nat) (x y : Int) : dF a b A B S x y = dF b a B A S y x := dif_congr fun _ _ => ⟨Eq.symm, Eq.symm⟩
theorem dF_shift (a b : List Int) (A B S : Nat) (x y : Int) {e e' : Int} (he : mF e e' = 1) : dF a b A B S (mF x (pwF e (A : Nat))) (mF y (pwF e (B : Nat))) = dF a b A B S x y := by
  unfold dF
  refine dif_congr fun s _ => ?_
  rw [val_shift a x e A s _ (Nat.le_refl _), val_shift b y e B s _ (Nat.le_refl _)]
  have hu : mF (pwF e (s : Nat)) (pwF e' (s : Nat)) = 1 := by
    have := pw_mF e e' s
    rw [he] at this
    unfold mF
    rw [← this, pw_nat, Int.one_pow]; rfl
  have v1 := val_in (conj_in a x) A a.length s
  have v2 := val_in (conj_in b y) B b.length s
  exact ⟨fun h => cancelF hu v1 v2 h, fun h => by rw [h]⟩
/-- A conjugate of a conjugate. -/
theorem conj_conj (b : List Int) (x y : Int) : conjK (conjK b x b.length) y (conjK b x b.length).length = conjK b (mF x y) b.length := by
  rw [conjK_len]
  unfold conjK
  refine List.map_congr_left fun i hi => ?_
  have hi := List.mem_range.1 hi
  have e : geti ((List.range b.length).map fun i => geti b (i : Nat) * pwF x (i : Nat) % 55441) (i : Nat) = geti b (i : Nat) * pwF x (i : Nat) % 55441 := by simp [geti, hi]
  rw [e, pw_mF, mod_l, mod_r, Int.mul_assoc]

/-! ### The roots -/
def eN (C t : Nat) : Int := (((38 ^ (55440 / C) % 55441) ^ t % 55441 : Nat) : Int)
def rtOk (n : Nat) : Bool := decide ((rtL n).Nodup) && decide ((rtL n).length = n) && decide ((1 : Int) ∈ rtL n) && (rtL n).all fun x => decide (0 ≤ x ∧ x ≤ 55440) && ((rtL n).all fun y => decide (mF x y ∈ rtL n)) && (rtL n).any fun y => decide (mF x y = 1)
def rtPair (n m : Nat) : Bool := (rtL n).all fun x => (List.range n).any fun t =>
  decide (pwF (eN (cC n m).toNat t) ((cA n m).toNat : Nat) = x) && decide (pwF (eN (cC n m).toNat t) ((cB n m).toNat : Nat) ∈ rtL m) && decide (mF (eN (cC n m).toNat t) (pwF (eN (cC n m).toNat t) (((cC n m).toNat - 1 : Nat) : Int)) = 1)
set_option maxRecDepth 100000 in
theorem rtOk_all : ∀ n ∈ List.range 13, 0 < n → rtOk n = true := by decide +kernel
set_option maxRecDepth 100000 in
theorem rtPair_all : ∀ n ∈ List.range 13, ∀ m ∈ List.range 13, 0 < n → 0 < m → rtPair n m = true := by decide +kernel
structure RtOk (n : Nat) : Prop where
  nd : (rtL n).Nodup
  len : (rtL n).length = n
  one : (1 : Int) ∈ rtL n
  rng : ∀ x ∈ rtL n, 0 ≤ x ∧ x ≤ 55440
  mul : ∀ x ∈ rtL n, ∀ y ∈ rtL n, mF x y ∈ rtL n
  inv : ∀ x ∈ rtL n, ∃ y ∈ rtL n, mF x y = 1
theorem rt_ok {n : Nat} (h : 1 ≤ n ∧ n ≤ 12) : RtOk n := by
  have := rtOk_all n (List.mem_range.2 (by omega)) (by omega)
  unfold rtOk at this
  simp only [Bool.and_eq_true, decide_eq_true_eq, List.all_eq_true, List.any_eq_true] at this
  obtain ⟨⟨⟨h1, h2⟩, h3⟩, h4⟩ := this
  exact ⟨h1, h2, h3, fun x hx => (h4 x hx).1.1, fun x hx => (h4 x hx).1.2, fun x hx => (h4 x hx).2⟩
theorem rt_pair {n m : Nat} (h : 1 ≤ n ∧ n ≤ 12) (hm : 1 ≤ m ∧ m ≤ 12) : ∀ x ∈ rtL n, ∃ e e', pwF e ((cA n m).toNat : Nat) = x ∧ pwF e ((cB n m).toNat : Nat) ∈ rtL m ∧ mF e e' = 1 := by
  have := rtPair_all n (List.mem_range.2 (by omega)) m (List.mem_range.2 (by omega)) (by omega) (by omega)
  unfold rtPair at this
  simp only [Bool.and_eq_true, decide_eq_true_eq, List.all_eq_true, List.any_eq_true] at this
  intro x hx
  obtain ⟨t, _, ⟨h1, h2⟩, h3⟩ := this x hx
  exact ⟨_, _, h1, h2, h3⟩
set_option maxRecDepth 100000 in
theorem rtPow_all : ∀ n ∈ List.range 13, 0 < n → ((rtL n).all fun x => decide (pwF x (n : Nat) = 1)) = true := by decide +kernel
theorem rt_pow {n : Nat} (h : 1 ≤ n ∧ n ≤ 12) : ∀ x ∈ rtL n, pwF x (n : Nat) = 1 := fun x hx => by
  have := rtPow_all n (List.mem_range.2 (by omega)) (by omega)
  simpa using List.all_eq_true.1 this x hx
/-! ### Sums -/
theorem sum_perm {l m : List Int} (h : l.Perm m) (F : Int → Nat) : (l.map F).sum = (m.map F).sum := by
  induction h with
  | nil => rfl
  | cons x _ ih => simp [ih]
  | swap x y l => simp; omega
  | trans _ _ ih1 ih2 => exact ih1.trans ih2
theorem sum_const {l : List Int} {F : Int → Nat} {c : Nat} (h : ∀ x ∈ l, F x = c) : (l.map F).sum = l.length * c := by
  induction l with
  | nil => simp
  | cons a l ih =>
    rw [List.map_cons, List.sum_cons, ih fun x hx => h x (by simp [hx]), h a (by simp), List.length_cons, Nat.succ_mul, Nat.add_comm]
theorem sum_add (l : List Int) (F G : Int → Nat) : (l.map fun x => F x + G x).sum = (l.map F).sum + (l.map G).sum := by
  induction l with
  | nil => rfl
  | cons a l ih => simp [ih]; omega
theorem sum_swap (l m : List Int) (F : Int → Int → Nat) : (l.map fun x => (m.map fun y => F x y).sum).sum = (m.map fun y => (l.map fun x => F x y).sum).sum := by
  induction l with
  | nil =>
    have : (m.map fun y => (([] : List Int).map fun x => F x y).sum).sum = m.length * 0 := sum_const fun x _ => rfl
    rw [this]; rfl
  | cons a l ih =>
    rw [List.map_cons, List.sum_cons, ih, ← sum_add]
    rfl
theorem mF_comm (x y : Int) : mF x y = mF y x := by unfold mF; rw [Int.mul_comm]
theorem mF_assoc (x y z : Int) : mF (mF x y) z = mF x (mF y z) := by unfold mF; rw [mod_l, mod_r, Int.mul_assoc]
theorem mF_one {x : Int} (h : 0 ≤ x ∧ x ≤ 55440) : mF 1 x = x := by unfold mF; rw [Int.one_mul, Int.emod_eq_of_lt h.1 (by omega)]
/-- Multiplying by a root moves the roots about. -/
theorem rt_perm {n : Nat} (h : RtOk n) {x : Int} (hx : x ∈ rtL n) : ((rtL n).map fun y => mF y x).Perm (rtL n) := by
  obtain ⟨x', hx', e⟩ := h.inv x hx
  have back : ∀ y ∈ rtL n, mF (mF y x) x' = y := fun y hy => by rw [mF_assoc, e, mF_comm, mF_one (h.rng y hy)]
  have back2 : ∀ y ∈ rtL n, mF (mF y x') x = y := fun y hy => by rw [mF_assoc, mF_comm x', e, mF_comm, mF_one (h.rng y hy)]
  refine (List.perm_ext_iff_of_nodup ?_ h.nd).2 fun y => ?_
  · rw [List.nodup_iff_pairwise_ne, List.pairwise_map]
    refine h.nd.imp_of_mem ?_
    intro a b ha hb hne e2
    exact hne (by rw [← back a ha, ← back b hb, e2])
  · rw [List.mem_map]
    constructor
    · rintro ⟨z, hz, rfl⟩; exact h.mul z hz x hx
    · intro hy; exact ⟨mF y x', h.mul y hy x' hx', back2 y hy⟩
theorem sum_mF {n : Nat} (h : RtOk n) {x : Int} (hx : x ∈ rtL n) (F : Int → Nat) : ((rtL n).map fun y => F (mF y x)).sum = ((rtL n).map F).sum := by
  rw [← sum_perm (rt_perm h hx) F, List.map_map]; rfl

/-! ### Contacts -/
section
variable {n m : Nat} {a b : List Int}
abbrev FF (n m : Nat) (a b : List Int) (x y : Int) : Nat := dF a b (cA n m).toNat (cB n m).toNat (cS n m).toNat x y
theorem FF_row (hn : 1 ≤ n ∧ n ≤ 12) (hm : 1 ≤ m ∧ m ≤ 12) {x : Int} (hx : x ∈ rtL n) : ∃ z ∈ rtL m, ∀ y ∈ rtL m, FF n m a b 1 y = FF n m a b x (mF y z) := by
  obtain ⟨e, e', h1, h2, h3⟩ := rt_pair hn hm x hx
  refine ⟨_, h2, fun y hy => ?_⟩
  have := dF_shift a b (cA n m).toNat (cB n m).toNat (cS n m).toNat 1 y h3
  rw [h1, mF_one ((rt_ok hn).rng x hx)] at this
  exact this.symm
theorem FF_sum (hn : 1 ≤ n ∧ n ≤ 12) (hm : 1 ≤ m ∧ m ≤ 12) {x : Int} (hx : x ∈ rtL n) : ((rtL m).map (FF n m a b x)).sum = ((rtL m).map (FF n m a b 1)).sum := by
  obtain ⟨z, hz, h⟩ := FF_row (a := a) (b := b) hn hm hx
  rw [List.map_congr_left h]
  exact (sum_mF (rt_ok hm) hz (FF n m a b x)).symm
theorem FF_total (hn : 1 ≤ n ∧ n ≤ 12) (hm : 1 ≤ m ∧ m ≤ 12) : ((rtL n).map fun x => ((rtL m).map fun y => FF n m a b x y).sum).sum = n * ((rtL m).map (FF n m a b 1)).sum := by
  rw [sum_const (l := rtL n) (F := fun x => ((rtL m).map fun y => FF n m a b x y).sum) fun x hx => FF_sum hn hm hx, (rt_ok hn).len]
theorem cAB_all : ∀ n ∈ List.range 13, ∀ m ∈ List.range 13, 0 < n → 0 < m → cA n m = cB m n ∧ cB n m = cA m n ∧ cS n m = cS m n ∧ (n : Int) * cA n m = (m : Int) * cB n m ∧ 0 < cA n m ∧ 0 < cB n m := by decide +kernel
theorem FF_swap (hn : 1 ≤ n ∧ n ≤ 12) (hm : 1 ≤ m ∧ m ≤ 12) (x y : Int) : FF n m a b x y = FF m n b a y x := by
  obtain ⟨h1, h2, h3, _⟩ := cAB_all n (List.mem_range.2 (by omega)) m (List.mem_range.2 (by omega)) (by omega) (by omega)
  unfold FF
  rw [dF_swap, h1, h2, h3]
theorem FF_both (hn : 1 ≤ n ∧ n ≤ 12) (hm : 1 ≤ m ∧ m ≤ 12) : n * ((rtL m).map (FF n m a b 1)).sum = m * ((rtL n).map (FF m n b a 1)).sum := by
  rw [← FF_total hn hm, ← FF_total hm hn, sum_swap]
  congr 1
  refine List.map_congr_left fun y hy => ?_
  congr 1
  exact List.map_congr_left fun x hx => FF_swap hn hm x y
theorem conj_one {a : List Int} (h : inF a) : conjK a 1 a.length = a := by
  apply List.ext_getElem (conjK_len _ _ _)
  intro i h1 h2
  have e := conj_get a 1 h2
  have h3 := h i
  rw [pw_nat, Int.one_pow, show (1 : Int) % 55441 = 1 from rfl, Int.mul_one, Int.emod_eq_of_lt h3.1 (by omega)] at e
  simp [geti, List.getD_eq_getElem?_getD, conjK_len, h2] at e
  exact e
theorem ser_F {n : Int} {cs : List Int} (h : isSerB n cs = true) : inF cs := fun i => isSerB_get h i
theorem ctD_FF (ha : inF a) {j : Nat} : ctD n m a b j = FF n m a b 1 (geti (rtL m) (j : Nat)) := by
  unfold FF dF ctD ctG
  rw [conj_one ha, conjK_len]
theorem map_range (l : List Int) (F : Int → Nat) : (List.range l.length).map (fun j : Nat => F (geti l (j : Nat))) = l.map F := by
  apply List.ext_getElem (by simp)
  intro i h1 h2
  simp at h1 h2
  simp [geti, h2]
theorem sumK_map (f : Nat → Nat) : ∀ k n : Nat, k ≤ n → sumK ((List.range n).map fun j => (f j : Int)) k = (((List.range k).map f).sum : Nat)
  | 0, n, _ => rfl
  | k + 1, n, h => by
    have e : geti ((List.range n).map fun j => (f j : Int)) (k : Nat) = f k := by simp [geti, show k < n by omega]
    rw [sumK, sumK_map f k n (by omega), e, List.range_succ, List.map_append, List.sum_append]
    simp
/-- All contacts are there, and their sum. -/
theorem ctAll_FF (ha : inF a) (hm : 1 ≤ m ∧ m ≤ 12) : CtAll n m a b ↔ ∀ y ∈ rtL m, FF n m a b 1 y ≠ (cS n m).toNat := by
  have hl := (rt_ok hm).len
  constructor
  · intro h y hy
    obtain ⟨j, hj⟩ := List.getElem?_of_mem hy
    have hj2 := (List.getElem?_eq_some_iff.1 hj).1
    have := h j (by omega)
    rw [ctD_FF ha] at this
    have e : geti (rtL m) (j : Nat) = y := by simp [geti, List.getD_eq_getElem?_getD, hj]
    rwa [e] at this
  · intro h j hj
    rw [ctD_FF ha]
    refine h _ ?_
    have hj2 : j < (rtL m).length := by omega
    have e : geti (rtL m) (j : Nat) = (rtL m)[j] := by simp [geti, hj2]
    rw [e]; exact List.getElem_mem _
theorem ct_sum (ha : inF a) (hm : 1 ≤ m ∧ m ≤ 12) : sumK (ctL n m a b m) m = (((rtL m).map (FF n m a b 1)).sum : Nat) := by
  have hl := (rt_ok hm).len
  unfold ctL
  rw [sumK_map (fun i => ctD n m a b i) m m (Nat.le_refl _), ← map_range (rtL m), hl]
  congr 2
  exact List.map_congr_left fun j _ => ctD_FF ha
theorem ctAll_all (hn : 1 ≤ n ∧ n ≤ 12) (hm : 1 ≤ m ∧ m ≤ 12) (h : ∀ y ∈ rtL m, FF n m a b 1 y ≠ (cS n m).toNat) : ∀ x ∈ rtL n, ∀ y ∈ rtL m, FF n m a b x y ≠ (cS n m).toNat := by
  intro x hx y hy
  obtain ⟨z, hz, h1⟩ := FF_row (a := a) (b := b) hn hm hx
  have hR := rt_ok hm
  obtain ⟨z', hz', e⟩ := hR.inv z hz
  have h2 := h1 (mF y z') (hR.mul y hy z' hz')
  rw [mF_assoc, mF_comm z', e, mF_comm y 1, mF_one (hR.rng y hy)] at h2
  rw [← h2]
  exact h _ (hR.mul y hy z' hz')
theorem ctAll_swap (hn : 1 ≤ n ∧ n ≤ 12) (hm : 1 ≤ m ∧ m ≤ 12) (ha : inF a) (hb : inF b) (h : CtAll n m a b) : CtAll m n b a := by
  rw [ctAll_FF ha hm] at h
  rw [ctAll_FF hb hn]
  intro x hx
  obtain ⟨_, _, h3, _⟩ := cAB_all n (List.mem_range.2 (by omega)) m (List.mem_range.2 (by omega)) (by omega) (by omega)
  rw [← FF_swap hn hm, ← h3]
  exact ctAll_all hn hm h x hx 1 (rt_ok hm).one
end
/-- The intersection number is symmetric. -/
theorem in_swap {n : Int} {a : List Int} {m : Int} {b : List Int} (h : csE n a m b = 0) : csE m b n a = 0 ∧ inA m b n a = inA n a m b := by
  have h0 := h
  unfold csE at h
  split at h
  · rename_i h1
    obtain ⟨N, rfl⟩ := ser_nat h1.1
    obtain ⟨M, rfl⟩ := ser_nat h1.2
    have hN := isSerB_n h1.1
    have hM := isSerB_n h1.2
    have ha := ser_F h1.1
    have hb := ser_F h1.2
    rw [Int.toNat_natCast, Int.toNat_natCast] at h
    split at h
    · rename_i h2
      have hn : 1 ≤ N ∧ N ≤ 12 := by omega
      have hm : 1 ≤ M ∧ M ≤ 12 := by omega
      have h3 := ctAll_swap hn hm ha hb h2
      have e1 := csE_0 h1.1 h1.2 h2
      have e2 := csE_0 h1.2 h1.1 h3
      refine ⟨e2.1, ?_⟩
      obtain ⟨g1, g2, g3, g4, g5, g6⟩ := cAB_all N (List.mem_range.2 (by omega)) M (List.mem_range.2 (by omega)) (by omega) (by omega)
      unfold inA
      rw [if_pos e2.1, if_pos e1.1, e1.2, e2.2, ctL_len, ctL_len, ct_sum hb hn, ct_sum ha hm, ← g2]
      have hb2 := FF_both (a := a) (b := b) hn hm
      generalize ((rtL M).map (FF N M a b 1)).sum = s1 at *
      generalize ((rtL N).map (FF M N b a 1)).sum = s2 at *
      have hb3 : (N : Int) * (s1 : Int) = (M : Int) * (s2 : Int) := by rw [← Int.natCast_mul, ← Int.natCast_mul, hb2]
      rw [← Int.mul_ediv_mul_of_pos (a := (M : Int)) (s2 : Int) (cB N M) (by omega), ← Int.mul_ediv_mul_of_pos (a := (N : Int)) (s1 : Int) (cA N M) (by omega), hb3, g4]
    · cases h
  · cases h
/-- Conjugates have the same intersection numbers. -/
theorem in_conj {n : Int} {a : List Int} {m : Int} {b : List Int} (h : csE n a m b = 0) {z : Int} (hz : z ∈ rtL m.toNat) : conjE m b z = 0 ∧ conjN m b z = m ∧ csE n a m (conjL m b z) = 0 ∧ inA n a m (conjL m b z) = inA n a m b := by
  have h0 := h
  unfold csE at h
  split at h
  · rename_i h1
    obtain ⟨N, rfl⟩ := ser_nat h1.1
    obtain ⟨M, rfl⟩ := ser_nat h1.2
    have hN := isSerB_n h1.1
    have hM := isSerB_n h1.2
    have ha := ser_F h1.1
    have hb := ser_F h1.2
    rw [Int.toNat_natCast] at hz
    rw [Int.toNat_natCast, Int.toNat_natCast] at h
    split at h
    · rename_i h2
      have hn : 1 ≤ N ∧ N ≤ 12 := by omega
      have hm : 1 ≤ M ∧ M ≤ 12 := by omega
      have hR := rt_ok hm
      have hzr := hR.rng z hz
      have hz1 : pwF z (M : Nat) = 1 := rt_pow hm z hz
      have hE : conjE M b z = 0 := by unfold conjE; rw [if_pos h1.2, if_pos hzr, if_pos hz1]
      have hL : conjL M b z = conjK b z b.length := by unfold conjL; rw [if_pos hE]
      have hS : isSerB M (conjK b z b.length) = true := by
        unfold isSerB
        rw [conjK_len]
        have hw : withinL (conjK b z b.length) 0 55440 = true := by
          unfold withinL
          rw [List.all_eq_true]
          intro x hx
          obtain ⟨i, hi⟩ := List.getElem?_of_mem hx
          have := conj_in b z (i : Nat)
          have e : geti (conjK b z b.length) (i : Nat) = x := by simp [geti, List.getD_eq_getElem?_getD, hi]
          rw [e] at this
          simpa using this
        have h00 : geti (conjK b z b.length) 0 = 0 := by
          have := conj_get b z (i := 0) (by omega)
          rw [show ((0 : Nat) : Int) = 0 from rfl] at this
          rw [this, hM.2.2.2.2, Int.zero_mul]; rfl
        rw [hw, decide_eq_true h00, decide_eq_true (by omega), decide_eq_true (by omega), decide_eq_true (by omega)]; rfl
      have hFF : ∀ y, FF N M a (conjK b z b.length) 1 y = FF N M a b 1 (mF z y) := fun y => by
        unfold FF dF
        rw [conj_conj, conjK_len]
      have hall : CtAll N M a (conjK b z b.length) := by
        rw [ctAll_FF ha hm] at h2 ⊢
        intro y hy
        rw [hFF]
        exact h2 _ (hR.mul z hz y hy)
      have e1 := csE_0 h1.1 h1.2 h2
      have e2 := csE_0 h1.1 hS hall
      refine ⟨hE, by unfold conjN; rw [if_pos hE], by rw [hL]; exact e2.1, ?_⟩
      rw [hL]
      unfold inA
      rw [if_pos e2.1, if_pos e1.1, e1.2, e2.2, ctL_len, ctL_len, ct_sum ha hm, ct_sum ha hm]
      congr 2
      rw [List.map_congr_left fun y _ => hFF y]
      have := sum_mF hR hz (FF N M a b 1)
      rw [← this]
      congr 1
      exact List.map_congr_left fun y _ => by rw [mF_comm]
    · cases h
  · cases h
end Go.Proofs.Ytkojhaoflgdjmaa
/-
  A source of numbers: a struct of bytes, a place and a hash behind a pointer; functions that write to it in its place, whatever it then holds. No condition.
-/
namespace Go.Proofs.Ytkojhaoflgdjmaa
open Go Go.RowKit
set_option linter.unusedSimpArgs false

def SOk (bs : List Int) (at_ h : Int) : Prop := (0 ≤ at_ ∧ at_ ≤ bs.length) ∧ (0 ≤ h ∧ h < 18446744073709551616)
/-- The struct in memory. -/
structure Sk (T : TypeId) (base : Nat) (w : World) (g0 : Gh) (vC : Value) (at_ h : Int) : Prop where
  cell : w.heap[g0.b]? = some (.cells #[vC, .int .i64 at_, .int .u64 h] T (0, 0))
  one : vC.oneCell' = true
  hb : base ≤ g0.b
  bl : g0.bl = [g0.b]
  v : g0.v = .pointer (some ⟨g0.b, 0, none⟩)
def AFnS (P : Program) (f : FuncId) (T : TypeId) (bs : List Int) (as0 : List Value) (Q : Value → Prop) : Prop :=
  HasBody P f ∧ ∀ base w g0 vC at_ h, base ≤ w.heap.size → Sk T base w g0 vC at_ h → SOk bs at_ h → BysAt w (fun b => b ∉ g0.bl) vC bs →
    Calls P f (g0.v :: as0).toArray w fun ev w' => ∃ rv at' h', ev = .returned rv ∧ Q rv ∧ SOk bs at' h' ∧ Sk T base w' g0 vC at' h' ∧ Below base w w' ∧ ∀ b, b < w.heap.size → b ∉ g0.bl → w'.heap[b]? = w.heap[b]?
abbrev skL (T : TypeId) (bs : List Int) (vC : Value) (at_ h : Int) : AO := .bx T [.ro (roB vC bs), .val (.int .i64 at_), .val (.int .u64 h)]
def SkEnd (P : Program) (fn : Func) (T : TypeId) (bs : List Int) (vC : Value) (K : Kp) (Q : Value → Prop) (env : Env) (os : List AO) : Prop :=
  ∃ rv at' h', ResIs P fn env os (.val rv) ∧ Q rv ∧ SOk bs at' h' ∧ ∃ tl, os = .keep 2 K :: skL T bs vC at' h' :: tl

set_option maxHeartbeats 2000000 in
theorem AFnS.of {P : Program} {f : FuncId} {fn : Func} {c : Code} {T : TypeId} {bs : List Int} {as0 : List Value} {args' : List AV} {Q : Value → Prop} {n : Nat} (hf : P.funcs[f]? = some fn) (hb : fn.body = some c) (hnm : (fn.name == "runtime.NumGoroutine") = false)
    (hn : fn.ntmps - (as0.length + 1) = n) (ha : args' = .optr 1 0 :: as0.map AV.val)
    (h : ∀ K vC at_ h, SOk bs at_ h → AWp P c (SkEnd P fn T bs vC K Q) (fun _ _ _ => False) (SkEnd P fn T bs vC K Q) (Env.start args' n) [.keep 2 K, skL T bs vC at_ h]) :
    AFnS P f T bs as0 Q := by
  refine ⟨⟨fn, c, hf, hnm, hb⟩, fun base w g0 vC at_ hh hbase hC hI hW => calls_of_wp hf hb ?_⟩
  have hvs : ((g0.v :: as0).toArray).size = as0.length + 1 := by simp
  rw [show fn.ntmps - ((g0.v :: as0).toArray).size = n by rw [hvs]; exact hn]
  obtain ⟨c1, c1', c2, c3, c4⟩ := hC
  let bl : List Nat := (List.range w.heap.size).filter fun b => decide (base ≤ b) && !(g0.bl).contains b
  let gk : Gh := ⟨undef, 0, bl, []⟩
  let K : Kp := ⟨fun b => w.heap[b]?, [gk, g0]⟩
  have hlt : g0.b < w.heap.size := (Array.getElem?_eq_some_iff.1 c1).1
  have hbl : ∀ b, b ∈ bl ↔ b < w.heap.size ∧ base ≤ b ∧ b ∉ g0.bl := by
    intro b
    simp only [bl, List.mem_filter, List.mem_range, Bool.and_eq_true, decide_eq_true_eq, Bool.not_eq_true', List.contains_eq_mem, decide_eq_false_iff_not]
  have okk : ∀ b, b ∉ g0.bl → okOf [gk, g0] [.keep 2 K, skL T bs vC at_ hh] b := by
    intro b hb i x y hx hy hl
    match i with
    | 0 => cases hy; exact hl.elim
    | 1 => cases hx; exact hb
    | i + 2 => simp at hx
  have kp : Keeps (fun b => b ∉ g0.bl) (okOf [gk, g0] [.keep 2 K, skL T bs vC at_ hh]) w w := fun b hb _ => ⟨okk b hb, rfl⟩
  have hrel : Rel base w [gk, g0] (Env.start args' n) [.keep 2 K, skL T bs vC at_ hh] ((g0.v :: as0).toArray ++ Array.replicate n undef) := by
    refine ⟨hbase, rfl, by simp [Env.start, ha], fun i => ?_, ?_, ?_, ?_⟩
    · refine start_rv args' n (g0.v :: as0).toArray (fun i => ?_) i
      rw [ha]
      match i with
      | 0 =>
        show RV w _ _ g0.v (.optr 1 0)
        rw [c4]
        exact .optr (g := g0) rfl
      | i + 1 =>
        have e1 : ((g0.v :: as0).toArray).getD (i + 1) undef = as0.getD i undef := by simp [Array.getD_eq_getD_getElem?, List.getD_eq_getElem?_getD]
        have e2 : (AV.optr 1 0 :: as0.map AV.val).getD (i + 1) .any = (as0.map AV.val).getD i .any := rfl
        rw [e1, e2]
        rw [List.getD_eq_getElem?_getD, List.getD_eq_getElem?_getD, List.getElem?_map]
        cases as0[i]? with
        | none => exact .any _
        | some z => exact .val z
    · intro i x y hx hy
      match i with
      | 0 =>
        cases hx; cases hy
        exact ⟨fun b _ => rfl, rfl, fun i x h => h⟩
      | 1 =>
        cases hx; cases hy
        refine ⟨[vC, .int .i64 at_, .int .u64 hh], c1, c2, c3, c4, rfl, ?_, fun j => ?_⟩
        · intro z hz
          simp only [List.mem_cons, List.not_mem_nil, or_false] at hz
          rcases hz with rfl | rfl | rfl
          · exact c1'
          · rfl
          · rfl
        · match j with
          | 0 => exact .ro ⟨rfl, hW.mono kp⟩
          | 1 => exact .val _
          | 2 => exact .val _
          | j + 3 => exact .any _
      | i + 2 => simp at hx
    · intro i j a b o1 o2 hij ha1 hb1 ho1 ho2 _ _ c hc1 hc2
      match i, j with
      | 0, 0 => omega
      | 0, 1 =>
        cases ha1; cases hb1
        exact ((hbl c).1 hc1).2.2 hc2
      | 1, 0 =>
        cases ha1; cases hb1
        exact ((hbl c).1 hc2).2.2 hc1
      | 1, 1 => omega
      | i + 2, _ => simp at ha1
      | 0, j + 2 => simp at hb1
      | 1, j + 2 => simp at hb1
    · intro i x y hx hy _ b hb
      match i with
      | 0 => cases hx; exact ⟨((hbl b).1 hb).2.1, ((hbl b).1 hb).1⟩
      | 1 =>
        cases hx
        rw [c3] at hb
        simp only [List.mem_cons, List.not_mem_nil, or_false] at hb
        subst hb; exact ⟨c2, hlt⟩
      | i + 2 => simp at hx
  have fin : ∀ {env : Env} {os1 : List AO} {gs2 : List Gh} {a : Act} {w' : World}, Rel base w' gs2 env os1 a.tmps → Below base w w' → SkEnd P fn T bs vC K Q env os1 →
      ∃ u, (results fn a.tmps).run P w' = .ok u w' ∧ (∃ rv at' h', Ending.returned u = .returned rv ∧ Q rv ∧ SOk bs at' h' ∧ Sk T base w' g0 vC at' h' ∧ Below base w w' ∧ ∀ b, b < w.heap.size → b ∉ g0.bl → w'.heap[b]? = w.heap[b]?) := by
    rintro env os1 gs2 a w' hr hbel ⟨rv, at', h', hres, hQ, hI', tl, rfl⟩
    obtain ⟨u, hu, hv⟩ := hres _ _ _ _ hr
    cases hv
    have hgl := hr.hl
    obtain ⟨x0, hx0⟩ : ∃ x, gs2[0]? = some x := ⟨_, List.getElem?_eq_getElem (by rw [hgl]; simp)⟩
    obtain ⟨r1, r2, r3⟩ := hr.ho 0 _ _ hx0 rfl
    have p0 := r3 0 gk rfl
    have p1 := r3 1 g0 rfl
    have e0 : x0 = gk := by rw [hx0] at p0; exact Option.some.inj p0
    subst e0
    have o1 := hr.ho 1 _ _ p1 rfl
    obtain ⟨cs, d1, d2, d3, d4, d5, d6, d7⟩ := o1
    match cs, d5 with
    | [z0, z1, z2], _ =>
      have q0 := d7 0
      have q1 := d7 1
      have q2 := d7 2
      have w0 : z0 = vC := by cases q0 with | ro h => exact h.1
      have w1 : z1 = .int .i64 at' := by cases q1; rfl
      have w2 : z2 = .int .u64 h' := by cases q2; rfl
      subst w0 w1 w2
      refine ⟨_, hu, _, at', h', rfl, hQ, hI', ⟨d1, c1', c2, c3, c4⟩, hbel, fun b hb hok => ?_⟩
      rcases Nat.lt_or_ge b base with h6 | h6
      · exact hbel.block b h6
      · exact r1 b ((hbl b).2 ⟨hb, h6, hok⟩)
  refine wp_mono (h K vC at_ hh hI base w w _ _ hrel (Below.refl _ _)) ?_
  intro ev a w' hq
  cases ev with
  | normal =>
    obtain ⟨env, os1, gs1, hr, hd, hbel, hx⟩ := hq
    obtain ⟨u, hu, hw⟩ := fin hr hbel hx
    exact ⟨hd, u, hu, hw⟩
  | exit j => obtain ⟨_, _, _, _, _, _, hx⟩ := hq; exact hx.elim
  | ret =>
    obtain ⟨env, os1, gs1, hr, hd, hbel, hx⟩ := hq
    obtain ⟨u, hu, hw⟩ := fin hr hbel hx
    exact ⟨hd, u, hu, hw⟩
  | goto l => exact (hq : False).elim
  | panic ch => exact (hq : False).elim
  | outgrown => exact (hq : False).elim
theorem AFnS.start {P : Program} {f : FuncId} {fn : Func} {nt : Nat} {T : TypeId} {bs : List Int} {as0 : List Value} {Q : Value → Prop} (hf : P.funcs[f]? = some fn) (hnt : fn.ntmps = nt) {c : Code} (hb : fn.body = some c) (hnm : (fn.name == "runtime.NumGoroutine") = false)
    (h : ∀ K vC at_ h, SOk bs at_ h → AWp P c (SkEnd P fn T bs vC K Q) (fun _ _ _ => False) (SkEnd P fn T bs vC K Q) (Env.start (.optr 1 0 :: as0.map AV.val) (nt - (as0.length + 1))) [.keep 2 K, skL T bs vC at_ h]) :
    AFnS P f T bs as0 Q := AFnS.of hf hb hnm (by rw [hnt]) rfl h

section
variable {P : Program} {env : Env} {os : List AO} {d : Option Tmp} {ty : TypeId} {pos : String} {af : Array Edge} {g : Option (Nat × Bool)}
theorem q_build23 {t : TypeId} {z0 z1 z2 : Value} {wl : Bool} [ht : TBuild P t 3 [z0, z1, z2]] {x1 x2 : Operand} {a1 a2 : AV} (h1 : AV.ev env x1 = a1) (h2 : AV.ev env x2 = a2)
    (o1 : OneC env os a1) (o2 : OneC env os a2) (hz : z1.oneCell' = true) :
    QOp P wl ⟨d, .build t #[(0, x1), (2, x2)], ty, pos, af, g⟩ env os (.agg [a1, .val z1, a2]) :=
  .of_run fun _ w gs tm hr => by
    have v1 := hr.ev x1
    rw [h1] at v1
    have v2 := hr.ev x2
    rw [h2] at v2
    obtain ⟨p1, c1⟩ := o1 _ _ _ _ hr _ v1
    obtain ⟨p2, c2⟩ := o2 _ _ _ _ hr _ v2
    refine ⟨.agg [Act.eval ⟨tm, []⟩ x1, z1, Act.eval ⟨tm, []⟩ x2].toArray, .agg rfl (by simp; exact ⟨p1, hz, p2⟩) (rv_list rfl fun i hi => ?_), fun w' _ => ?_⟩
    · match i, hi with
      | 0, _ => exact v1
      | 1, _ => exact .val _
      | 2, _ => exact v2
    · have hb : P.built t (#[(0, Act.eval ⟨tm, []⟩ x1), (2, Act.eval ⟨tm, []⟩ x2)] : Array (Nat × Value)).toList = some #[Act.eval ⟨tm, []⟩ x1, z1, Act.eval ⟨tm, []⟩ x2] := by
        rcases ht.bl with e | e <;> rw [e] <;> simp [Instr.fill, c1, c2, List.range_succ]
      simp [execOp, run_build (P := P) w' t _ _ hb]
end
theorem wrap_u64 (n : Int) : 0 ≤ IntKind.u64.wrap n ∧ IntKind.u64.wrap n < 18446744073709551616 := by
  simp only [IntKind.wrap, IntKind.bits, IntKind.signed]
  simp; omega
theorem one_by {env : Env} {os : List AO} {bs : List Int} : OneC env os (.ro (byR bs)) := fun _ _ _ _ _ v h => by
  cases h with
  | ro h =>
    obtain ⟨⟨a, c, rfl, _⟩, _⟩ := (h : BysAt _ _ v bs)
    exact ⟨rfl, rfl⟩
theorem one_rb {env : Env} {os : List AO} {u : Value} {bs : List Int} : OneC env os (.ro (roB u bs)) := fun _ _ _ _ _ v h => by
  cases h with
  | ro h =>
    obtain ⟨_, ⟨a, c, rfl, _⟩, _⟩ := (h : v = u ∧ BysAt _ _ v bs)
    exact ⟨rfl, rfl⟩

section
variable {P : Program} {env : Env} {os : List AO} {d : Tmp} {ty : TypeId} {pos : String} {af : Array Edge} {g : Option (Nat × Bool)} {l rest : List Oper} {K : APost} {q : Md}
theorem w_lenby {t e : TypeId} [TSlice P t e] {x : Operand} {a : AV} {bs : List Int} (hw : wantedA l env ⟨some d, .call { callee := .builtin .len, args := #[x], argTypes := #[t] }, ty, pos, af, g⟩ = some true) (hx : evo env x = some a) (ha : RdB a bs)
    (h' : AOps P q l rest K (env.up d (.i bs.length)) os) : AOps P q l (⟨some d, .call { callee := .builtin .len, args := #[x], argTypes := #[t] }, ty, pos, af, g⟩ :: rest) K env os := AOps.qo hw (q_lenb (ev_of hx) ha) h'
theorem w_idxby {t e : TypeId} [TSlice P t e] [TCell P e] {x y : Operand} {a : AV} {bs : List Int} {i : Int} (hw : wantedA l env ⟨some d, .indexAddr t x y, ty, pos, af, g⟩ = some true) (hx : evo env x = some a) (ha : RdB a bs) (hy : evo env y = some (.i i)) (h0 : 0 ≤ i) (h1 : i < bs.length)
    (h' : AOps P q l rest K (env.up d (.ro (byP bs i))) os) : AOps P q l (⟨some d, .indexAddr t x y, ty, pos, af, g⟩ :: rest) K env os := AOps.qo hw (q_idxby (ev_of hx) ha (ev_of hy) h0 h1) h'
theorem w_ldby {t : TypeId} [TCell P t] {x : Operand} {bs : List Int} {i : Int} (hw : wantedA l env ⟨some d, .load t x, ty, pos, af, g⟩ = some true) (hq : q.wl = false) (hx : evo env x = some (.ro (byP bs i)))
    (h' : AOps P q l rest K (env.up d (.val (.int .u8 (geti bs i)))) os) : AOps P q l (⟨some d, .load t x, ty, pos, af, g⟩ :: rest) K env os := AOps.qo hw (by rw [hq]; exact q_ldby (ev_of hx)) h'
theorem w_umul {xt yt : TypeId} {x y : Operand} {a b : Int} (hw : wantedA l env ⟨some d, .binOp .mul xt x y yt, ty, pos, af, g⟩ = some true) (ha : evo env x = some (.val (.int .u64 a))) (hb : evo env y = some (.val (.int .u64 b)))
    (h' : ∀ c : Int, (0 ≤ c ∧ c < 18446744073709551616) → AOps P q l rest K (env.up d (.val (.int .u64 c))) os) : AOps P q l (⟨some d, .binOp .mul xt x y yt, ty, pos, af, g⟩ :: rest) K env os := AOps.qo hw (q_umul (ev_of ha) (ev_of hb)) (h' _ (wrap_u64 _))
theorem w_uadd {xt yt : TypeId} {x y : Operand} {a b : Int} (hw : wantedA l env ⟨some d, .binOp .add xt x y yt, ty, pos, af, g⟩ = some true) (ha : evo env x = some (.val (.int .u64 a))) (hb : evo env y = some (.val (.int .u64 b)))
    (h' : ∀ c : Int, (0 ≤ c ∧ c < 18446744073709551616) → AOps P q l rest K (env.up d (.val (.int .u64 c))) os) : AOps P q l (⟨some d, .binOp .add xt x y yt, ty, pos, af, g⟩ :: rest) K env os := AOps.qo hw (q_uadd (ev_of ha) (ev_of hb)) (h' _ (wrap_u64 _))
theorem w_umulx {xt yt : TypeId} {x y : Operand} {a b : Int} (hw : wantedA l env ⟨some d, .binOp .mul xt x y yt, ty, pos, af, g⟩ = some true) (ha : evo env x = some (.val (.int .u64 a))) (hb : evo env y = some (.val (.int .u64 b)))
    (h' : AOps P q l rest K (env.up d (.val (.int .u64 (IntKind.u64.wrap (a * b))))) os) : AOps P q l (⟨some d, .binOp .mul xt x y yt, ty, pos, af, g⟩ :: rest) K env os := AOps.qo hw (q_umul (ev_of ha) (ev_of hb)) h'
theorem w_uaddx {xt yt : TypeId} {x y : Operand} {a b : Int} (hw : wantedA l env ⟨some d, .binOp .add xt x y yt, ty, pos, af, g⟩ = some true) (ha : evo env x = some (.val (.int .u64 a))) (hb : evo env y = some (.val (.int .u64 b)))
    (h' : AOps P q l rest K (env.up d (.val (.int .u64 (IntKind.u64.wrap (a + b))))) os) : AOps P q l (⟨some d, .binOp .add xt x y yt, ty, pos, af, g⟩ :: rest) K env os := AOps.qo hw (q_uadd (ev_of ha) (ev_of hb)) h'
theorem w_ushr {xt yt : TypeId} {x y : Operand} {a : Int} (hw : wantedA l env ⟨some d, .binOp .shr xt x y yt, ty, pos, af, g⟩ = some true) (ha : evo env x = some (.val (.int .u64 a))) (hb : evo env y = some (.val (.int .u64 33))) (h0 : 0 ≤ a ∧ a < 18446744073709551616)
    (h' : ∀ c : Int, (0 ≤ c ∧ c < 18446744073709551616) → AOps P q l rest K (env.up d (.val (.int .u64 c))) os) : AOps P q l (⟨some d, .binOp .shr xt x y yt, ty, pos, af, g⟩ :: rest) K env os :=
  AOps.qo hw (show QOp P q.wl _ env os (.val (.int .u64 (a / 8589934592))) from q_bin (ev_of ha) (ev_of hb) (by simp [go_sem]) fun w => by
    have e : IntKind.u64.wrap (a / 8589934592) = a / 8589934592 := by simp [IntKind.wrap, IntKind.bits, IntKind.signed]; omega
    simp [go_sem, e]) (h' _ (by omega))
theorem w_uand {xt yt : TypeId} {x y : Operand} {a : Int} (hw : wantedA l env ⟨some d, .binOp .and xt x y yt, ty, pos, af, g⟩ = some true) (ha : evo env x = some (.val (.int .u64 a))) (hb : evo env y = some (.val (.int .u64 16777215))) (h0 : 0 ≤ a ∧ a < 18446744073709551616)
    (h' : ∀ c : Int, (0 ≤ c ∧ c ≤ 16777215) → AOps P q l rest K (env.up d (.val (.int .u64 c))) os) : AOps P q l (⟨some d, .binOp .and xt x y yt, ty, pos, af, g⟩ :: rest) K env os := by
  obtain ⟨n, rfl⟩ : ∃ n : Nat, a = n := ⟨a.toNat, by omega⟩
  have hle : n &&& 16777215 ≤ 16777215 := Nat.and_le_right
  refine AOps.qo hw (show QOp P q.wl _ env os (.val (.int .u64 ((n &&& 16777215 : Nat) : Int))) from q_bin (ev_of ha) (ev_of hb) (by simp [go_sem]) fun w => ?_) (h' _ (by omega))
  have e := bits_and_u64_nat n 16777215 (by omega) (by decide)
  have e2 : ((16777215 : Nat) : Int) = 16777215 := rfl
  rw [e2] at e
  simp [go_sem, e]
theorem w_convbi {src dst : TypeId} [TKind P src .u8] [TKind P dst .i64] {x : Operand} {a : Int} (hw : wantedA l env ⟨some d, .convert src dst x, ty, pos, af, g⟩ = some true) (ha : evo env x = some (.val (.int .u8 a))) (h0 : 0 ≤ a ∧ a ≤ 255)
    (h' : AOps P q l rest K (env.up d (.i a)) os) : AOps P q l (⟨some d, .convert src dst x, ty, pos, af, g⟩ :: rest) K env os :=
  AOps.qo hw (q_convb (k := .i64) (ev_of ha) (by simp [IntKind.wrap, IntKind.bits, IntKind.signed]; omega)) h'
theorem w_convbu {src dst : TypeId} [TKind P src .u8] [TKind P dst .u64] {x : Operand} {a : Int} (hw : wantedA l env ⟨some d, .convert src dst x, ty, pos, af, g⟩ = some true) (ha : evo env x = some (.val (.int .u8 a))) (h0 : 0 ≤ a ∧ a ≤ 255)
    (h' : AOps P q l rest K (env.up d (.val (.int .u64 a))) os) : AOps P q l (⟨some d, .convert src dst x, ty, pos, af, g⟩ :: rest) K env os :=
  AOps.qo hw (q_convb (k := .u64) (ev_of ha) (by simp [IntKind.wrap, IntKind.bits, IntKind.signed]; omega)) h'
theorem w_build23 {t : TypeId} {z0 z1 z2 : Value} [TBuild P t 3 [z0, z1, z2]] {x1 x2 : Operand} {a1 a2 : AV} (hw : wantedA l env ⟨some d, .build t #[(0, x1), (2, x2)], ty, pos, af, g⟩ = some true) (h1 : evo env x1 = some a1) (h2 : evo env x2 = some a2)
    (hz : z1.oneCell' = true) (o1 : OneC env os a1) (o2 : OneC env os a2) (h' : AOps P q l rest K (env.up d (.agg [a1, .val z1, a2])) os) : AOps P q l (⟨some d, .build t #[(0, x1), (2, x2)], ty, pos, af, g⟩ :: rest) K env os :=
  AOps.qo hw (q_build23 (ev_of h1) (ev_of h2) o1 o2 hz) h'
end
end Go.Proofs.Ytkojhaoflgdjmaa
/-
  Functions that make a source of numbers out of bytes. No condition.
-/
namespace Go.Proofs.Ytkojhaoflgdjmaa
open Go Go.RowKit

def AFnF (P : Program) (f : FuncId) (T : TypeId) (bs : List Int) : Prop :=
  HasBody P f ∧ ∀ w vC, BysAt w (fun _ => True) vC bs → Calls P f #[vC] w fun ev w' => ∃ g0 at_ h, ev = .returned g0.v ∧ SOk bs at_ h ∧ Sk T w.heap.size w' g0 vC at_ h ∧ Below w.heap.size w w'
theorem AFnF.of {P : Program} {f : FuncId} {fn : Func} {c : Code} {T : TypeId} {bs : List Int} {n : Nat} (hf : P.funcs[f]? = some fn) (hb : fn.body = some c) (hnm : (fn.name == "runtime.NumGoroutine") = false) (hn : fn.ntmps - 1 = n)
    (h : ∀ vC, AWp P c (fun _ _ => False) (fun _ _ _ => False) (fun env os => ∃ k at_ h, ResIs P fn env os (.optr k 0) ∧ os[k]? = some (skL T bs vC at_ h) ∧ SOk bs at_ h) (Env.start [.ro (roB vC bs)] n) []) : AFnF P f T bs := by
  refine ⟨⟨fn, c, hf, hnm, hb⟩, fun w vC hvC => calls_of_wp hf hb ?_⟩
  rw [show fn.ntmps - (#[vC] : Array Value).size = n from hn]
  have hvs : RVs w [.ro (roB vC bs)] #[vC] := ⟨rfl, fun i => by
    match i with
    | 0 => exact .ro ⟨rfl, hvC⟩
    | i + 1 => exact .any _⟩
  refine wp_mono (h vC w.heap.size w w [] _ (Rel.start hvs n) (Below.refl _ _)) ?_
  intro e a w' hq
  cases e with
  | normal => obtain ⟨_, _, _, _, _, _, hx⟩ := hq; exact hx.elim
  | exit j => obtain ⟨_, _, _, _, _, _, hx⟩ := hq; exact hx.elim
  | ret =>
    obtain ⟨env, os, gs, hr, hd, hbel, k, at_, hh, h1, h2, h3⟩ := hq
    obtain ⟨u, hu, hv⟩ := h1 _ _ _ _ hr
    cases hv with
    | @optr _ _ g hg =>
      obtain ⟨cs, d1, d2, d3, d4, d5, d6, d7⟩ := hr.ho _ _ _ hg h2
      match cs, d5 with
      | [z0, z1, z2], _ =>
        have q0 := d7 0
        have q1 := d7 1
        have q2 := d7 2
        have w0 : z0 = vC := by cases q0 with | ro h => exact h.1
        have w1 : z1 = .int .i64 at_ := by cases q1; rfl
        have w2 : z2 = .int .u64 hh := by cases q2; rfl
        subst w0 w1 w2
        exact ⟨hd, _, hu, g, at_, hh, by rw [d4], h3, ⟨d1, d6 _ (by simp), d2, d3, d4⟩, hbel⟩
  | goto l => exact (hq : False).elim
  | panic ch => exact (hq : False).elim
  | outgrown => exact (hq : False).elim
theorem AFnF.start {P : Program} {f : FuncId} {fn : Func} {nt : Nat} {T : TypeId} {bs : List Int} (hf : P.funcs[f]? = some fn) (hnt : fn.ntmps = nt) {c : Code} (hb : fn.body = some c) (hnm : (fn.name == "runtime.NumGoroutine") = false)
    (h : ∀ vC, AWp P c (fun _ _ => False) (fun _ _ _ => False) (fun env os => ∃ k at_ h, ResIs P fn env os (.optr k 0) ∧ os[k]? = some (skL T bs vC at_ h) ∧ SOk bs at_ h) (Env.start [.ro (roB vC bs)] (nt - 1)) []) : AFnF P f T bs :=
  AFnF.of hf hb hnm (by rw [hnt]) h

section
variable {P : Program} {env : Env} {os : List AO} {d : Option Tmp} {ty : TypeId} {pos : String} {af : Array Edge} {g : Option (Nat × Bool)}
end
section
variable {P : Program} {env : Env} {os : List AO} {d : Tmp} {ty : TypeId} {pos : String} {af : Array Edge} {l rest : List Oper} {K : APost}
end
end Go.Proofs.Ytkojhaoflgdjmaa
/-
  The source of the draws: a number from it, and the source itself. Condition: not too many bytes.
-/
namespace Go.Proofs.Ytkojhaoflgdjmaa
open Go Go.RowKit
attribute [local irreducible] AWp AOps ResIs Ret1 QOp LOp COp AFnV AFn Imms LeE LeO
set_option maxHeartbeats 1000000
set_option linter.unusedSimpArgs false
set_option linter.unusedVariables false

/-- A number below n, or 0. -/
def Nx (n : Int) (rv : Value) : Prop := ∃ x : Int, rv = .int .i64 x ∧ 0 ≤ x ∧ (1 ≤ n → x < n) ∧ (n < 1 → x = 0)
set_option maxHeartbeats 4000000 in
theorem l01Next_c (bs : List Int) (hl : bs.length ≤ 1048576) (hbs : ∀ i, 0 ≤ geti bs i ∧ geti bs i ≤ 255) (n : Int) (hn : n ≤ 4611686018427387904) :
    AFnS Try.prog 34 73 bs [.int .i64 n] (Nx n) := by
  (refine AFnS.start Try.func34 Try.ntmps34 rfl (by kernel_rfl) fun K vC at0 hh0 hI0 => ?_; simp only [Env.start, enumF, List.map_cons, List.map_nil, List.length_cons, List.length_nil, Nat.reduceAdd, Nat.reduceSub, Nat.zero_add, List.cons_append, List.nil_append])
  obtain ⟨⟨a0, a1⟩, h0⟩ := hI0
  have hb0 := hbs at0
  repeat' (first
  | (apply AOps.nil; try simp only [List.nil_append, List.cons_append, List.set_cons_zero, List.set_cons_succ, List.length_cons, List.length_nil, Nat.reduceAdd, AV.sh, AV.sh1, AV.sh0, AO.sh, List.map_cons, List.map_nil, Nat.zero_add, Nat.add_zero, setAll])
  | ((apply AOps.splitP; exact rfl; exact rfl) <;> intro h)
  | ((apply AOps.splitN; exact rfl; exact rfl) <;> intro h)
  | (apply w_move; exact rfl; exact rfl)
  | (apply w_assign; exact rfl; exact rfl)
  | apply AWp.seq
  | apply AWp.region
  | ((apply AWp.condP; exact rfl) <;> intro h)
  | ((apply AWp.condN; exact rfl) <;> intro h)
  | (apply AWp.condT; exact rfl)
  | (apply AWp.condF; exact rfl)
  | ((apply AWp.condB; exact rfl) <;> intro h)
  | apply AWp.block
  | apply AWp.ret
  | apply AWp.exit
  | apply AWp.skip
  | (apply AWp.regionQ; kernel_rfl; kernel_rfl)
  | (apply if_pos'; exact rfl)
  | (apply if_neg'; decide)
  | (apply w_skip; exact rfl)
  | (apply w_pickT; exact rfl; exact rfl; exact rfl)
  | (apply w_pickF; exact rfl; exact rfl; exact rfl)
  | (apply w_len; exact rfl; exact rfl; first | exact .ints _ | exact .intss _ | exact .sli rfl | exact .sls rfl | exact .slr rfl | exact .orow rfl | exact .nil)
  | ((first | apply w_nilck | apply w_convu | apply w_convi | apply w_not | apply w_neg | apply w_conv | apply w_build0 | apply w_bs1 | apply w_boxa); iterate 2 exact rfl)
  | (apply w_lenby; exact rfl; exact rfl; (first | exact rdB_by _ | exact rdB_ro _ _))
  | (apply w_idxby; exact rfl; exact rfl; (first | exact rdB_by _ | exact rdB_ro _ _); exact rfl)
  | ((first | apply w_ldby | apply w_lss | apply w_leq | apply w_gtr | apply w_geq | apply w_eql | apply w_neq | apply w_add | apply w_sub | apply w_mul | apply w_idx | apply w_ld | apply w_fld | apply w_fa | apply w_extv | apply w_min | apply w_max | apply w_slhi | apply w_sllo | apply w_bs2); iterate 3 exact rfl)
  | (apply w_umul; exact rfl; exact rfl; exact rfl; intro cU hU)
  | (apply w_uadd; exact rfl; exact rfl; exact rfl; intro cU hU)
  | (apply w_ushr; exact rfl; exact rfl; exact rfl; (focus (first | assumption | omega)); intro cU hU)
  | (apply w_uand; exact rfl; exact rfl; exact rfl; (focus (first | assumption | omega)); intro cU hU)
  | (apply w_convbi; exact rfl; exact rfl; exact hbs _)
  | (apply w_convbu; exact rfl; exact rfl; exact hbs _)
  | (apply w_build23; exact rfl; exact rfl; exact rfl; exact rfl; (first | exact one_by | exact one_rb); exact one_val rfl rfl)
  | omega
  | ((first | apply w_eqlb | apply w_neqb | apply w_idxs | apply w_lds | apply w_ext); iterate 3 exact rfl)
  | (apply w_rem; exact rfl; exact rfl; exact rfl; (focus (omega; done)); (focus (omega; done)))
  | (apply w_quo; exact rfl; exact rfl; exact rfl; (focus (omega; done)); (focus (omega; done)))
  | (apply w_remT; exact rfl; exact rfl; exact rfl)
  | (apply w_quoT; exact rfl; exact rfl; exact rfl)
  | (apply w_idxo; exact rfl; exact rfl; (first | exact .sli rfl | exact .sls rfl | exact .slr rfl); exact rfl)
  | ((first | apply w_idxr | apply w_ldr); iterate 4 exact rfl)
  | (apply w_ldo; iterate 4 exact rfl)
  | (apply w_ldls; iterate 4 exact rfl)
  | (apply w_ldrp; iterate 4 exact rfl)
  | (apply w_ldb; iterate 5 exact rfl)
  | (apply w_ldst; iterate 5 exact rfl)
  | ((first | apply w_sllh | apply w_stbi); iterate 4 exact rfl)
  | ((first | apply w_oslo | apply w_oshi | apply w_stbii); iterate 4 exact rfl)
  | (apply w_build1; exact rfl; exact rfl; (first | exact one_val rfl rfl | exact one_ints | exact one_intss | exact one_own rfl True.intro))
  | (apply w_build2; exact rfl; exact rfl; exact rfl; (first | exact one_val rfl rfl | exact one_ints | exact one_intss | exact one_own rfl True.intro); (first | exact one_val rfl rfl | exact one_ints | exact one_intss | exact one_own rfl True.intro))
  | (apply w_bs0; iterate 1 exact rfl)
  | (apply w_appn; exact rfl; exact rfl; (first | exact .ints _ | exact .sli rfl | exact .orow rfl | exact .nil | exact .osub rfl (by simp; omega)); exact rfl)
  | (apply w_app; exact rfl; exact rfl; exact rfl; exact rfl; (first | exact .ints _ | exact .sli rfl | exact .orow rfl | exact .nil | exact .osub rfl (by simp; omega)); rotate_left 1; simp only [Env.mp, List.map_cons, List.map_nil, List.set_cons_zero, List.set_cons_succ, AV.kill, AV.kill1, AO.kill, AV.noRow, AV.noRow1, AO.via, reduceIte, Nat.reduceEqDiff, Nat.reduceLT, Env.up, Nat.zero_ne_one, Nat.one_ne_zero, Nat.reduceAdd, List.cons_append, List.nil_append]; rotate_left 1)
  | (apply w_alst; iterate 2 exact rfl)
  | (apply w_alone; iterate 3 exact rfl)
  | (apply w_mki; exact rfl; exact rfl; rotate_left 3; exact rfl; rotate_left 1)
  | (apply w_mkr; exact rfl; exact rfl; rotate_left 3; exact rfl; rotate_left 1)
  | (apply w_sti; exact rfl; exact rfl; rotate_left 1; exact rfl; rotate_left 2)
  | (apply w_stst; iterate 5 exact rfl)
  | (apply w_stbv; iterate 6 exact rfl)
  | (apply w_stbo; exact rfl; exact rfl; exact rfl; exact rfl; exact rfl; exact True.intro)
  | ((apply AOps.splitB; exact rfl; exact rfl) <;> intro h)
  | apply AllOf.nil
  | (apply AllOf.cons; exact rfl)
  | (apply AAny.take; exact rfl; exact rfl; kernel_rfl; kernel_rfl)
  | (apply AAny.all; exact rfl)
  | (apply AAny.done; exact rfl)
  | (apply inI_of <;> omega)
  | omega
  | (simp <;> omega))
  · exact ⟨_, _, _, .v1 Try.results34 rfl, ⟨0, rfl, by omega, by omega, fun _ => rfl⟩, ⟨⟨a0, a1⟩, h0⟩, _, rfl⟩
  · have hm := Int.emod_nonneg (cU + geti bs at0) (b := n) (by omega)
    have hm2 := Int.emod_lt_of_pos (cU + geti bs at0) (b := n) (by omega)
    exact ⟨_, _, _, .v1 Try.results34 rfl, ⟨_, rfl, hm, fun _ => hm2, fun _ => by omega⟩, ⟨⟨by omega, by omega⟩, by assumption⟩, _, rfl⟩
  · have hm := Int.emod_nonneg cU (b := n) (by omega)
    have hm2 := Int.emod_lt_of_pos cU (b := n) (by omega)
    exact ⟨_, _, _, .v1 Try.results34 rfl, ⟨_, rfl, hm, fun _ => hm2, fun _ => by omega⟩, ⟨⟨by omega, by omega⟩, by assumption⟩, _, rfl⟩
set_option maxHeartbeats 4000000 in
theorem l01From_c (bs : List Int) (hl : bs.length ≤ 1048576) (hbs : ∀ i, 0 ≤ geti bs i ∧ geti bs i ≤ 255) : AFnF Try.prog 35 73 bs := by
  (refine AFnF.start Try.func35 Try.ntmps35 rfl (by kernel_rfl) fun vC => ?_; simp only [Env.start, enumF, List.map_cons, List.map_nil, List.length_cons, List.length_nil, Nat.reduceAdd, Nat.reduceSub, Nat.zero_add, List.cons_append, List.nil_append])
  repeat' (first
  | (apply AOps.nil; try simp only [List.nil_append, List.cons_append, List.set_cons_zero, List.set_cons_succ, List.length_cons, List.length_nil, Nat.reduceAdd, AV.sh, AV.sh1, AV.sh0, AO.sh, List.map_cons, List.map_nil, Nat.zero_add, Nat.add_zero, setAll])
  | ((apply AOps.splitP; exact rfl; exact rfl) <;> intro h)
  | ((apply AOps.splitN; exact rfl; exact rfl) <;> intro h)
  | (apply w_move; exact rfl; exact rfl)
  | (apply w_assign; exact rfl; exact rfl)
  | apply AWp.seq
  | apply AWp.region
  | ((apply AWp.condP; exact rfl) <;> intro h)
  | ((apply AWp.condN; exact rfl) <;> intro h)
  | (apply AWp.condT; exact rfl)
  | (apply AWp.condF; exact rfl)
  | ((apply AWp.condB; exact rfl) <;> intro h)
  | apply AWp.block
  | apply AWp.ret
  | apply AWp.exit
  | apply AWp.skip
  | (apply if_pos'; exact rfl)
  | (apply if_neg'; decide)
  | (apply w_skip; exact rfl)
  | (apply w_pickT; exact rfl; exact rfl; exact rfl)
  | (apply w_pickF; exact rfl; exact rfl; exact rfl)
  | (apply w_len; exact rfl; exact rfl; first | exact .ints _ | exact .intss _ | exact .sli rfl | exact .sls rfl | exact .slr rfl | exact .orow rfl | exact .nil)
  | ((first | apply w_nilck | apply w_convu | apply w_convi | apply w_not | apply w_neg | apply w_conv | apply w_build0 | apply w_bs1 | apply w_boxa); iterate 2 exact rfl)
  | (apply w_lenby; exact rfl; exact rfl; (first | exact rdB_by _ | exact rdB_ro _ _))
  | (apply w_idxby; exact rfl; exact rfl; (first | exact rdB_by _ | exact rdB_ro _ _); exact rfl)
  | ((first | apply w_ldby | apply w_lss | apply w_leq | apply w_gtr | apply w_geq | apply w_eql | apply w_neq | apply w_add | apply w_sub | apply w_mul | apply w_idx | apply w_ld | apply w_fld | apply w_fa | apply w_extv | apply w_min | apply w_max | apply w_slhi | apply w_sllo | apply w_bs2); iterate 3 exact rfl)
  | (apply w_umul; exact rfl; exact rfl; exact rfl; intro cU hU)
  | (apply w_uadd; exact rfl; exact rfl; exact rfl; intro cU hU)
  | (apply w_ushr; exact rfl; exact rfl; exact rfl; (focus (first | assumption | omega)); intro cU hU)
  | (apply w_uand; exact rfl; exact rfl; exact rfl; (focus (first | assumption | omega)); intro cU hU)
  | (apply w_convbi; exact rfl; exact rfl; exact hbs _)
  | (apply w_convbu; exact rfl; exact rfl; exact hbs _)
  | (apply w_build23; exact rfl; exact rfl; exact rfl; exact rfl; (first | exact one_by | exact one_rb); exact one_val rfl rfl)
  | omega
  | ((first | apply w_eqlb | apply w_neqb | apply w_idxs | apply w_lds | apply w_ext); iterate 3 exact rfl)
  | (apply w_rem; exact rfl; exact rfl; exact rfl; (focus (omega; done)); (focus (omega; done)))
  | (apply w_quo; exact rfl; exact rfl; exact rfl; (focus (omega; done)); (focus (omega; done)))
  | (apply w_remT; exact rfl; exact rfl; exact rfl)
  | (apply w_quoT; exact rfl; exact rfl; exact rfl)
  | (apply w_idxo; exact rfl; exact rfl; (first | exact .sli rfl | exact .sls rfl | exact .slr rfl); exact rfl)
  | ((first | apply w_idxr | apply w_ldr); iterate 4 exact rfl)
  | (apply w_ldo; iterate 4 exact rfl)
  | (apply w_ldls; iterate 4 exact rfl)
  | (apply w_ldrp; iterate 4 exact rfl)
  | (apply w_ldb; iterate 5 exact rfl)
  | (apply w_ldst; iterate 5 exact rfl)
  | ((first | apply w_sllh | apply w_stbi); iterate 4 exact rfl)
  | ((first | apply w_oslo | apply w_oshi | apply w_stbii); iterate 4 exact rfl)
  | (apply w_build1; exact rfl; exact rfl; (first | exact one_val rfl rfl | exact one_ints | exact one_intss | exact one_own rfl True.intro))
  | (apply w_build2; exact rfl; exact rfl; exact rfl; (first | exact one_val rfl rfl | exact one_ints | exact one_intss | exact one_own rfl True.intro); (first | exact one_val rfl rfl | exact one_ints | exact one_intss | exact one_own rfl True.intro))
  | (apply w_bs0; iterate 1 exact rfl)
  | (apply w_appn; exact rfl; exact rfl; (first | exact .ints _ | exact .sli rfl | exact .orow rfl | exact .nil | exact .osub rfl (by simp; omega)); exact rfl)
  | (apply w_app; exact rfl; exact rfl; exact rfl; exact rfl; (first | exact .ints _ | exact .sli rfl | exact .orow rfl | exact .nil | exact .osub rfl (by simp; omega)); rotate_left 1; simp only [Env.mp, List.map_cons, List.map_nil, List.set_cons_zero, List.set_cons_succ, AV.kill, AV.kill1, AO.kill, AV.noRow, AV.noRow1, AO.via, reduceIte, Nat.reduceEqDiff, Nat.reduceLT, Env.up, Nat.zero_ne_one, Nat.one_ne_zero, Nat.reduceAdd, List.cons_append, List.nil_append]; rotate_left 1)
  | (apply w_alst; iterate 2 exact rfl)
  | (apply w_alone; iterate 3 exact rfl)
  | (apply w_mki; exact rfl; exact rfl; rotate_left 3; exact rfl; rotate_left 1)
  | (apply w_mkr; exact rfl; exact rfl; rotate_left 3; exact rfl; rotate_left 1)
  | (apply w_sti; exact rfl; exact rfl; rotate_left 1; exact rfl; rotate_left 2)
  | (apply w_stst; iterate 5 exact rfl)
  | (apply w_stbv; iterate 6 exact rfl)
  | (apply w_stbo; exact rfl; exact rfl; exact rfl; exact rfl; exact rfl; exact True.intro)
  | ((apply AOps.splitB; exact rfl; exact rfl) <;> intro h)
  | apply AllOf.nil
  | (apply AllOf.cons; exact rfl)
  | (apply AAny.take; exact rfl; exact rfl; kernel_rfl; kernel_rfl)
  | (apply AAny.all; exact rfl)
  | (apply AAny.done; exact rfl)
  | (apply inI_of <;> omega)
  | omega
  | (simp <;> omega))
  refine AWp.loop (ι := Nat × Int) (fun x => ⟨38, [(0, .ro (roB vC bs)), (3, .optr 0 0), (4, .i x.1)]⟩) (fun x => [skL 73 bs vC 0 x.2]) (fun x => x.1 ≤ bs.length ∧ (0 ≤ x.2 ∧ x.2 < 18446744073709551616)) (fun x => bs.length - x.1) (0, cU) ⟨Nat.zero_le _, hU⟩ ⟨lee rfl (by (repeat (first | exact le_nil | refine le_eq rfl rfl ?_ | refine le_eq rfl (congrArg AV.i (by omega)) ?_))), by (repeat (first | exact lo_nil | refine lo_dead ?_ | refine lo_eq rfl ?_)), rfl, rfl⟩ ?_
  rintro ⟨i, hv⟩ ⟨i0, hh⟩
  simp only at i0 hh
  by_cases hi : i < bs.length
  · by_cases h4 : i < 4096
    · repeat' (first
  | (apply AOps.nil; try simp only [List.nil_append, List.cons_append, List.set_cons_zero, List.set_cons_succ, List.length_cons, List.length_nil, Nat.reduceAdd, AV.sh, AV.sh1, AV.sh0, AO.sh, List.map_cons, List.map_nil, Nat.zero_add, Nat.add_zero, setAll])
  | ((apply AOps.splitP; exact rfl; exact rfl) <;> intro h)
  | ((apply AOps.splitN; exact rfl; exact rfl) <;> intro h)
  | (apply w_move; exact rfl; exact rfl)
  | (apply w_assign; exact rfl; exact rfl)
  | apply AWp.seq
  | apply AWp.region
  | ((apply AWp.condP; exact rfl) <;> intro h)
  | ((apply AWp.condN; exact rfl) <;> intro h)
  | (apply AWp.condT; exact rfl)
  | (apply AWp.condF; exact rfl)
  | ((apply AWp.condB; exact rfl) <;> intro h)
  | apply AWp.block
  | apply AWp.ret
  | apply AWp.exit
  | apply AWp.skip
  | (apply if_pos'; exact rfl)
  | (apply if_neg'; decide)
  | (apply w_skip; exact rfl)
  | (apply w_pickT; exact rfl; exact rfl; exact rfl)
  | (apply w_pickF; exact rfl; exact rfl; exact rfl)
  | (apply w_len; exact rfl; exact rfl; first | exact .ints _ | exact .intss _ | exact .sli rfl | exact .sls rfl | exact .slr rfl | exact .orow rfl | exact .nil)
  | ((first | apply w_nilck | apply w_convu | apply w_convi | apply w_not | apply w_neg | apply w_conv | apply w_build0 | apply w_bs1 | apply w_boxa); iterate 2 exact rfl)
  | (apply w_lenby; exact rfl; exact rfl; (first | exact rdB_by _ | exact rdB_ro _ _))
  | (apply w_idxby; exact rfl; exact rfl; (first | exact rdB_by _ | exact rdB_ro _ _); exact rfl)
  | ((first | apply w_ldby | apply w_lss | apply w_leq | apply w_gtr | apply w_geq | apply w_eql | apply w_neq | apply w_add | apply w_sub | apply w_mul | apply w_idx | apply w_ld | apply w_fld | apply w_fa | apply w_extv | apply w_min | apply w_max | apply w_slhi | apply w_sllo | apply w_bs2); iterate 3 exact rfl)
  | (apply w_umul; exact rfl; exact rfl; exact rfl; intro cU hU)
  | (apply w_uadd; exact rfl; exact rfl; exact rfl; intro cU hU)
  | (apply w_ushr; exact rfl; exact rfl; exact rfl; (focus (first | assumption | omega)); intro cU hU)
  | (apply w_uand; exact rfl; exact rfl; exact rfl; (focus (first | assumption | omega)); intro cU hU)
  | (apply w_convbi; exact rfl; exact rfl; exact hbs _)
  | (apply w_convbu; exact rfl; exact rfl; exact hbs _)
  | (apply w_build23; exact rfl; exact rfl; exact rfl; exact rfl; (first | exact one_by | exact one_rb); exact one_val rfl rfl)
  | omega
  | ((first | apply w_eqlb | apply w_neqb | apply w_idxs | apply w_lds | apply w_ext); iterate 3 exact rfl)
  | (apply w_rem; exact rfl; exact rfl; exact rfl; (focus (omega; done)); (focus (omega; done)))
  | (apply w_quo; exact rfl; exact rfl; exact rfl; (focus (omega; done)); (focus (omega; done)))
  | (apply w_remT; exact rfl; exact rfl; exact rfl)
  | (apply w_quoT; exact rfl; exact rfl; exact rfl)
  | (apply w_idxo; exact rfl; exact rfl; (first | exact .sli rfl | exact .sls rfl | exact .slr rfl); exact rfl)
  | ((first | apply w_idxr | apply w_ldr); iterate 4 exact rfl)
  | (apply w_ldo; iterate 4 exact rfl)
  | (apply w_ldls; iterate 4 exact rfl)
  | (apply w_ldrp; iterate 4 exact rfl)
  | (apply w_ldb; iterate 5 exact rfl)
  | (apply w_ldst; iterate 5 exact rfl)
  | ((first | apply w_sllh | apply w_stbi); iterate 4 exact rfl)
  | ((first | apply w_oslo | apply w_oshi | apply w_stbii); iterate 4 exact rfl)
  | (apply w_build1; exact rfl; exact rfl; (first | exact one_val rfl rfl | exact one_ints | exact one_intss | exact one_own rfl True.intro))
  | (apply w_build2; exact rfl; exact rfl; exact rfl; (first | exact one_val rfl rfl | exact one_ints | exact one_intss | exact one_own rfl True.intro); (first | exact one_val rfl rfl | exact one_ints | exact one_intss | exact one_own rfl True.intro))
  | (apply w_bs0; iterate 1 exact rfl)
  | (apply w_appn; exact rfl; exact rfl; (first | exact .ints _ | exact .sli rfl | exact .orow rfl | exact .nil | exact .osub rfl (by simp; omega)); exact rfl)
  | (apply w_app; exact rfl; exact rfl; exact rfl; exact rfl; (first | exact .ints _ | exact .sli rfl | exact .orow rfl | exact .nil | exact .osub rfl (by simp; omega)); rotate_left 1; simp only [Env.mp, List.map_cons, List.map_nil, List.set_cons_zero, List.set_cons_succ, AV.kill, AV.kill1, AO.kill, AV.noRow, AV.noRow1, AO.via, reduceIte, Nat.reduceEqDiff, Nat.reduceLT, Env.up, Nat.zero_ne_one, Nat.one_ne_zero, Nat.reduceAdd, List.cons_append, List.nil_append]; rotate_left 1)
  | (apply w_alst; iterate 2 exact rfl)
  | (apply w_alone; iterate 3 exact rfl)
  | (apply w_mki; exact rfl; exact rfl; rotate_left 3; exact rfl; rotate_left 1)
  | (apply w_mkr; exact rfl; exact rfl; rotate_left 3; exact rfl; rotate_left 1)
  | (apply w_sti; exact rfl; exact rfl; rotate_left 1; exact rfl; rotate_left 2)
  | (apply w_stst; iterate 5 exact rfl)
  | (apply w_stbv; iterate 6 exact rfl)
  | (apply w_stbo; exact rfl; exact rfl; exact rfl; exact rfl; exact rfl; exact True.intro)
  | ((apply AOps.splitB; exact rfl; exact rfl) <;> intro h)
  | apply AllOf.nil
  | (apply AllOf.cons; exact rfl)
  | (apply AAny.take; exact rfl; exact rfl; kernel_rfl; kernel_rfl)
  | (apply AAny.all; exact rfl)
  | (apply AAny.done; exact rfl)
  | (apply inI_of <;> omega)
  | omega
  | (simp <;> omega))
      have hw := wrap_u64 (IntKind.u64.wrap (IntKind.u64.wrap (hv * 1099511628211) + geti bs i) + 11)
      refine AWp.regionG [] (by kernel_rfl) (envC := ⟨38, [(0, .ro (roB vC bs)), (3, .optr 0 0), (4, .i i)]⟩) (osC := [skL 73 bs vC 0 (IntKind.u64.wrap (IntKind.u64.wrap (IntKind.u64.wrap (hv * 1099511628211) + geti bs i) + 11))]) rfl (by first | exact rfl | (simp [AO.lim, AV.lim, bL_lim]; done)) ?_ ?_
      · repeat' (first
  | (apply AOps.nil; try simp only [List.nil_append, List.cons_append, List.set_cons_zero, List.set_cons_succ, List.length_cons, List.length_nil, Nat.reduceAdd, AV.sh, AV.sh1, AV.sh0, AO.sh, List.map_cons, List.map_nil, Nat.zero_add, Nat.add_zero, setAll])
  | ((apply AOps.splitP; exact rfl; exact rfl) <;> intro h)
  | ((apply AOps.splitN; exact rfl; exact rfl) <;> intro h)
  | (apply w_move; exact rfl; exact rfl)
  | (apply w_assign; exact rfl; exact rfl)
  | apply AWp.seq
  | apply AWp.region
  | ((apply AWp.condP; exact rfl) <;> intro h)
  | ((apply AWp.condN; exact rfl) <;> intro h)
  | (apply AWp.condT; exact rfl)
  | (apply AWp.condF; exact rfl)
  | ((apply AWp.condB; exact rfl) <;> intro h)
  | apply AWp.block
  | apply AWp.ret
  | apply AWp.exit
  | apply AWp.skip
  | (apply AWp.regionQ; kernel_rfl; kernel_rfl)
  | (apply if_pos'; exact rfl)
  | (apply if_neg'; decide)
  | (apply w_skip; exact rfl)
  | (apply w_pickT; exact rfl; exact rfl; exact rfl)
  | (apply w_pickF; exact rfl; exact rfl; exact rfl)
  | (apply w_len; exact rfl; exact rfl; first | exact .ints _ | exact .intss _ | exact .sli rfl | exact .sls rfl | exact .slr rfl | exact .orow rfl | exact .nil)
  | ((first | apply w_umulx | apply w_uaddx | apply w_ldby | apply w_lss | apply w_leq | apply w_gtr | apply w_geq | apply w_eql | apply w_neq | apply w_add | apply w_sub | apply w_mul | apply w_idx | apply w_ld | apply w_fld | apply w_fa | apply w_extv | apply w_min | apply w_max | apply w_slhi | apply w_sllo | apply w_bs2); iterate 3 exact rfl)
  | ((first | apply w_nilck | apply w_convu | apply w_convi | apply w_not | apply w_neg | apply w_conv | apply w_build0 | apply w_bs1 | apply w_boxa); iterate 2 exact rfl)
  | (apply w_lenby; exact rfl; exact rfl; (first | exact rdB_by _ | exact rdB_ro _ _))
  | (apply w_idxby; exact rfl; exact rfl; (first | exact rdB_by _ | exact rdB_ro _ _); exact rfl)
  | (apply w_umul; exact rfl; exact rfl; exact rfl; intro cU hU)
  | (apply w_uadd; exact rfl; exact rfl; exact rfl; intro cU hU)
  | (apply w_ushr; exact rfl; exact rfl; exact rfl; (focus (first | assumption | omega)); intro cU hU)
  | (apply w_uand; exact rfl; exact rfl; exact rfl; (focus (first | assumption | omega)); intro cU hU)
  | (apply w_convbi; exact rfl; exact rfl; exact hbs _)
  | (apply w_convbu; exact rfl; exact rfl; exact hbs _)
  | (apply w_build23; exact rfl; exact rfl; exact rfl; exact rfl; (first | exact one_by | exact one_rb); exact one_val rfl rfl)
  | apply AllOfG.nil
  | (apply AllOfG.consQ; exact rfl; exact rfl)
  | (apply AllOfG.consS; exact rfl; exact rfl)
  | (apply AAnyG.takeW; exact rfl; exact rfl; kernel_rfl; kernel_rfl)
  | (apply AAnyG.takeL; exact rfl; exact rfl; kernel_rfl)
  | (apply AAnyG.all; exact rfl)
  | (apply AAnyG.done; exact rfl)
  | omega
  | ((first | apply w_eqlb | apply w_neqb | apply w_idxs | apply w_lds | apply w_ext); iterate 3 exact rfl)
  | (apply w_rem; exact rfl; exact rfl; exact rfl; (focus (omega; done)); (focus (omega; done)))
  | (apply w_quo; exact rfl; exact rfl; exact rfl; (focus (omega; done)); (focus (omega; done)))
  | (apply w_remT; exact rfl; exact rfl; exact rfl)
  | (apply w_quoT; exact rfl; exact rfl; exact rfl)
  | (apply w_idxo; exact rfl; exact rfl; (first | exact .sli rfl | exact .sls rfl | exact .slr rfl); exact rfl)
  | ((first | apply w_idxr | apply w_ldr); iterate 4 exact rfl)
  | (apply w_ldo; iterate 4 exact rfl)
  | (apply w_ldls; iterate 4 exact rfl)
  | (apply w_ldrp; iterate 4 exact rfl)
  | (apply w_ldb; iterate 5 exact rfl)
  | (apply w_ldst; iterate 5 exact rfl)
  | ((first | apply w_sllh | apply w_stbi); iterate 4 exact rfl)
  | ((first | apply w_oslo | apply w_oshi | apply w_stbii); iterate 4 exact rfl)
  | (apply w_build1; exact rfl; exact rfl; (first | exact one_val rfl rfl | exact one_ints | exact one_intss | exact one_own rfl True.intro))
  | (apply w_build2; exact rfl; exact rfl; exact rfl; (first | exact one_val rfl rfl | exact one_ints | exact one_intss | exact one_own rfl True.intro); (first | exact one_val rfl rfl | exact one_ints | exact one_intss | exact one_own rfl True.intro))
  | (apply w_bs0; iterate 1 exact rfl)
  | (apply w_appn; exact rfl; exact rfl; (first | exact .ints _ | exact .sli rfl | exact .orow rfl | exact .nil | exact .osub rfl (by simp; omega)); exact rfl)
  | (apply w_app; exact rfl; exact rfl; exact rfl; exact rfl; (first | exact .ints _ | exact .sli rfl | exact .orow rfl | exact .nil | exact .osub rfl (by simp; omega)); rotate_left 1; simp only [Env.mp, List.map_cons, List.map_nil, List.set_cons_zero, List.set_cons_succ, AV.kill, AV.kill1, AO.kill, AV.noRow, AV.noRow1, AO.via, reduceIte, Nat.reduceEqDiff, Nat.reduceLT, Env.up, Nat.zero_ne_one, Nat.one_ne_zero, Nat.reduceAdd, List.cons_append, List.nil_append]; rotate_left 1)
  | (apply w_alst; iterate 2 exact rfl)
  | (apply w_alone; iterate 3 exact rfl)
  | (apply w_mki; exact rfl; exact rfl; rotate_left 3; exact rfl; rotate_left 1)
  | (apply w_mkr; exact rfl; exact rfl; rotate_left 3; exact rfl; rotate_left 1)
  | (apply w_sti; exact rfl; exact rfl; rotate_left 1; exact rfl; rotate_left 2)
  | (apply w_stst; iterate 5 exact rfl)
  | (apply w_stbv; iterate 6 exact rfl)
  | (apply w_stbo; exact rfl; exact rfl; exact rfl; exact rfl; exact rfl; exact True.intro)
  | ((apply AOps.splitB; exact rfl; exact rfl) <;> intro h)
  | apply AllOf.nil
  | (apply AllOf.cons; exact rfl)
  | (apply AAny.take; exact rfl; exact rfl; kernel_rfl; kernel_rfl)
  | (apply AAny.all; exact rfl)
  | (apply AAny.done; exact rfl)
  | (apply inI_of <;> omega)
  | omega
  | (simp <;> omega))
        all_goals (first | (apply Or.inl; refine ⟨lee rfl ?_, ?_, rfl, (by first | exact rfl | (simp [AO.lim, AV.lim, bL_lim]; done))⟩; (focus ((repeat (first | exact le_nil | refine le_eq rfl rfl ?_ | (refine le_eq rfl (congrArg AV.i ?_) ?_; (focus (omega; done))))); done)); (focus ((repeat (first | exact lo_nil | refine lo_dead ?_ | refine lo_eq rfl ?_ | refine lo_eq (congrArg (AO.slr _) (bL_ren _ _)) ?_)); done))))
      generalize IntKind.u64.wrap (IntKind.u64.wrap (IntKind.u64.wrap (hv * 1099511628211) + geti bs i) + 11) = h2 at *
      repeat' (first
  | (apply AOps.nil; try simp only [List.nil_append, List.cons_append, List.set_cons_zero, List.set_cons_succ, List.length_cons, List.length_nil, Nat.reduceAdd, AV.sh, AV.sh1, AV.sh0, AO.sh, List.map_cons, List.map_nil, Nat.zero_add, Nat.add_zero, setAll])
  | ((apply AOps.splitP; exact rfl; exact rfl) <;> intro h)
  | ((apply AOps.splitN; exact rfl; exact rfl) <;> intro h)
  | (apply w_move; exact rfl; exact rfl)
  | (apply w_assign; exact rfl; exact rfl)
  | apply AWp.seq
  | apply AWp.region
  | ((apply AWp.condP; exact rfl) <;> intro h)
  | ((apply AWp.condN; exact rfl) <;> intro h)
  | (apply AWp.condT; exact rfl)
  | (apply AWp.condF; exact rfl)
  | ((apply AWp.condB; exact rfl) <;> intro h)
  | apply AWp.block
  | apply AWp.ret
  | apply AWp.exit
  | apply AWp.skip
  | (apply if_pos'; exact rfl)
  | (apply if_neg'; decide)
  | (apply w_skip; exact rfl)
  | (apply w_pickT; exact rfl; exact rfl; exact rfl)
  | (apply w_pickF; exact rfl; exact rfl; exact rfl)
  | (apply w_len; exact rfl; exact rfl; first | exact .ints _ | exact .intss _ | exact .sli rfl | exact .sls rfl | exact .slr rfl | exact .orow rfl | exact .nil)
  | ((first | apply w_nilck | apply w_convu | apply w_convi | apply w_not | apply w_neg | apply w_conv | apply w_build0 | apply w_bs1 | apply w_boxa); iterate 2 exact rfl)
  | (apply w_lenby; exact rfl; exact rfl; (first | exact rdB_by _ | exact rdB_ro _ _))
  | (apply w_idxby; exact rfl; exact rfl; (first | exact rdB_by _ | exact rdB_ro _ _); exact rfl)
  | ((first | apply w_ldby | apply w_lss | apply w_leq | apply w_gtr | apply w_geq | apply w_eql | apply w_neq | apply w_add | apply w_sub | apply w_mul | apply w_idx | apply w_ld | apply w_fld | apply w_fa | apply w_extv | apply w_min | apply w_max | apply w_slhi | apply w_sllo | apply w_bs2); iterate 3 exact rfl)
  | (apply w_umul; exact rfl; exact rfl; exact rfl; intro cU hU)
  | (apply w_uadd; exact rfl; exact rfl; exact rfl; intro cU hU)
  | (apply w_ushr; exact rfl; exact rfl; exact rfl; (focus (first | assumption | omega)); intro cU hU)
  | (apply w_uand; exact rfl; exact rfl; exact rfl; (focus (first | assumption | omega)); intro cU hU)
  | (apply w_convbi; exact rfl; exact rfl; exact hbs _)
  | (apply w_convbu; exact rfl; exact rfl; exact hbs _)
  | (apply w_build23; exact rfl; exact rfl; exact rfl; exact rfl; (first | exact one_by | exact one_rb); exact one_val rfl rfl)
  | omega
  | ((first | apply w_eqlb | apply w_neqb | apply w_idxs | apply w_lds | apply w_ext); iterate 3 exact rfl)
  | (apply w_rem; exact rfl; exact rfl; exact rfl; (focus (omega; done)); (focus (omega; done)))
  | (apply w_quo; exact rfl; exact rfl; exact rfl; (focus (omega; done)); (focus (omega; done)))
  | (apply w_remT; exact rfl; exact rfl; exact rfl)
  | (apply w_quoT; exact rfl; exact rfl; exact rfl)
  | (apply w_idxo; exact rfl; exact rfl; (first | exact .sli rfl | exact .sls rfl | exact .slr rfl); exact rfl)
  | ((first | apply w_idxr | apply w_ldr); iterate 4 exact rfl)
  | (apply w_ldo; iterate 4 exact rfl)
  | (apply w_ldls; iterate 4 exact rfl)
  | (apply w_ldrp; iterate 4 exact rfl)
  | (apply w_ldb; iterate 5 exact rfl)
  | (apply w_ldst; iterate 5 exact rfl)
  | ((first | apply w_sllh | apply w_stbi); iterate 4 exact rfl)
  | ((first | apply w_oslo | apply w_oshi | apply w_stbii); iterate 4 exact rfl)
  | (apply w_build1; exact rfl; exact rfl; (first | exact one_val rfl rfl | exact one_ints | exact one_intss | exact one_own rfl True.intro))
  | (apply w_build2; exact rfl; exact rfl; exact rfl; (first | exact one_val rfl rfl | exact one_ints | exact one_intss | exact one_own rfl True.intro); (first | exact one_val rfl rfl | exact one_ints | exact one_intss | exact one_own rfl True.intro))
  | (apply w_bs0; iterate 1 exact rfl)
  | (apply w_appn; exact rfl; exact rfl; (first | exact .ints _ | exact .sli rfl | exact .orow rfl | exact .nil | exact .osub rfl (by simp; omega)); exact rfl)
  | (apply w_app; exact rfl; exact rfl; exact rfl; exact rfl; (first | exact .ints _ | exact .sli rfl | exact .orow rfl | exact .nil | exact .osub rfl (by simp; omega)); rotate_left 1; simp only [Env.mp, List.map_cons, List.map_nil, List.set_cons_zero, List.set_cons_succ, AV.kill, AV.kill1, AO.kill, AV.noRow, AV.noRow1, AO.via, reduceIte, Nat.reduceEqDiff, Nat.reduceLT, Env.up, Nat.zero_ne_one, Nat.one_ne_zero, Nat.reduceAdd, List.cons_append, List.nil_append]; rotate_left 1)
  | (apply w_alst; iterate 2 exact rfl)
  | (apply w_alone; iterate 3 exact rfl)
  | (apply w_mki; exact rfl; exact rfl; rotate_left 3; exact rfl; rotate_left 1)
  | (apply w_mkr; exact rfl; exact rfl; rotate_left 3; exact rfl; rotate_left 1)
  | (apply w_sti; exact rfl; exact rfl; rotate_left 1; exact rfl; rotate_left 2)
  | (apply w_stst; iterate 5 exact rfl)
  | (apply w_stbv; iterate 6 exact rfl)
  | (apply w_stbo; exact rfl; exact rfl; exact rfl; exact rfl; exact rfl; exact True.intro)
  | ((apply AOps.splitB; exact rfl; exact rfl) <;> intro h)
  | apply AllOf.nil
  | (apply AllOf.cons; exact rfl)
  | (apply AAny.take; exact rfl; exact rfl; kernel_rfl; kernel_rfl)
  | (apply AAny.all; exact rfl)
  | (apply AAny.done; exact rfl)
  | (apply inI_of <;> omega)
  | omega
  | (simp <;> omega))
      exact ⟨(i + 1, h2), ⟨by simp only; omega, hw⟩, by simp only; omega, ⟨lee rfl (by (repeat (first | exact le_nil | refine le_eq rfl rfl ?_ | refine le_eq rfl (congrArg AV.i (by omega)) ?_))), by (repeat (first | exact lo_nil | refine lo_dead ?_ | refine lo_eq rfl ?_)), rfl, rfl⟩⟩
    · repeat' (first
  | (apply AOps.nil; try simp only [List.nil_append, List.cons_append, List.set_cons_zero, List.set_cons_succ, List.length_cons, List.length_nil, Nat.reduceAdd, AV.sh, AV.sh1, AV.sh0, AO.sh, List.map_cons, List.map_nil, Nat.zero_add, Nat.add_zero, setAll])
  | ((apply AOps.splitP; exact rfl; exact rfl) <;> intro h)
  | ((apply AOps.splitN; exact rfl; exact rfl) <;> intro h)
  | (apply w_move; exact rfl; exact rfl)
  | (apply w_assign; exact rfl; exact rfl)
  | apply AWp.seq
  | apply AWp.region
  | ((apply AWp.condP; exact rfl) <;> intro h)
  | ((apply AWp.condN; exact rfl) <;> intro h)
  | (apply AWp.condT; exact rfl)
  | (apply AWp.condF; exact rfl)
  | ((apply AWp.condB; exact rfl) <;> intro h)
  | apply AWp.block
  | apply AWp.ret
  | apply AWp.exit
  | apply AWp.skip
  | (apply if_pos'; exact rfl)
  | (apply if_neg'; decide)
  | (apply w_skip; exact rfl)
  | (apply w_pickT; exact rfl; exact rfl; exact rfl)
  | (apply w_pickF; exact rfl; exact rfl; exact rfl)
  | (apply w_len; exact rfl; exact rfl; first | exact .ints _ | exact .intss _ | exact .sli rfl | exact .sls rfl | exact .slr rfl | exact .orow rfl | exact .nil)
  | ((first | apply w_nilck | apply w_convu | apply w_convi | apply w_not | apply w_neg | apply w_conv | apply w_build0 | apply w_bs1 | apply w_boxa); iterate 2 exact rfl)
  | (apply w_lenby; exact rfl; exact rfl; (first | exact rdB_by _ | exact rdB_ro _ _))
  | (apply w_idxby; exact rfl; exact rfl; (first | exact rdB_by _ | exact rdB_ro _ _); exact rfl)
  | ((first | apply w_ldby | apply w_lss | apply w_leq | apply w_gtr | apply w_geq | apply w_eql | apply w_neq | apply w_add | apply w_sub | apply w_mul | apply w_idx | apply w_ld | apply w_fld | apply w_fa | apply w_extv | apply w_min | apply w_max | apply w_slhi | apply w_sllo | apply w_bs2); iterate 3 exact rfl)
  | (apply w_umul; exact rfl; exact rfl; exact rfl; intro cU hU)
  | (apply w_uadd; exact rfl; exact rfl; exact rfl; intro cU hU)
  | (apply w_ushr; exact rfl; exact rfl; exact rfl; (focus (first | assumption | omega)); intro cU hU)
  | (apply w_uand; exact rfl; exact rfl; exact rfl; (focus (first | assumption | omega)); intro cU hU)
  | (apply w_convbi; exact rfl; exact rfl; exact hbs _)
  | (apply w_convbu; exact rfl; exact rfl; exact hbs _)
  | (apply w_build23; exact rfl; exact rfl; exact rfl; exact rfl; (first | exact one_by | exact one_rb); exact one_val rfl rfl)
  | omega
  | ((first | apply w_eqlb | apply w_neqb | apply w_idxs | apply w_lds | apply w_ext); iterate 3 exact rfl)
  | (apply w_rem; exact rfl; exact rfl; exact rfl; (focus (omega; done)); (focus (omega; done)))
  | (apply w_quo; exact rfl; exact rfl; exact rfl; (focus (omega; done)); (focus (omega; done)))
  | (apply w_remT; exact rfl; exact rfl; exact rfl)
  | (apply w_quoT; exact rfl; exact rfl; exact rfl)
  | (apply w_idxo; exact rfl; exact rfl; (first | exact .sli rfl | exact .sls rfl | exact .slr rfl); exact rfl)
  | ((first | apply w_idxr | apply w_ldr); iterate 4 exact rfl)
  | (apply w_ldo; iterate 4 exact rfl)
  | (apply w_ldls; iterate 4 exact rfl)
  | (apply w_ldrp; iterate 4 exact rfl)
  | (apply w_ldb; iterate 5 exact rfl)
  | (apply w_ldst; iterate 5 exact rfl)
  | ((first | apply w_sllh | apply w_stbi); iterate 4 exact rfl)
  | ((first | apply w_oslo | apply w_oshi | apply w_stbii); iterate 4 exact rfl)
  | (apply w_build1; exact rfl; exact rfl; (first | exact one_val rfl rfl | exact one_ints | exact one_intss | exact one_own rfl True.intro))
  | (apply w_build2; exact rfl; exact rfl; exact rfl; (first | exact one_val rfl rfl | exact one_ints | exact one_intss | exact one_own rfl True.intro); (first | exact one_val rfl rfl | exact one_ints | exact one_intss | exact one_own rfl True.intro))
  | (apply w_bs0; iterate 1 exact rfl)
  | (apply w_appn; exact rfl; exact rfl; (first | exact .ints _ | exact .sli rfl | exact .orow rfl | exact .nil | exact .osub rfl (by simp; omega)); exact rfl)
  | (apply w_app; exact rfl; exact rfl; exact rfl; exact rfl; (first | exact .ints _ | exact .sli rfl | exact .orow rfl | exact .nil | exact .osub rfl (by simp; omega)); rotate_left 1; simp only [Env.mp, List.map_cons, List.map_nil, List.set_cons_zero, List.set_cons_succ, AV.kill, AV.kill1, AO.kill, AV.noRow, AV.noRow1, AO.via, reduceIte, Nat.reduceEqDiff, Nat.reduceLT, Env.up, Nat.zero_ne_one, Nat.one_ne_zero, Nat.reduceAdd, List.cons_append, List.nil_append]; rotate_left 1)
  | (apply w_alst; iterate 2 exact rfl)
  | (apply w_alone; iterate 3 exact rfl)
  | (apply w_mki; exact rfl; exact rfl; rotate_left 3; exact rfl; rotate_left 1)
  | (apply w_mkr; exact rfl; exact rfl; rotate_left 3; exact rfl; rotate_left 1)
  | (apply w_sti; exact rfl; exact rfl; rotate_left 1; exact rfl; rotate_left 2)
  | (apply w_stst; iterate 5 exact rfl)
  | (apply w_stbv; iterate 6 exact rfl)
  | (apply w_stbo; exact rfl; exact rfl; exact rfl; exact rfl; exact rfl; exact True.intro)
  | ((apply AOps.splitB; exact rfl; exact rfl) <;> intro h)
  | apply AllOf.nil
  | (apply AllOf.cons; exact rfl)
  | (apply AAny.take; exact rfl; exact rfl; kernel_rfl; kernel_rfl)
  | (apply AAny.all; exact rfl)
  | (apply AAny.done; exact rfl)
  | (apply inI_of <;> omega)
  | omega
  | (simp <;> omega))
      exact ⟨0, 0, hv, .v1 Try.results35 rfl, rfl, ⟨by omega, by omega⟩, hh⟩
  · repeat' (first
  | (apply AOps.nil; try simp only [List.nil_append, List.cons_append, List.set_cons_zero, List.set_cons_succ, List.length_cons, List.length_nil, Nat.reduceAdd, AV.sh, AV.sh1, AV.sh0, AO.sh, List.map_cons, List.map_nil, Nat.zero_add, Nat.add_zero, setAll])
  | ((apply AOps.splitP; exact rfl; exact rfl) <;> intro h)
  | ((apply AOps.splitN; exact rfl; exact rfl) <;> intro h)
  | (apply w_move; exact rfl; exact rfl)
  | (apply w_assign; exact rfl; exact rfl)
  | apply AWp.seq
  | apply AWp.region
  | ((apply AWp.condP; exact rfl) <;> intro h)
  | ((apply AWp.condN; exact rfl) <;> intro h)
  | (apply AWp.condT; exact rfl)
  | (apply AWp.condF; exact rfl)
  | ((apply AWp.condB; exact rfl) <;> intro h)
  | apply AWp.block
  | apply AWp.ret
  | apply AWp.exit
  | apply AWp.skip
  | (apply if_pos'; exact rfl)
  | (apply if_neg'; decide)
  | (apply w_skip; exact rfl)
  | (apply w_pickT; exact rfl; exact rfl; exact rfl)
  | (apply w_pickF; exact rfl; exact rfl; exact rfl)
  | (apply w_len; exact rfl; exact rfl; first | exact .ints _ | exact .intss _ | exact .sli rfl | exact .sls rfl | exact .slr rfl | exact .orow rfl | exact .nil)
  | ((first | apply w_nilck | apply w_convu | apply w_convi | apply w_not | apply w_neg | apply w_conv | apply w_build0 | apply w_bs1 | apply w_boxa); iterate 2 exact rfl)
  | (apply w_lenby; exact rfl; exact rfl; (first | exact rdB_by _ | exact rdB_ro _ _))
  | (apply w_idxby; exact rfl; exact rfl; (first | exact rdB_by _ | exact rdB_ro _ _); exact rfl)
  | ((first | apply w_ldby | apply w_lss | apply w_leq | apply w_gtr | apply w_geq | apply w_eql | apply w_neq | apply w_add | apply w_sub | apply w_mul | apply w_idx | apply w_ld | apply w_fld | apply w_fa | apply w_extv | apply w_min | apply w_max | apply w_slhi | apply w_sllo | apply w_bs2); iterate 3 exact rfl)
  | (apply w_umul; exact rfl; exact rfl; exact rfl; intro cU hU)
  | (apply w_uadd; exact rfl; exact rfl; exact rfl; intro cU hU)
  | (apply w_ushr; exact rfl; exact rfl; exact rfl; (focus (first | assumption | omega)); intro cU hU)
  | (apply w_uand; exact rfl; exact rfl; exact rfl; (focus (first | assumption | omega)); intro cU hU)
  | (apply w_convbi; exact rfl; exact rfl; exact hbs _)
  | (apply w_convbu; exact rfl; exact rfl; exact hbs _)
  | (apply w_build23; exact rfl; exact rfl; exact rfl; exact rfl; (first | exact one_by | exact one_rb); exact one_val rfl rfl)
  | omega
  | ((first | apply w_eqlb | apply w_neqb | apply w_idxs | apply w_lds | apply w_ext); iterate 3 exact rfl)
  | (apply w_rem; exact rfl; exact rfl; exact rfl; (focus (omega; done)); (focus (omega; done)))
  | (apply w_quo; exact rfl; exact rfl; exact rfl; (focus (omega; done)); (focus (omega; done)))
  | (apply w_remT; exact rfl; exact rfl; exact rfl)
  | (apply w_quoT; exact rfl; exact rfl; exact rfl)
  | (apply w_idxo; exact rfl; exact rfl; (first | exact .sli rfl | exact .sls rfl | exact .slr rfl); exact rfl)
  | ((first | apply w_idxr | apply w_ldr); iterate 4 exact rfl)
  | (apply w_ldo; iterate 4 exact rfl)
  | (apply w_ldls; iterate 4 exact rfl)
  | (apply w_ldrp; iterate 4 exact rfl)
  | (apply w_ldb; iterate 5 exact rfl)
  | (apply w_ldst; iterate 5 exact rfl)
  | ((first | apply w_sllh | apply w_stbi); iterate 4 exact rfl)
  | ((first | apply w_oslo | apply w_oshi | apply w_stbii); iterate 4 exact rfl)
  | (apply w_build1; exact rfl; exact rfl; (first | exact one_val rfl rfl | exact one_ints | exact one_intss | exact one_own rfl True.intro))
  | (apply w_build2; exact rfl; exact rfl; exact rfl; (first | exact one_val rfl rfl | exact one_ints | exact one_intss | exact one_own rfl True.intro); (first | exact one_val rfl rfl | exact one_ints | exact one_intss | exact one_own rfl True.intro))
  | (apply w_bs0; iterate 1 exact rfl)
  | (apply w_appn; exact rfl; exact rfl; (first | exact .ints _ | exact .sli rfl | exact .orow rfl | exact .nil | exact .osub rfl (by simp; omega)); exact rfl)
  | (apply w_app; exact rfl; exact rfl; exact rfl; exact rfl; (first | exact .ints _ | exact .sli rfl | exact .orow rfl | exact .nil | exact .osub rfl (by simp; omega)); rotate_left 1; simp only [Env.mp, List.map_cons, List.map_nil, List.set_cons_zero, List.set_cons_succ, AV.kill, AV.kill1, AO.kill, AV.noRow, AV.noRow1, AO.via, reduceIte, Nat.reduceEqDiff, Nat.reduceLT, Env.up, Nat.zero_ne_one, Nat.one_ne_zero, Nat.reduceAdd, List.cons_append, List.nil_append]; rotate_left 1)
  | (apply w_alst; iterate 2 exact rfl)
  | (apply w_alone; iterate 3 exact rfl)
  | (apply w_mki; exact rfl; exact rfl; rotate_left 3; exact rfl; rotate_left 1)
  | (apply w_mkr; exact rfl; exact rfl; rotate_left 3; exact rfl; rotate_left 1)
  | (apply w_sti; exact rfl; exact rfl; rotate_left 1; exact rfl; rotate_left 2)
  | (apply w_stst; iterate 5 exact rfl)
  | (apply w_stbv; iterate 6 exact rfl)
  | (apply w_stbo; exact rfl; exact rfl; exact rfl; exact rfl; exact rfl; exact True.intro)
  | ((apply AOps.splitB; exact rfl; exact rfl) <;> intro h)
  | apply AllOf.nil
  | (apply AllOf.cons; exact rfl)
  | (apply AAny.take; exact rfl; exact rfl; kernel_rfl; kernel_rfl)
  | (apply AAny.all; exact rfl)
  | (apply AAny.done; exact rfl)
  | (apply inI_of <;> omega)
  | omega
  | (simp <;> omega))
    exact ⟨0, 0, hv, .v1 Try.results35 rfl, rfl, ⟨by omega, by omega⟩, hh⟩
end Go.Proofs.Ytkojhaoflgdjmaa
/-
  A literal slice of four own rows, read as rows. No condition.
-/
namespace Go.Proofs.Ytkojhaoflgdjmaa
open Go Go.RowKit
set_option linter.unusedSimpArgs false

section
variable {P : Program} {env : Env} {os : List AO} {d : Option Tmp} {ty : TypeId} {pos : String} {af : Array Edge} {g : Option (Nat × Bool)}
end
/-- An own row that is handed on reads as its numbers. -/
theorem reads_row {base : Nat} {w : World} {gs : List Gh} {os : List AO} {ok : Nat → Prop} (hro : ∀ (h : Nat) g o, gs[h]? = some g → os[h]? = some o → RO base w (okOf gs os) gs g o) {k : Nat} {e : TypeId} {ys : List Int} (hs : os[k]? = some (.sli e ys))
    (hok : ∀ g o, gs[k]? = some g → os[k]? = some o → o ≠ .dead → ∀ b, b ∈ g.bl → ok b) {v : Value} (hv : RV w (okOf gs os) gs v (.own k)) : IntsAt w ok v ys := by
  cases hv with
  | @own _ g hg =>
    obtain ⟨a1, a2, a3⟩ := hro _ _ _ hg hs
    refine ⟨?_, a2⟩
    obtain ⟨p, cap, e0⟩ := ownsRow_slice a1
    rcases Nat.eq_zero_or_pos ys.length with h0 | h0
    · have : ys = [] := List.length_eq_zero_iff.1 h0
      subst this
      rcases a1.2 with ⟨h1, h2⟩ | ⟨b, cap, cur, h1, r⟩
      · rw [h1]; exact ⟨none, 0, rfl, by simp, by simp [maxLen], fun hp => by simp at hp⟩
      · rw [h1]; exact ⟨_, cap, rfl, by simp, r.2.2.2.1, fun hp => by simp at hp⟩
    · obtain ⟨b, cap, e1, e2, _⟩ := own_slice a1 (i := 0) (by simpa using h0)
      have hb : g.b = b := a3.eq e2
      rcases a1.2 with ⟨h1, h2⟩ | ⟨b', cap', cur, h1, r⟩
      · rw [h1] at e1; simp at h2; subst h2; simp at h0
      · rw [h1]
        refine ⟨_, cap', by simp, ?_, r.2.2.2.1, fun _ => ⟨b', 0, rfl, ?_, fun i u hu => ?_⟩⟩
        · have := r.2.2.1; simpa using this
        · refine hok _ _ hg hs (by simp) b' ?_
          rw [h1] at e1; cases e1
          rcases a3 with ⟨h3, h4⟩ | ⟨h3, h4⟩
          · rw [h1] at h3; cases h3
          · rw [h4, hb]; simp
        · have hi := (List.getElem?_eq_some_iff.1 hu).1
          have h9 := (own_slice a1 (i := i) hi)
          obtain ⟨b2, cap2, e3, e4, e5, _⟩ := h9
          rw [h1] at e3; cases e3
          rw [Nat.zero_add, e5]; exact hu
section
variable {P : Program} {env : Env} {os : List AO} {d : Tmp} {ty : TypeId} {pos : String} {af : Array Edge} {l rest : List Oper} {K : APost}
end
end Go.Proofs.Ytkojhaoflgdjmaa
/-
  A source of numbers whose place and hash are not told; drawn regions that come to one of a family of states; functions that draw a list, or pick from one. No condition.
-/
namespace Go.Proofs.Ytkojhaoflgdjmaa
open Go Go.RowKit
set_option linter.unusedSimpArgs false

section
variable {P : Program} {N : APost} {X : Nat → APost} {Rt : APost} {env : Env} {os : List AO} {l : List Oper}
/-- A region that draws its order: every order comes to a state of the family. -/
theorem AWp.regionAI {ι : Type} (I : ι → Prop) (E : ι → Env) (O : ι → List AO) {id : Nat} (hm : P.follows .mixedOrders = true) {n : Nat} (hn : l.length = n) {listed : List Bool} (hl : List.replicate n false = listed)
    (h : AAny P l n listed (fun e o => ∃ x, I x ∧ (Fit e o (E x) (O x) ∨ ∃ σ, FitS σ e o (E x) (O x))) env os) (hk : ∀ x, I x → N (E x) (O x)) : AWp P (.region id l.toArray true) N X Rt env os := by
  intro base w0 w gs tm hr hb
  have hbel : Below w.heap.size w { w with drawn := w.drawn + 1 } := (Below.refl _ _).drew
  refine wp_region_any hm ?_
  have := h base w0 _ gs tm (hr.below hbel) (hb.trans (hbel.mono hr.hb)) X Rt
  rw [← hl] at this
  have e1 : (List.replicate n false).toArray = Array.replicate l.toArray.size false := by simp [hn]
  rw [e1] at this
  have e2 : l.toArray.size = n := by simpa using hn
  rw [e2] at this ⊢
  refine AWp.regionA.wpAny_monoQ ?_ this
  intro e a w' hq
  cases e with
  | normal =>
    obtain ⟨env', os', gs', r1, r2, r3, x, hx, hf⟩ := hq
    rcases hf with hf | ⟨σ, hf⟩
    · obtain ⟨gs2, r4⟩ := r1.fit hf
      exact ⟨_, _, gs2, r4, r2, r3, hk x hx⟩
    · obtain ⟨gs2, r4⟩ := r1.fits hf
      exact ⟨_, _, gs2, r4, r2, r3, hk x hx⟩
  | exit j => exact hq
  | ret => exact hq
  | goto l => exact hq
  | panic ch => exact hq
  | outgrown => exact hq
end

def atR (n : Nat) : Ro where
  p _ _ v := ∃ a : Int, v = .int .i64 a ∧ 0 ≤ a ∧ a ≤ n
  up _ h := h
def hR : Ro where
  p _ _ v := ∃ a : Int, v = .int .u64 a ∧ 0 ≤ a ∧ a < 18446744073709551616
  up _ h := h
abbrev skO (T : TypeId) (bs : List Int) (a0 : AV) : AO := .bx T [a0, .ro (atR bs.length), .ro hR]

section
variable {P : Program} {env : Env} {os : List AO} {d : Option Tmp} {ty : TypeId} {pos : String} {af : Array Edge} {g : Option (Nat × Bool)}
/-- What is known of a source. -/
theorem sk_at {base : Nat} {w : World} {gs : List Gh} {tm : Array Value} {h0 : Nat} {T : TypeId} {bs : List Int} {a0 : AV} (hr : Rel base w gs env os tm) (o0 : os[h0]? = some (skO T bs a0)) (ra : RdB a0 bs) :
    ∃ g0 z0 at_ hh, gs[h0]? = some g0 ∧ Sk T base w g0 z0 at_ hh ∧ SOk bs at_ hh ∧ BysAt w (fun b => b ∉ g0.bl) z0 bs ∧ RV w (okOf gs os) gs z0 a0 ∧ (∀ b, okOf gs os b → b ∉ g0.bl) := by
  obtain ⟨g0, q0⟩ : ∃ x, gs[h0]? = some x := ⟨_, List.getElem?_eq_getElem (by rw [hr.hl]; exact (List.getElem?_eq_some_iff.1 o0).1)⟩
  obtain ⟨cs, d1, d2, d3, d4, d5, d6, d7⟩ := hr.ho _ _ _ q0 o0
  match cs, d5 with
  | [z0, z1, z2], _ =>
    have t0 : RV w (okOf gs os) gs z0 a0 := d7 0
    have t1 : RV w (okOf gs os) gs z1 (.ro (atR bs.length)) := d7 1
    have t2 : RV w (okOf gs os) gs z2 (.ro hR) := d7 2
    cases t1 with
    | ro t1 =>
      cases t2 with
      | ro t2 =>
        obtain ⟨at_, rfl, b1, b2⟩ := t1
        obtain ⟨hh, rfl, b3, b4⟩ := t2
        have okb : ∀ b, okOf gs os b → b ∉ g0.bl := fun b hb => hb h0 g0 _ q0 o0 trivial
        exact ⟨g0, z0, at_, hh, q0, ⟨d1, d6 _ (by simp), d2, d3, d4⟩, ⟨⟨b1, b2⟩, b3, b4⟩, (ra _ _ _ _ t0).mono fun b hb _ => ⟨okb b hb, rfl⟩, t0, okb⟩
/-- The source after a call. -/
theorem sk_back {base : Nat} {w w' : World} {gs : List Gh} {tm : Array Value} {h0 : Nat} {T : TypeId} {bs : List Int} {a0 : AV} (hr : Rel base w gs env os tm) (o0 : os[h0]? = some (skO T bs a0)) {g0 : Gh} {z0 : Value} {at' h' : Int} (q0 : gs[h0]? = some g0)
    (t0 : RV w (okOf gs os) gs z0 a0) (hI' : SOk bs at' h') (hWk' : Sk T base w' g0 z0 at' h') (hsz : w.heap.size ≤ w'.heap.size) (hfr : ∀ b, b < w.heap.size → b ∉ g0.bl → w'.heap[b]? = w.heap[b]?) : Rel base w' gs env os tm := by
  obtain ⟨c1, c1', c2, c3, c4⟩ := hWk'
  obtain ⟨⟨k1, k2⟩, k3, k4⟩ := hI'
  have l0 := (List.getElem?_eq_some_iff.1 o0).1
  refine hr.upds [h0] rfl (fun i hi => rfl) (fun i hi o o' ho ho' => ?_) (fun b hb hn => ?_) hsz (fun kp i hi gx o' hgx ho' => ?_)
  · simp only [List.mem_cons, List.not_mem_nil, or_false] at hi
    subst hi
    rw [o0] at ho ho'; cases ho; cases ho'
    exact ⟨trivial, trivial⟩
  · exact hfr b hb (hn h0 (by simp) _ q0)
  · simp only [List.mem_cons, List.not_mem_nil, or_false] at hi
    subst hi
    rw [o0] at ho'; cases ho'
    rw [q0] at hgx; cases hgx
    refine ⟨[z0, .int .i64 at', .int .u64 h'], c1, c2, c3, c4, rfl, ?_, fun j => ?_⟩
    · intro z hz
      simp only [List.mem_cons, List.not_mem_nil, or_false] at hz
      rcases hz with rfl | rfl | rfl
      · exact c1'
      · rfl
      · rfl
    · match j with
      | 0 => exact t0.mono kp fun _ _ h => h
      | 1 => exact .ro ⟨at', rfl, k1, k2⟩
      | 2 => exact .ro ⟨h', rfl, k3, k4⟩
      | j + 3 => exact .any _
theorem c_callso {f : FuncId} {T : TypeId} {bs : List Int} {as0 : List Value} {Q : Value → Prop} {h0 : Nat} {a0 : AV} (hc : AFnS P f T bs as0 Q) {x : Operand} {xs : List Operand} {ats : Array TypeId} (hx : AV.ev env x = .optr h0 0)
    (o0 : os[h0]? = some (skO T bs a0)) (hxs : xs.map (AV.ev env) = as0.map AV.val) (ra : RdB a0 bs) :
    COp P ⟨d, .call { callee := .value (.func f), args := (x :: xs).toArray, argTypes := ats }, ty, pos, af, g⟩ env os (fun r e' o => ∃ rv, r = .val rv ∧ e' = env ∧ Q rv ∧ o = os) := by
  intro base w gs tm hr
  obtain ⟨g0, z0, at_, hh, q0, hWk, hI, hW, t0, okb⟩ := sk_at hr o0 ra
  have hxv := hr.ev x
  rw [hx] at hxv
  have ex : Act.eval ⟨tm, []⟩ x = g0.v := by
    generalize Act.eval ⟨tm, []⟩ x = v at hxv
    cases hxv with
    | optr hh => rw [q0] at hh; cases hh; exact hWk.v.symm
  have exs : xs.map (Act.eval ⟨tm, []⟩) = as0 := by
    have hlen : xs.length = as0.length := by simpa using congrArg List.length hxs
    apply List.ext_getElem (by simpa using hlen)
    intro i k1 k2
    have k3 : i < xs.length := by simpa using k1
    have : AV.ev env xs[i] = .val as0[i] := by
      have := congrArg (fun l => l[i]?) hxs
      simpa [List.getElem?_eq_getElem k3, List.getElem?_eq_getElem k2] using this
    simpa using hr.evv this
  refine ⟨f, _, run_call hc.1 (x :: xs) ats _ rfl w, ?_⟩
  have eargs : ((x :: xs).map (Act.eval ⟨tm, []⟩)).toArray = (g0.v :: as0).toArray := by rw [List.map_cons, ex, exs]
  rw [eargs]
  refine (hc.2 base w g0 z0 at_ hh hr.hb hWk hI hW).mono ?_
  rintro ev w' ⟨rv, at', h', rfl, hQ, hI', hWk', hbel, hfr⟩
  exact ⟨rv, .val rv, env, _, gs, rfl, ⟨rv, rfl, rfl, hQ, rfl⟩, sk_back hr o0 q0 t0 hI' hWk' hbel.size hfr, .val rv, hbel⟩
theorem c_callsof {f : FuncId} {T : TypeId} {bs : List Int} {a0 : AV} (hc : AFnF P f T bs) {x : Operand} {ats : Array TypeId} (hx : AV.ev env x = a0) (ra : RdB a0 bs) :
    COp P ⟨d, .call { callee := .value (.func f), args := #[x], argTypes := ats }, ty, pos, af, g⟩ env os (fun r e' o => r = .optr os.length 0 ∧ e' = env ∧ o = os ++ [skO T bs a0]) := by
  intro base w gs tm hr
  have t0 := hr.ev x
  rw [hx] at t0
  have hb0 := ra _ _ _ _ t0
  refine ⟨f, _, run_call hc.1 [x] ats _ rfl w, ?_⟩
  refine (hc.2 w (Act.eval ⟨tm, []⟩ x) (hb0.mono fun b hb _ => ⟨trivial, rfl⟩)).mono ?_
  rintro ev w' ⟨g0, at', h', rfl, ⟨⟨k1, k2⟩, k3, k4⟩, hSk, hbel⟩
  obtain ⟨c1, c1', c2, c3, c4⟩ := hSk
  have hlt : g0.b < w'.heap.size := (Array.getElem?_eq_some_iff.1 c1).1
  have hno : skO T bs a0 ≠ .dead → ∀ b, b ∈ g0.bl → w.heap.size ≤ b ∧ b < w'.heap.size := fun _ b hb => by
    rw [c3] at hb
    simp only [List.mem_cons, List.not_mem_nil, or_false] at hb
    subst hb; exact ⟨c2, hlt⟩
  have k := keeps_new (o := skO T bs a0) hr.hl hbel hno
  have hgs : ∀ (i : Nat) g', gs[i]? = some g' → (gs ++ [g0])[i]? = some g' := fun i g' e => by
    rw [List.getElem?_append_left (List.getElem?_eq_some_iff.1 e).1]; exact e
  refine ⟨g0.v, .optr os.length 0, env, _, gs ++ [g0], rfl, ⟨rfl, rfl, rfl⟩, hr.new hbel _ g0 hno ?_, ?_, hbel.mono hr.hb⟩
  · refine ⟨[Act.eval ⟨tm, []⟩ x, .int .i64 at', .int .u64 h'], c1, Nat.le_trans hr.hb c2, c3, c4, rfl, ?_, fun j => ?_⟩
    · intro z hz
      simp only [List.mem_cons, List.not_mem_nil, or_false] at hz
      rcases hz with rfl | rfl | rfl
      · exact c1'
      · rfl
      · rfl
    · match j with
      | 0 => exact t0.mono k hgs
      | 1 => exact .ro ⟨at', rfl, k1, k2⟩
      | 2 => exact .ro ⟨h', rfl, k3, k4⟩
      | j + 3 => exact .any _
  · rw [c4, ← hr.hl]
    exact .optr len_new
end
section
variable {P : Program} {env : Env} {os : List AO} {d : Tmp} {ty : TypeId} {pos : String} {af : Array Edge} {l rest : List Oper} {K : APost}
/-- A call under a guard that is met. -/
theorem AOps.cag {op : Op} {g : Option (Nat × Bool)} {Q : AV → Env → List AO → Prop} (hw : wantedA l env ⟨some d, op, ty, pos, af, g⟩ = some true) (ho : COp P ⟨some d, op, ty, pos, af, g⟩ env os Q) (h : ∀ r e o, Q r e o → AOps P .seq l rest K (e.up d r) o) :
    AOps P .seq l (⟨some d, op, ty, pos, af, g⟩ :: rest) K env os := by
  intro base w0 w gs tm hr hb X Rt
  obtain ⟨f, args, hrun, hc⟩ := ho base w gs tm hr
  have hwa := wantedA_spec hr hw
  unfold wpList
  rw [if_pos hwa]
  refine .inl ?_
  unfold Oper.wp
  rw [hrun]
  refine hc.mono ?_
  rintro e w' ⟨v, r, env1, os1, gs', rfl, hq, hr', hv, hb'⟩
  exact h r env1 os1 hq base w0 w' gs' _ (hr'.put hv d) (hb.trans hb') X Rt
theorem w_callso {g : Option (Nat × Bool)} {f : FuncId} {T : TypeId} {bs : List Int} {as0 : List Value} {Q : Value → Prop} {h0 : Nat} {a0 : AV} {x : Operand} {xs : List Operand} {ats : Array TypeId} (hc : AFnS P f T bs as0 Q)
    (hw : wantedA l env ⟨some d, .call { callee := .value (.func f), args := (x :: xs).toArray, argTypes := ats }, ty, pos, af, g⟩ = some true) (hx : evo env x = some (.optr h0 0))
    (o0 : os[h0]? = some (skO T bs a0)) (hxs : xs.map (AV.ev env) = as0.map AV.val) (ra : RdB a0 bs)
    (h' : ∀ rv, Q rv → AOps P .seq l rest K (env.up d (.val rv)) os) :
    AOps P .seq l (⟨some d, .call { callee := .value (.func f), args := (x :: xs).toArray, argTypes := ats }, ty, pos, af, g⟩ :: rest) K env os :=
  AOps.cag hw (c_callso hc (ev_of hx) o0 hxs ra) fun r e' o ⟨rv, e1, e2, h3, e5⟩ => by subst e1; subst e2; subst e5; exact h' rv h3
theorem w_callsof {f : FuncId} {T : TypeId} {bs : List Int} {a0 : AV} {m : Nat} {x : Operand} {ats : Array TypeId} (hc : AFnF P f T bs) (hx : evo env x = some a0) (ra : RdB a0 bs) (hm : os.length = m)
    (h' : AOps P .seq l rest K (env.up d (.optr m 0)) (os ++ [skO T bs a0])) :
    AOps P .seq l (⟨some d, .call { callee := .value (.func f), args := #[x], argTypes := ats }, ty, pos, af, none⟩ :: rest) K env os := by
  subst hm
  exact AOps.ca (c_callsof hc (ev_of hx) ra) fun r e' o ⟨e1, e2, e5⟩ => by subst e1; subst e2; subst e5; exact h'
end

/-! ### Functions that draw a struct of a number and a list -/
def AFnD (P : Program) (f : FuncId) (T e : TypeId) (bs : List Int) (Q : Int → List Int → Prop) : Prop :=
  HasBody P f ∧ ∀ base w g0 vC at_ h, base ≤ w.heap.size → Sk T base w g0 vC at_ h → SOk bs at_ h → BysAt w (fun b => b ∉ g0.bl) vC bs →
    Calls P f #[g0.v] w fun ev w' => ∃ n xs g1 at' h', ev = .returned (.agg #[.int .i64 n, g1.v]) ∧ Q n xs ∧ SOk bs at' h' ∧ Sk T base w' g0 vC at' h' ∧ RO w.heap.size w' (fun _ => True) [] g1 (.sli e xs) ∧
      (∀ b, b ∈ g1.bl → w.heap.size ≤ b ∧ b < w'.heap.size) ∧ Below base w w' ∧ ∀ b, b < w.heap.size → b ∉ g0.bl → w'.heap[b]? = w.heap[b]?
def DEnd (P : Program) (fn : Func) (T e : TypeId) (bs : List Int) (vC : Value) (K : Kp) (Q : Int → List Int → Prop) (env : Env) (os : List AO) : Prop :=
  ∃ n xs A, ResIs P fn env os (.agg [.val (.int .i64 n), A]) ∧ ((∃ k, A = .own (k + 2) ∧ os[k + 2]? = some (.sli e xs)) ∨ (A = .val (.slice none 0 0) ∧ xs = [])) ∧ Q n xs ∧ ∃ tl, os = .keep 2 K :: skO T bs (.ro (roB vC bs)) :: tl
theorem ownsRow_up {w : World} {b0 b1 : Nat} {e : TypeId} {size n : Nat} {v : Value} {xs : List Value} (h : w.ownsRow b0 e size v n xs) (hb : ∀ b, v.ownBlock = some b → b1 ≤ b) : w.ownsRow b1 e size v n xs := by
  refine ⟨h.1, ?_⟩
  rcases h.2 with h2 | ⟨b, cap, cur, rfl, r⟩
  · exact .inl h2
  · exact .inr ⟨b, cap, cur, rfl, hb b rfl, r.2⟩

set_option maxHeartbeats 2000000 in
theorem AFnD.of {P : Program} {f : FuncId} {fn : Func} {c : Code} {T e : TypeId} {bs : List Int} {Q : Int → List Int → Prop} {n : Nat} (hf : P.funcs[f]? = some fn) (hb : fn.body = some c) (hnm : (fn.name == "runtime.NumGoroutine") = false)
    (hn : fn.ntmps - 1 = n)
    (h : ∀ K vC, AWp P c (DEnd P fn T e bs vC K Q) (fun _ _ _ => False) (DEnd P fn T e bs vC K Q) (Env.start [.optr 1 0] n) [.keep 2 K, skO T bs (.ro (roB vC bs))]) :
    AFnD P f T e bs Q := by
  refine ⟨⟨fn, c, hf, hnm, hb⟩, fun base w g0 vC at_ hh hbase hC hI hW => calls_of_wp hf hb ?_⟩
  rw [show fn.ntmps - (#[g0.v] : Array Value).size = n from hn]
  obtain ⟨c1, c1', c2, c3, c4⟩ := hC
  obtain ⟨⟨i1, i2⟩, i3, i4⟩ := hI
  let bl : List Nat := (List.range w.heap.size).filter fun b => decide (base ≤ b) && !(g0.bl).contains b
  let gk : Gh := ⟨undef, 0, bl, []⟩
  let K : Kp := ⟨fun b => w.heap[b]?, [gk, g0]⟩
  have hlt : g0.b < w.heap.size := (Array.getElem?_eq_some_iff.1 c1).1
  have hbl : ∀ b, b ∈ bl ↔ b < w.heap.size ∧ base ≤ b ∧ b ∉ g0.bl := by
    intro b
    simp only [bl, List.mem_filter, List.mem_range, Bool.and_eq_true, decide_eq_true_eq, Bool.not_eq_true', List.contains_eq_mem, decide_eq_false_iff_not]
  have okk : ∀ b, b ∉ g0.bl → okOf [gk, g0] [.keep 2 K, skO T bs (.ro (roB vC bs))] b := by
    intro b hb i x y hx hy hl
    match i with
    | 0 => cases hy; exact hl.elim
    | 1 => cases hx; exact hb
    | i + 2 => simp at hx
  have kp : Keeps (fun b => b ∉ g0.bl) (okOf [gk, g0] [.keep 2 K, skO T bs (.ro (roB vC bs))]) w w := fun b hb _ => ⟨okk b hb, rfl⟩
  have hrel : Rel base w [gk, g0] (Env.start [.optr 1 0] n) [.keep 2 K, skO T bs (.ro (roB vC bs))] (#[g0.v] ++ Array.replicate n undef) := by
    refine ⟨hbase, rfl, by simp [Env.start], fun i => ?_, ?_, ?_, ?_⟩
    · refine start_rv [.optr 1 0] n #[g0.v] (fun i => ?_) i
      match i with
      | 0 =>
        show RV w _ _ g0.v (.optr 1 0)
        rw [c4]
        exact .optr (g := g0) rfl
      | i + 1 => exact .any _
    · intro i x y hx hy
      match i with
      | 0 =>
        cases hx; cases hy
        exact ⟨fun b _ => rfl, rfl, fun i x h => h⟩
      | 1 =>
        cases hx; cases hy
        refine ⟨[vC, .int .i64 at_, .int .u64 hh], c1, c2, c3, c4, rfl, ?_, fun j => ?_⟩
        · intro z hz
          simp only [List.mem_cons, List.not_mem_nil, or_false] at hz
          rcases hz with rfl | rfl | rfl
          · exact c1'
          · rfl
          · rfl
        · match j with
          | 0 => exact .ro ⟨rfl, hW.mono kp⟩
          | 1 => exact .ro ⟨at_, rfl, i1, i2⟩
          | 2 => exact .ro ⟨hh, rfl, i3, i4⟩
          | j + 3 => exact .any _
      | i + 2 => simp at hx
    · intro i j a b o1 o2 hij ha1 hb1 ho1 ho2 _ _ c hc1 hc2
      match i, j with
      | 0, 0 => omega
      | 0, 1 =>
        cases ha1; cases hb1
        exact ((hbl c).1 hc1).2.2 hc2
      | 1, 0 =>
        cases ha1; cases hb1
        exact ((hbl c).1 hc2).2.2 hc1
      | 1, 1 => omega
      | i + 2, _ => simp at ha1
      | 0, j + 2 => simp at hb1
      | 1, j + 2 => simp at hb1
    · intro i x y hx hy _ b hb
      match i with
      | 0 => cases hx; exact ⟨((hbl b).1 hb).2.1, ((hbl b).1 hb).1⟩
      | 1 =>
        cases hx
        rw [c3] at hb
        simp only [List.mem_cons, List.not_mem_nil, or_false] at hb
        subst hb; exact ⟨c2, hlt⟩
      | i + 2 => simp at hx
  have fin : ∀ {env : Env} {os1 : List AO} {gs2 : List Gh} {a : Act} {w' : World}, Rel base w' gs2 env os1 a.tmps → Below base w w' → DEnd P fn T e bs vC K Q env os1 →
      ∃ u, (results fn a.tmps).run P w' = .ok u w' ∧ (∃ n xs g1 at' h', Ending.returned u = .returned (.agg #[.int .i64 n, g1.v]) ∧ Q n xs ∧ SOk bs at' h' ∧ Sk T base w' g0 vC at' h' ∧ RO w.heap.size w' (fun _ => True) [] g1 (.sli e xs) ∧
      (∀ b, b ∈ g1.bl → w.heap.size ≤ b ∧ b < w'.heap.size) ∧ Below base w w' ∧ ∀ b, b < w.heap.size → b ∉ g0.bl → w'.heap[b]? = w.heap[b]?) := by
    rintro env os1 gs2 a w' hr hbel ⟨n1, xs, A, hres, hA, hQ, tl, rfl⟩
    obtain ⟨u, hu, hv⟩ := hres _ _ _ _ hr
    have hgl := hr.hl
    obtain ⟨x0, hx0⟩ : ∃ x, gs2[0]? = some x := ⟨_, List.getElem?_eq_getElem (by rw [hgl]; simp)⟩
    obtain ⟨r1, r2, r3⟩ := hr.ho 0 _ _ hx0 rfl
    have p0 := r3 0 gk rfl
    have p1 := r3 1 g0 rfl
    have e0 : x0 = gk := by rw [hx0] at p0; exact Option.some.inj p0
    subst e0
    have o1 := hr.ho 1 _ _ p1 rfl
    obtain ⟨cs, d1, d2, d3, d4, d5, d6, d7⟩ := o1
    match cs, d5 with
    | [z0, z1, z2], _ =>
      have q0 := d7 0
      have q1 : RV w' _ gs2 z1 (.ro (atR bs.length)) := d7 1
      have q2 : RV w' _ gs2 z2 (.ro hR) := d7 2
      have w0 : z0 = vC := by cases q0 with | ro h => exact h.1
      obtain ⟨at', e1, b1, b2⟩ : ∃ a : Int, z1 = .int .i64 a ∧ 0 ≤ a ∧ a ≤ bs.length := by cases q1 with | ro h => exact h
      obtain ⟨h', e2, b3, b4⟩ : ∃ a : Int, z2 = .int .u64 a ∧ 0 ≤ a ∧ a < 18446744073709551616 := by cases q2 with | ro h => exact h
      subst w0 e1 e2
      have hfr : ∀ b, b < w.heap.size → b ∉ g0.bl → w'.heap[b]? = w.heap[b]? := fun b hb hok => by
        rcases Nat.lt_or_ge b base with h6 | h6
        · exact hbel.block b h6
        · exact r1 b ((hbl b).2 ⟨hb, h6, hok⟩)
      have hSk : Sk T base w' g0 z0 at' h' := ⟨d1, c1', c2, c3, c4⟩
      have hag : ∃ s, u = .agg #[.int .i64 n1, s] ∧ RV w' (okOf gs2 (.keep 2 K :: skO T bs (.ro (roB z0 bs)) :: tl)) gs2 s A := by
        cases hv with
        | @agg vs _ f1 f2 f3 =>
          match vs, f1 with
          | [s0, s1], _ =>
            have t0 := f3 0
            have t1 := f3 1
            simp only [List.getD_cons_zero, List.getD_cons_succ] at t0 t1
            cases t0
            exact ⟨s1, rfl, t1⟩
      obtain ⟨s, rfl, hs⟩ := hag
      rcases hA with ⟨k, rfl, hk⟩ | ⟨rfl, rfl⟩
      · cases hs with
        | @own _ g1 hg =>
          obtain ⟨a1, a2, a3⟩ := hr.ho _ _ _ hg hk
          have hbnd : ∀ b, b ∈ g1.bl → w.heap.size ≤ b ∧ b < w'.heap.size := fun b hb => by
            have h5 := hr.hn _ _ _ hg hk (by simp) b hb
            refine ⟨?_, h5.2⟩
            rcases Nat.lt_or_ge b w.heap.size with h6 | h6
            · exfalso
              by_cases h7 : b ∈ g0.bl
              · exact hr.hd (k + 2) 1 g1 g0 _ _ (by omega) hg p1 hk rfl (by simp) (by simp) b hb h7
              · exact hr.hd (k + 2) 0 g1 gk _ _ (by omega) hg p0 hk rfl (by simp) (by simp) b hb ((hbl b).2 ⟨h6, h5.1, h7⟩)
            · exact h6
          refine ⟨_, hu, n1, xs, g1, at', h', rfl, hQ, ⟨⟨b1, b2⟩, b3, b4⟩, hSk, ⟨ownsRow_up a1 fun b hb => ?_, a2, a3⟩, hbnd, hbel, hfr⟩
          exact (hbnd b (by
            rcases a3 with ⟨h3, h4⟩ | ⟨h3, h4⟩
            · rw [h3] at hb; cases hb
            · rw [h4]; rw [h3] at hb; cases hb; simp)).1
      · cases hs
        refine ⟨_, hu, n1, [], ⟨.slice none 0 0, 0, [], []⟩, at', h', rfl, hQ, ⟨⟨b1, b2⟩, b3, b4⟩, hSk, ⟨⟨rfl, .inl ⟨rfl, rfl⟩⟩, by simp, .inl ⟨rfl, rfl⟩⟩, fun b hb => by simp at hb, hbel, hfr⟩
  refine wp_mono (h K vC base w w _ _ hrel (Below.refl _ _)) ?_
  intro ev a w' hq
  cases ev with
  | normal =>
    obtain ⟨env, os1, gs1, hr, hd, hbel, hx⟩ := hq
    obtain ⟨u, hu, hw⟩ := fin hr hbel hx
    exact ⟨hd, u, hu, hw⟩
  | exit j => obtain ⟨_, _, _, _, _, _, hx⟩ := hq; exact hx.elim
  | ret =>
    obtain ⟨env, os1, gs1, hr, hd, hbel, hx⟩ := hq
    obtain ⟨u, hu, hw⟩ := fin hr hbel hx
    exact ⟨hd, u, hu, hw⟩
  | goto l => exact (hq : False).elim
  | panic ch => exact (hq : False).elim
  | outgrown => exact (hq : False).elim
theorem AFnD.start {P : Program} {f : FuncId} {fn : Func} {nt : Nat} {T e : TypeId} {bs : List Int} {Q : Int → List Int → Prop} (hf : P.funcs[f]? = some fn) (hnt : fn.ntmps = nt) {c : Code} (hb : fn.body = some c) (hnm : (fn.name == "runtime.NumGoroutine") = false)
    (h : ∀ K vC, AWp P c (DEnd P fn T e bs vC K Q) (fun _ _ _ => False) (DEnd P fn T e bs vC K Q) (Env.start [.optr 1 0] (nt - 1)) [.keep 2 K, skO T bs (.ro (roB vC bs))]) :
    AFnD P f T e bs Q := AFnD.of hf hb hnm (by rw [hnt]) h
end Go.Proofs.Ytkojhaoflgdjmaa
/-
  Functions that draw a list, called; functions that pick from a list. No condition.
-/
namespace Go.Proofs.Ytkojhaoflgdjmaa
open Go Go.RowKit
set_option linter.unusedSimpArgs false

section
variable {P : Program} {env : Env} {os : List AO} {d : Option Tmp} {ty : TypeId} {pos : String} {af : Array Edge} {g : Option (Nat × Bool)}
theorem RO.sli_down {w : World} {b0 b1 : Nat} {ok ok' : Nat → Prop} {gs gs' : List Gh} {g1 : Gh} {e : TypeId} {xs : List Int} (h : RO b1 w ok gs g1 (.sli e xs)) (hb : b0 ≤ b1) : RO b0 w ok' gs' g1 (.sli e xs) := by
  obtain ⟨a1, a2, a3⟩ := h
  refine ⟨⟨a1.1, ?_⟩, a2, a3⟩
  rcases a1.2 with h2 | ⟨b, cap, cur, e1, r⟩
  · exact .inl h2
  · exact .inr ⟨b, cap, cur, e1, Nat.le_trans hb r.1, r.2⟩
theorem c_callsod {f : FuncId} {T e : TypeId} {bs : List Int} {Q : Int → List Int → Prop} {h0 : Nat} {a0 : AV} (hc : AFnD P f T e bs Q) {x : Operand} {ats : Array TypeId} (hx : AV.ev env x = .optr h0 0)
    (o0 : os[h0]? = some (skO T bs a0)) (ra : RdB a0 bs) :
    COp P ⟨d, .call { callee := .value (.func f), args := #[x], argTypes := ats }, ty, pos, af, g⟩ env os (fun r e' o => ∃ n xs, r = .agg [.val (.int .i64 n), .own os.length] ∧ e' = env ∧ Q n xs ∧ o = os ++ [.sli e xs]) := by
  intro base w gs tm hr
  obtain ⟨g0, z0, at_, hh, q0, hWk, hI, hW, t0, okb⟩ := sk_at hr o0 ra
  have hxv := hr.ev x
  rw [hx] at hxv
  have ex : Act.eval ⟨tm, []⟩ x = g0.v := by
    generalize Act.eval ⟨tm, []⟩ x = v at hxv
    cases hxv with
    | optr hh => rw [q0] at hh; cases hh; exact hWk.v.symm
  refine ⟨f, _, run_call hc.1 [x] ats _ rfl w, ?_⟩
  have eargs : ([x].map (Act.eval ⟨tm, []⟩)).toArray = #[g0.v] := by simp [ex]
  rw [eargs]
  refine (hc.2 base w g0 z0 at_ hh hr.hb hWk hI hW).mono ?_
  rintro ev w' ⟨n, xs, g1, at', h', rfl, hQ, hI', hWk', hro, hbnd, hbel, hfr⟩
  have hlt : g0.b < w.heap.size := (Array.getElem?_eq_some_iff.1 hWk.cell).1
  obtain ⟨obj, hobj⟩ : ∃ o, w'.heap[g0.b]? = some o := ⟨_, hWk'.cell⟩
  -- a world in between: the source alone has changed
  let w1 : World := { w with heap := w.heap.setIfInBounds g0.b obj }
  have hs1 : w1.heap.size = w.heap.size := by simp [w1]
  have hg1 : ∀ b, w1.heap[b]? = if b = g0.b then some obj else w.heap[b]? := fun b => by
    show (w.heap.setIfInBounds g0.b obj)[b]? = _
    rw [Array.getElem?_setIfInBounds]
    by_cases e : g0.b = b
    · subst e; rw [if_pos rfl, if_pos hlt, if_pos rfl]
    · rw [if_neg e, if_neg fun h => e h.symm]
  have hSk1 : Sk T base w1 g0 z0 at' h' := ⟨by rw [hg1, if_pos rfl, ← hobj]; exact hWk'.cell, hWk'.one, hWk'.hb, hWk'.bl, hWk'.v⟩
  have hrel1 : Rel base w1 gs env os tm := sk_back hr o0 q0 t0 hI' hSk1 (by rw [hs1]; exact Nat.le_refl _) fun b hb hn => by
    rw [hg1, if_neg]
    intro e; subst e
    exact hn (by rw [hWk.bl]; simp)
  have hbel1 : Below w1.heap.size w1 w' := by
    refine ⟨hbel.os, hbel.tape, hbel.output, by rw [hs1]; exact hbel.size, fun b hb => ?_⟩
    rw [hs1] at hb
    rw [hg1]
    by_cases e : b = g0.b
    · subst e; rw [if_pos rfl, hobj]
    · rw [if_neg e]
      exact hfr b hb (by rw [hWk.bl]; simpa using e)
  have hno : AO.sli e xs ≠ .dead → ∀ b, b ∈ g1.bl → w1.heap.size ≤ b ∧ b < w'.heap.size := fun _ b hb => by rw [hs1]; exact hbnd b hb
  refine ⟨_, .agg [.val (.int .i64 n), .own os.length], env, _, gs ++ [g1], rfl, ⟨n, xs, rfl, rfl, hQ, rfl⟩, hrel1.new hbel1 (.sli e xs) g1 hno (hro.sli_down hr.hb), ?_, hbel⟩
  refine RV.agg (vs := [.int .i64 n, g1.v]) rfl ?_ ?_
  · intro v hv
    simp only [List.mem_cons, List.not_mem_nil, or_false] at hv
    rcases hv with rfl | rfl
    · rfl
    · obtain ⟨u, c, e1⟩ := ownsRow_slice hro.1
      rw [e1]; rfl
  · intro i
    match i with
    | 0 => exact .val _
    | 1 =>
      rw [← hr.hl]
      exact .own len_new
    | i + 2 => exact .any _
end
section
variable {P : Program} {env : Env} {os : List AO} {d : Tmp} {ty : TypeId} {pos : String} {af : Array Edge} {l rest : List Oper} {K : APost}
theorem w_callsod {f : FuncId} {T e : TypeId} {bs : List Int} {Q : Int → List Int → Prop} {h0 m : Nat} {a0 : AV} {x : Operand} {ats : Array TypeId} (hc : AFnD P f T e bs Q) (hx : evo env x = some (.optr h0 0))
    (o0 : os[h0]? = some (skO T bs a0)) (ra : RdB a0 bs) (hm : os.length = m)
    (h' : ∀ n xs, Q n xs → AOps P .seq l rest K (env.up d (.agg [.val (.int .i64 n), .own m])) (os ++ [.sli e xs])) :
    AOps P .seq l (⟨some d, .call { callee := .value (.func f), args := #[x], argTypes := ats }, ty, pos, af, none⟩ :: rest) K env os := by
  subst hm
  exact AOps.ca (c_callsod hc (ev_of hx) o0 ra) fun r e' o ⟨n, xs, e1, e2, h3, e5⟩ => by subst e1; subst e2; subst e5; exact h' n xs h3
end

/-! ### Functions that are handed a list -/
def AFnL (P : Program) (f : FuncId) (T : TypeId) (bs : List Int) (L : List Int) (Q : Value → Prop) : Prop :=
  HasBody P f ∧ ∀ base w g0 vC vL at_ h, base ≤ w.heap.size → Sk T base w g0 vC at_ h → SOk bs at_ h → BysAt w (fun b => b ∉ g0.bl) vC bs → IntsAt w (fun b => b ∉ g0.bl) vL L →
    Calls P f #[g0.v, vL] w fun ev w' => ∃ rv at' h', ev = .returned rv ∧ Q rv ∧ SOk bs at' h' ∧ Sk T base w' g0 vC at' h' ∧ Below base w w' ∧ ∀ b, b < w.heap.size → b ∉ g0.bl → w'.heap[b]? = w.heap[b]?
theorem AFnL.mono {P : Program} {f : FuncId} {T : TypeId} {bs L : List Int} {Q Q' : Value → Prop} (h : AFnL P f T bs L Q) (hq : ∀ v, Q v → Q' v) : AFnL P f T bs L Q' :=
  ⟨h.1, fun base w g0 vC vL at_ hh a b c d e => (h.2 base w g0 vC vL at_ hh a b c d e).mono fun _ _ ⟨rv, at', h', k1, k2, k3⟩ => ⟨rv, at', h', k1, hq _ k2, k3⟩⟩
def LEnd (P : Program) (fn : Func) (T : TypeId) (bs : List Int) (vC : Value) (K : Kp) (Q : Value → Prop) (env : Env) (os : List AO) : Prop :=
  ∃ rv, ResIs P fn env os (.val rv) ∧ Q rv ∧ ∃ tl, os = .keep 2 K :: skO T bs (.ro (roB vC bs)) :: tl
set_option maxHeartbeats 2000000 in
theorem AFnL.of {P : Program} {f : FuncId} {fn : Func} {c : Code} {T : TypeId} {bs L : List Int} {Q : Value → Prop} {n : Nat} (hf : P.funcs[f]? = some fn) (hb : fn.body = some c) (hnm : (fn.name == "runtime.NumGoroutine") = false)
    (hn : fn.ntmps - 2 = n)
    (h : ∀ K vC, AWp P c (LEnd P fn T bs vC K Q) (fun _ _ _ => False) (LEnd P fn T bs vC K Q) (Env.start [.optr 1 0, .ints L] n) [.keep 2 K, skO T bs (.ro (roB vC bs))]) :
    AFnL P f T bs L Q := by
  refine ⟨⟨fn, c, hf, hnm, hb⟩, fun base w g0 vC vL at_ hh hbase hC hI hW hL => calls_of_wp hf hb ?_⟩
  rw [show fn.ntmps - (#[g0.v, vL] : Array Value).size = n from hn]
  obtain ⟨c1, c1', c2, c3, c4⟩ := hC
  obtain ⟨⟨i1, i2⟩, i3, i4⟩ := hI
  let bl : List Nat := (List.range w.heap.size).filter fun b => decide (base ≤ b) && !(g0.bl).contains b
  let gk : Gh := ⟨undef, 0, bl, []⟩
  let K : Kp := ⟨fun b => w.heap[b]?, [gk, g0]⟩
  have hlt : g0.b < w.heap.size := (Array.getElem?_eq_some_iff.1 c1).1
  have hbl : ∀ b, b ∈ bl ↔ b < w.heap.size ∧ base ≤ b ∧ b ∉ g0.bl := by
    intro b
    simp only [bl, List.mem_filter, List.mem_range, Bool.and_eq_true, decide_eq_true_eq, Bool.not_eq_true', List.contains_eq_mem, decide_eq_false_iff_not]
  have okk : ∀ b, b ∉ g0.bl → okOf [gk, g0] [.keep 2 K, skO T bs (.ro (roB vC bs))] b := by
    intro b hb i x y hx hy hl
    match i with
    | 0 => cases hy; exact hl.elim
    | 1 => cases hx; exact hb
    | i + 2 => simp at hx
  have kp : Keeps (fun b => b ∉ g0.bl) (okOf [gk, g0] [.keep 2 K, skO T bs (.ro (roB vC bs))]) w w := fun b hb _ => ⟨okk b hb, rfl⟩
  have hrel : Rel base w [gk, g0] (Env.start [.optr 1 0, .ints L] n) [.keep 2 K, skO T bs (.ro (roB vC bs))] (#[g0.v, vL] ++ Array.replicate n undef) := by
    refine ⟨hbase, rfl, by simp [Env.start], fun i => ?_, ?_, ?_, ?_⟩
    · refine start_rv [.optr 1 0, .ints L] n #[g0.v, vL] (fun i => ?_) i
      match i with
      | 0 =>
        show RV w _ _ g0.v (.optr 1 0)
        rw [c4]
        exact .optr (g := g0) rfl
      | 1 => exact .ints (hL.mono kp)
      | i + 2 => exact .any _
    · intro i x y hx hy
      match i with
      | 0 =>
        cases hx; cases hy
        exact ⟨fun b _ => rfl, rfl, fun i x h => h⟩
      | 1 =>
        cases hx; cases hy
        refine ⟨[vC, .int .i64 at_, .int .u64 hh], c1, c2, c3, c4, rfl, ?_, fun j => ?_⟩
        · intro z hz
          simp only [List.mem_cons, List.not_mem_nil, or_false] at hz
          rcases hz with rfl | rfl | rfl
          · exact c1'
          · rfl
          · rfl
        · match j with
          | 0 => exact .ro ⟨rfl, hW.mono kp⟩
          | 1 => exact .ro ⟨at_, rfl, i1, i2⟩
          | 2 => exact .ro ⟨hh, rfl, i3, i4⟩
          | j + 3 => exact .any _
      | i + 2 => simp at hx
    · intro i j a b o1 o2 hij ha1 hb1 ho1 ho2 _ _ c hc1 hc2
      match i, j with
      | 0, 0 => omega
      | 0, 1 =>
        cases ha1; cases hb1
        exact ((hbl c).1 hc1).2.2 hc2
      | 1, 0 =>
        cases ha1; cases hb1
        exact ((hbl c).1 hc2).2.2 hc1
      | 1, 1 => omega
      | i + 2, _ => simp at ha1
      | 0, j + 2 => simp at hb1
      | 1, j + 2 => simp at hb1
    · intro i x y hx hy _ b hb
      match i with
      | 0 => cases hx; exact ⟨((hbl b).1 hb).2.1, ((hbl b).1 hb).1⟩
      | 1 =>
        cases hx
        rw [c3] at hb
        simp only [List.mem_cons, List.not_mem_nil, or_false] at hb
        subst hb; exact ⟨c2, hlt⟩
      | i + 2 => simp at hx
  have fin : ∀ {env : Env} {os1 : List AO} {gs2 : List Gh} {a : Act} {w' : World}, Rel base w' gs2 env os1 a.tmps → Below base w w' → LEnd P fn T bs vC K Q env os1 →
      ∃ u, (results fn a.tmps).run P w' = .ok u w' ∧ (∃ rv at' h', Ending.returned u = .returned rv ∧ Q rv ∧ SOk bs at' h' ∧ Sk T base w' g0 vC at' h' ∧ Below base w w' ∧ ∀ b, b < w.heap.size → b ∉ g0.bl → w'.heap[b]? = w.heap[b]?) := by
    rintro env os1 gs2 a w' hr hbel ⟨rv, hres, hQ, tl, rfl⟩
    obtain ⟨u, hu, hv⟩ := hres _ _ _ _ hr
    cases hv
    have hgl := hr.hl
    obtain ⟨x0, hx0⟩ : ∃ x, gs2[0]? = some x := ⟨_, List.getElem?_eq_getElem (by rw [hgl]; simp)⟩
    obtain ⟨r1, r2, r3⟩ := hr.ho 0 _ _ hx0 rfl
    have p0 := r3 0 gk rfl
    have p1 := r3 1 g0 rfl
    have e0 : x0 = gk := by rw [hx0] at p0; exact Option.some.inj p0
    subst e0
    have o1 := hr.ho 1 _ _ p1 rfl
    obtain ⟨cs, d1, d2, d3, d4, d5, d6, d7⟩ := o1
    match cs, d5 with
    | [z0, z1, z2], _ =>
      have q0 := d7 0
      have q1 : RV w' _ gs2 z1 (.ro (atR bs.length)) := d7 1
      have q2 : RV w' _ gs2 z2 (.ro hR) := d7 2
      have w0 : z0 = vC := by cases q0 with | ro h => exact h.1
      obtain ⟨at', e1, b1, b2⟩ : ∃ a : Int, z1 = .int .i64 a ∧ 0 ≤ a ∧ a ≤ bs.length := by cases q1 with | ro h => exact h
      obtain ⟨h', e2, b3, b4⟩ : ∃ a : Int, z2 = .int .u64 a ∧ 0 ≤ a ∧ a < 18446744073709551616 := by cases q2 with | ro h => exact h
      subst w0 e1 e2
      refine ⟨_, hu, _, at', h', rfl, hQ, ⟨⟨b1, b2⟩, b3, b4⟩, ⟨d1, c1', c2, c3, c4⟩, hbel, fun b hb hok => ?_⟩
      rcases Nat.lt_or_ge b base with h6 | h6
      · exact hbel.block b h6
      · exact r1 b ((hbl b).2 ⟨hb, h6, hok⟩)
  refine wp_mono (h K vC base w w _ _ hrel (Below.refl _ _)) ?_
  intro ev a w' hq
  cases ev with
  | normal =>
    obtain ⟨env, os1, gs1, hr, hd, hbel, hx⟩ := hq
    obtain ⟨u, hu, hw⟩ := fin hr hbel hx
    exact ⟨hd, u, hu, hw⟩
  | exit j => obtain ⟨_, _, _, _, _, _, hx⟩ := hq; exact hx.elim
  | ret =>
    obtain ⟨env, os1, gs1, hr, hd, hbel, hx⟩ := hq
    obtain ⟨u, hu, hw⟩ := fin hr hbel hx
    exact ⟨hd, u, hu, hw⟩
  | goto l => exact (hq : False).elim
  | panic ch => exact (hq : False).elim
  | outgrown => exact (hq : False).elim
theorem AFnL.start {P : Program} {f : FuncId} {fn : Func} {nt : Nat} {T : TypeId} {bs L : List Int} {Q : Value → Prop} (hf : P.funcs[f]? = some fn) (hnt : fn.ntmps = nt) {c : Code} (hb : fn.body = some c) (hnm : (fn.name == "runtime.NumGoroutine") = false)
    (h : ∀ K vC, AWp P c (LEnd P fn T bs vC K Q) (fun _ _ _ => False) (LEnd P fn T bs vC K Q) (Env.start [.optr 1 0, .ints L] (nt - 2)) [.keep 2 K, skO T bs (.ro (roB vC bs))]) :
    AFnL P f T bs L Q := AFnL.of hf hb hnm (by rw [hnt]) h
section
variable {P : Program} {env : Env} {os : List AO} {d : Option Tmp} {ty : TypeId} {pos : String} {af : Array Edge} {g : Option (Nat × Bool)}
theorem c_callsol {f : FuncId} {T e : TypeId} {bs L : List Int} {Q : Value → Prop} {h0 k : Nat} {a0 : AV} (hc : AFnL P f T bs L Q) {x y : Operand} {ats : Array TypeId} (hx : AV.ev env x = .optr h0 0) (hy : AV.ev env y = .own k)
    (o0 : os[h0]? = some (skO T bs a0)) (ok : os[k]? = some (.sli e L)) (ra : RdB a0 bs) (hne : (h0 == k) = false) :
    COp P ⟨d, .call { callee := .value (.func f), args := #[x, y], argTypes := ats }, ty, pos, af, g⟩ env os (fun r e' o => ∃ rv, r = .val rv ∧ e' = env ∧ Q rv ∧ o = os) := by
  have hne : h0 ≠ k := by simpa using hne
  intro base w gs tm hr
  obtain ⟨g0, z0, at_, hh, q0, hWk, hI, hW, t0, okb⟩ := sk_at hr o0 ra
  have hxv := hr.ev x
  rw [hx] at hxv
  have ex : Act.eval ⟨tm, []⟩ x = g0.v := by
    generalize Act.eval ⟨tm, []⟩ x = v at hxv
    cases hxv with
    | optr hh => rw [q0] at hh; cases hh; exact hWk.v.symm
  have hyv := hr.ev y
  rw [hy] at hyv
  have hL : IntsAt w (fun b => b ∉ g0.bl) (Act.eval ⟨tm, []⟩ y) L := reads_row (os := os) (fun h g o hg ho => hr.ho h g o hg ho) ok (fun g1 o1 hg1 ho1 hnd b hb hm => by
    rw [ok] at ho1; cases ho1
    exact hr.hd h0 k g0 g1 _ _ hne q0 hg1 o0 ok (by simp) (by simp) b hm hb) hyv
  refine ⟨f, _, run_call hc.1 [x, y] ats _ rfl w, ?_⟩
  have eargs : ([x, y].map (Act.eval ⟨tm, []⟩)).toArray = #[g0.v, Act.eval ⟨tm, []⟩ y] := by simp [ex]
  rw [eargs]
  refine (hc.2 base w g0 z0 _ at_ hh hr.hb hWk hI hW hL).mono ?_
  rintro ev w' ⟨rv, at', h', rfl, hQ, hI', hWk', hbel, hfr⟩
  exact ⟨rv, .val rv, env, _, gs, rfl, ⟨rv, rfl, rfl, hQ, rfl⟩, sk_back hr o0 q0 t0 hI' hWk' hbel.size hfr, .val rv, hbel⟩
end
section
variable {P : Program} {env : Env} {os : List AO} {d : Tmp} {ty : TypeId} {pos : String} {af : Array Edge} {l rest : List Oper} {K : APost}
theorem w_callsol {f : FuncId} {T e : TypeId} {bs L : List Int} {Q : Value → Prop} {h0 k : Nat} {a0 : AV} {x y : Operand} {ats : Array TypeId} (hc : AFnL P f T bs L Q) (hx : evo env x = some (.optr h0 0)) (hy : evo env y = some (.own k))
    (o0 : os[h0]? = some (skO T bs a0)) (ok : os[k]? = some (.sli e L)) (ra : RdB a0 bs) (hne : (h0 == k) = false)
    (h' : ∀ rv, Q rv → AOps P .seq l rest K (env.up d (.val rv)) os) :
    AOps P .seq l (⟨some d, .call { callee := .value (.func f), args := #[x, y], argTypes := ats }, ty, pos, af, none⟩ :: rest) K env os :=
  AOps.ca (c_callsol hc (ev_of hx) (ev_of hy) o0 ok ra hne) fun r e' o ⟨rv, e1, e2, h3, e5⟩ => by subst e1; subst e2; subst e5; exact h' rv h3
end
/-! ### Literal lists of five, six and seven numbers -/
theorem ar5 : Array.range 5 = #[0, 1, 2, 3, 4] := by apply Array.ext'; simp [List.range_succ]
theorem ar6 : Array.range 6 = #[0, 1, 2, 3, 4, 5] := by apply Array.ext'; simp [List.range_succ]
theorem ar7 : Array.range 7 = #[0, 1, 2, 3, 4, 5, 6] := by apply Array.ext'; simp [List.range_succ]
section
variable {P : Program} {env : Env} {os : List AO} {d : Tmp} {ty : TypeId} {pos : String} {af : Array Edge} {l rest : List Oper} {K : APost}
theorem w_bs5 {t e : TypeId} {bytes : Nat} [ht : TSlice P t e] [he : TElem P e (.int .i64 0) bytes] {x0 x1 x2 x3 x4 : Operand} {a0 a1 a2 a3 a4 : Int} {m : Nat} (h0 : evo env x0 = some (.i a0)) (h1 : evo env x1 = some (.i a1)) (h2 : evo env x2 = some (.i a2)) (h3 : evo env x3 = some (.i a3)) (h4 : evo env x4 = some (.i a4)) (hm : os.length = m)
    (i0 : inI a0) (i1 : inI a1) (i2 : inI a2) (i3 : inI a3) (i4 : inI a4) (h' : AOps P .seq l rest K (env.up d (.own m)) (os ++ [.sli e [a0, a1, a2, a3, a4]])) : AOps P .seq l (⟨some d, .buildSlice t 5 #[(0, x0), (1, x1), (2, x2), (3, x3), (4, x4)], ty, pos, af, none⟩ :: rest) K env os :=
  AOps.lo (hm ▸ (show LOp P ⟨some d, .buildSlice t 5 #[(0, x0), (1, x1), (2, x2), (3, x3), (4, x4)], ty, pos, af, none⟩ env os (.own os.length) env (os ++ [.sli e [a0, a1, a2, a3, a4]]) from by
    refine l_laid (zs := [a0, a1, a2, a3, a4]) (by simp; exact ⟨i0, i1, i2, i3, i4⟩) (by simp [maxLen]) fun base w gs tm hr => ?_
    obtain ⟨ii, hi, hs, hz, hby⟩ := he.info
    simp [execOp, Instr.buildSlice, run_underlying ht.und, sizeOf, typeInfo, zeroValue, hi, hs, hz, Instr.fill, newRow, hr.evv (ev_of h0), hr.evv (ev_of h1), hr.evv (ev_of h2), hr.evv (ev_of h3), hr.evv (ev_of h4), Value.cells, ar5])) h'
theorem w_bs6 {t e : TypeId} {bytes : Nat} [ht : TSlice P t e] [he : TElem P e (.int .i64 0) bytes] {x0 x1 x2 x3 x4 x5 : Operand} {a0 a1 a2 a3 a4 a5 : Int} {m : Nat} (h0 : evo env x0 = some (.i a0)) (h1 : evo env x1 = some (.i a1)) (h2 : evo env x2 = some (.i a2)) (h3 : evo env x3 = some (.i a3)) (h4 : evo env x4 = some (.i a4)) (h5 : evo env x5 = some (.i a5)) (hm : os.length = m)
    (i0 : inI a0) (i1 : inI a1) (i2 : inI a2) (i3 : inI a3) (i4 : inI a4) (i5 : inI a5) (h' : AOps P .seq l rest K (env.up d (.own m)) (os ++ [.sli e [a0, a1, a2, a3, a4, a5]])) : AOps P .seq l (⟨some d, .buildSlice t 6 #[(0, x0), (1, x1), (2, x2), (3, x3), (4, x4), (5, x5)], ty, pos, af, none⟩ :: rest) K env os :=
  AOps.lo (hm ▸ (show LOp P ⟨some d, .buildSlice t 6 #[(0, x0), (1, x1), (2, x2), (3, x3), (4, x4), (5, x5)], ty, pos, af, none⟩ env os (.own os.length) env (os ++ [.sli e [a0, a1, a2, a3, a4, a5]]) from by
    refine l_laid (zs := [a0, a1, a2, a3, a4, a5]) (by simp; exact ⟨i0, i1, i2, i3, i4, i5⟩) (by simp [maxLen]) fun base w gs tm hr => ?_
    obtain ⟨ii, hi, hs, hz, hby⟩ := he.info
    simp [execOp, Instr.buildSlice, run_underlying ht.und, sizeOf, typeInfo, zeroValue, hi, hs, hz, Instr.fill, newRow, hr.evv (ev_of h0), hr.evv (ev_of h1), hr.evv (ev_of h2), hr.evv (ev_of h3), hr.evv (ev_of h4), hr.evv (ev_of h5), Value.cells, ar6])) h'
theorem w_bs7 {t e : TypeId} {bytes : Nat} [ht : TSlice P t e] [he : TElem P e (.int .i64 0) bytes] {x0 x1 x2 x3 x4 x5 x6 : Operand} {a0 a1 a2 a3 a4 a5 a6 : Int} {m : Nat} (h0 : evo env x0 = some (.i a0)) (h1 : evo env x1 = some (.i a1)) (h2 : evo env x2 = some (.i a2)) (h3 : evo env x3 = some (.i a3)) (h4 : evo env x4 = some (.i a4)) (h5 : evo env x5 = some (.i a5)) (h6 : evo env x6 = some (.i a6)) (hm : os.length = m)
    (i0 : inI a0) (i1 : inI a1) (i2 : inI a2) (i3 : inI a3) (i4 : inI a4) (i5 : inI a5) (i6 : inI a6) (h' : AOps P .seq l rest K (env.up d (.own m)) (os ++ [.sli e [a0, a1, a2, a3, a4, a5, a6]])) : AOps P .seq l (⟨some d, .buildSlice t 7 #[(0, x0), (1, x1), (2, x2), (3, x3), (4, x4), (5, x5), (6, x6)], ty, pos, af, none⟩ :: rest) K env os :=
  AOps.lo (hm ▸ (show LOp P ⟨some d, .buildSlice t 7 #[(0, x0), (1, x1), (2, x2), (3, x3), (4, x4), (5, x5), (6, x6)], ty, pos, af, none⟩ env os (.own os.length) env (os ++ [.sli e [a0, a1, a2, a3, a4, a5, a6]]) from by
    refine l_laid (zs := [a0, a1, a2, a3, a4, a5, a6]) (by simp; exact ⟨i0, i1, i2, i3, i4, i5, i6⟩) (by simp [maxLen]) fun base w gs tm hr => ?_
    obtain ⟨ii, hi, hs, hz, hby⟩ := he.info
    simp [execOp, Instr.buildSlice, run_underlying ht.und, sizeOf, typeInfo, zeroValue, hi, hs, hz, Instr.fill, newRow, hr.evv (ev_of h0), hr.evv (ev_of h1), hr.evv (ev_of h2), hr.evv (ev_of h3), hr.evv (ev_of h4), hr.evv (ev_of h5), hr.evv (ev_of h6), Value.cells, ar7])) h'
end
end Go.Proofs.Ytkojhaoflgdjmaa
/-
  Draws of parametrisations. Condition: not too many bytes.
-/
namespace Go.Proofs.Ytkojhaoflgdjmaa
open Go Go.RowKit
attribute [local irreducible] AWp AOps ResIs Ret1 QOp LOp COp AFnV AFn Imms LeE LeO
set_option maxHeartbeats 1000000
set_option linter.unusedSimpArgs false
set_option linter.unusedVariables false

/-- One of some numbers. -/
def Pk (L : List Int) (rv : Value) : Prop := ∃ x : Int, rv = .int .i64 x ∧ x ∈ L
set_option maxHeartbeats 4000000 in
theorem l01Pick_c (bs : List Int) (hl : bs.length ≤ 1048576) (hbs : ∀ i, 0 ≤ geti bs i ∧ geti bs i ≤ 255) (L : List Int) (hL : 1 ≤ L.length ∧ L.length ≤ 100) :
    AFnL Try.prog 40 73 bs L (Pk L) := by
  have hn := l01Next_c bs hl hbs L.length (by omega)
  (refine AFnL.start Try.func40 Try.ntmps40 rfl (by kernel_rfl) fun K vC => ?_; simp only [Env.start, enumF, List.map_cons, List.map_nil, List.length_cons, List.length_nil, Nat.reduceAdd, Nat.reduceSub, Nat.zero_add, List.cons_append, List.nil_append])
  repeat' (first
  | (apply AOps.nil; try simp only [List.nil_append, List.cons_append, List.set_cons_zero, List.set_cons_succ, List.length_cons, List.length_nil, Nat.reduceAdd, AV.sh, AV.sh1, AV.sh0, AO.sh, List.map_cons, List.map_nil, Nat.zero_add, Nat.add_zero, setAll])
  | ((apply AOps.splitP; exact rfl; exact rfl) <;> intro h)
  | ((apply AOps.splitN; exact rfl; exact rfl) <;> intro h)
  | (apply w_move; exact rfl; exact rfl)
  | (apply w_assign; exact rfl; exact rfl)
  | apply AWp.seq
  | apply AWp.region
  | ((apply AWp.condP; exact rfl) <;> intro h)
  | ((apply AWp.condN; exact rfl) <;> intro h)
  | (apply AWp.condT; exact rfl)
  | (apply AWp.condF; exact rfl)
  | ((apply AWp.condB; exact rfl) <;> intro h)
  | apply AWp.block
  | apply AWp.ret
  | apply AWp.exit
  | apply AWp.skip
  | (apply if_pos'; exact rfl)
  | (apply if_neg'; decide)
  | (apply w_skip; exact rfl)
  | (apply w_pickT; exact rfl; exact rfl; exact rfl)
  | (apply w_pickF; exact rfl; exact rfl; exact rfl)
  | (apply w_len; exact rfl; exact rfl; first | exact .ints _ | exact .intss _ | exact .sli rfl | exact .sls rfl | exact .slr rfl | exact .orow rfl | exact .nil)
  | ((first | apply w_nilck | apply w_convu | apply w_convi | apply w_not | apply w_neg | apply w_conv | apply w_build0 | apply w_bs1 | apply w_boxa); iterate 2 exact rfl)
  | (apply w_lenby; exact rfl; exact rfl; (first | exact rdB_by _ | exact rdB_ro _ _))
  | (apply w_idxby; exact rfl; exact rfl; (first | exact rdB_by _ | exact rdB_ro _ _); exact rfl)
  | (apply w_ldby; exact rfl; exact rfl; (focus exact rfl))
  | (apply w_umul; exact rfl; exact rfl; exact rfl; intro cU hU)
  | (apply w_uadd; exact rfl; exact rfl; exact rfl; intro cU hU)
  | (apply w_ushr; exact rfl; exact rfl; exact rfl; (focus (first | assumption | omega)); intro cU hU)
  | (apply w_uand; exact rfl; exact rfl; exact rfl; (focus (first | assumption | omega)); intro cU hU)
  | (apply w_convbi; exact rfl; exact rfl; exact hbs _)
  | (apply w_convbu; exact rfl; exact rfl; exact hbs _)
  | (apply w_build23; exact rfl; exact rfl; exact rfl; exact rfl; (first | exact one_by | exact one_rb); exact one_val rfl rfl)
  | (apply w_callso (hn); exact rfl; exact rfl; exact rfl; exact rfl; (first | exact rdB_by _ | exact rdB_ro _ _); (rintro _ ⟨x, rfl, hx⟩))
  | omega
  | ((first | apply w_lss | apply w_leq | apply w_gtr | apply w_geq | apply w_eql | apply w_neq | apply w_add | apply w_sub | apply w_mul | apply w_idx | apply w_ld | apply w_fld | apply w_fa | apply w_extv | apply w_min | apply w_max | apply w_slhi | apply w_sllo | apply w_bs2); iterate 3 exact rfl)
  | ((first | apply w_eqlb | apply w_neqb | apply w_idxs | apply w_lds | apply w_ext); iterate 3 exact rfl)
  | (apply w_rem; exact rfl; exact rfl; exact rfl; (focus (omega; done)); (focus (omega; done)))
  | (apply w_quo; exact rfl; exact rfl; exact rfl; (focus (omega; done)); (focus (omega; done)))
  | (apply w_remT; exact rfl; exact rfl; exact rfl)
  | (apply w_quoT; exact rfl; exact rfl; exact rfl)
  | (apply w_idxo; exact rfl; exact rfl; (first | exact .sli rfl | exact .sls rfl | exact .slr rfl); exact rfl)
  | ((first | apply w_idxr | apply w_ldr); iterate 4 exact rfl)
  | (apply w_ldo; iterate 4 exact rfl)
  | (apply w_ldls; iterate 4 exact rfl)
  | (apply w_ldrp; iterate 4 exact rfl)
  | (apply w_ldb; iterate 5 exact rfl)
  | (apply w_ldst; iterate 5 exact rfl)
  | ((first | apply w_sllh | apply w_stbi); iterate 4 exact rfl)
  | ((first | apply w_oslo | apply w_oshi | apply w_stbii); iterate 4 exact rfl)
  | (apply w_build1; exact rfl; exact rfl; (first | exact one_val rfl rfl | exact one_ints | exact one_intss | exact one_own rfl True.intro))
  | (apply w_build2; exact rfl; exact rfl; exact rfl; (first | exact one_val rfl rfl | exact one_ints | exact one_intss | exact one_own rfl True.intro); (first | exact one_val rfl rfl | exact one_ints | exact one_intss | exact one_own rfl True.intro))
  | (apply w_bs0; iterate 1 exact rfl)
  | (apply w_appn; exact rfl; exact rfl; (first | exact .ints _ | exact .sli rfl | exact .orow rfl | exact .nil | exact .osub rfl (by simp; omega)); exact rfl)
  | (apply w_app; exact rfl; exact rfl; exact rfl; exact rfl; (first | exact .ints _ | exact .sli rfl | exact .orow rfl | exact .nil | exact .osub rfl (by simp; omega)); rotate_left 1; simp only [Env.mp, List.map_cons, List.map_nil, List.set_cons_zero, List.set_cons_succ, AV.kill, AV.kill1, AO.kill, AV.noRow, AV.noRow1, AO.via, reduceIte, Nat.reduceEqDiff, Nat.reduceLT, Env.up, Nat.zero_ne_one, Nat.one_ne_zero, Nat.reduceAdd, List.cons_append, List.nil_append]; rotate_left 1)
  | (apply w_alst; iterate 2 exact rfl)
  | (apply w_alone; iterate 3 exact rfl)
  | (apply w_mki; exact rfl; exact rfl; rotate_left 3; exact rfl; rotate_left 1)
  | (apply w_mkr; exact rfl; exact rfl; rotate_left 3; exact rfl; rotate_left 1)
  | (apply w_sti; exact rfl; exact rfl; rotate_left 1; exact rfl; rotate_left 2)
  | (apply w_stst; iterate 5 exact rfl)
  | (apply w_stbv; iterate 6 exact rfl)
  | (apply w_stbo; exact rfl; exact rfl; exact rfl; exact rfl; exact rfl; exact True.intro)
  | ((apply AOps.splitB; exact rfl; exact rfl) <;> intro h)
  | apply AllOf.nil
  | (apply AllOf.cons; exact rfl)
  | (apply AAny.take; exact rfl; exact rfl; kernel_rfl; kernel_rfl)
  | (apply AAny.all; exact rfl)
  | (apply AAny.done; exact rfl)
  | (apply inI_of <;> omega)
  | omega
  | (simp <;> omega))
  have hx2 : x.toNat < L.length := by omega
  have e : geti L x = L[x.toNat] := by simp [geti, List.getD_eq_getElem?_getD, hx2]
  exact ⟨_, .v1 Try.results40 rfl, ⟨_, rfl, by rw [e]; exact List.getElem_mem _⟩, _, rfl⟩
theorem lr_in {n : Int} (h : n ≤ 1000) : inI (((List.replicate n.toNat (0 : Int)).length : Int) - 1) := by rw [List.length_replicate]; unfold inI; omega
def DrP (n : Int) (xs : List Int) : Prop := (1 ≤ n ∧ n ≤ 12) ∧ (n + 2 ≤ xs.length ∧ xs.length ≤ 30) ∧ ∀ x ∈ xs, 0 ≤ x ∧ x ≤ 55440
set_option maxHeartbeats 8000000 in
theorem l16Draw_c (bs : List Int) (hl : bs.length ≤ 1048576) (hbs : ∀ i, 0 ≤ geti bs i ∧ geti bs i ≤ 255) : AFnD Try.prog 61 73 2 bs DrP := by
  have h12 := l01Next_c bs hl hbs 12 (by omega)
  have h14 := l01Next_c bs hl hbs 14 (by omega)
  have h4 := l01Next_c bs hl hbs 4 (by omega)
  have hp7 : ∀ x, AFnL Try.prog 40 73 bs [0, 1, 1, 2, 3, 5, x] (fun rv => ∃ y, rv = .int .i64 y ∧ (y = 0 ∨ y = 1 ∨ y = 2 ∨ y = 3 ∨ y = 5 ∨ y = x)) := fun x =>
    (l01Pick_c bs hl hbs [0, 1, 1, 2, 3, 5, x] ⟨by simp, by simp⟩).mono fun v ⟨y, e, hy⟩ => ⟨y, e, by simp at hy; omega⟩
  have hp5 : ∀ x, AFnL Try.prog 40 73 bs [1, 1, 2, 55440, x] (fun rv => ∃ y, rv = .int .i64 y ∧ (y = 1 ∨ y = 2 ∨ y = 55440 ∨ y = x)) := fun x =>
    (l01Pick_c bs hl hbs [1, 1, 2, 55440, x] ⟨by simp, by simp⟩).mono fun v ⟨y, e, hy⟩ => ⟨y, e, by simp at hy; omega⟩
  have hF := l01Next_c bs hl hbs 55441 (by omega)
  (refine AFnD.start Try.func61 Try.ntmps61 rfl (by kernel_rfl) fun K vC => ?_; simp only [Env.start, enumF, List.map_cons, List.map_nil, List.length_cons, List.length_nil, Nat.reduceAdd, Nat.reduceSub, Nat.zero_add, List.cons_append, List.nil_append])
  repeat' (first
  | (apply AOps.nil; try simp only [List.nil_append, List.cons_append, List.set_cons_zero, List.set_cons_succ, List.length_cons, List.length_nil, Nat.reduceAdd, AV.sh, AV.sh1, AV.sh0, AO.sh, List.map_cons, List.map_nil, Nat.zero_add, Nat.add_zero, setAll])
  | ((apply AOps.splitP; exact rfl; exact rfl) <;> intro h)
  | ((apply AOps.splitN; exact rfl; exact rfl) <;> intro h)
  | (apply w_move; exact rfl; exact rfl)
  | (apply w_assign; exact rfl; exact rfl)
  | apply AWp.seq
  | apply AWp.region
  | ((apply AWp.condP; exact rfl) <;> intro h)
  | ((apply AWp.condN; exact rfl) <;> intro h)
  | (apply AWp.condT; exact rfl)
  | (apply AWp.condF; exact rfl)
  | ((apply AWp.condB; exact rfl) <;> intro h)
  | apply AWp.block
  | apply AWp.ret
  | apply AWp.exit
  | apply AWp.skip
  | (apply if_pos'; exact rfl)
  | (apply if_neg'; decide)
  | (apply w_skip; exact rfl)
  | (apply w_pickT; exact rfl; exact rfl; exact rfl)
  | (apply w_pickF; exact rfl; exact rfl; exact rfl)
  | (apply w_len; exact rfl; exact rfl; first | exact .ints _ | exact .intss _ | exact .sli rfl | exact .sls rfl | exact .slr rfl | exact .orow rfl | exact .nil)
  | (apply w_bs5; iterate 6 exact rfl)
  | (apply w_bs6; iterate 7 exact rfl)
  | (apply w_bs7; iterate 8 exact rfl)
  | ((first | apply w_nilck | apply w_convu | apply w_convi | apply w_not | apply w_neg | apply w_conv | apply w_build0 | apply w_bs1 | apply w_boxa); iterate 2 exact rfl)
  | (apply w_lenby; exact rfl; exact rfl; (first | exact rdB_by _ | exact rdB_ro _ _))
  | (apply w_idxby; exact rfl; exact rfl; (first | exact rdB_by _ | exact rdB_ro _ _); exact rfl)
  | (apply w_ldby; exact rfl; exact rfl; (focus exact rfl))
  | (apply w_umul; exact rfl; exact rfl; exact rfl; intro cU hU)
  | (apply w_uadd; exact rfl; exact rfl; exact rfl; intro cU hU)
  | (apply w_ushr; exact rfl; exact rfl; exact rfl; (focus (first | assumption | omega)); intro cU hU)
  | (apply w_uand; exact rfl; exact rfl; exact rfl; (focus (first | assumption | omega)); intro cU hU)
  | (apply w_convbi; exact rfl; exact rfl; exact hbs _)
  | (apply w_convbu; exact rfl; exact rfl; exact hbs _)
  | (apply w_build23; exact rfl; exact rfl; exact rfl; exact rfl; (first | exact one_by | exact one_rb); exact one_val rfl rfl)
  | (apply w_callso (h12); exact rfl; exact rfl; exact rfl; exact rfl; (first | exact rdB_by _ | exact rdB_ro _ _); (rintro _ ⟨x, rfl, hx⟩))
  | (apply w_callso (h14); exact rfl; exact rfl; exact rfl; exact rfl; (first | exact rdB_by _ | exact rdB_ro _ _); (rintro _ ⟨x, rfl, hx⟩))
  | (apply w_callso (h4); exact rfl; exact rfl; exact rfl; exact rfl; (first | exact rdB_by _ | exact rdB_ro _ _); (rintro _ ⟨x, rfl, hx⟩))
  | (apply w_callsol ((hp7 _)); exact rfl; exact rfl; exact rfl; exact rfl; (first | exact rdB_by _ | exact rdB_ro _ _); exact rfl; (rintro _ ⟨y, rfl, hy⟩))
  | (exact lr_in (by omega))
  | omega
  | ((first | apply w_lss | apply w_leq | apply w_gtr | apply w_geq | apply w_eql | apply w_neq | apply w_add | apply w_sub | apply w_mul | apply w_idx | apply w_ld | apply w_fld | apply w_fa | apply w_extv | apply w_min | apply w_max | apply w_slhi | apply w_sllo | apply w_bs2); iterate 3 exact rfl)
  | ((first | apply w_eqlb | apply w_neqb | apply w_idxs | apply w_lds | apply w_ext); iterate 3 exact rfl)
  | (apply w_rem; exact rfl; exact rfl; exact rfl; (focus (omega; done)); (focus (omega; done)))
  | (apply w_quo; exact rfl; exact rfl; exact rfl; (focus (omega; done)); (focus (omega; done)))
  | (apply w_remT; exact rfl; exact rfl; exact rfl)
  | (apply w_quoT; exact rfl; exact rfl; exact rfl)
  | (apply w_idxo; exact rfl; exact rfl; (first | exact .sli rfl | exact .sls rfl | exact .slr rfl); exact rfl)
  | ((first | apply w_idxr | apply w_ldr); iterate 4 exact rfl)
  | (apply w_ldo; iterate 4 exact rfl)
  | (apply w_ldls; iterate 4 exact rfl)
  | (apply w_ldrp; iterate 4 exact rfl)
  | (apply w_ldb; iterate 5 exact rfl)
  | (apply w_ldst; iterate 5 exact rfl)
  | ((first | apply w_sllh | apply w_stbi); iterate 4 exact rfl)
  | ((first | apply w_oslo | apply w_oshi | apply w_stbii); iterate 4 exact rfl)
  | (apply w_build1; exact rfl; exact rfl; (first | exact one_val rfl rfl | exact one_ints | exact one_intss | exact one_own rfl True.intro))
  | (apply w_build2; exact rfl; exact rfl; exact rfl; (first | exact one_val rfl rfl | exact one_ints | exact one_intss | exact one_own rfl True.intro); (first | exact one_val rfl rfl | exact one_ints | exact one_intss | exact one_own rfl True.intro))
  | (apply w_bs0; iterate 1 exact rfl)
  | (apply w_appn; exact rfl; exact rfl; (first | exact .ints _ | exact .sli rfl | exact .orow rfl | exact .nil | exact .osub rfl (by simp; omega)); exact rfl)
  | (apply w_app; exact rfl; exact rfl; exact rfl; exact rfl; (first | exact .ints _ | exact .sli rfl | exact .orow rfl | exact .nil | exact .osub rfl (by simp; omega)); rotate_left 1; simp only [Env.mp, List.map_cons, List.map_nil, List.set_cons_zero, List.set_cons_succ, AV.kill, AV.kill1, AO.kill, AV.noRow, AV.noRow1, AO.via, reduceIte, Nat.reduceEqDiff, Nat.reduceLT, Env.up, Nat.zero_ne_one, Nat.one_ne_zero, Nat.reduceAdd, List.cons_append, List.nil_append]; rotate_left 1)
  | (apply w_alst; iterate 2 exact rfl)
  | (apply w_alone; iterate 3 exact rfl)
  | (apply w_mki; exact rfl; exact rfl; rotate_left 3; exact rfl; rotate_left 1)
  | (apply w_mkr; exact rfl; exact rfl; rotate_left 3; exact rfl; rotate_left 1)
  | (apply w_sti; exact rfl; exact rfl; rotate_left 1; exact rfl; rotate_left 2)
  | (apply w_stst; iterate 5 exact rfl)
  | (apply w_stbv; iterate 6 exact rfl)
  | (apply w_stbo; exact rfl; exact rfl; exact rfl; exact rfl; exact rfl; exact True.intro)
  | ((apply AOps.splitB; exact rfl; exact rfl) <;> intro h)
  | apply AllOf.nil
  | (apply AllOf.cons; exact rfl)
  | (apply AAny.take; exact rfl; exact rfl; kernel_rfl; kernel_rfl)
  | (apply AAny.all; exact rfl)
  | (apply AAny.done; exact rfl)
  | (apply inI_of <;> omega)
  | omega
  | (simp <;> omega))
  rename_i a ha b hb
  obtain ⟨n, hn⟩ : ∃ n : Int, n = 1 + y := ⟨_, rfl⟩
  have hn2 : 1 ≤ n ∧ n ≤ 12 := by omega
  obtain ⟨ys, hys⟩ : ∃ ys, ys = List.replicate (1 + y + 2 + b).toNat (0 : Int) := ⟨_, rfl⟩
  have hyl : n + 2 ≤ ys.length ∧ ys.length ≤ 30 := by rw [hys, List.length_replicate]; omega
  have hyF : ∀ z ∈ ys, 0 ≤ z ∧ z ≤ 55440 := fun z hz => by
    rw [hys] at hz
    have := List.eq_of_mem_replicate hz
    omega
  obtain ⟨len, hlen⟩ : ∃ len : Int, len = ys.length := ⟨_, rfl⟩
  rw [← hys, ← hn, ← hlen]
  clear hys hn
  obtain ⟨k0, hk0⟩ : ∃ k : Nat, (k : Int) = 1 + x := ⟨(1 + x).toNat, by omega⟩
  rw [← hk0]
  have hk4 : k0 ≤ 4 := by omega
  clear hk0
  have hnA := fun (z : Int) (hz : z ≤ 100) => l01Next_c bs hl hbs z (by omega)
  have hA1 := hnA (len - 1 - n + 1) (by omega)
  have hA2 := hnA (len - 1) (by omega)
  refine AWp.loop (ι := Nat × List Int) (fun s => ⟨58, [(0, .optr 1 0), (2, .optr 2 0), (3, .i n), (4, .optr 5 0), (5, .i (len - 1)), (6, .i s.1)]⟩) (fun s => [.keep 2 K, skO 73 bs (.ro (roB vC bs)), .bx 26 [.val (.int .i64 0), .val (.slice none 0 0)], .sli 2 [0, 1, 1, 2, 3, 5, a], .sli 2 s.2, .bx 26 [.i n, .own 4]]) (fun s => s.1 ≤ 4 ∧ s.2.length = len ∧ ∀ z ∈ s.2, 0 ≤ z ∧ z ≤ 55440) (fun s => s.1) (k0, ys) ⟨hk4, hlen.symm, hyF⟩ ⟨lee rfl (by (repeat (first | exact le_nil | refine le_eq rfl rfl ?_ | refine le_eq rfl (congrArg AV.i (by omega)) ?_))), by (repeat (first | exact lo_nil | refine lo_dead ?_ | refine lo_eq rfl ?_)), rfl, rfl⟩ ?_
  rintro ⟨k, xs⟩ ⟨k1, k2, k3⟩
  simp only at k1 k2 k3
  by_cases hk : 0 < k
  · have hset : ∀ (j : Nat) (v : Int), 0 ≤ v ∧ v ≤ 55440 → ((xs.set j v).length : Int) = len ∧ ∀ z ∈ xs.set j v, 0 ≤ z ∧ z ≤ 55440 := fun j v hv => ⟨by rw [List.length_set]; exact k2, fun z hz => by
      rcases List.mem_or_eq_of_mem_set hz with hz | rfl
      · exact k3 z hz
      · exact hv⟩
    repeat' (first
  | (apply AOps.nil; try simp only [List.nil_append, List.cons_append, List.set_cons_zero, List.set_cons_succ, List.length_cons, List.length_nil, Nat.reduceAdd, AV.sh, AV.sh1, AV.sh0, AO.sh, List.map_cons, List.map_nil, Nat.zero_add, Nat.add_zero, setAll])
  | ((apply AOps.splitP; exact rfl; exact rfl) <;> intro h)
  | ((apply AOps.splitN; exact rfl; exact rfl) <;> intro h)
  | (apply w_move; exact rfl; exact rfl)
  | (apply w_assign; exact rfl; exact rfl)
  | apply AWp.seq
  | apply AWp.region
  | ((apply AWp.condP; exact rfl) <;> intro h)
  | ((apply AWp.condN; exact rfl) <;> intro h)
  | (apply AWp.condT; exact rfl)
  | (apply AWp.condF; exact rfl)
  | ((apply AWp.condB; exact rfl) <;> intro h)
  | apply AWp.block
  | apply AWp.ret
  | apply AWp.exit
  | apply AWp.skip
  | (apply if_pos'; exact rfl)
  | (apply if_neg'; decide)
  | (apply w_skip; exact rfl)
  | (apply w_pickT; exact rfl; exact rfl; exact rfl)
  | (apply w_pickF; exact rfl; exact rfl; exact rfl)
  | (apply w_len; exact rfl; exact rfl; first | exact .ints _ | exact .intss _ | exact .sli rfl | exact .sls rfl | exact .slr rfl | exact .orow rfl | exact .nil)
  | ((first | apply w_nilck | apply w_convu | apply w_convi | apply w_not | apply w_neg | apply w_conv | apply w_build0 | apply w_bs1 | apply w_boxa); iterate 2 exact rfl)
  | (apply w_lenby; exact rfl; exact rfl; (first | exact rdB_by _ | exact rdB_ro _ _))
  | (apply w_idxby; exact rfl; exact rfl; (first | exact rdB_by _ | exact rdB_ro _ _); exact rfl)
  | (apply w_ldby; exact rfl; exact rfl; (focus exact rfl))
  | (apply w_umul; exact rfl; exact rfl; exact rfl; intro cU hU)
  | (apply w_uadd; exact rfl; exact rfl; exact rfl; intro cU hU)
  | (apply w_ushr; exact rfl; exact rfl; exact rfl; (focus (first | assumption | omega)); intro cU hU)
  | (apply w_uand; exact rfl; exact rfl; exact rfl; (focus (first | assumption | omega)); intro cU hU)
  | (apply w_convbi; exact rfl; exact rfl; exact hbs _)
  | (apply w_convbu; exact rfl; exact rfl; exact hbs _)
  | (apply w_build23; exact rfl; exact rfl; exact rfl; exact rfl; (first | exact one_by | exact one_rb); exact one_val rfl rfl)
  | (apply w_callso (h12); exact rfl; exact rfl; exact rfl; exact rfl; (first | exact rdB_by _ | exact rdB_ro _ _); (rintro _ ⟨x, rfl, hx⟩))
  | (apply w_callso (hA1); exact rfl; exact rfl; exact rfl; exact rfl; (first | exact rdB_by _ | exact rdB_ro _ _); (rintro _ ⟨x, rfl, hx⟩))
  | (apply w_callso (hA2); exact rfl; exact rfl; exact rfl; exact rfl; (first | exact rdB_by _ | exact rdB_ro _ _); (rintro _ ⟨x, rfl, hx⟩))
  | omega
  | ((first | apply w_lss | apply w_leq | apply w_gtr | apply w_geq | apply w_eql | apply w_neq | apply w_add | apply w_sub | apply w_mul | apply w_idx | apply w_ld | apply w_fld | apply w_fa | apply w_extv | apply w_min | apply w_max | apply w_slhi | apply w_sllo | apply w_bs2); iterate 3 exact rfl)
  | ((first | apply w_eqlb | apply w_neqb | apply w_idxs | apply w_lds | apply w_ext); iterate 3 exact rfl)
  | (apply w_rem; exact rfl; exact rfl; exact rfl; (focus (omega; done)); (focus (omega; done)))
  | (apply w_quo; exact rfl; exact rfl; exact rfl; (focus (omega; done)); (focus (omega; done)))
  | (apply w_remT; exact rfl; exact rfl; exact rfl)
  | (apply w_quoT; exact rfl; exact rfl; exact rfl)
  | (apply w_idxo; exact rfl; exact rfl; (first | exact .sli rfl | exact .sls rfl | exact .slr rfl); exact rfl)
  | ((first | apply w_idxr | apply w_ldr); iterate 4 exact rfl)
  | (apply w_ldo; iterate 4 exact rfl)
  | (apply w_ldls; iterate 4 exact rfl)
  | (apply w_ldrp; iterate 4 exact rfl)
  | (apply w_ldb; iterate 5 exact rfl)
  | (apply w_ldst; iterate 5 exact rfl)
  | ((first | apply w_sllh | apply w_stbi); iterate 4 exact rfl)
  | ((first | apply w_oslo | apply w_oshi | apply w_stbii); iterate 4 exact rfl)
  | (apply w_build1; exact rfl; exact rfl; (first | exact one_val rfl rfl | exact one_ints | exact one_intss | exact one_own rfl True.intro))
  | (apply w_build2; exact rfl; exact rfl; exact rfl; (first | exact one_val rfl rfl | exact one_ints | exact one_intss | exact one_own rfl True.intro); (first | exact one_val rfl rfl | exact one_ints | exact one_intss | exact one_own rfl True.intro))
  | (apply w_bs0; iterate 1 exact rfl)
  | (apply w_appn; exact rfl; exact rfl; (first | exact .ints _ | exact .sli rfl | exact .orow rfl | exact .nil | exact .osub rfl (by simp; omega)); exact rfl)
  | (apply w_app; exact rfl; exact rfl; exact rfl; exact rfl; (first | exact .ints _ | exact .sli rfl | exact .orow rfl | exact .nil | exact .osub rfl (by simp; omega)); rotate_left 1; simp only [Env.mp, List.map_cons, List.map_nil, List.set_cons_zero, List.set_cons_succ, AV.kill, AV.kill1, AO.kill, AV.noRow, AV.noRow1, AO.via, reduceIte, Nat.reduceEqDiff, Nat.reduceLT, Env.up, Nat.zero_ne_one, Nat.one_ne_zero, Nat.reduceAdd, List.cons_append, List.nil_append]; rotate_left 1)
  | (apply w_alst; iterate 2 exact rfl)
  | (apply w_alone; iterate 3 exact rfl)
  | (apply w_mki; exact rfl; exact rfl; rotate_left 3; exact rfl; rotate_left 1)
  | (apply w_mkr; exact rfl; exact rfl; rotate_left 3; exact rfl; rotate_left 1)
  | (apply w_sti; exact rfl; exact rfl; rotate_left 1; exact rfl; rotate_left 2)
  | (apply w_stst; iterate 5 exact rfl)
  | (apply w_stbv; iterate 6 exact rfl)
  | (apply w_stbo; exact rfl; exact rfl; exact rfl; exact rfl; exact rfl; exact True.intro)
  | ((apply AOps.splitB; exact rfl; exact rfl) <;> intro h)
  | apply AllOf.nil
  | (apply AllOf.cons; exact rfl)
  | (apply AAny.take; exact rfl; exact rfl; kernel_rfl; kernel_rfl)
  | (apply AAny.all; exact rfl)
  | (apply AAny.done; exact rfl)
  | (apply inI_of <;> omega)
  | omega
  | (simp <;> omega))
    all_goals refine AWp.regionAI (ι := List Int) (fun ys => ys.length = len ∧ ∀ z ∈ ys, 0 ≤ z ∧ z ≤ 55440) (fun ys => ⟨58, [(0, .optr 1 0), (2, .optr 2 0), (3, .i n), (4, .optr 5 0), (5, .i (len - 1)), (6, .i k)]⟩) (fun ys => [.keep 2 K, skO 73 bs (.ro (roB vC bs)), .bx 26 [.val (.int .i64 0), .val (.slice none 0 0)], .sli 2 [0, 1, 1, 2, 3, 5, a], .sli 2 ys, .bx 26 [.i n, .own 4]]) (by kernel_rfl) rfl rfl ?_ ?_
    all_goals first
      | (rintro ys ⟨y1, y2⟩
         repeat' (first
  | (apply AOps.nil; try simp only [List.nil_append, List.cons_append, List.set_cons_zero, List.set_cons_succ, List.length_cons, List.length_nil, Nat.reduceAdd, AV.sh, AV.sh1, AV.sh0, AO.sh, List.map_cons, List.map_nil, Nat.zero_add, Nat.add_zero, setAll])
  | ((apply AOps.splitP; exact rfl; exact rfl) <;> intro h)
  | ((apply AOps.splitN; exact rfl; exact rfl) <;> intro h)
  | (apply w_move; exact rfl; exact rfl)
  | (apply w_assign; exact rfl; exact rfl)
  | apply AWp.seq
  | apply AWp.region
  | ((apply AWp.condP; exact rfl) <;> intro h)
  | ((apply AWp.condN; exact rfl) <;> intro h)
  | (apply AWp.condT; exact rfl)
  | (apply AWp.condF; exact rfl)
  | ((apply AWp.condB; exact rfl) <;> intro h)
  | apply AWp.block
  | apply AWp.ret
  | apply AWp.exit
  | apply AWp.skip
  | (apply if_pos'; exact rfl)
  | (apply if_neg'; decide)
  | (apply w_skip; exact rfl)
  | (apply w_pickT; exact rfl; exact rfl; exact rfl)
  | (apply w_pickF; exact rfl; exact rfl; exact rfl)
  | (apply w_len; exact rfl; exact rfl; first | exact .ints _ | exact .intss _ | exact .sli rfl | exact .sls rfl | exact .slr rfl | exact .orow rfl | exact .nil)
  | ((first | apply w_nilck | apply w_convu | apply w_convi | apply w_not | apply w_neg | apply w_conv | apply w_build0 | apply w_bs1 | apply w_boxa); iterate 2 exact rfl)
  | (apply w_lenby; exact rfl; exact rfl; (first | exact rdB_by _ | exact rdB_ro _ _))
  | (apply w_idxby; exact rfl; exact rfl; (first | exact rdB_by _ | exact rdB_ro _ _); exact rfl)
  | (apply w_ldby; exact rfl; exact rfl; (focus exact rfl))
  | (apply w_umul; exact rfl; exact rfl; exact rfl; intro cU hU)
  | (apply w_uadd; exact rfl; exact rfl; exact rfl; intro cU hU)
  | (apply w_ushr; exact rfl; exact rfl; exact rfl; (focus (first | assumption | omega)); intro cU hU)
  | (apply w_uand; exact rfl; exact rfl; exact rfl; (focus (first | assumption | omega)); intro cU hU)
  | (apply w_convbi; exact rfl; exact rfl; exact hbs _)
  | (apply w_convbu; exact rfl; exact rfl; exact hbs _)
  | (apply w_build23; exact rfl; exact rfl; exact rfl; exact rfl; (first | exact one_by | exact one_rb); exact one_val rfl rfl)
  | omega
  | ((first | apply w_lss | apply w_leq | apply w_gtr | apply w_geq | apply w_eql | apply w_neq | apply w_add | apply w_sub | apply w_mul | apply w_idx | apply w_ld | apply w_fld | apply w_fa | apply w_extv | apply w_min | apply w_max | apply w_slhi | apply w_sllo | apply w_bs2); iterate 3 exact rfl)
  | ((first | apply w_eqlb | apply w_neqb | apply w_idxs | apply w_lds | apply w_ext); iterate 3 exact rfl)
  | (apply w_rem; exact rfl; exact rfl; exact rfl; (focus (omega; done)); (focus (omega; done)))
  | (apply w_quo; exact rfl; exact rfl; exact rfl; (focus (omega; done)); (focus (omega; done)))
  | (apply w_remT; exact rfl; exact rfl; exact rfl)
  | (apply w_quoT; exact rfl; exact rfl; exact rfl)
  | (apply w_idxo; exact rfl; exact rfl; (first | exact .sli rfl | exact .sls rfl | exact .slr rfl); exact rfl)
  | ((first | apply w_idxr | apply w_ldr); iterate 4 exact rfl)
  | (apply w_ldo; iterate 4 exact rfl)
  | (apply w_ldls; iterate 4 exact rfl)
  | (apply w_ldrp; iterate 4 exact rfl)
  | (apply w_ldb; iterate 5 exact rfl)
  | (apply w_ldst; iterate 5 exact rfl)
  | ((first | apply w_sllh | apply w_stbi); iterate 4 exact rfl)
  | ((first | apply w_oslo | apply w_oshi | apply w_stbii); iterate 4 exact rfl)
  | (apply w_build1; exact rfl; exact rfl; (first | exact one_val rfl rfl | exact one_ints | exact one_intss | exact one_own rfl True.intro))
  | (apply w_build2; exact rfl; exact rfl; exact rfl; (first | exact one_val rfl rfl | exact one_ints | exact one_intss | exact one_own rfl True.intro); (first | exact one_val rfl rfl | exact one_ints | exact one_intss | exact one_own rfl True.intro))
  | (apply w_bs0; iterate 1 exact rfl)
  | (apply w_appn; exact rfl; exact rfl; (first | exact .ints _ | exact .sli rfl | exact .orow rfl | exact .nil | exact .osub rfl (by simp; omega)); exact rfl)
  | (apply w_app; exact rfl; exact rfl; exact rfl; exact rfl; (first | exact .ints _ | exact .sli rfl | exact .orow rfl | exact .nil | exact .osub rfl (by simp; omega)); rotate_left 1; simp only [Env.mp, List.map_cons, List.map_nil, List.set_cons_zero, List.set_cons_succ, AV.kill, AV.kill1, AO.kill, AV.noRow, AV.noRow1, AO.via, reduceIte, Nat.reduceEqDiff, Nat.reduceLT, Env.up, Nat.zero_ne_one, Nat.one_ne_zero, Nat.reduceAdd, List.cons_append, List.nil_append]; rotate_left 1)
  | (apply w_alst; iterate 2 exact rfl)
  | (apply w_alone; iterate 3 exact rfl)
  | (apply w_mki; exact rfl; exact rfl; rotate_left 3; exact rfl; rotate_left 1)
  | (apply w_mkr; exact rfl; exact rfl; rotate_left 3; exact rfl; rotate_left 1)
  | (apply w_sti; exact rfl; exact rfl; rotate_left 1; exact rfl; rotate_left 2)
  | (apply w_stst; iterate 5 exact rfl)
  | (apply w_stbv; iterate 6 exact rfl)
  | (apply w_stbo; exact rfl; exact rfl; exact rfl; exact rfl; exact rfl; exact True.intro)
  | ((apply AOps.splitB; exact rfl; exact rfl) <;> intro h)
  | apply AllOf.nil
  | (apply AllOf.cons; exact rfl)
  | (apply AAny.take; exact rfl; exact rfl; kernel_rfl; kernel_rfl)
  | (apply AAny.all; exact rfl)
  | (apply AAny.done; exact rfl)
  | (apply inI_of <;> omega)
  | omega
  | (simp <;> omega))
         exact ⟨(k - 1, ys), ⟨by simp only; omega, y1, y2⟩, by simp only; omega, ⟨lee rfl (by (repeat (first | exact le_nil | refine le_eq rfl rfl ?_ | refine le_eq rfl (congrArg AV.i (by omega)) ?_))), by (repeat (first | exact lo_nil | refine lo_dead ?_ | refine lo_eq rfl ?_)), rfl, rfl⟩⟩)
      | skip
    all_goals repeat' (first
  | (apply AOps.nil; try simp only [List.nil_append, List.cons_append, List.set_cons_zero, List.set_cons_succ, List.length_cons, List.length_nil, Nat.reduceAdd, AV.sh, AV.sh1, AV.sh0, AO.sh, List.map_cons, List.map_nil, Nat.zero_add, Nat.add_zero, setAll])
  | ((apply AOps.splitP; exact rfl; exact rfl) <;> intro h)
  | ((apply AOps.splitN; exact rfl; exact rfl) <;> intro h)
  | (apply w_move; exact rfl; exact rfl)
  | (apply w_assign; exact rfl; exact rfl)
  | apply AWp.seq
  | apply AWp.region
  | ((apply AWp.condP; exact rfl) <;> intro h)
  | ((apply AWp.condN; exact rfl) <;> intro h)
  | (apply AWp.condT; exact rfl)
  | (apply AWp.condF; exact rfl)
  | ((apply AWp.condB; exact rfl) <;> intro h)
  | apply AWp.block
  | apply AWp.ret
  | apply AWp.exit
  | apply AWp.skip
  | (apply AWp.regionQ; kernel_rfl; kernel_rfl)
  | (apply if_pos'; exact rfl)
  | (apply if_neg'; decide)
  | (apply w_skip; exact rfl)
  | (apply w_pickT; exact rfl; exact rfl; exact rfl)
  | (apply w_pickF; exact rfl; exact rfl; exact rfl)
  | (apply w_len; exact rfl; exact rfl; first | exact .ints _ | exact .intss _ | exact .sli rfl | exact .sls rfl | exact .slr rfl | exact .orow rfl | exact .nil)
  | (apply w_bs5; iterate 6 exact rfl)
  | (apply w_bs6; iterate 7 exact rfl)
  | (apply w_bs7; iterate 8 exact rfl)
  | ((first | apply w_nilck | apply w_convu | apply w_convi | apply w_not | apply w_neg | apply w_conv | apply w_build0 | apply w_bs1 | apply w_boxa); iterate 2 exact rfl)
  | (apply w_lenby; exact rfl; exact rfl; (first | exact rdB_by _ | exact rdB_ro _ _))
  | (apply w_idxby; exact rfl; exact rfl; (first | exact rdB_by _ | exact rdB_ro _ _); exact rfl)
  | (apply w_ldby; exact rfl; exact rfl; (focus exact rfl))
  | (apply w_umul; exact rfl; exact rfl; exact rfl; intro cU hU)
  | (apply w_uadd; exact rfl; exact rfl; exact rfl; intro cU hU)
  | (apply w_ushr; exact rfl; exact rfl; exact rfl; (focus (first | assumption | omega)); intro cU hU)
  | (apply w_uand; exact rfl; exact rfl; exact rfl; (focus (first | assumption | omega)); intro cU hU)
  | (apply w_convbi; exact rfl; exact rfl; exact hbs _)
  | (apply w_convbu; exact rfl; exact rfl; exact hbs _)
  | (apply w_build23; exact rfl; exact rfl; exact rfl; exact rfl; (first | exact one_by | exact one_rb); exact one_val rfl rfl)
  | (apply w_callso (hF); exact rfl; exact rfl; exact rfl; exact rfl; (first | exact rdB_by _ | exact rdB_ro _ _); (rintro _ ⟨x, rfl, hx⟩))
  | (apply w_callsol ((hp5 _)); exact rfl; exact rfl; exact rfl; exact rfl; (first | exact rdB_by _ | exact rdB_ro _ _); exact rfl; (rintro _ ⟨y, rfl, hy⟩))
  | omega
  | ((first | apply w_lss | apply w_leq | apply w_gtr | apply w_geq | apply w_eql | apply w_neq | apply w_add | apply w_sub | apply w_mul | apply w_idx | apply w_ld | apply w_fld | apply w_fa | apply w_extv | apply w_min | apply w_max | apply w_slhi | apply w_sllo | apply w_bs2); iterate 3 exact rfl)
  | ((first | apply w_eqlb | apply w_neqb | apply w_idxs | apply w_lds | apply w_ext); iterate 3 exact rfl)
  | (apply w_rem; exact rfl; exact rfl; exact rfl; (focus (omega; done)); (focus (omega; done)))
  | (apply w_quo; exact rfl; exact rfl; exact rfl; (focus (omega; done)); (focus (omega; done)))
  | (apply w_remT; exact rfl; exact rfl; exact rfl)
  | (apply w_quoT; exact rfl; exact rfl; exact rfl)
  | (apply w_idxo; exact rfl; exact rfl; (first | exact .sli rfl | exact .sls rfl | exact .slr rfl); exact rfl)
  | ((first | apply w_idxr | apply w_ldr); iterate 4 exact rfl)
  | (apply w_ldo; iterate 4 exact rfl)
  | (apply w_ldls; iterate 4 exact rfl)
  | (apply w_ldrp; iterate 4 exact rfl)
  | (apply w_ldb; iterate 5 exact rfl)
  | (apply w_ldst; iterate 5 exact rfl)
  | ((first | apply w_sllh | apply w_stbi); iterate 4 exact rfl)
  | ((first | apply w_oslo | apply w_oshi | apply w_stbii); iterate 4 exact rfl)
  | (apply w_build1; exact rfl; exact rfl; (first | exact one_val rfl rfl | exact one_ints | exact one_intss | exact one_own rfl True.intro))
  | (apply w_build2; exact rfl; exact rfl; exact rfl; (first | exact one_val rfl rfl | exact one_ints | exact one_intss | exact one_own rfl True.intro); (first | exact one_val rfl rfl | exact one_ints | exact one_intss | exact one_own rfl True.intro))
  | (apply w_bs0; iterate 1 exact rfl)
  | (apply w_appn; exact rfl; exact rfl; (first | exact .ints _ | exact .sli rfl | exact .orow rfl | exact .nil | exact .osub rfl (by simp; omega)); exact rfl)
  | (apply w_app; exact rfl; exact rfl; exact rfl; exact rfl; (first | exact .ints _ | exact .sli rfl | exact .orow rfl | exact .nil | exact .osub rfl (by simp; omega)); rotate_left 1; simp only [Env.mp, List.map_cons, List.map_nil, List.set_cons_zero, List.set_cons_succ, AV.kill, AV.kill1, AO.kill, AV.noRow, AV.noRow1, AO.via, reduceIte, Nat.reduceEqDiff, Nat.reduceLT, Env.up, Nat.zero_ne_one, Nat.one_ne_zero, Nat.reduceAdd, List.cons_append, List.nil_append]; rotate_left 1)
  | (apply w_alst; iterate 2 exact rfl)
  | (apply w_alone; iterate 3 exact rfl)
  | (apply w_mki; exact rfl; exact rfl; rotate_left 3; exact rfl; rotate_left 1)
  | (apply w_mkr; exact rfl; exact rfl; rotate_left 3; exact rfl; rotate_left 1)
  | (apply w_sti; exact rfl; exact rfl; rotate_left 1; exact rfl; rotate_left 2)
  | (apply w_stst; iterate 5 exact rfl)
  | (apply w_stbv; iterate 6 exact rfl)
  | (apply w_stbo; exact rfl; exact rfl; exact rfl; exact rfl; exact rfl; exact True.intro)
  | ((apply AOps.splitB; exact rfl; exact rfl) <;> intro h)
  | apply AllOf.nil
  | (apply AllOf.cons; exact rfl)
  | (apply AAny.take; exact rfl; exact rfl; kernel_rfl; kernel_rfl)
  | (apply AAny.all; exact rfl)
  | (apply AAny.done; exact rfl)
  | (apply inI_of <;> omega)
  | omega
  | (simp <;> omega))
    all_goals
      apply Exists.intro
      apply And.intro
      rotate_left 1
      · (first | (apply Or.inl; refine ⟨lee rfl ?_, ?_, rfl, rfl⟩; (focus ((repeat (first | exact le_nil | refine le_eq rfl rfl ?_ | (refine le_eq rfl (congrArg AV.i ?_) ?_; (focus (omega; done))))); done)); (focus ((repeat (first | exact lo_nil | refine lo_dead ?_ | refine lo_eq rfl ?_)); done))) | (apply Or.inr; refine ⟨[0, 1, 2, 3, 4, 5], ⟨by decide, fun x hx => Nat.lt_of_lt_of_le ((by decide : ∀ x ∈ ([0, 1, 2, 3, 4, 5] : List Nat), x < 6) x hx) (Nat.le_of_ble_eq_true rfl)⟩, lee rfl ?_, ?_, rfl, rfl⟩; (focus ((repeat (first | exact le_nil | refine le_eq rfl rfl ?_ | (refine le_eq rfl (congrArg AV.i ?_) ?_; (focus (omega; done))))); done)); (focus ((repeat (first | exact lo_nil | refine lo_dead ?_ | refine lo_eq rfl ?_)); done))))
      · exact hset _ _ (by omega)
  · repeat' (first
  | (apply AOps.nil; try simp only [List.nil_append, List.cons_append, List.set_cons_zero, List.set_cons_succ, List.length_cons, List.length_nil, Nat.reduceAdd, AV.sh, AV.sh1, AV.sh0, AO.sh, List.map_cons, List.map_nil, Nat.zero_add, Nat.add_zero, setAll])
  | ((apply AOps.splitP; exact rfl; exact rfl) <;> intro h)
  | ((apply AOps.splitN; exact rfl; exact rfl) <;> intro h)
  | (apply w_move; exact rfl; exact rfl)
  | (apply w_assign; exact rfl; exact rfl)
  | apply AWp.seq
  | apply AWp.region
  | ((apply AWp.condP; exact rfl) <;> intro h)
  | ((apply AWp.condN; exact rfl) <;> intro h)
  | (apply AWp.condT; exact rfl)
  | (apply AWp.condF; exact rfl)
  | ((apply AWp.condB; exact rfl) <;> intro h)
  | apply AWp.block
  | apply AWp.ret
  | apply AWp.exit
  | apply AWp.skip
  | (apply if_pos'; exact rfl)
  | (apply if_neg'; decide)
  | (apply w_skip; exact rfl)
  | (apply w_pickT; exact rfl; exact rfl; exact rfl)
  | (apply w_pickF; exact rfl; exact rfl; exact rfl)
  | (apply w_len; exact rfl; exact rfl; first | exact .ints _ | exact .intss _ | exact .sli rfl | exact .sls rfl | exact .slr rfl | exact .orow rfl | exact .nil)
  | ((first | apply w_nilck | apply w_convu | apply w_convi | apply w_not | apply w_neg | apply w_conv | apply w_build0 | apply w_bs1 | apply w_boxa); iterate 2 exact rfl)
  | (apply w_lenby; exact rfl; exact rfl; (first | exact rdB_by _ | exact rdB_ro _ _))
  | (apply w_idxby; exact rfl; exact rfl; (first | exact rdB_by _ | exact rdB_ro _ _); exact rfl)
  | (apply w_ldby; exact rfl; exact rfl; (focus exact rfl))
  | (apply w_umul; exact rfl; exact rfl; exact rfl; intro cU hU)
  | (apply w_uadd; exact rfl; exact rfl; exact rfl; intro cU hU)
  | (apply w_ushr; exact rfl; exact rfl; exact rfl; (focus (first | assumption | omega)); intro cU hU)
  | (apply w_uand; exact rfl; exact rfl; exact rfl; (focus (first | assumption | omega)); intro cU hU)
  | (apply w_convbi; exact rfl; exact rfl; exact hbs _)
  | (apply w_convbu; exact rfl; exact rfl; exact hbs _)
  | (apply w_build23; exact rfl; exact rfl; exact rfl; exact rfl; (first | exact one_by | exact one_rb); exact one_val rfl rfl)
  | omega
  | ((first | apply w_lss | apply w_leq | apply w_gtr | apply w_geq | apply w_eql | apply w_neq | apply w_add | apply w_sub | apply w_mul | apply w_idx | apply w_ld | apply w_fld | apply w_fa | apply w_extv | apply w_min | apply w_max | apply w_slhi | apply w_sllo | apply w_bs2); iterate 3 exact rfl)
  | ((first | apply w_eqlb | apply w_neqb | apply w_idxs | apply w_lds | apply w_ext); iterate 3 exact rfl)
  | (apply w_rem; exact rfl; exact rfl; exact rfl; (focus (omega; done)); (focus (omega; done)))
  | (apply w_quo; exact rfl; exact rfl; exact rfl; (focus (omega; done)); (focus (omega; done)))
  | (apply w_remT; exact rfl; exact rfl; exact rfl)
  | (apply w_quoT; exact rfl; exact rfl; exact rfl)
  | (apply w_idxo; exact rfl; exact rfl; (first | exact .sli rfl | exact .sls rfl | exact .slr rfl); exact rfl)
  | ((first | apply w_idxr | apply w_ldr); iterate 4 exact rfl)
  | (apply w_ldo; iterate 4 exact rfl)
  | (apply w_ldls; iterate 4 exact rfl)
  | (apply w_ldrp; iterate 4 exact rfl)
  | (apply w_ldb; iterate 5 exact rfl)
  | (apply w_ldst; iterate 5 exact rfl)
  | ((first | apply w_sllh | apply w_stbi); iterate 4 exact rfl)
  | ((first | apply w_oslo | apply w_oshi | apply w_stbii); iterate 4 exact rfl)
  | (apply w_build1; exact rfl; exact rfl; (first | exact one_val rfl rfl | exact one_ints | exact one_intss | exact one_own rfl True.intro))
  | (apply w_build2; exact rfl; exact rfl; exact rfl; (first | exact one_val rfl rfl | exact one_ints | exact one_intss | exact one_own rfl True.intro); (first | exact one_val rfl rfl | exact one_ints | exact one_intss | exact one_own rfl True.intro))
  | (apply w_bs0; iterate 1 exact rfl)
  | (apply w_appn; exact rfl; exact rfl; (first | exact .ints _ | exact .sli rfl | exact .orow rfl | exact .nil | exact .osub rfl (by simp; omega)); exact rfl)
  | (apply w_app; exact rfl; exact rfl; exact rfl; exact rfl; (first | exact .ints _ | exact .sli rfl | exact .orow rfl | exact .nil | exact .osub rfl (by simp; omega)); rotate_left 1; simp only [Env.mp, List.map_cons, List.map_nil, List.set_cons_zero, List.set_cons_succ, AV.kill, AV.kill1, AO.kill, AV.noRow, AV.noRow1, AO.via, reduceIte, Nat.reduceEqDiff, Nat.reduceLT, Env.up, Nat.zero_ne_one, Nat.one_ne_zero, Nat.reduceAdd, List.cons_append, List.nil_append]; rotate_left 1)
  | (apply w_alst; iterate 2 exact rfl)
  | (apply w_alone; iterate 3 exact rfl)
  | (apply w_mki; exact rfl; exact rfl; rotate_left 3; exact rfl; rotate_left 1)
  | (apply w_mkr; exact rfl; exact rfl; rotate_left 3; exact rfl; rotate_left 1)
  | (apply w_sti; exact rfl; exact rfl; rotate_left 1; exact rfl; rotate_left 2)
  | (apply w_stst; iterate 5 exact rfl)
  | (apply w_stbv; iterate 6 exact rfl)
  | (apply w_stbo; exact rfl; exact rfl; exact rfl; exact rfl; exact rfl; exact True.intro)
  | ((apply AOps.splitB; exact rfl; exact rfl) <;> intro h)
  | apply AllOf.nil
  | (apply AllOf.cons; exact rfl)
  | (apply AAny.take; exact rfl; exact rfl; kernel_rfl; kernel_rfl)
  | (apply AAny.all; exact rfl)
  | (apply AAny.done; exact rfl)
  | (apply inI_of <;> omega)
  | omega
  | (simp <;> omega))
    all_goals exact ⟨n, xs, .own 4, .c1 Try.results61 rfl rfl rfl, .inl ⟨2, rfl, rfl⟩, ⟨hn2, ⟨by omega, by omega⟩, k3⟩, _, rfl⟩
end Go.Proofs.Ytkojhaoflgdjmaa
/-
  Draws of parametrisations. Condition: not too many bytes.
-/
namespace Go.Proofs.Ytkojhaoflgdjmaa
open Go Go.RowKit
attribute [local irreducible] AWp AOps ResIs Ret1 QOp LOp COp AFnV AFn Imms LeE LeO
set_option maxHeartbeats 1000000
set_option linter.unusedSimpArgs false
set_option linter.unusedVariables false

def DrA (n : Int) (xs : List Int) : Prop := (0 ≤ n ∧ n ≤ 13) ∧ xs.length ≤ 30 ∧ ∀ x ∈ xs, -1 ≤ x ∧ x ≤ 55441
set_option maxHeartbeats 8000000 in
theorem l16DrawAny_c (bs : List Int) (hl : bs.length ≤ 1048576) (hbs : ∀ i, 0 ≤ geti bs i ∧ geti bs i ≤ 255) : AFnD Try.prog 52 73 2 bs DrA := by
  have hd := l16Draw_c bs hl hbs
  have h24 := l01Next_c bs hl hbs 24 (by omega)
  have hp0 : AFnL Try.prog 40 73 bs [0, 13] (fun rv => ∃ y, rv = .int .i64 y ∧ (y = 0 ∨ y = 13)) :=
    (l01Pick_c bs hl hbs [0, 13] ⟨by simp, by simp⟩).mono fun _ ⟨y, e, hy⟩ => ⟨y, e, by simp at hy; omega⟩
  have hp1 : AFnL Try.prog 40 73 bs [-1, 55441] (fun rv => ∃ y, rv = .int .i64 y ∧ (y = -1 ∨ y = 55441)) :=
    (l01Pick_c bs hl hbs [-1, 55441] ⟨by simp, by simp⟩).mono fun _ ⟨y, e, hy⟩ => ⟨y, e, by simp at hy; omega⟩
  (refine AFnD.start Try.func52 Try.ntmps52 rfl (by kernel_rfl) fun K vC => ?_; simp only [Env.start, enumF, List.map_cons, List.map_nil, List.length_cons, List.length_nil, Nat.reduceAdd, Nat.reduceSub, Nat.zero_add, List.cons_append, List.nil_append])
  repeat' (first
  | (apply AOps.nil; try simp only [List.nil_append, List.cons_append, List.set_cons_zero, List.set_cons_succ, List.length_cons, List.length_nil, Nat.reduceAdd, AV.sh, AV.sh1, AV.sh0, AO.sh, List.map_cons, List.map_nil, Nat.zero_add, Nat.add_zero, setAll])
  | ((apply AOps.splitP; exact rfl; exact rfl) <;> intro h)
  | ((apply AOps.splitN; exact rfl; exact rfl) <;> intro h)
  | (apply w_move; exact rfl; exact rfl)
  | (apply w_assign; exact rfl; exact rfl)
  | apply AWp.seq
  | apply AWp.region
  | ((apply AWp.condP; exact rfl) <;> intro h)
  | ((apply AWp.condN; exact rfl) <;> intro h)
  | (apply AWp.condT; exact rfl)
  | (apply AWp.condF; exact rfl)
  | ((apply AWp.condB; exact rfl) <;> intro h)
  | apply AWp.block
  | apply AWp.ret
  | apply AWp.exit
  | apply AWp.skip
  | (apply if_pos'; exact rfl)
  | (apply if_neg'; decide)
  | (apply w_skip; exact rfl)
  | (apply w_pickT; exact rfl; exact rfl; exact rfl)
  | (apply w_pickF; exact rfl; exact rfl; exact rfl)
  | (apply w_len; exact rfl; exact rfl; first | exact .ints _ | exact .intss _ | exact .sli rfl | exact .sls rfl | exact .slr rfl | exact .orow rfl | exact .nil)
  | ((first | apply w_nilck | apply w_convu | apply w_convi | apply w_not | apply w_neg | apply w_conv | apply w_build0 | apply w_bs1 | apply w_boxa); iterate 2 exact rfl)
  | (apply w_lenby; exact rfl; exact rfl; (first | exact rdB_by _ | exact rdB_ro _ _))
  | (apply w_idxby; exact rfl; exact rfl; (first | exact rdB_by _ | exact rdB_ro _ _); exact rfl)
  | (apply w_ldby; exact rfl; exact rfl; (focus exact rfl))
  | (apply w_umul; exact rfl; exact rfl; exact rfl; intro cU hU)
  | (apply w_uadd; exact rfl; exact rfl; exact rfl; intro cU hU)
  | (apply w_ushr; exact rfl; exact rfl; exact rfl; (focus (first | assumption | omega)); intro cU hU)
  | (apply w_uand; exact rfl; exact rfl; exact rfl; (focus (first | assumption | omega)); intro cU hU)
  | (apply w_convbi; exact rfl; exact rfl; exact hbs _)
  | (apply w_convbu; exact rfl; exact rfl; exact hbs _)
  | (apply w_build23; exact rfl; exact rfl; exact rfl; exact rfl; (first | exact one_by | exact one_rb); exact one_val rfl rfl)
  | (apply w_callsod (hd); exact rfl; exact rfl; (first | exact rdB_by _ | exact rdB_ro _ _); exact rfl; (rintro n xs hP; try simp only [List.nil_append, List.cons_append, List.set_cons_zero, List.set_cons_succ, List.length_cons, List.length_nil, Nat.reduceAdd, AV.sh, AV.sh1, AV.sh0, AO.sh, List.map_cons, List.map_nil, Nat.zero_add, Nat.add_zero, setAll]))
  | omega
  | ((first | apply w_lss | apply w_leq | apply w_gtr | apply w_geq | apply w_eql | apply w_neq | apply w_add | apply w_sub | apply w_mul | apply w_idx | apply w_ld | apply w_fld | apply w_fa | apply w_extv | apply w_min | apply w_max | apply w_slhi | apply w_sllo | apply w_bs2); iterate 3 exact rfl)
  | ((first | apply w_eqlb | apply w_neqb | apply w_idxs | apply w_lds | apply w_ext); iterate 3 exact rfl)
  | (apply w_rem; exact rfl; exact rfl; exact rfl; (focus (omega; done)); (focus (omega; done)))
  | (apply w_quo; exact rfl; exact rfl; exact rfl; (focus (omega; done)); (focus (omega; done)))
  | (apply w_remT; exact rfl; exact rfl; exact rfl)
  | (apply w_quoT; exact rfl; exact rfl; exact rfl)
  | (apply w_idxo; exact rfl; exact rfl; (first | exact .sli rfl | exact .sls rfl | exact .slr rfl); exact rfl)
  | ((first | apply w_idxr | apply w_ldr); iterate 4 exact rfl)
  | (apply w_ldo; iterate 4 exact rfl)
  | (apply w_ldls; iterate 4 exact rfl)
  | (apply w_ldrp; iterate 4 exact rfl)
  | (apply w_ldb; iterate 5 exact rfl)
  | (apply w_ldst; iterate 5 exact rfl)
  | ((first | apply w_sllh | apply w_stbi); iterate 4 exact rfl)
  | ((first | apply w_oslo | apply w_oshi | apply w_stbii); iterate 4 exact rfl)
  | (apply w_build1; exact rfl; exact rfl; (first | exact one_val rfl rfl | exact one_ints | exact one_intss | exact one_own rfl True.intro))
  | (apply w_build2; exact rfl; exact rfl; exact rfl; (first | exact one_val rfl rfl | exact one_ints | exact one_intss | exact one_own rfl True.intro); (first | exact one_val rfl rfl | exact one_ints | exact one_intss | exact one_own rfl True.intro))
  | (apply w_bs0; iterate 1 exact rfl)
  | (apply w_appn; exact rfl; exact rfl; (first | exact .ints _ | exact .sli rfl | exact .orow rfl | exact .nil | exact .osub rfl (by simp; omega)); exact rfl)
  | (apply w_app; exact rfl; exact rfl; exact rfl; exact rfl; (first | exact .ints _ | exact .sli rfl | exact .orow rfl | exact .nil | exact .osub rfl (by simp; omega)); rotate_left 1; simp only [Env.mp, List.map_cons, List.map_nil, List.set_cons_zero, List.set_cons_succ, AV.kill, AV.kill1, AO.kill, AV.noRow, AV.noRow1, AO.via, reduceIte, Nat.reduceEqDiff, Nat.reduceLT, Env.up, Nat.zero_ne_one, Nat.one_ne_zero, Nat.reduceAdd, List.cons_append, List.nil_append]; rotate_left 1)
  | (apply w_alst; iterate 2 exact rfl)
  | (apply w_alone; iterate 3 exact rfl)
  | (apply w_mki; exact rfl; exact rfl; rotate_left 3; exact rfl; rotate_left 1)
  | (apply w_mkr; exact rfl; exact rfl; rotate_left 3; exact rfl; rotate_left 1)
  | (apply w_sti; exact rfl; exact rfl; rotate_left 1; exact rfl; rotate_left 2)
  | (apply w_stst; iterate 5 exact rfl)
  | (apply w_stbv; iterate 6 exact rfl)
  | (apply w_stbo; exact rfl; exact rfl; exact rfl; exact rfl; exact rfl; exact True.intro)
  | ((apply AOps.splitB; exact rfl; exact rfl) <;> intro h)
  | apply AllOf.nil
  | (apply AllOf.cons; exact rfl)
  | (apply AAny.take; exact rfl; exact rfl; kernel_rfl; kernel_rfl)
  | (apply AAny.all; exact rfl)
  | (apply AAny.done; exact rfl)
  | (apply inI_of <;> omega)
  | omega
  | (simp <;> omega))
  obtain ⟨p1, p2, p3⟩ := hP
  have hln := l01Next_c bs hl hbs xs.length (by omega)
  have hA : DrA n xs := ⟨by omega, by omega, fun x hx => by have := p3 x hx; omega⟩
  have hset : ∀ (j : Nat) (v : Int), -1 ≤ v ∧ v ≤ 55441 → (xs.set j v).length = xs.length ∧ ∀ z ∈ xs.set j v, -1 ≤ z ∧ z ≤ 55441 := fun j v hv => ⟨List.length_set, fun z hz => by
    rcases List.mem_or_eq_of_mem_set hz with hz | rfl
    · have := p3 z hz; omega
    · exact hv⟩
  repeat' (first
  | (apply AOps.nil; try simp only [List.nil_append, List.cons_append, List.set_cons_zero, List.set_cons_succ, List.length_cons, List.length_nil, Nat.reduceAdd, AV.sh, AV.sh1, AV.sh0, AO.sh, List.map_cons, List.map_nil, Nat.zero_add, Nat.add_zero, setAll])
  | ((apply AOps.splitP; exact rfl; exact rfl) <;> intro h)
  | ((apply AOps.splitN; exact rfl; exact rfl) <;> intro h)
  | (apply w_move; exact rfl; exact rfl)
  | (apply w_assign; exact rfl; exact rfl)
  | apply AWp.seq
  | apply AWp.region
  | ((apply AWp.condP; exact rfl) <;> intro h)
  | ((apply AWp.condN; exact rfl) <;> intro h)
  | (apply AWp.condT; exact rfl)
  | (apply AWp.condF; exact rfl)
  | ((apply AWp.condB; exact rfl) <;> intro h)
  | apply AWp.block
  | apply AWp.ret
  | apply AWp.exit
  | apply AWp.skip
  | (apply if_pos'; exact rfl)
  | (apply if_neg'; decide)
  | (apply w_skip; exact rfl)
  | (apply w_pickT; exact rfl; exact rfl; exact rfl)
  | (apply w_pickF; exact rfl; exact rfl; exact rfl)
  | (apply w_len; exact rfl; exact rfl; first | exact .ints _ | exact .intss _ | exact .sli rfl | exact .sls rfl | exact .slr rfl | exact .orow rfl | exact .nil)
  | ((first | apply w_nilck | apply w_convu | apply w_convi | apply w_not | apply w_neg | apply w_conv | apply w_build0 | apply w_bs1 | apply w_boxa); iterate 2 exact rfl)
  | (apply w_lenby; exact rfl; exact rfl; (first | exact rdB_by _ | exact rdB_ro _ _))
  | (apply w_idxby; exact rfl; exact rfl; (first | exact rdB_by _ | exact rdB_ro _ _); exact rfl)
  | (apply w_ldby; exact rfl; exact rfl; (focus exact rfl))
  | (apply w_umul; exact rfl; exact rfl; exact rfl; intro cU hU)
  | (apply w_uadd; exact rfl; exact rfl; exact rfl; intro cU hU)
  | (apply w_ushr; exact rfl; exact rfl; exact rfl; (focus (first | assumption | omega)); intro cU hU)
  | (apply w_uand; exact rfl; exact rfl; exact rfl; (focus (first | assumption | omega)); intro cU hU)
  | (apply w_convbi; exact rfl; exact rfl; exact hbs _)
  | (apply w_convbu; exact rfl; exact rfl; exact hbs _)
  | (apply w_build23; exact rfl; exact rfl; exact rfl; exact rfl; (first | exact one_by | exact one_rb); exact one_val rfl rfl)
  | (apply w_callso (h24); exact rfl; exact rfl; exact rfl; exact rfl; (first | exact rdB_by _ | exact rdB_ro _ _); (rintro _ ⟨x, rfl, hx⟩))
  | (apply w_callsol (hp0); exact rfl; exact rfl; exact rfl; exact rfl; (first | exact rdB_by _ | exact rdB_ro _ _); exact rfl; (rintro _ ⟨y, rfl, hy⟩))
  | omega
  | ((first | apply w_lss | apply w_leq | apply w_gtr | apply w_geq | apply w_eql | apply w_neq | apply w_add | apply w_sub | apply w_mul | apply w_idx | apply w_ld | apply w_fld | apply w_fa | apply w_extv | apply w_min | apply w_max | apply w_slhi | apply w_sllo | apply w_bs2); iterate 3 exact rfl)
  | ((first | apply w_eqlb | apply w_neqb | apply w_idxs | apply w_lds | apply w_ext); iterate 3 exact rfl)
  | (apply w_rem; exact rfl; exact rfl; exact rfl; (focus (omega; done)); (focus (omega; done)))
  | (apply w_quo; exact rfl; exact rfl; exact rfl; (focus (omega; done)); (focus (omega; done)))
  | (apply w_remT; exact rfl; exact rfl; exact rfl)
  | (apply w_quoT; exact rfl; exact rfl; exact rfl)
  | (apply w_idxo; exact rfl; exact rfl; (first | exact .sli rfl | exact .sls rfl | exact .slr rfl); exact rfl)
  | ((first | apply w_idxr | apply w_ldr); iterate 4 exact rfl)
  | (apply w_ldo; iterate 4 exact rfl)
  | (apply w_ldls; iterate 4 exact rfl)
  | (apply w_ldrp; iterate 4 exact rfl)
  | (apply w_ldb; iterate 5 exact rfl)
  | (apply w_ldst; iterate 5 exact rfl)
  | ((first | apply w_sllh | apply w_stbi); iterate 4 exact rfl)
  | ((first | apply w_oslo | apply w_oshi | apply w_stbii); iterate 4 exact rfl)
  | (apply w_build1; exact rfl; exact rfl; (first | exact one_val rfl rfl | exact one_ints | exact one_intss | exact one_own rfl True.intro))
  | (apply w_build2; exact rfl; exact rfl; exact rfl; (first | exact one_val rfl rfl | exact one_ints | exact one_intss | exact one_own rfl True.intro); (first | exact one_val rfl rfl | exact one_ints | exact one_intss | exact one_own rfl True.intro))
  | (apply w_bs0; iterate 1 exact rfl)
  | (apply w_appn; exact rfl; exact rfl; (first | exact .ints _ | exact .sli rfl | exact .orow rfl | exact .nil | exact .osub rfl (by simp; omega)); exact rfl)
  | (apply w_app; exact rfl; exact rfl; exact rfl; exact rfl; (first | exact .ints _ | exact .sli rfl | exact .orow rfl | exact .nil | exact .osub rfl (by simp; omega)); rotate_left 1; simp only [Env.mp, List.map_cons, List.map_nil, List.set_cons_zero, List.set_cons_succ, AV.kill, AV.kill1, AO.kill, AV.noRow, AV.noRow1, AO.via, reduceIte, Nat.reduceEqDiff, Nat.reduceLT, Env.up, Nat.zero_ne_one, Nat.one_ne_zero, Nat.reduceAdd, List.cons_append, List.nil_append]; rotate_left 1)
  | (apply w_alst; iterate 2 exact rfl)
  | (apply w_alone; iterate 3 exact rfl)
  | (apply w_mki; exact rfl; exact rfl; rotate_left 3; exact rfl; rotate_left 1)
  | (apply w_mkr; exact rfl; exact rfl; rotate_left 3; exact rfl; rotate_left 1)
  | (apply w_sti; exact rfl; exact rfl; rotate_left 1; exact rfl; rotate_left 2)
  | (apply w_stst; iterate 5 exact rfl)
  | (apply w_stbv; iterate 6 exact rfl)
  | (apply w_stbo; exact rfl; exact rfl; exact rfl; exact rfl; exact rfl; exact True.intro)
  | ((apply AOps.splitB; exact rfl; exact rfl) <;> intro h)
  | apply AllOf.nil
  | (apply AllOf.cons; exact rfl)
  | (apply AAny.take; exact rfl; exact rfl; kernel_rfl; kernel_rfl)
  | (apply AAny.all; exact rfl)
  | (apply AAny.done; exact rfl)
  | (apply inI_of <;> omega)
  | omega
  | (simp <;> omega))
  · exact ⟨y, xs, .own 3, .c1 Try.results52 rfl rfl rfl, .inl ⟨1, rfl, rfl⟩, ⟨by omega, hA.2⟩, _, rfl⟩
  · refine AWp.regionAI (ι := List Int) (fun ys => ys.length = xs.length ∧ ∀ z ∈ ys, -1 ≤ z ∧ z ≤ 55441) (fun ys => ⟨36, [(0, .optr 1 0), (2, .optr 2 0), (3, .optr 4 0), (7, .i x)]⟩) (fun ys => [.keep 2 K, skO 73 bs (.ro (roB vC bs)), .bx 26 [.val (.int .i64 0), .val (.slice none 0 0)], .sli 2 ys, .bx 26 [.val (.int .i64 n), .own 3]]) (by kernel_rfl) rfl rfl ?_ ?_
    · repeat' (first
  | (apply AOps.nil; try simp only [List.nil_append, List.cons_append, List.set_cons_zero, List.set_cons_succ, List.length_cons, List.length_nil, Nat.reduceAdd, AV.sh, AV.sh1, AV.sh0, AO.sh, List.map_cons, List.map_nil, Nat.zero_add, Nat.add_zero, setAll])
  | ((apply AOps.splitP; exact rfl; exact rfl) <;> intro h)
  | ((apply AOps.splitN; exact rfl; exact rfl) <;> intro h)
  | (apply w_move; exact rfl; exact rfl)
  | (apply w_assign; exact rfl; exact rfl)
  | apply AWp.seq
  | apply AWp.region
  | ((apply AWp.condP; exact rfl) <;> intro h)
  | ((apply AWp.condN; exact rfl) <;> intro h)
  | (apply AWp.condT; exact rfl)
  | (apply AWp.condF; exact rfl)
  | ((apply AWp.condB; exact rfl) <;> intro h)
  | apply AWp.block
  | apply AWp.ret
  | apply AWp.exit
  | apply AWp.skip
  | (apply AWp.regionQ; kernel_rfl; kernel_rfl)
  | (apply if_pos'; exact rfl)
  | (apply if_neg'; decide)
  | (apply w_skip; exact rfl)
  | (apply w_pickT; exact rfl; exact rfl; exact rfl)
  | (apply w_pickF; exact rfl; exact rfl; exact rfl)
  | (apply w_len; exact rfl; exact rfl; first | exact .ints _ | exact .intss _ | exact .sli rfl | exact .sls rfl | exact .slr rfl | exact .orow rfl | exact .nil)
  | (apply w_bs5; iterate 6 exact rfl)
  | (apply w_bs6; iterate 7 exact rfl)
  | (apply w_bs7; iterate 8 exact rfl)
  | ((first | apply w_nilck | apply w_convu | apply w_convi | apply w_not | apply w_neg | apply w_conv | apply w_build0 | apply w_bs1 | apply w_boxa); iterate 2 exact rfl)
  | (apply w_lenby; exact rfl; exact rfl; (first | exact rdB_by _ | exact rdB_ro _ _))
  | (apply w_idxby; exact rfl; exact rfl; (first | exact rdB_by _ | exact rdB_ro _ _); exact rfl)
  | (apply w_ldby; exact rfl; exact rfl; (focus exact rfl))
  | (apply w_umul; exact rfl; exact rfl; exact rfl; intro cU hU)
  | (apply w_uadd; exact rfl; exact rfl; exact rfl; intro cU hU)
  | (apply w_ushr; exact rfl; exact rfl; exact rfl; (focus (first | assumption | omega)); intro cU hU)
  | (apply w_uand; exact rfl; exact rfl; exact rfl; (focus (first | assumption | omega)); intro cU hU)
  | (apply w_convbi; exact rfl; exact rfl; exact hbs _)
  | (apply w_convbu; exact rfl; exact rfl; exact hbs _)
  | (apply w_build23; exact rfl; exact rfl; exact rfl; exact rfl; (first | exact one_by | exact one_rb); exact one_val rfl rfl)
  | (apply w_callso (hln); exact rfl; exact rfl; exact rfl; exact rfl; (first | exact rdB_by _ | exact rdB_ro _ _); (rintro _ ⟨x2, rfl, hx2⟩))
  | (apply w_callsol (hp1); exact rfl; exact rfl; exact rfl; exact rfl; (first | exact rdB_by _ | exact rdB_ro _ _); exact rfl; (rintro _ ⟨y, rfl, hy⟩))
  | omega
  | ((first | apply w_lss | apply w_leq | apply w_gtr | apply w_geq | apply w_eql | apply w_neq | apply w_add | apply w_sub | apply w_mul | apply w_idx | apply w_ld | apply w_fld | apply w_fa | apply w_extv | apply w_min | apply w_max | apply w_slhi | apply w_sllo | apply w_bs2); iterate 3 exact rfl)
  | ((first | apply w_eqlb | apply w_neqb | apply w_idxs | apply w_lds | apply w_ext); iterate 3 exact rfl)
  | (apply w_rem; exact rfl; exact rfl; exact rfl; (focus (omega; done)); (focus (omega; done)))
  | (apply w_quo; exact rfl; exact rfl; exact rfl; (focus (omega; done)); (focus (omega; done)))
  | (apply w_remT; exact rfl; exact rfl; exact rfl)
  | (apply w_quoT; exact rfl; exact rfl; exact rfl)
  | (apply w_idxo; exact rfl; exact rfl; (first | exact .sli rfl | exact .sls rfl | exact .slr rfl); exact rfl)
  | ((first | apply w_idxr | apply w_ldr); iterate 4 exact rfl)
  | (apply w_ldo; iterate 4 exact rfl)
  | (apply w_ldls; iterate 4 exact rfl)
  | (apply w_ldrp; iterate 4 exact rfl)
  | (apply w_ldb; iterate 5 exact rfl)
  | (apply w_ldst; iterate 5 exact rfl)
  | ((first | apply w_sllh | apply w_stbi); iterate 4 exact rfl)
  | ((first | apply w_oslo | apply w_oshi | apply w_stbii); iterate 4 exact rfl)
  | (apply w_build1; exact rfl; exact rfl; (first | exact one_val rfl rfl | exact one_ints | exact one_intss | exact one_own rfl True.intro))
  | (apply w_build2; exact rfl; exact rfl; exact rfl; (first | exact one_val rfl rfl | exact one_ints | exact one_intss | exact one_own rfl True.intro); (first | exact one_val rfl rfl | exact one_ints | exact one_intss | exact one_own rfl True.intro))
  | (apply w_bs0; iterate 1 exact rfl)
  | (apply w_appn; exact rfl; exact rfl; (first | exact .ints _ | exact .sli rfl | exact .orow rfl | exact .nil | exact .osub rfl (by simp; omega)); exact rfl)
  | (apply w_app; exact rfl; exact rfl; exact rfl; exact rfl; (first | exact .ints _ | exact .sli rfl | exact .orow rfl | exact .nil | exact .osub rfl (by simp; omega)); rotate_left 1; simp only [Env.mp, List.map_cons, List.map_nil, List.set_cons_zero, List.set_cons_succ, AV.kill, AV.kill1, AO.kill, AV.noRow, AV.noRow1, AO.via, reduceIte, Nat.reduceEqDiff, Nat.reduceLT, Env.up, Nat.zero_ne_one, Nat.one_ne_zero, Nat.reduceAdd, List.cons_append, List.nil_append]; rotate_left 1)
  | (apply w_alst; iterate 2 exact rfl)
  | (apply w_alone; iterate 3 exact rfl)
  | (apply w_mki; exact rfl; exact rfl; rotate_left 3; exact rfl; rotate_left 1)
  | (apply w_mkr; exact rfl; exact rfl; rotate_left 3; exact rfl; rotate_left 1)
  | (apply w_sti; exact rfl; exact rfl; rotate_left 1; exact rfl; rotate_left 2)
  | (apply w_stst; iterate 5 exact rfl)
  | (apply w_stbv; iterate 6 exact rfl)
  | (apply w_stbo; exact rfl; exact rfl; exact rfl; exact rfl; exact rfl; exact True.intro)
  | ((apply AOps.splitB; exact rfl; exact rfl) <;> intro h)
  | apply AllOf.nil
  | (apply AllOf.cons; exact rfl)
  | (apply AAny.take; exact rfl; exact rfl; kernel_rfl; kernel_rfl)
  | (apply AAny.all; exact rfl)
  | (apply AAny.done; exact rfl)
  | (apply inI_of <;> omega)
  | omega
  | (simp <;> omega))
      all_goals
        apply Exists.intro
        apply And.intro
        rotate_left 1
        · (first | (apply Or.inl; refine ⟨lee rfl ?_, ?_, rfl, rfl⟩; (focus ((repeat (first | exact le_nil | refine le_eq rfl rfl ?_ | (refine le_eq rfl (congrArg AV.i ?_) ?_; (focus (omega; done))))); done)); (focus ((repeat (first | exact lo_nil | refine lo_dead ?_ | refine lo_eq rfl ?_)); done))) | (apply Or.inr; refine ⟨[0, 1, 2, 3, 4], ⟨by decide, fun x hx => Nat.lt_of_lt_of_le ((by decide : ∀ x ∈ ([0, 1, 2, 3, 4] : List Nat), x < 5) x hx) (Nat.le_of_ble_eq_true rfl)⟩, lee rfl ?_, ?_, rfl, rfl⟩; (focus ((repeat (first | exact le_nil | refine le_eq rfl rfl ?_ | (refine le_eq rfl (congrArg AV.i ?_) ?_; (focus (omega; done))))); done)); (focus ((repeat (first | exact lo_nil | refine lo_dead ?_ | refine lo_eq rfl ?_)); done))))
        · exact hset _ _ (by omega)
    · rintro ys ⟨y1, y2⟩
      repeat' (first
  | (apply AOps.nil; try simp only [List.nil_append, List.cons_append, List.set_cons_zero, List.set_cons_succ, List.length_cons, List.length_nil, Nat.reduceAdd, AV.sh, AV.sh1, AV.sh0, AO.sh, List.map_cons, List.map_nil, Nat.zero_add, Nat.add_zero, setAll])
  | ((apply AOps.splitP; exact rfl; exact rfl) <;> intro h)
  | ((apply AOps.splitN; exact rfl; exact rfl) <;> intro h)
  | (apply w_move; exact rfl; exact rfl)
  | (apply w_assign; exact rfl; exact rfl)
  | apply AWp.seq
  | apply AWp.region
  | ((apply AWp.condP; exact rfl) <;> intro h)
  | ((apply AWp.condN; exact rfl) <;> intro h)
  | (apply AWp.condT; exact rfl)
  | (apply AWp.condF; exact rfl)
  | ((apply AWp.condB; exact rfl) <;> intro h)
  | apply AWp.block
  | apply AWp.ret
  | apply AWp.exit
  | apply AWp.skip
  | (apply if_pos'; exact rfl)
  | (apply if_neg'; decide)
  | (apply w_skip; exact rfl)
  | (apply w_pickT; exact rfl; exact rfl; exact rfl)
  | (apply w_pickF; exact rfl; exact rfl; exact rfl)
  | (apply w_len; exact rfl; exact rfl; first | exact .ints _ | exact .intss _ | exact .sli rfl | exact .sls rfl | exact .slr rfl | exact .orow rfl | exact .nil)
  | ((first | apply w_nilck | apply w_convu | apply w_convi | apply w_not | apply w_neg | apply w_conv | apply w_build0 | apply w_bs1 | apply w_boxa); iterate 2 exact rfl)
  | (apply w_lenby; exact rfl; exact rfl; (first | exact rdB_by _ | exact rdB_ro _ _))
  | (apply w_idxby; exact rfl; exact rfl; (first | exact rdB_by _ | exact rdB_ro _ _); exact rfl)
  | (apply w_ldby; exact rfl; exact rfl; (focus exact rfl))
  | (apply w_umul; exact rfl; exact rfl; exact rfl; intro cU hU)
  | (apply w_uadd; exact rfl; exact rfl; exact rfl; intro cU hU)
  | (apply w_ushr; exact rfl; exact rfl; exact rfl; (focus (first | assumption | omega)); intro cU hU)
  | (apply w_uand; exact rfl; exact rfl; exact rfl; (focus (first | assumption | omega)); intro cU hU)
  | (apply w_convbi; exact rfl; exact rfl; exact hbs _)
  | (apply w_convbu; exact rfl; exact rfl; exact hbs _)
  | (apply w_build23; exact rfl; exact rfl; exact rfl; exact rfl; (first | exact one_by | exact one_rb); exact one_val rfl rfl)
  | omega
  | ((first | apply w_lss | apply w_leq | apply w_gtr | apply w_geq | apply w_eql | apply w_neq | apply w_add | apply w_sub | apply w_mul | apply w_idx | apply w_ld | apply w_fld | apply w_fa | apply w_extv | apply w_min | apply w_max | apply w_slhi | apply w_sllo | apply w_bs2); iterate 3 exact rfl)
  | ((first | apply w_eqlb | apply w_neqb | apply w_idxs | apply w_lds | apply w_ext); iterate 3 exact rfl)
  | (apply w_rem; exact rfl; exact rfl; exact rfl; (focus (omega; done)); (focus (omega; done)))
  | (apply w_quo; exact rfl; exact rfl; exact rfl; (focus (omega; done)); (focus (omega; done)))
  | (apply w_remT; exact rfl; exact rfl; exact rfl)
  | (apply w_quoT; exact rfl; exact rfl; exact rfl)
  | (apply w_idxo; exact rfl; exact rfl; (first | exact .sli rfl | exact .sls rfl | exact .slr rfl); exact rfl)
  | ((first | apply w_idxr | apply w_ldr); iterate 4 exact rfl)
  | (apply w_ldo; iterate 4 exact rfl)
  | (apply w_ldls; iterate 4 exact rfl)
  | (apply w_ldrp; iterate 4 exact rfl)
  | (apply w_ldb; iterate 5 exact rfl)
  | (apply w_ldst; iterate 5 exact rfl)
  | ((first | apply w_sllh | apply w_stbi); iterate 4 exact rfl)
  | ((first | apply w_oslo | apply w_oshi | apply w_stbii); iterate 4 exact rfl)
  | (apply w_build1; exact rfl; exact rfl; (first | exact one_val rfl rfl | exact one_ints | exact one_intss | exact one_own rfl True.intro))
  | (apply w_build2; exact rfl; exact rfl; exact rfl; (first | exact one_val rfl rfl | exact one_ints | exact one_intss | exact one_own rfl True.intro); (first | exact one_val rfl rfl | exact one_ints | exact one_intss | exact one_own rfl True.intro))
  | (apply w_bs0; iterate 1 exact rfl)
  | (apply w_appn; exact rfl; exact rfl; (first | exact .ints _ | exact .sli rfl | exact .orow rfl | exact .nil | exact .osub rfl (by simp; omega)); exact rfl)
  | (apply w_app; exact rfl; exact rfl; exact rfl; exact rfl; (first | exact .ints _ | exact .sli rfl | exact .orow rfl | exact .nil | exact .osub rfl (by simp; omega)); rotate_left 1; simp only [Env.mp, List.map_cons, List.map_nil, List.set_cons_zero, List.set_cons_succ, AV.kill, AV.kill1, AO.kill, AV.noRow, AV.noRow1, AO.via, reduceIte, Nat.reduceEqDiff, Nat.reduceLT, Env.up, Nat.zero_ne_one, Nat.one_ne_zero, Nat.reduceAdd, List.cons_append, List.nil_append]; rotate_left 1)
  | (apply w_alst; iterate 2 exact rfl)
  | (apply w_alone; iterate 3 exact rfl)
  | (apply w_mki; exact rfl; exact rfl; rotate_left 3; exact rfl; rotate_left 1)
  | (apply w_mkr; exact rfl; exact rfl; rotate_left 3; exact rfl; rotate_left 1)
  | (apply w_sti; exact rfl; exact rfl; rotate_left 1; exact rfl; rotate_left 2)
  | (apply w_stst; iterate 5 exact rfl)
  | (apply w_stbv; iterate 6 exact rfl)
  | (apply w_stbo; exact rfl; exact rfl; exact rfl; exact rfl; exact rfl; exact True.intro)
  | ((apply AOps.splitB; exact rfl; exact rfl) <;> intro h)
  | apply AllOf.nil
  | (apply AllOf.cons; exact rfl)
  | (apply AAny.take; exact rfl; exact rfl; kernel_rfl; kernel_rfl)
  | (apply AAny.all; exact rfl)
  | (apply AAny.done; exact rfl)
  | (apply inI_of <;> omega)
  | omega
  | (simp <;> omega))
      all_goals exact ⟨n, ys, .own 3, .c1 Try.results52 rfl rfl rfl, .inl ⟨1, rfl, rfl⟩, ⟨hA.1, by omega, y2⟩, _, rfl⟩
  · exact ⟨n, _, .own 3, .c1 Try.results52 rfl rfl rfl, .inl ⟨1, rfl, rfl⟩, ⟨hA.1, by rw [List.length_set]; omega, (hset _ _ (by omega)).2⟩, _, rfl⟩
  · exact ⟨n, [], .val (.slice none 0 0), .c1 Try.results52 rfl rfl rfl, .inr ⟨rfl, rfl⟩, ⟨hA.1, by simp, by simp⟩, _, rfl⟩
  · exact ⟨n, xs, .own 3, .c1 Try.results52 rfl rfl rfl, .inl ⟨1, rfl, rfl⟩, hA, _, rfl⟩
end Go.Proofs.Ytkojhaoflgdjmaa
/-
  Results of two structs of a number and a list. No condition.
-/
namespace Go.Proofs.Ytkojhaoflgdjmaa
open Go Go.RowKit
set_option linter.unusedVariables false

section
variable {P : Program} {env : Env} {os : List AO}
theorem ResIs.cc {fn : Func} {p q : Tmp} {T : TypeId} (h : fn.results = #[.cell p T, .cell q T]) {n : Nat} {zs : List Value} [ht : TStruct P T n zs] {k k' : Nat} {T' T'' : TypeId} {avs avs' : List AV} (hp : env.fd p = some (.optr k 0)) (hq : env.fd q = some (.optr k' 0))
    (hs : os[k]? = some (.bx T' avs)) (hs' : os[k']? = some (.bx T'' avs')) (hn : avs.length = n) (hn' : avs'.length = n) : ResIs P fn env os (.tup [.agg avs, .agg avs']) := by
  unfold ResIs
  intro base w gs tm hr
  obtain ⟨b, cs, e1, e2, e3⟩ := res_cell (P := P) (T := T) (gd_of hp) hs hn hr
  obtain ⟨b', cs', f1, f2, f3⟩ := res_cell (P := P) (T := T) (gd_of hq) hs' hn' hr
  have e1' : tm[p]?.getD undef = .pointer (some ⟨b, 0, none⟩) := by simpa using e1
  have f1' : tm[q]?.getD undef = .pointer (some ⟨b', 0, none⟩) := by simpa using f1
  refine ⟨.tuple #[.agg cs, .agg cs'], by simp [results, h, e1', f1', asAddr, e2, f2], .tup (vs := [.agg cs, .agg cs']) rfl fun i => ?_⟩
  match i with
  | 0 => exact e3
  | 1 => exact f3
  | i + 2 => exact .any _
theorem ResIs.ctc {fn : Func} {p u q : Tmp} {T : TypeId} (h : fn.results = #[.cell p T, .tmp u, .cell q T]) {n : Nat} {zs : List Value} [ht : TStruct P T n zs] {k k' : Nat} {T' T'' : TypeId} {avs avs' : List AV} {a : AV} (hp : env.fd p = some (.optr k 0)) (hu : env.fd u = some a) (hq : env.fd q = some (.optr k' 0))
    (hs : os[k]? = some (.bx T' avs)) (hs' : os[k']? = some (.bx T'' avs')) (hn : avs.length = n) (hn' : avs'.length = n) : ResIs P fn env os (.tup [.agg avs, a, .agg avs']) := by
  unfold ResIs
  intro base w gs tm hr
  obtain ⟨b, cs, e1, e2, e3⟩ := res_cell (P := P) (T := T) (gd_of hp) hs hn hr
  obtain ⟨b', cs', f1, f2, f3⟩ := res_cell (P := P) (T := T) (gd_of hq) hs' hn' hr
  have e1' : tm[p]?.getD undef = .pointer (some ⟨b, 0, none⟩) := by simpa using e1
  have f1' : tm[q]?.getD undef = .pointer (some ⟨b', 0, none⟩) := by simpa using f1
  have g1 := hr.he u
  rw [gd_of hu] at g1
  refine ⟨.tuple #[.agg cs, tm.getD u undef, .agg cs'], by simp [results, h, e1', f1', asAddr, e2, f2], .tup (vs := [.agg cs, tm.getD u undef, .agg cs']) rfl fun i => ?_⟩
  match i with
  | 0 => exact e3
  | 1 => exact g1
  | 2 => exact f3
  | i + 3 => exact .any _
theorem NewObjs.two2 {base : Nat} {w : World} {ok : Nat → Prop} {gs0 : List Gh} {g1 g2 : Gh} {e : TypeId} {xs ys : List Int} (h1 : RO base w ok gs0 g1 (.sli e xs)) (h2 : RO base w ok gs0 g2 (.sli e ys)) (hd : ∀ b, b ∈ g1.bl → b ∉ g2.bl)
    (n1 : ∀ b, b ∈ g1.bl → base ≤ b ∧ b < w.heap.size) (n2 : ∀ b, b ∈ g2.bl → base ≤ b ∧ b < w.heap.size) : NewObjs base w [g1, g2] [.sli e xs, .sli e ys] where
  hl := rfl
  ho h g o hg ho := by
    match h with
    | 0 => simp at hg ho; subst hg; subst ho; exact h1
    | 1 => simp at hg ho; subst hg; subst ho; exact h2
    | h + 2 => simp at hg
  hd h k g g' o o' hne hg hg' ho ho' _ _ b hb := by
    match h, k with
    | 0, 0 => exact absurd rfl hne
    | 1, 1 => exact absurd rfl hne
    | 0, 1 => simp at hg hg'; subst hg; subst hg'; exact hd b hb
    | 1, 0 => simp at hg hg'; subst hg; subst hg'; exact fun h => hd b h hb
    | h + 2, _ => simp at hg
    | _, k + 2 => simp at hg'
  hn h g o hg ho _ b hb := by
    match h with
    | 0 => simp at hg; subst hg; exact n1 b hb
    | 1 => simp at hg; subst hg; exact n2 b hb
    | h + 2 => simp at hg
/-- Two structs of a number and an own list. -/
theorem Ret1.ss {i j : Nat} {e : TypeId} {xs ys : List Int} {n m : Value} (h1 : os[i]? = some (.sli e xs)) (h2 : os[j]? = some (.sli e ys)) (hne : (i == j) = false) :
    Ret1 os (.tup [.agg [.val n, .own i], .agg [.val m, .own j]]) (.tup [.agg [.val n, .own 0], .agg [.val m, .own 1]]) [.sli e xs, .sli e ys] := by
  have hne : i ≠ j := by simpa using hne
  unfold Ret1
  intro base w gs env tm hr u hu
  cases hu with
  | @tup us _ k1 k2 =>
    match us, k1 with
    | [u1, u2], _ =>
      have a1 := k2 0
      have a2 := k2 1
      simp only [List.getD_cons_zero, List.getD_cons_succ] at a1 a2
      cases a1 with
      | @agg vs _ l1 lo l2 =>
        cases a2 with
        | @agg vs' _ l1' lo' l2' =>
          match vs, l1, lo, vs', l1', lo' with
          | [p1, p2], _, lo, [q1, q2], _, lo' =>
            have b1 := l2 0
            have b2 := l2 1
            have b3 := l2' 0
            have b4 := l2' 1
            simp only [List.getD_cons_zero, List.getD_cons_succ] at b1 b2 b3 b4
            cases b1; cases b3
            cases b2 with
            | @own _ g hg =>
              cases b4 with
              | @own _ g' hg' =>
                refine ⟨[g, g'], .two2 (hr.ho _ _ _ hg h1) (hr.ho _ _ _ hg' h2) (hr.hd _ _ _ _ _ _ hne hg hg' h1 h2 (by simp) (by simp)) (hr.hn _ _ _ hg h1 (by simp)) (hr.hn _ _ _ hg' h2 (by simp)), ?_⟩
                refine .tup (vs := [.agg [n, g.v].toArray, .agg [m, g'.v].toArray]) rfl fun q => ?_
                match q with
                | 0 =>
                  refine .agg (vs := [n, g.v]) rfl lo fun q => ?_
                  match q with
                  | 0 => exact .val _
                  | 1 => exact .own rfl
                  | q + 2 => exact .any _
                | 1 =>
                  refine .agg (vs := [m, g'.v]) rfl lo' fun q => ?_
                  match q with
                  | 0 => exact .val _
                  | 1 => exact .own rfl
                  | q + 2 => exact .any _
                | q + 2 => exact .any _
theorem Ret1.sfs {i j : Nat} {e : TypeId} {xs ys : List Int} {n f m : Value} (h1 : os[i]? = some (.sli e xs)) (h2 : os[j]? = some (.sli e ys)) (hne : (i == j) = false) :
    Ret1 os (.tup [.agg [.val n, .own i], .val f, .agg [.val m, .own j]]) (.tup [.agg [.val n, .own 0], .val f, .agg [.val m, .own 1]]) [.sli e xs, .sli e ys] := by
  unfold Ret1
  intro base w gs env tm hr u hu
  cases hu with
  | @tup us _ k1 k2 =>
    match us, k1 with
    | [u1, u2, u3], _ =>
      have a1 := k2 0
      have a2 := k2 1
      have a3 := k2 2
      simp only [List.getD_cons_zero, List.getD_cons_succ] at a1 a2 a3
      cases a2
      have hh : RV w (okOf gs os) gs (.tuple [u1, u3].toArray) (.tup [.agg [.val n, .own i], .agg [.val m, .own j]]) := .tup (vs := [u1, u3]) rfl fun q => by
        match q with
        | 0 => exact a1
        | 1 => exact a3
        | q + 2 => exact .any _
      have hss := Ret1.ss (n := n) (m := m) h1 h2 hne
      unfold Ret1 at hss
      obtain ⟨gs', h3, h4⟩ := hss base w gs env tm hr _ hh
      refine ⟨gs', h3, .tup (vs := [u1, f, u3]) rfl fun q => ?_⟩
      generalize hT : (Value.tuple [u1, u3].toArray) = tv at h4
      cases h4 with
      | @tup vs _ l1 l2 =>
        have hv : vs = [u1, u3] := by
          have := Value.tuple.inj hT
          simpa using (congrArg Array.toList this).symm
        subst hv
        have c1 := l2 0
        have c2 := l2 1
        match q with
        | 0 => exact c1
        | 1 => exact .val _
        | 2 => exact c2
        | q + 3 => exact .any _
end
end Go.Proofs.Ytkojhaoflgdjmaa
/-
  Two parametrisations drawn. Condition: not too many bytes.
-/
namespace Go.Proofs.Ytkojhaoflgdjmaa
open Go Go.RowKit
attribute [local irreducible] AWp AOps ResIs Ret1 QOp LOp COp AFnV AFn Imms LeE LeO
set_option maxHeartbeats 1000000
set_option linter.unusedSimpArgs false
set_option linter.unusedVariables false

theorem ser_nat4 {n : Int} {a : List Int} (h : isSerB n a = true) : ∃ k : Nat, n = k := by
  have := (isSerB_n h).1
  exact ⟨n.toNat, by omega⟩
theorem rt_in4 (n : Nat) : inF (rtL n) := srt_in (lst_in _ _) _
theorem conj_b (xs : List Int) (z : Int) : (conjK xs z xs.length).length = xs.length ∧ ∀ x ∈ conjK xs z xs.length, -1 ≤ x ∧ x ≤ 55441 := ⟨conjK_len _ _ _, fun x hx => by
  obtain ⟨i, hi, rfl⟩ := List.mem_map.1 hx
  have := modF (geti xs (i : Nat) * pwF z (i : Nat))
  omega⟩
def IsTwo (T : TypeId) (r : AV) (os : List AO) : Prop := ∃ n a m b, r = .tup [.agg [.val (.int .i64 n), .own 0], .agg [.val (.int .i64 m), .own 1]] ∧ DrA n a ∧ DrA m b ∧ os = [.sli T a, .sli T b]

set_option maxHeartbeats 16000000 in
theorem l16Two_c (bs : List Int) (hl : bs.length ≤ 1048576) (hbs : ∀ i, 0 ≤ geti bs i ∧ geti bs i ≤ 255) : AFn Try.prog 27 [.ro (byR bs)] (IsTwo 2) := by
  have hf := l01From_c bs hl hbs
  have hd := l16DrawAny_c bs hl hbs
  have h4 := l01Next_c bs hl hbs 4 (by omega)
  have h5 := l01Next_c bs hl hbs 5 (by omega)
  have h3 := l01Next_c bs hl hbs 3 (by omega)
  (refine AFn.start Try.func27 Try.ntmps27 rfl (by kernel_rfl) fun hk => ?_; simp only [Env.start, enumF, List.length_cons, List.length_nil, Nat.reduceAdd, Nat.reduceSub, List.cons_append, List.nil_append])
  repeat' (first | (apply AOps.nil; try simp only [List.nil_append, List.cons_append, List.set_cons_zero, List.set_cons_succ, List.length_cons, List.length_nil, Nat.reduceAdd, AV.sh, AV.sh1, AV.sh0, AO.sh, List.map_cons, List.map_nil, Nat.zero_add, Nat.add_zero, setAll]) | (apply w_move; exact rfl; exact rfl) | (apply w_assign; exact rfl; exact rfl) | apply AWp.seq | apply AWp.region | (apply w_callsof (hf); exact rfl; (exact rdB_by _); exact rfl; try simp only [List.nil_append, List.cons_append, List.set_cons_zero, List.set_cons_succ, List.length_cons, List.length_nil, Nat.reduceAdd, AV.sh, AV.sh1, AV.sh0, AO.sh, List.map_cons, List.map_nil, Nat.zero_add, Nat.add_zero, setAll]) | (apply w_callsod (hd); exact rfl; exact rfl; (exact rdB_by _); exact rfl; (rintro n xs hP; try simp only [List.nil_append, List.cons_append, List.set_cons_zero, List.set_cons_succ, List.length_cons, List.length_nil, Nat.reduceAdd, AV.sh, AV.sh1, AV.sh0, AO.sh, List.map_cons, List.map_nil, Nat.zero_add, Nat.add_zero, setAll])) | (apply w_ldst; iterate 5 exact rfl) | (apply w_alst; iterate 2 exact rfl) | (apply w_stst; iterate 5 exact rfl))
  have his := l16Is_c n xs
  obtain ⟨p1, p2, p3⟩ := hP
  have hA : DrA n xs := ⟨p1, p2, p3⟩
  by_cases hS : isSerB n xs = true
  · rw [hS] at his
    repeat' (first | (apply AOps.nil; try simp only [List.nil_append, List.cons_append, List.set_cons_zero, List.set_cons_succ, List.length_cons, List.length_nil, Nat.reduceAdd, AV.sh, AV.sh1, AV.sh0, AO.sh, List.map_cons, List.map_nil, Nat.zero_add, Nat.add_zero, setAll]) | (apply w_move; exact rfl; exact rfl) | apply AWp.seq | ((apply AWp.condP; exact rfl) <;> intro h) | apply AWp.skip | (apply w_pickF; exact rfl; exact rfl; exact rfl) | ((apply w_not); iterate 2 exact rfl) | (apply w_call (his); exact rfl; exact rfl; focus ((repeat (first | exact im_nil | refine im_cons rfl (im_agg2 (.val _) (.sli rfl)) ?_)); done)) | (apply w_callso (h4); exact rfl; exact rfl; exact rfl; exact rfl; (exact rdB_by _); (rintro _ ⟨x, rfl, hx⟩)) | ((apply w_eql); iterate 3 exact rfl))
    · refine AWp.regionAI (ι := Int × List Int) (fun s => DrA s.1 s.2) (fun s => ⟨66, [(0, .ro (byR bs)), (2, .optr 0 0), (3, .optr 1 0)]⟩) (fun s => [.bx 26 [.val (.int .i64 n), .own 3], .bx 26 [.val (.int .i64 s.1), .own 5], skO 73 bs (.ro (byR bs)), .sli 2 xs, .bx 26 [.val (.int .i64 n), .own 3], .sli 2 s.2]) (by kernel_rfl) rfl rfl ?_ ?_
      · repeat' (first | (apply AOps.nil; try simp only [List.nil_append, List.cons_append, List.set_cons_zero, List.set_cons_succ, List.length_cons, List.length_nil, Nat.reduceAdd, AV.sh, AV.sh1, AV.sh0, AO.sh, List.map_cons, List.map_nil, Nat.zero_add, Nat.add_zero, setAll]) | (apply w_move; exact rfl; exact rfl) | (apply w_callsod (hd); exact rfl; exact rfl; (exact rdB_by _); exact rfl; (rintro m ys hM; try simp only [List.nil_append, List.cons_append, List.set_cons_zero, List.set_cons_succ, List.length_cons, List.length_nil, Nat.reduceAdd, AV.sh, AV.sh1, AV.sh0, AO.sh, List.map_cons, List.map_nil, Nat.zero_add, Nat.add_zero, setAll])) | (apply w_ldst; iterate 5 exact rfl) | (apply w_stst; iterate 5 exact rfl) | apply AllOf.nil | (apply AllOf.cons; exact rfl) | (apply AAny.take; exact rfl; exact rfl; kernel_rfl; kernel_rfl) | (apply AAny.all; exact rfl) | (apply AAny.done; exact rfl))
        all_goals refine ⟨(m, ys), hM, ?_⟩
        all_goals (apply Or.inl; refine ⟨lee rfl ?_, ?_, rfl, rfl⟩; (focus ((repeat (first | exact le_nil | refine le_eq rfl rfl ?_)); done)); (focus ((repeat (first | exact lo_nil | refine lo_eq rfl ?_)); done)))
      · rintro ⟨m, ys⟩ hM
        repeat' (apply AWp.ret)
        all_goals exact ⟨_, _, _, .cc Try.results27 rfl rfl rfl rfl rfl rfl, .ss rfl rfl rfl, n, xs, m, ys, rfl, hA, hM, rfl⟩
    · obtain ⟨N, rfl⟩ := ser_nat4 hS
      have hN := isSerB_n hS
      have hown := l01Own_c xs (by omega)
      have hrt := l16Roots_c N (by omega)
      have hzr : ∀ i, 0 ≤ geti (rtL N) i ∧ geti (rtL N) i ≤ 55440 := rt_in4 N
      have hcj := fun z hz => l16Conjugate_c N xs hS z hz
      have hrl := rtL_len N
      have hnr := l01Next_c bs hl hbs N (by omega)
      rw [← hrl] at hnr
      generalize rtL N = R at *
      refine AWp.regionAI (ι := Unit) (fun _ => True) (fun _ => ⟨66, [(0, .ro (byR bs)), (2, .optr 0 0), (3, .optr 1 0), (4, .optr 2 0), (5, .optr 4 0), (6, .optr 6 0)]⟩) (fun _ => [.bx 26 [.val (.int .i64 0), .val (.slice none 0 0)], .bx 26 [.val (.int .i64 0), .val (.slice none 0 0)], skO 73 bs (.ro (byR bs)), .sli 2 xs, .bx 26 [.val (.int .i64 (N : Int)), .own 3], .sli 2 xs, .bx 26 [.val (.int .i64 (N : Int)), .own 5]]) (by kernel_rfl) rfl rfl ?_ ?_
      · repeat' (first | (apply AOps.nil; try simp only [List.nil_append, List.cons_append, List.set_cons_zero, List.set_cons_succ, List.length_cons, List.length_nil, Nat.reduceAdd, AV.sh, AV.sh1, AV.sh0, AO.sh, List.map_cons, List.map_nil, Nat.zero_add, Nat.add_zero, setAll]) | (apply w_callm (hown); (focus ((repeat (first | exact im_nil | refine im_cons rfl (.sli rfl) ?_)); done)); rintro r os0 ⟨rfl, rfl⟩; try simp only [List.nil_append, List.cons_append, List.set_cons_zero, List.set_cons_succ, List.length_cons, List.length_nil, Nat.reduceAdd, AV.sh, AV.sh1, AV.sh0, AO.sh, List.map_cons, List.map_nil, Nat.zero_add, Nat.add_zero, setAll]) | ((first | apply w_ld | apply w_fa); iterate 3 exact rfl) | (apply w_ldb; iterate 5 exact rfl) | (apply w_build2; exact rfl; exact rfl; exact rfl; (exact one_val rfl rfl); (exact one_own rfl True.intro)) | (apply w_alst; iterate 2 exact rfl) | (apply w_stst; iterate 5 exact rfl) | apply AllOf.nil | (apply AllOf.cons; exact rfl) | (apply AAny.take; exact rfl; exact rfl; kernel_rfl; kernel_rfl) | (apply AAny.all; exact rfl) | (apply AAny.done; exact rfl))
        all_goals refine ⟨(), trivial, ?_⟩
        all_goals first
          | (apply Or.inl; refine ⟨lee rfl ?_, ?_, rfl, rfl⟩; (focus ((repeat (first | exact le_nil | refine le_eq rfl rfl ?_)); done)); (focus ((repeat (first | exact lo_nil | refine lo_eq rfl ?_)); done)))
          | (apply Or.inr; refine ⟨[0, 1, 2, 3, 4, 6, 5], ⟨by decide, fun x hx => Nat.lt_of_lt_of_le ((by decide : ∀ x ∈ ([0, 1, 2, 3, 4, 6, 5] : List Nat), x < 7) x hx) (Nat.le_of_ble_eq_true rfl)⟩, lee rfl ?_, ?_, rfl, rfl⟩; (focus ((repeat (first | exact le_nil | refine le_eq rfl rfl ?_)); done)); (focus ((repeat (first | exact lo_nil | refine lo_eq rfl ?_)); done)))
      rintro _ _
      repeat' (first | (apply AOps.nil; try simp only [List.nil_append, List.cons_append, List.set_cons_zero, List.set_cons_succ, List.length_cons, List.length_nil, Nat.reduceAdd, AV.sh, AV.sh1, AV.sh0, AO.sh, List.map_cons, List.map_nil, Nat.zero_add, Nat.add_zero, setAll]) | (apply w_assign; exact rfl; exact rfl) | apply AWp.seq | apply AWp.region | (apply w_callm (hrt); (focus ((repeat (first | exact im_nil | refine im_cons rfl (.val _) ?_)); done)); rintro r os0 ⟨rfl, rfl⟩; try simp only [List.nil_append, List.cons_append, List.set_cons_zero, List.set_cons_succ, List.length_cons, List.length_nil, Nat.reduceAdd, AV.sh, AV.sh1, AV.sh0, AO.sh, List.map_cons, List.map_nil, Nat.zero_add, Nat.add_zero, setAll]) | ((first | apply w_ld | apply w_fa); iterate 3 exact rfl) | (apply w_ldb; iterate 5 exact rfl))
      refine AWp.regionAI (ι := List Int) (fun ys => ys.length = xs.length ∧ ∀ x ∈ ys, -1 ≤ x ∧ x ≤ 55441) (fun _ => ⟨66, [(0, .ro (byR bs)), (2, .optr 0 0), (3, .optr 1 0), (4, .optr 2 0), (5, .optr 4 0), (6, .optr 5 0)]⟩) (fun ys => [.bx 26 [.val (.int .i64 0), .val (.slice none 0 0)], .bx 26 [.val (.int .i64 0), .val (.slice none 0 0)], skO 73 bs (.ro (byR bs)), .sli 2 xs, .bx 26 [.val (.int .i64 (N : Int)), .own 3], .bx 26 [.val (.int .i64 (N : Int)), .own 6], .sli 2 ys]) (by kernel_rfl) rfl rfl ?_ ?_
      · repeat' (first | (apply AOps.nil; try simp only [List.nil_append, List.cons_append, List.set_cons_zero, List.set_cons_succ, List.length_cons, List.length_nil, Nat.reduceAdd, AV.sh, AV.sh1, AV.sh0, AO.sh, List.map_cons, List.map_nil, Nat.zero_add, Nat.add_zero, setAll]) | (apply w_move; exact rfl; exact rfl) | (apply w_len; exact rfl; exact rfl; first | exact .ints _ | exact .intss _ | exact .sli rfl | exact .sls rfl | exact .slr rfl | exact .orow rfl | exact .nil) | (apply w_callso (hnr); exact rfl; exact rfl; exact rfl; exact rfl; (exact rdB_by _); (rintro _ ⟨x2, rfl, hx2⟩)) | (apply w_callm ((hcj _ (hzr _))); (focus ((repeat (first | exact im_nil | refine im_cons rfl (.val _) ?_ | refine im_cons rfl (.sli rfl) ?_)); done)); rintro r os0 ⟨rfl, rfl⟩; try simp only [List.nil_append, List.cons_append, List.set_cons_zero, List.set_cons_succ, List.length_cons, List.length_nil, Nat.reduceAdd, AV.sh, AV.sh1, AV.sh0, AO.sh, List.map_cons, List.map_nil, Nat.zero_add, Nat.add_zero, setAll]) | omega | ((first | apply w_idx | apply w_ld | apply w_fa); iterate 3 exact rfl) | (apply w_idxo; exact rfl; exact rfl; (exact .sli rfl); exact rfl) | (apply w_ldo; iterate 4 exact rfl) | (apply w_ldb; iterate 5 exact rfl) | (apply w_stbo; exact rfl; exact rfl; exact rfl; exact rfl; exact rfl; exact True.intro) | apply AllOf.nil | (apply AllOf.cons; exact rfl) | (apply AAny.take; exact rfl; exact rfl; kernel_rfl; kernel_rfl) | (apply AAny.all; exact rfl) | (apply AAny.done; exact rfl))
        all_goals
          apply Exists.intro
          apply And.intro
          rotate_left 1
          · (apply Or.inr; refine ⟨[0, 1, 2, 3, 4, 6, 8], ⟨by decide, fun x hx => Nat.lt_of_lt_of_le ((by decide : ∀ x ∈ ([0, 1, 2, 3, 4, 6, 8] : List Nat), x < 9) x hx) (Nat.le_of_ble_eq_true rfl)⟩, lee rfl ?_, ?_, rfl, rfl⟩; (focus ((repeat (first | exact le_nil | refine le_eq rfl rfl ?_)); done)); (focus ((repeat (first | exact lo_nil | refine lo_eq rfl ?_)); done)))
          · exact conj_b _ _
      rintro ys ⟨y1, y2⟩
      have hnl := l01Next_c bs hl hbs (ys.length - 1) (by omega)
      have hset : ∀ (j : Nat) (v : Int), -1 ≤ v ∧ v ≤ 55441 → (ys.set j v).length = xs.length ∧ ∀ z ∈ ys.set j v, -1 ≤ z ∧ z ≤ 55441 := fun j v hv => ⟨by rw [List.length_set]; exact y1, fun z hz => by
        rcases List.mem_or_eq_of_mem_set hz with hz | rfl
        · exact y2 z hz
        · exact hv⟩
      have hB : DrA N ys := ⟨p1, by omega, y2⟩
      repeat' (first | (apply AOps.nil; try simp only [List.nil_append, List.cons_append, List.set_cons_zero, List.set_cons_succ, List.length_cons, List.length_nil, Nat.reduceAdd, AV.sh, AV.sh1, AV.sh0, AO.sh, List.map_cons, List.map_nil, Nat.zero_add, Nat.add_zero, setAll]) | ((apply AOps.splitP; exact rfl; exact rfl) <;> intro h) | (apply w_move; exact rfl; exact rfl) | (apply w_assign; exact rfl; exact rfl) | apply AWp.seq | apply AWp.region | ((apply AWp.condP; exact rfl) <;> intro h) | (apply AWp.condF; exact rfl) | apply AWp.skip | (apply w_skip; exact rfl) | (apply w_pickT; exact rfl; exact rfl; exact rfl) | (apply w_pickF; exact rfl; exact rfl; exact rfl) | (apply w_len; exact rfl; exact rfl; first | exact .ints _ | exact .intss _ | exact .sli rfl | exact .sls rfl | exact .slr rfl | exact .orow rfl | exact .nil) | (apply w_callso (h5); exact rfl; exact rfl; exact rfl; exact rfl; (exact rdB_by _); (rintro _ ⟨x, rfl, hx⟩)) | ((first | apply w_gtr | apply w_ld | apply w_fa); iterate 3 exact rfl) | (apply w_ldb; iterate 5 exact rfl))
      · refine AWp.regionAI (ι := List Int) (fun ys => ys.length = xs.length ∧ ∀ x ∈ ys, -1 ≤ x ∧ x ≤ 55441) (fun _ => ⟨66, [(0, .ro (byR bs)), (2, .optr 0 0), (3, .optr 1 0), (4, .optr 2 0), (5, .optr 4 0), (6, .optr 5 0)]⟩) (fun ys => [.bx 26 [.val (.int .i64 0), .val (.slice none 0 0)], .bx 26 [.val (.int .i64 0), .val (.slice none 0 0)], skO 73 bs (.ro (byR bs)), .sli 2 xs, .bx 26 [.val (.int .i64 (N : Int)), .own 3], .bx 26 [.val (.int .i64 (N : Int)), .own 6], .sli 2 ys]) (by kernel_rfl) rfl rfl ?_ ?_
        · repeat' (first | (apply AOps.nil; try simp only [List.nil_append, List.cons_append, List.set_cons_zero, List.set_cons_succ, List.length_cons, List.length_nil, Nat.reduceAdd, AV.sh, AV.sh1, AV.sh0, AO.sh, List.map_cons, List.map_nil, Nat.zero_add, Nat.add_zero, setAll]) | (apply w_move; exact rfl; exact rfl) | (apply w_callso (hnl); exact rfl; exact rfl; exact rfl; exact rfl; (exact rdB_by _); (rintro _ ⟨x2, rfl, hx2⟩)) | (apply w_callso (h3); exact rfl; exact rfl; exact rfl; exact rfl; (exact rdB_by _); (rintro _ ⟨x3, rfl, hx3⟩)) | omega | ((first | apply w_add | apply w_sub | apply w_idx | apply w_ld | apply w_fa); iterate 3 exact rfl) | (apply w_idxo; exact rfl; exact rfl; (exact .sli rfl); exact rfl) | (apply w_ldb; iterate 5 exact rfl) | (apply w_sti; exact rfl; exact rfl; rotate_left 1; exact rfl; rotate_left 2) | apply AllOf.nil | (apply AllOf.cons; exact rfl) | (apply AAny.take; exact rfl; exact rfl; kernel_rfl; kernel_rfl) | (apply AAny.all; exact rfl) | (apply AAny.done; exact rfl) | (apply inI_of <;> omega))
          all_goals
            apply Exists.intro
            apply And.intro
            rotate_left 1
            · (apply Or.inl; refine ⟨lee rfl ?_, ?_, rfl, rfl⟩; (focus ((repeat (first | exact le_nil | refine le_eq rfl rfl ?_)); done)); (focus ((repeat (first | exact lo_nil | refine lo_eq rfl ?_)); done)))
            · exact hset _ _ (by omega)
        rintro zs ⟨z1, z2⟩
        have hC : DrA N zs := ⟨p1, by omega, z2⟩
        repeat' (apply AWp.seq)
        refine AWp.regionAI (ι := Unit) (fun _ => True) (fun _ => ⟨66, [(0, .ro (byR bs)), (2, .optr 0 0), (3, .optr 1 0)]⟩) (fun _ => [.bx 26 [.val (.int .i64 (N : Int)), .own 3], .bx 26 [.val (.int .i64 (N : Int)), .own 6], skO 73 bs (.ro (byR bs)), .sli 2 xs, .bx 26 [.val (.int .i64 (N : Int)), .own 3], .bx 26 [.val (.int .i64 (N : Int)), .own 6], .sli 2 zs]) (by kernel_rfl) rfl rfl ?_ ?_
        · repeat' (first | (apply AOps.nil; try simp only [List.nil_append, List.cons_append, List.set_cons_zero, List.set_cons_succ, List.length_cons, List.length_nil, Nat.reduceAdd, AV.sh, AV.sh1, AV.sh0, AO.sh, List.map_cons, List.map_nil, Nat.zero_add, Nat.add_zero, setAll]) | (apply w_ldst; iterate 5 exact rfl) | (apply w_stst; iterate 5 exact rfl) | apply AllOf.nil | (apply AllOf.cons; exact rfl) | (apply AAny.all; exact rfl) | (apply AAny.done; exact rfl))
          all_goals refine ⟨(), trivial, ?_⟩
          all_goals (apply Or.inl; refine ⟨lee rfl ?_, ?_, rfl, rfl⟩; (focus ((repeat (first | exact le_nil | refine le_eq rfl rfl ?_)); done)); (focus ((repeat (first | exact lo_nil | refine lo_eq rfl ?_)); done)))
        · rintro _ _
          repeat' (apply AWp.ret)
          all_goals exact ⟨_, _, _, .cc Try.results27 rfl rfl rfl rfl rfl rfl, .ss rfl rfl rfl, N, xs, N, zs, rfl, hA, hC, rfl⟩
      · refine AWp.regionAI (ι := Unit) (fun _ => True) (fun _ => ⟨66, [(0, .ro (byR bs)), (2, .optr 0 0), (3, .optr 1 0)]⟩) (fun _ => [.bx 26 [.val (.int .i64 (N : Int)), .own 3], .bx 26 [.val (.int .i64 (N : Int)), .own 6], skO 73 bs (.ro (byR bs)), .sli 2 xs, .bx 26 [.val (.int .i64 (N : Int)), .own 3], .bx 26 [.val (.int .i64 (N : Int)), .own 6], .sli 2 ys]) (by kernel_rfl) rfl rfl ?_ ?_
        · repeat' (first | (apply AOps.nil; try simp only [List.nil_append, List.cons_append, List.set_cons_zero, List.set_cons_succ, List.length_cons, List.length_nil, Nat.reduceAdd, AV.sh, AV.sh1, AV.sh0, AO.sh, List.map_cons, List.map_nil, Nat.zero_add, Nat.add_zero, setAll]) | (apply w_ldst; iterate 5 exact rfl) | (apply w_stst; iterate 5 exact rfl) | apply AllOf.nil | (apply AllOf.cons; exact rfl) | (apply AAny.all; exact rfl) | (apply AAny.done; exact rfl))
          all_goals refine ⟨(), trivial, ?_⟩
          all_goals (apply Or.inl; refine ⟨lee rfl ?_, ?_, rfl, rfl⟩; (focus ((repeat (first | exact le_nil | refine le_eq rfl rfl ?_)); done)); (focus ((repeat (first | exact lo_nil | refine lo_eq rfl ?_)); done)))
        · rintro _ _
          repeat' (apply AWp.ret)
          all_goals exact ⟨_, _, _, .cc Try.results27 rfl rfl rfl rfl rfl rfl, .ss rfl rfl rfl, N, xs, N, ys, rfl, hA, hB, rfl⟩
      · refine AWp.regionAI (ι := Unit) (fun _ => True) (fun _ => ⟨66, [(0, .ro (byR bs)), (2, .optr 0 0), (3, .optr 1 0)]⟩) (fun _ => [.bx 26 [.val (.int .i64 (N : Int)), .own 3], .bx 26 [.val (.int .i64 (N : Int)), .own 6], skO 73 bs (.ro (byR bs)), .sli 2 xs, .bx 26 [.val (.int .i64 (N : Int)), .own 3], .bx 26 [.val (.int .i64 (N : Int)), .own 6], .sli 2 ys]) (by kernel_rfl) rfl rfl ?_ ?_
        · repeat' (first | (apply AOps.nil; try simp only [List.nil_append, List.cons_append, List.set_cons_zero, List.set_cons_succ, List.length_cons, List.length_nil, Nat.reduceAdd, AV.sh, AV.sh1, AV.sh0, AO.sh, List.map_cons, List.map_nil, Nat.zero_add, Nat.add_zero, setAll]) | (apply w_ldst; iterate 5 exact rfl) | (apply w_stst; iterate 5 exact rfl) | apply AllOf.nil | (apply AllOf.cons; exact rfl) | (apply AAny.all; exact rfl) | (apply AAny.done; exact rfl))
          all_goals refine ⟨(), trivial, ?_⟩
          all_goals (apply Or.inl; refine ⟨lee rfl ?_, ?_, rfl, rfl⟩; (focus ((repeat (first | exact le_nil | refine le_eq rfl rfl ?_)); done)); (focus ((repeat (first | exact lo_nil | refine lo_eq rfl ?_)); done)))
        · rintro _ _
          repeat' (apply AWp.ret)
          all_goals exact ⟨_, _, _, .cc Try.results27 rfl rfl rfl rfl rfl rfl, .ss rfl rfl rfl, N, xs, N, ys, rfl, hA, hB, rfl⟩
  · have hS : isSerB n xs = false := by
      cases h : isSerB n xs with
      | false => rfl
      | true => exact absurd h hS
    rw [hS] at his
    repeat' (first | (apply AOps.nil; try simp only [List.nil_append, List.cons_append, List.set_cons_zero, List.set_cons_succ, List.length_cons, List.length_nil, Nat.reduceAdd, AV.sh, AV.sh1, AV.sh0, AO.sh, List.map_cons, List.map_nil, Nat.zero_add, Nat.add_zero, setAll]) | (apply w_move; exact rfl; exact rfl) | apply AWp.seq | (apply AWp.condT; exact rfl) | (apply w_skip; exact rfl) | (apply w_pickT; exact rfl; exact rfl; exact rfl) | ((apply w_not); iterate 2 exact rfl) | (apply w_call (his); exact rfl; exact rfl; focus ((repeat (first | exact im_nil | refine im_cons rfl (im_agg2 (.val _) (.sli rfl)) ?_)); done)))
    refine AWp.regionAI (ι := Int × List Int) (fun s => DrA s.1 s.2) (fun s => ⟨66, [(0, .ro (byR bs)), (2, .optr 0 0), (3, .optr 1 0)]⟩) (fun s => [.bx 26 [.val (.int .i64 n), .own 3], .bx 26 [.val (.int .i64 s.1), .own 5], skO 73 bs (.ro (byR bs)), .sli 2 xs, .bx 26 [.val (.int .i64 n), .own 3], .sli 2 s.2]) (by kernel_rfl) rfl rfl ?_ ?_
    · repeat' (first | (apply AOps.nil; try simp only [List.nil_append, List.cons_append, List.set_cons_zero, List.set_cons_succ, List.length_cons, List.length_nil, Nat.reduceAdd, AV.sh, AV.sh1, AV.sh0, AO.sh, List.map_cons, List.map_nil, Nat.zero_add, Nat.add_zero, setAll]) | (apply w_move; exact rfl; exact rfl) | (apply w_callsod (hd); exact rfl; exact rfl; (exact rdB_by _); exact rfl; (rintro m ys hM; try simp only [List.nil_append, List.cons_append, List.set_cons_zero, List.set_cons_succ, List.length_cons, List.length_nil, Nat.reduceAdd, AV.sh, AV.sh1, AV.sh0, AO.sh, List.map_cons, List.map_nil, Nat.zero_add, Nat.add_zero, setAll])) | (apply w_ldst; iterate 5 exact rfl) | (apply w_stst; iterate 5 exact rfl) | apply AllOf.nil | (apply AllOf.cons; exact rfl) | (apply AAny.take; exact rfl; exact rfl; kernel_rfl; kernel_rfl) | (apply AAny.all; exact rfl) | (apply AAny.done; exact rfl))
      all_goals refine ⟨(m, ys), hM, ?_⟩
      all_goals (apply Or.inl; refine ⟨lee rfl ?_, ?_, rfl, rfl⟩; (focus ((repeat (first | exact le_nil | refine le_eq rfl rfl ?_)); done)); (focus ((repeat (first | exact lo_nil | refine lo_eq rfl ?_)); done)))
    · rintro ⟨m, ys⟩ hM
      repeat' (apply AWp.ret)
      all_goals exact ⟨_, _, _, .cc Try.results27 rfl rfl rfl rfl rfl rfl, .ss rfl rfl rfl, n, xs, m, ys, rfl, hA, hM, rfl⟩
end Go.Proofs.Ytkojhaoflgdjmaa
/-
  Functions that make a source of numbers out of bytes and a number. No condition.
-/
namespace Go.Proofs.Ytkojhaoflgdjmaa
open Go Go.RowKit

def AFnG (P : Program) (f : FuncId) (T : TypeId) (bs : List Int) (u : Value) : Prop :=
  HasBody P f ∧ ∀ w vC, BysAt w (fun _ => True) vC bs → Calls P f #[vC, u] w fun ev w' => ∃ g0 at_ h, ev = .returned g0.v ∧ SOk bs at_ h ∧ Sk T w.heap.size w' g0 vC at_ h ∧ Below w.heap.size w w'
theorem AFnG.of {P : Program} {f : FuncId} {fn : Func} {c : Code} {T : TypeId} {bs : List Int} {u : Value} {n : Nat} (hf : P.funcs[f]? = some fn) (hb : fn.body = some c) (hnm : (fn.name == "runtime.NumGoroutine") = false) (hn : fn.ntmps - 2 = n)
    (h : ∀ vC, AWp P c (fun _ _ => False) (fun _ _ _ => False) (fun env os => ∃ k at_ h, ResIs P fn env os (.optr k 0) ∧ os[k]? = some (skL T bs vC at_ h) ∧ SOk bs at_ h) (Env.start [.ro (roB vC bs), .val u] n) []) : AFnG P f T bs u := by
  refine ⟨⟨fn, c, hf, hnm, hb⟩, fun w vC hvC => calls_of_wp hf hb ?_⟩
  rw [show fn.ntmps - (#[vC, u] : Array Value).size = n from hn]
  have hvs : RVs w [.ro (roB vC bs), .val u] #[vC, u] := ⟨rfl, fun i => by
    match i with
    | 0 => exact .ro ⟨rfl, hvC⟩
    | 1 => exact .val _
    | i + 2 => exact .any _⟩
  refine wp_mono (h vC w.heap.size w w [] _ (Rel.start hvs n) (Below.refl _ _)) ?_
  intro e a w' hq
  cases e with
  | normal => obtain ⟨_, _, _, _, _, _, hx⟩ := hq; exact hx.elim
  | exit j => obtain ⟨_, _, _, _, _, _, hx⟩ := hq; exact hx.elim
  | ret =>
    obtain ⟨env, os, gs, hr, hd, hbel, k, at_, hh, h1, h2, h3⟩ := hq
    obtain ⟨u, hu, hv⟩ := h1 _ _ _ _ hr
    cases hv with
    | @optr _ _ g hg =>
      obtain ⟨cs, d1, d2, d3, d4, d5, d6, d7⟩ := hr.ho _ _ _ hg h2
      match cs, d5 with
      | [z0, z1, z2], _ =>
        have q0 := d7 0
        have q1 := d7 1
        have q2 := d7 2
        have w0 : z0 = vC := by cases q0 with | ro h => exact h.1
        have w1 : z1 = .int .i64 at_ := by cases q1; rfl
        have w2 : z2 = .int .u64 hh := by cases q2; rfl
        subst w0 w1 w2
        exact ⟨hd, _, hu, g, at_, hh, by rw [d4], h3, ⟨d1, d6 _ (by simp), d2, d3, d4⟩, hbel⟩
  | goto l => exact (hq : False).elim
  | panic ch => exact (hq : False).elim
  | outgrown => exact (hq : False).elim
theorem AFnG.start {P : Program} {f : FuncId} {fn : Func} {nt : Nat} {T : TypeId} {bs : List Int} {u : Value} (hf : P.funcs[f]? = some fn) (hnt : fn.ntmps = nt) {c : Code} (hb : fn.body = some c) (hnm : (fn.name == "runtime.NumGoroutine") = false)
    (h : ∀ vC, AWp P c (fun _ _ => False) (fun _ _ _ => False) (fun env os => ∃ k at_ h, ResIs P fn env os (.optr k 0) ∧ os[k]? = some (skL T bs vC at_ h) ∧ SOk bs at_ h) (Env.start [.ro (roB vC bs), .val u] (nt - 2)) []) : AFnG P f T bs u :=
  AFnG.of hf hb hnm (by rw [hnt]) h
section
variable {P : Program} {env : Env} {os : List AO} {d : Option Tmp} {ty : TypeId} {pos : String} {af : Array Edge} {g : Option (Nat × Bool)}
theorem c_callsog {f : FuncId} {T : TypeId} {bs : List Int} {u : Value} {a0 : AV} (hc : AFnG P f T bs u) {x y : Operand} {ats : Array TypeId} (hx : AV.ev env x = a0) (hy : AV.ev env y = .val u) (ra : RdB a0 bs) :
    COp P ⟨d, .call { callee := .value (.func f), args := #[x, y], argTypes := ats }, ty, pos, af, g⟩ env os (fun r e' o => r = .optr os.length 0 ∧ e' = env ∧ o = os ++ [skO T bs a0]) := by
  intro base w gs tm hr
  have t0 := hr.ev x
  rw [hx] at t0
  have hb0 := ra _ _ _ _ t0
  have ey := hr.evv hy
  refine ⟨f, _, run_call hc.1 [x, y] ats _ rfl w, ?_⟩
  have eargs : ([x, y].map (Act.eval ⟨tm, []⟩)).toArray = #[Act.eval ⟨tm, []⟩ x, u] := by simp [ey]
  rw [eargs]
  refine (hc.2 w (Act.eval ⟨tm, []⟩ x) (hb0.mono fun b hb _ => ⟨trivial, rfl⟩)).mono ?_
  rintro ev w' ⟨g0, at', h', rfl, ⟨⟨k1, k2⟩, k3, k4⟩, hSk, hbel⟩
  obtain ⟨c1, c1', c2, c3, c4⟩ := hSk
  have hlt : g0.b < w'.heap.size := (Array.getElem?_eq_some_iff.1 c1).1
  have hno : skO T bs a0 ≠ .dead → ∀ b, b ∈ g0.bl → w.heap.size ≤ b ∧ b < w'.heap.size := fun _ b hb => by
    rw [c3] at hb
    simp only [List.mem_cons, List.not_mem_nil, or_false] at hb
    subst hb; exact ⟨c2, hlt⟩
  have k := keeps_new (o := skO T bs a0) hr.hl hbel hno
  have hgs : ∀ (i : Nat) g', gs[i]? = some g' → (gs ++ [g0])[i]? = some g' := fun i g' e => by
    rw [List.getElem?_append_left (List.getElem?_eq_some_iff.1 e).1]; exact e
  refine ⟨g0.v, .optr os.length 0, env, _, gs ++ [g0], rfl, ⟨rfl, rfl, rfl⟩, hr.new hbel _ g0 hno ?_, ?_, hbel.mono hr.hb⟩
  · refine ⟨[Act.eval ⟨tm, []⟩ x, .int .i64 at', .int .u64 h'], c1, Nat.le_trans hr.hb c2, c3, c4, rfl, ?_, fun j => ?_⟩
    · intro z hz
      simp only [List.mem_cons, List.not_mem_nil, or_false] at hz
      rcases hz with rfl | rfl | rfl
      · exact c1'
      · rfl
      · rfl
    · match j with
      | 0 => exact t0.mono k hgs
      | 1 => exact .ro ⟨at', rfl, k1, k2⟩
      | 2 => exact .ro ⟨h', rfl, k3, k4⟩
      | j + 3 => exact .any _
  · rw [c4, ← hr.hl]
    exact .optr len_new
end
section
variable {P : Program} {env : Env} {os : List AO} {d : Tmp} {ty : TypeId} {pos : String} {af : Array Edge} {l rest : List Oper} {K : APost}
theorem w_callsog {f : FuncId} {T : TypeId} {bs : List Int} {u : Value} {a0 : AV} {m : Nat} {x y : Operand} {ats : Array TypeId} (hc : AFnG P f T bs u) (hx : evo env x = some a0) (hy : evo env y = some (.val u)) (ra : RdB a0 bs) (hm : os.length = m)
    (h' : AOps P .seq l rest K (env.up d (.optr m 0)) (os ++ [skO T bs a0])) :
    AOps P .seq l (⟨some d, .call { callee := .value (.func f), args := #[x, y], argTypes := ats }, ty, pos, af, none⟩ :: rest) K env os := by
  subst hm
  exact AOps.ca (c_callsog hc (ev_of hx) (ev_of hy) ra) fun r e' o ⟨e1, e2, e5⟩ => by subst e1; subst e2; subst e5; exact h'
end
end Go.Proofs.Ytkojhaoflgdjmaa
