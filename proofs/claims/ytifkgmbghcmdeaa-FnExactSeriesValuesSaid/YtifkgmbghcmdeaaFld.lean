/-
  The field of 55441 elements: powers by squaring, inverses. No condition.
-/
import Derived.WalkKit
namespace Go.Proofs.Ytifkgmbghcmdeaa
set_option linter.unusedSimpArgs false
set_option linter.unusedVariables false

def cop (n : Nat) : Nat → Bool
  | 0 => true
  | k + 1 => Nat.beq (Nat.gcd (k + 1) n) 1 && cop n k
theorem cop_get {n : Nat} : ∀ {k : Nat}, cop n k = true → ∀ a, 0 < a → a ≤ k → Nat.gcd a n = 1
  | 0, _, a, h0, h1 => by omega
  | k + 1, h, a, h0, h1 => by
    simp only [cop, Bool.and_eq_true] at h
    by_cases e : a = k + 1
    · subst e; exact Nat.eq_of_beq_eq_true h.1
    · exact cop_get h.2 a h0 (by omega)
def copB (n lo : Nat) : Nat → Bool
  | 0 => true
  | k + 1 => Nat.beq (Nat.gcd (lo + k) n) 1 && copB n lo k
theorem copB_get {n lo : Nat} : ∀ {k : Nat}, copB n lo k = true → ∀ a, lo ≤ a → a < lo + k → Nat.gcd a n = 1
  | 0, _, a, h0, h1 => by omega
  | k + 1, h, a, h0, h1 => by
    simp only [copB, Bool.and_eq_true] at h
    by_cases e : a = lo + k
    · subst e; exact Nat.eq_of_beq_eq_true h.1
    · exact copB_get h.2 a h0 (by omega)
theorem copsmall : copB 55441 1 235 = true := by decide +kernel
/-- 55441 is a prime: what divides a product divides a factor. -/
theorem coprime_p {a : Nat} (h0 : 0 < a) (h1 : a < 55441) : Nat.gcd a 55441 = 1 := by
  -- a common divisor d: d or 55441 / d is at most 235
  have hd := Nat.gcd_dvd_right a 55441
  have hda := Nat.gcd_dvd_left a 55441
  generalize hg : Nat.gcd a 55441 = d at hd hda
  obtain ⟨m, hm⟩ := hd
  have hdle := Nat.le_of_dvd h0 hda
  rcases Nat.lt_or_ge d 236 with h | h
  · have hd0 : 0 < d := Nat.pos_of_ne_zero fun e => by subst e; omega
    have := copB_get copsmall d (by omega) (by omega)
    rw [Nat.gcd_eq_left ⟨m, hm⟩] at this
    exact this
  · have hm2 : m < 236 := by
      rcases Nat.lt_or_ge m 236 with h2 | h2
      · exact h2
      · have := Nat.mul_le_mul h h2; omega
    have hm0 : 0 < m := Nat.pos_of_ne_zero fun e => by subst e; omega
    have := copB_get copsmall m (by omega) (by omega)
    rw [Nat.gcd_eq_left ⟨d, by rw [Nat.mul_comm]; exact hm⟩] at this
    subst this
    omega
theorem prime_p {a b : Nat} (h : a * b % 55441 = 0) : a % 55441 = 0 ∨ b % 55441 = 0 := by
  by_cases ha : a % 55441 = 0
  · exact .inl ha
  · right
    have hc : Nat.gcd (a % 55441) 55441 = 1 := coprime_p (by omega) (by omega)
    have hd : 55441 ∣ (a % 55441) * b := Nat.dvd_of_mod_eq_zero (by rw [Nat.mod_mul_mod]; exact h)
    have hcc : Nat.Coprime 55441 (a % 55441) := by rw [Nat.coprime_iff_gcd_eq_one, Nat.gcd_comm]; exact hc
    exact Nat.mod_eq_zero_of_dvd (hcc.dvd_of_dvd_mul_left hd)

def prodL : List Nat → Nat
  | [] => 1
  | x :: l => x * prodL l
theorem prodL_perm {l m : List Nat} (h : l.Perm m) : prodL l = prodL m := by
  induction h with
  | nil => rfl
  | cons x _ ih => simp only [prodL, ih]
  | swap x y l => simp only [prodL]; rw [← Nat.mul_assoc, ← Nat.mul_assoc, Nat.mul_comm y x]
  | trans _ _ i1 i2 => exact i1.trans i2
theorem prodL_ne : ∀ {l : List Nat}, (∀ x ∈ l, x % 55441 ≠ 0) → prodL l % 55441 ≠ 0
  | [], _ => by simp [prodL]
  | x :: l, h => by
    intro e
    rcases prime_p e with e | e
    · exact h x (by simp) e
    · exact prodL_ne (fun y hy => h y (by simp [hy])) e
theorem prodL_mul (a : Nat) : ∀ l : List Nat, prodL (l.map fun x => a * x % 55441) % 55441 = a ^ l.length * prodL l % 55441
  | [] => by simp [prodL]
  | x :: l => by
    simp only [List.map_cons, prodL, List.length_cons]
    rw [Nat.mod_mul_mod, Nat.mul_mod, prodL_mul a l, ← Nat.mul_mod, Nat.pow_succ]
    congr 1
    simp only [Nat.mul_assoc, Nat.mul_comm, Nat.mul_left_comm]
theorem nodup_map_of {f : Nat → Nat} : ∀ {l : List Nat}, l.Nodup → (∀ x ∈ l, ∀ y ∈ l, f x = f y → x = y) → (l.map f).Nodup
  | [], _, _ => by simp
  | x :: l, h, hf => by
    rw [List.nodup_cons] at h
    rw [List.map_cons, List.nodup_cons]
    refine ⟨fun hm => ?_, nodup_map_of h.2 fun a ha b hb => hf a (by simp [ha]) b (by simp [hb])⟩
    obtain ⟨y, hy, e⟩ := List.mem_map.1 hm
    have := hf y (by simp [hy]) x (by simp) e
    subst this
    exact h.1 hy
theorem modsub {a b : Nat} (h : a % 55441 = b % 55441) (hle : b ≤ a) : (a - b) % 55441 = 0 := by omega
theorem inj_p {a x y : Nat} (ha : a % 55441 ≠ 0) (hx : x < 55441) (hy : y < 55441) (h : a * x % 55441 = a * y % 55441) : x = y := by
  rcases Nat.le_total x y with hle | hle
  · have h1 := modsub h.symm (Nat.mul_le_mul_left a hle)
    rw [← Nat.mul_sub] at h1
    rcases prime_p h1 with e | e
    · exact absurd e ha
    · omega
  · have h1 := modsub h (Nat.mul_le_mul_left a hle)
    rw [← Nat.mul_sub] at h1
    rcases prime_p h1 with e | e
    · exact absurd e ha
    · omega
/-- What lies in a list without repetition, as long as another one in which it lies, fills it. -/
theorem full_of : ∀ {l m : List Nat}, l.Nodup → (∀ x ∈ l, x ∈ m) → m.length ≤ l.length → l.Perm m
  | [], m, _, _, h => by
    have : m = [] := List.length_eq_zero_iff.1 (by simpa using h)
    subst this
    exact List.Perm.nil
  | x :: l, m, hl, hs, hlen => by
    rw [List.nodup_cons] at hl
    have hx : x ∈ m := hs x (by simp)
    have hp := List.perm_cons_erase hx
    have ih := full_of (l := l) (m := m.erase x) hl.2 (fun y hy => by
      have hne : y ≠ x := fun e => hl.1 (e ▸ hy)
      exact (List.mem_erase_of_ne hne).2 (hs y (by simp [hy]))) (by
      rw [List.length_erase_of_mem hx]; simp at hlen; omega)
    exact (ih.cons x).trans hp.symm
theorem fermat {a : Nat} (ha : a % 55441 ≠ 0) : a ^ 55440 % 55441 = 1 := by
  have hnd : (List.range' 1 55440).Nodup := List.nodup_range'
  have hmem : ∀ {x : Nat}, x ∈ List.range' 1 55440 ↔ 1 ≤ x ∧ x < 55441 := by
    intro x
    rw [List.mem_range'_1]
  have hp : ((List.range' 1 55440).map fun x => a * x % 55441).Perm (List.range' 1 55440) := by
    refine full_of (nodup_map_of hnd fun x hx y hy e => inj_p ha (hmem.1 hx).2 (hmem.1 hy).2 e) (fun x hx => ?_) (by rw [List.length_map]; exact Nat.le_refl _)
    obtain ⟨y, hy, rfl⟩ := List.mem_map.1 hx
    have hy' := hmem.1 hy
    refine hmem.2 ⟨Nat.pos_of_ne_zero fun e => ?_, Nat.mod_lt _ (by omega)⟩
    rcases prime_p e with e | e
    · exact ha e
    · omega
  have h1 := prodL_mul a (List.range' 1 55440)
  rw [prodL_perm hp, List.length_range'] at h1
  have h2 := prodL_ne (l := List.range' 1 55440) fun x hx => by have := hmem.1 hx; omega
  generalize prodL (List.range' 1 55440) = q at h1 h2
  generalize (55440 : Nat) = E at h1 ⊢
  have hpos : 1 ≤ a ^ E := Nat.pow_pos (Nat.pos_of_ne_zero fun e => by subst e; simp at ha)
  generalize a ^ E = z at h1 hpos ⊢
  have h3 : (z * q - q) % 55441 = 0 := modsub h1.symm (by calc q = 1 * q := (Nat.one_mul q).symm
                                                          _ ≤ z * q := Nat.mul_le_mul_right q hpos)
  have h4 : z * q - q = (z - 1) * q := by rw [Nat.sub_mul, Nat.one_mul]
  rw [h4] at h3
  rcases prime_p h3 with e | e
  · omega
  · exact absurd e h2
end Go.Proofs.Ytifkgmbghcmdeaa
