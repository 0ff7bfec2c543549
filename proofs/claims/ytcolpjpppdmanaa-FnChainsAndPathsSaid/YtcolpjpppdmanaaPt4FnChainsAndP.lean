/-
  Parts of the proof, one behind the other: contracts of functions and plain laws. No condition.
-/
import Derived.Test.YtcolpjpppdmanaaPt3FnChainsAndP
/-
  Fractions of chains: top and bottom, and back. No condition.
-/
namespace Go.Proofs.Ytcolpjpppdmanaa
open Go Go.RowKit

/-- Top and bottom of a chain. -/
def cf : List Int → Int × Int
  | [] => (1, 0)
  | b :: l => (b * (cf l).1 - (cf l).2, (cf l).1)
/-- Numbers that a chain may hold. -/
def ChN (l : List Int) : Prop := ∀ b ∈ l, 2 ≤ b ∧ b ≤ 1000
theorem mul_ge {b t : Int} (hb : 2 ≤ b) (ht : 0 ≤ t) : 2 * t ≤ b * t := Int.mul_le_mul_of_nonneg_right hb ht
theorem mul_le1 {b t : Int} (hb : b ≤ 1000) (ht : 0 ≤ t) : b * t ≤ 1000 * t := Int.mul_le_mul_of_nonneg_right hb ht
theorem cf_pos : ∀ {l : List Int}, ChN l → 0 ≤ (cf l).2 ∧ (cf l).2 < (cf l).1
  | [], _ => by simp [cf]
  | b :: l, h => by
    have ih := cf_pos (l := l) fun x hx => h x (List.mem_cons_of_mem _ hx)
    have hb := h b (by simp)
    have := mul_ge hb.1 (show 0 ≤ (cf l).1 by omega)
    simp only [cf]
    omega
theorem cf_up {b : Int} {l : List Int} (h : ChN (b :: l)) : (cf l).1 < (cf (b :: l)).1 := (cf_pos h).2
theorem cf_mono : ∀ {l : List Int}, ChN l → ∀ i : Nat, (cf (l.drop i)).1 ≤ (cf l).1
  | [], _, i => by simp
  | b :: l, h, 0 => Int.le_refl _
  | b :: l, h, i + 1 => by
    have h1 := cf_mono (l := l) (fun x hx => h x (List.mem_cons_of_mem _ hx)) i
    have h2 := cf_up h
    simp only [List.drop_succ_cons]
    omega
theorem cf_step {l : List Int} {i : Nat} (h : i < l.length) : cf (l.drop i) = (geti l (i : Nat) * (cf (l.drop (i + 1))).1 - (cf (l.drop (i + 1))).2, (cf (l.drop (i + 1))).1) := by
  rw [List.drop_eq_getElem_cons h, cf]
  simp [geti, h]
theorem cf_gcd : ∀ l : List Int, Int.gcd (cf l).1 (cf l).2 = 1
  | [] => rfl
  | b :: l => by
    have ih := cf_gcd l
    show Int.gcd (b * (cf l).1 - (cf l).2) (cf l).1 = 1
    rw [Int.gcd_comm, Int.sub_eq_add_neg, Int.gcd_mul_right_add_right, Int.gcd_neg]
    exact ih
/-- The quotient, rounded up. -/
def ceilQ (t u : Int) : Int := (t + u - 1) / u
theorem ceilQ_eq {b u r : Int} (hu : 0 < u) (h0 : 0 ≤ r) (h1 : r < u) : ceilQ (b * u - r) u = b := by
  unfold ceilQ
  have e : b * u - r + u - 1 = (u - 1 - r) + u * b := by rw [Int.mul_comm u b]; omega
  rw [e, Int.add_mul_ediv_left _ _ (by omega), Int.ediv_eq_zero_of_lt (by omega) (by omega)]
  omega
theorem ceilQ_in {t u : Int} (hu : 0 < u) : 0 ≤ ceilQ t u * u - t ∧ ceilQ t u * u - t < u := by
  unfold ceilQ
  have h1 := Int.mul_ediv_add_emod (t + u - 1) u
  have h2 := Int.emod_nonneg (t + u - 1) (show u ≠ 0 by omega)
  have h3 := Int.emod_lt_of_pos (t + u - 1) hu
  rw [Int.mul_comm]
  omega
/-- The chain of a fraction. -/
def co : Nat → Int → Int → Option (List Int)
  | 0, _, u => if 0 < u then none else some []
  | m + 1, t, u => if 0 < u then (if 1000 < ceilQ t u then none else (co m u (ceilQ t u * u - t)).map (ceilQ t u :: ·)) else some []
theorem co_cf : ∀ {l : List Int} {m : Nat}, ChN l → l.length ≤ m → co m (cf l).1 (cf l).2 = some l
  | [], 0, _, _ => by simp [co, cf]
  | [], m + 1, _, _ => by simp [co, cf]
  | b :: l, 0, _, h => by simp at h
  | b :: l, m + 1, h, hl => by
    have hc : ChN l := fun x hx => h x (List.mem_cons_of_mem _ hx)
    have ih := co_cf (m := m) hc (by simp at hl; omega)
    have hb := h b (by simp)
    obtain ⟨p0, p1⟩ := cf_pos hc
    have e : ceilQ (cf (b :: l)).1 (cf (b :: l)).2 = b := ceilQ_eq (by omega) p0 p1
    rw [co, e, if_pos (by show 0 < (cf l).1; omega), if_neg (by omega)]
    have e2 : b * (cf (b :: l)).2 - (cf (b :: l)).1 = (cf l).2 := by simp only [cf]; omega
    rw [e2]
    show (co m (cf l).1 (cf l).2).map (b :: ·) = _
    rw [ih]; rfl
theorem cf_co : ∀ {m : Nat} {t u : Int} {l : List Int}, 0 ≤ u → u < t → Int.gcd t u = 1 → co m t u = some l → cf l = (t, u) ∧ ChN l ∧ l.length ≤ m
  | 0, t, u, l, h0, h1, hg, h => by
    rw [co] at h
    split at h
    · cases h
    · obtain rfl := Option.some.inj h
      obtain rfl : u = 0 := by omega
      rw [Int.gcd_zero_right] at hg
      have : t = 1 := by omega
      rw [this]
      exact ⟨rfl, fun _ h => (by cases h), by simp⟩
  | m + 1, t, u, l, h0, h1, hg, h => by
    rw [co] at h
    split at h
    · rename_i hu
      split at h
      · cases h
      · rename_i hb
        obtain ⟨c0, c1⟩ := ceilQ_in (t := t) hu
        cases hc : co m u (ceilQ t u * u - t) with
        | none => rw [hc] at h; cases h
        | some l' =>
          rw [hc] at h
          obtain rfl := (Option.some.inj h).symm
          have hg2 : Int.gcd u (ceilQ t u * u - t) = 1 := by
            rw [Int.sub_eq_add_neg, Int.gcd_mul_right_add_right, Int.gcd_neg, Int.gcd_comm]
            exact hg
          obtain ⟨i1, i2, i3⟩ := cf_co c0 c1 hg2 hc
          refine ⟨?_, fun x hx => ?_, by simp; omega⟩
          · simp only [cf, i1]
            congr 1
            omega
          · rcases List.mem_cons.1 hx with rfl | hx
            · refine ⟨?_, by omega⟩
              rcases Int.lt_or_le (ceilQ t u) 2 with c | c
              · have : ceilQ t u * u ≤ 1 * u := Int.mul_le_mul_of_nonneg_right (by omega) (by omega)
                omega
              · exact c
            · exact i2 x hx
    · obtain rfl := Option.some.inj h
      obtain rfl : u = 0 := by omega
      rw [Int.gcd_zero_right] at hg
      have : t = 1 := by omega
      rw [this]
      exact ⟨rfl, fun _ h => (by cases h), by simp⟩
end Go.Proofs.Ytcolpjpppdmanaa
/-
  The greatest common divisor, in the program and in the model. No condition but that both numbers are no greater than 2^62.
-/
namespace Go.Proofs.Ytcolpjpppdmanaa
open Go Go.RowKit
attribute [local irreducible] AWp AOps ResIs Ret1 QOp LOp COp AFnV AFn Imms LeE LeO
set_option maxHeartbeats 1000000
set_option linter.unusedSimpArgs false
set_option linter.unusedVariables false

theorem gcd_step (a b : Int) (h0 : 0 ≤ a) (h : 0 < b) : Int.gcd b (a % b) = Int.gcd a b := by
  obtain ⟨x, rfl⟩ := Int.eq_ofNat_of_zero_le h0
  obtain ⟨y, rfl⟩ := Int.eq_ofNat_of_zero_le (Int.le_of_lt h)
  rw [← Int.natCast_emod]
  simp only [Int.gcd_natCast_natCast]
  rw [Nat.gcd_comm x y, Nat.gcd_comm y]
  exact (Nat.gcd_rec y x).symm

def mid (a : Int) : Prop := -4611686018427387904 ≤ a ∧ a ≤ 4611686018427387904

theorem abs_c (a : Int) (ha : mid a) : AFnV Try.prog 34 [.i a] (.int .i64 a.natAbs) := by
  unfold mid at ha
  (refine AFnV.start Try.func34 Try.ntmps34 rfl (by kernel_rfl) fun hk => ?_; simp only [Env.start, enumF, List.length_cons, List.length_nil, Nat.reduceAdd, Nat.reduceSub, List.cons_append, List.nil_append])
  repeat' (first | (apply AOps.nil; try simp only [List.nil_append, List.cons_append, List.set_cons_zero, List.set_cons_succ, List.length_cons, List.length_nil, Nat.reduceAdd, AV.sh, AV.sh1, AV.sh0, AO.sh, List.map_cons, List.map_nil, Nat.zero_add, Nat.add_zero, setAll]) | (apply w_move; exact rfl; exact rfl) | (apply w_assign; exact rfl; exact rfl) | apply AWp.seq | apply AWp.region | ((apply AWp.condP; exact rfl) <;> intro h) | apply AWp.ret | apply AWp.skip | ((apply w_lss); iterate 3 exact rfl) | ((apply w_neg); iterate 2 exact rfl) | (apply inI_of <;> omega))
  all_goals exact .int Try.results34 rfl (by omega)

theorem divisor_c (a b : Int) (ha : mid a) (hb : mid b) : AFnV Try.prog 21 [.i a, .i b] (.int .i64 (Int.gcd a b)) := by
  (refine AFnV.start Try.func21 Try.ntmps21 rfl (by kernel_rfl) fun hk => ?_; simp only [Env.start, enumF, List.length_cons, List.length_nil, Nat.reduceAdd, Nat.reduceSub, List.cons_append, List.nil_append])
  repeat' (first | (apply AOps.nil; try simp only [List.nil_append, List.cons_append, List.set_cons_zero, List.set_cons_succ, List.length_cons, List.length_nil, Nat.reduceAdd, AV.sh, AV.sh1, AV.sh0, AO.sh, List.map_cons, List.map_nil, Nat.zero_add, Nat.add_zero, setAll]) | (apply w_move; exact rfl; exact rfl) | (apply w_assign; exact rfl; exact rfl) | apply AWp.seq | apply AWp.region | apply AWp.block | (apply w_call (abs_c _ ha); exact rfl; exact rfl; focus ((repeat (first | exact im_nil | refine im_cons rfl (.val _) ?_)); done)) | (apply w_call (abs_c _ hb); exact rfl; exact rfl; focus ((repeat (first | exact im_nil | refine im_cons rfl (.val _) ?_)); done)))
  unfold mid at ha hb
  refine AWp.loop (ι := Int × Int) (fun s => ⟨16, [(0, .i s.1), (1, .i s.2)]⟩) (fun _ => []) (fun s => 0 ≤ s.1 ∧ 0 ≤ s.2 ∧ s.1 ≤ 4611686018427387904 ∧ s.2 ≤ 4611686018427387904 ∧ Int.gcd s.1 s.2 = Int.gcd a b) (fun s => s.2.toNat) (a.natAbs, b.natAbs) ⟨by simp, by simp, by simp; omega, by simp; omega, by simp [Int.gcd]⟩ ⟨lee rfl (by (repeat (first | exact le_nil | refine le_eq rfl rfl ?_))), by (repeat (exact lo_nil)), rfl, rfl⟩ ?_
  rintro ⟨x, y⟩ ⟨h0, h1, h2, h3, h4⟩
  simp only at h0 h1 h2 h3 h4
  repeat' (first | (apply AOps.nil; try simp only [List.nil_append, List.cons_append, List.set_cons_zero, List.set_cons_succ, List.length_cons, List.length_nil, Nat.reduceAdd, AV.sh, AV.sh1, AV.sh0, AO.sh, List.map_cons, List.map_nil, Nat.zero_add, Nat.add_zero, setAll]) | (apply w_move; exact rfl; exact rfl) | (apply w_assign; exact rfl; exact rfl) | apply AWp.seq | apply AWp.region | ((apply AWp.condP; exact rfl) <;> intro h) | apply AWp.block | apply AWp.ret | apply AWp.exit | apply AWp.skip | (apply AWp.regionQ; kernel_rfl; kernel_rfl) | ((apply w_gtr); iterate 3 exact rfl) | (apply w_rem; exact rfl; exact rfl; exact rfl; (focus (omega; done)); (focus (omega; done))))
  · have hlt := Int.emod_lt_of_pos x h
    have hge := Int.emod_nonneg x (show y ≠ 0 by omega)
    exact ⟨(y, x % y), ⟨h1, hge, h3, by simp only; omega, by simp only; rw [gcd_step x y h0 h, h4]⟩, by simp only; omega, ⟨lee rfl (by (repeat (first | exact le_nil | refine le_eq rfl rfl ?_))), by (repeat (exact lo_nil)), rfl, rfl⟩⟩
  · have e : y = 0 := by omega
    subst e
    exact .int Try.results21 rfl (by rw [← h4]; simp; omega)

theorem l01Gcd_c (a b : Int) (ha : mid a) (hb : mid b) : AFnV Try.prog 25 [.i a, .i b] (.int .i64 (Int.gcd a b)) := by
  unfold mid at ha hb
  (refine AFnV.start Try.func25 Try.ntmps25 rfl (by kernel_rfl) fun hk => ?_; simp only [Env.start, enumF, List.length_cons, List.length_nil, Nat.reduceAdd, Nat.reduceSub, List.cons_append, List.nil_append])
  repeat' (first | (apply AOps.nil; try simp only [List.nil_append, List.cons_append, List.set_cons_zero, List.set_cons_succ, List.length_cons, List.length_nil, Nat.reduceAdd, AV.sh, AV.sh1, AV.sh0, AO.sh, List.map_cons, List.map_nil, Nat.zero_add, Nat.add_zero, setAll]) | (apply w_move; exact rfl; exact rfl) | (apply w_assign; exact rfl; exact rfl) | apply AWp.seq | apply AWp.region | ((apply AWp.condP; exact rfl) <;> intro h) | apply AWp.block | apply AWp.skip | ((apply w_lss); iterate 3 exact rfl) | ((apply w_neg); iterate 2 exact rfl) | (apply inI_of <;> omega))
  all_goals refine AWp.loop (ι := Int × Int) (fun s => ⟨22, [(0, .i s.1), (1, .i s.2)]⟩) (fun _ => []) (fun s => 0 ≤ s.1 ∧ 0 ≤ s.2 ∧ s.1 ≤ 4611686018427387904 ∧ s.2 ≤ 4611686018427387904 ∧ Int.gcd s.1 s.2 = Int.gcd a b) (fun s => s.2.toNat) (a.natAbs, b.natAbs) ⟨by simp, by simp, by simp; omega, by simp; omega, by simp [Int.gcd]⟩ ⟨lee rfl (by (repeat (first | exact le_nil | refine le_eq rfl (congrArg AV.i (by omega)) ?_))), by (repeat (exact lo_nil)), rfl, rfl⟩ ?_
  all_goals rintro ⟨x, y⟩ ⟨h0, h1, h2, h3, h4⟩
  all_goals simp only at h0 h1 h2 h3 h4
  all_goals repeat' (first | (apply AOps.nil; try simp only [List.nil_append, List.cons_append, List.set_cons_zero, List.set_cons_succ, List.length_cons, List.length_nil, Nat.reduceAdd, AV.sh, AV.sh1, AV.sh0, AO.sh, List.map_cons, List.map_nil, Nat.zero_add, Nat.add_zero, setAll]) | (apply w_move; exact rfl; exact rfl) | (apply w_assign; exact rfl; exact rfl) | apply AWp.seq | apply AWp.region | ((apply AWp.condP; exact rfl) <;> intro h) | apply AWp.block | apply AWp.ret | apply AWp.exit | apply AWp.skip | ((apply w_gtr); iterate 3 exact rfl) | (apply w_rem; exact rfl; exact rfl; exact rfl; (focus (omega; done)); (focus (omega; done))))
  all_goals first
    | (have hlt := Int.emod_lt_of_pos x h
       have hge := Int.emod_nonneg x (show y ≠ 0 by omega)
       exact ⟨(y, x % y), ⟨h1, hge, h3, by simp only; omega, by simp only; rw [gcd_step x y h0 h, h4]⟩, by simp only; omega, ⟨lee rfl (by (repeat (first | exact le_nil | refine le_eq rfl rfl ?_))), by (repeat (exact lo_nil)), rfl, rfl⟩⟩)
    | (have e : y = 0 := by omega
       subst e
       exact .int Try.results25 rfl (by rw [← h4]; simp; omega))
end Go.Proofs.Ytcolpjpppdmanaa
/-
  Fractions of chains, walked. No condition.
-/
namespace Go.Proofs.Ytcolpjpppdmanaa
open Go Go.RowKit
attribute [local irreducible] AWp AOps ResIs Ret1 QOp LOp COp AFnV AFn Imms LeE LeO
set_option maxHeartbeats 1000000
set_option linter.unusedSimpArgs false
set_option linter.unusedVariables false

/-- Whether a list is a chain. -/
def chOk (l : List Int) : Bool := decide (1 ≤ l.length) && decide (l.length ≤ 30) && withinL l 2 1000
theorem within_N {l : List Int} : withinL l 2 1000 = true ↔ ChN l := by
  unfold withinL ChN
  rw [List.all_eq_true]
  exact ⟨fun h b hb => by have := h b hb; simpa using this, fun h b hb => by have := h b hb; simpa using this⟩
theorem chOk_iff {l : List Int} : chOk l = true ↔ 1 ≤ l.length ∧ l.length ≤ 30 ∧ ChN l := by
  unfold chOk
  rw [Bool.and_eq_true, Bool.and_eq_true, decide_eq_true_iff, decide_eq_true_iff, within_N, and_assoc]
/-- Top, bottom and code. -/
def chC (l : List Int) : Int × Int × Int := if chOk l = true then (if (cf l).1 ≤ 1000000000000 then ((cf l).1, (cf l).2, 0) else (0, 0, 3)) else (0, 0, 1)
theorem chC_ok {l : List Int} (h : chOk l = true) (h2 : (cf l).1 ≤ 1000000000000) : chC l = ((cf l).1, (cf l).2, 0) := by unfold chC; rw [if_pos h, if_pos h2]
theorem chC_lim {l : List Int} (h : chOk l = true) (h2 : ¬ (cf l).1 ≤ 1000000000000) : chC l = (0, 0, 3) := by unfold chC; rw [if_pos h, if_neg h2]
theorem chC_bad {l : List Int} (h : ¬ chOk l = true) : chC l = (0, 0, 1) := by unfold chC; rw [if_neg h]
theorem ch_drop {l : List Int} (h : ChN l) (k : Nat) : ChN (l.drop k) := fun b hb => h b (List.mem_of_mem_drop hb)
theorem ch_get {l : List Int} (h : ChN l) {k : Nat} (hk : k < l.length) : 2 ≤ geti l (k : Nat) ∧ geti l (k : Nat) ≤ 1000 := by
  have := h _ (List.getElem_mem hk)
  simpa [geti, hk] using this
theorem cf_end (l : List Int) : cf (l.drop l.length) = (1, 0) := by rw [List.drop_length]; rfl
theorem chOk_f {l : List Int} (h : ¬ chOk l = true) (hw : withinL l 2 1000 = true) : ¬ (1 ≤ l.length ∧ l.length ≤ 30) := fun c => h (chOk_iff.2 ⟨c.1, c.2, within_N.1 hw⟩)
set_option maxHeartbeats 4000000 in
theorem implCF_c (l : List Int) : AFnV Try.prog 6 [.ints l] (.tuple #[.int .i64 (chC l).1, .int .i64 (chC l).2.1, .int .i64 (chC l).2.2]) := by
  have hw := within_c l 2 1000
  by_cases h : chOk l = true
  · obtain ⟨h1, h2, h3⟩ := chOk_iff.1 h
    rw [within_N.2 h3] at hw
    (refine AFnV.start Try.func6 Try.ntmps6 rfl (by kernel_rfl) fun hk => ?_; simp only [Env.start, enumF, List.length_cons, List.length_nil, Nat.reduceAdd, Nat.reduceSub, List.cons_append, List.nil_append])
    repeat' (first | (apply AOps.nil; try simp only [List.nil_append, List.cons_append, List.set_cons_zero, List.set_cons_succ, List.length_cons, List.length_nil, Nat.reduceAdd, AV.sh, AV.sh1, AV.sh0, AO.sh, List.map_cons, List.map_nil, Nat.zero_add, Nat.add_zero, setAll]) | ((apply AOps.splitP; exact rfl; exact rfl) <;> intro h) | (apply w_move; exact rfl; exact rfl) | (apply w_assign; exact rfl; exact rfl) | apply AWp.seq | apply AWp.region | (apply AWp.condT; exact rfl) | (apply AWp.condF; exact rfl) | apply AWp.block | apply AWp.ret | apply AWp.skip | (apply w_skip; exact rfl) | (apply w_pickT; exact rfl; exact rfl; exact rfl) | (apply w_pickF; exact rfl; exact rfl; exact rfl) | (apply w_len; exact rfl; exact rfl; first | exact .ints _ | exact .intss _ | exact .sli rfl | exact .sls rfl | exact .slr rfl | exact .orow rfl | exact .nil) | (apply w_call (hw); exact rfl; exact rfl; focus ((repeat (first | exact im_nil | refine im_cons rfl (.val _) ?_ | refine im_cons rfl (.ints _) ?_)); done)) | omega | ((first | apply w_lss | apply w_gtr | apply w_sub); iterate 3 exact rfl) | ((apply w_not); iterate 2 exact rfl) | (apply inI_of <;> omega))
    refine AWp.loop (ι := Nat) (fun k => ⟨41, [(0, .ints l), (5, .i (cf (l.drop k)).1), (6, .i (cf (l.drop k)).2), (7, .i ((k : Int) - 1))]⟩) (fun _ => []) (fun k => k ≤ l.length ∧ (cf (l.drop k)).1 ≤ 1000000000000) (fun k => k) l.length ⟨Nat.le_refl _, by rw [cf_end]; decide⟩ ⟨lee rfl (by (repeat (first | exact le_nil | refine le_eq rfl rfl ?_ | refine le_eq rfl (congrArg AV.i (by rw [cf_end])) ?_))), by (repeat (exact lo_nil)), rfl, rfl⟩ ?_
    rintro k ⟨k0, k1⟩
    obtain ⟨p0, p1⟩ := cf_pos (ch_drop h3 k)
    by_cases hk : 0 < k
    · obtain ⟨i, rfl⟩ : ∃ i, k = i + 1 := ⟨k - 1, by omega⟩
      have hs := cf_step (l := l) (i := i) (by omega)
      have hg := ch_get h3 (k := i) (by omega)
      have m1 := mul_ge hg.1 (show 0 ≤ (cf (l.drop (i + 1))).1 by omega)
      have m2 := mul_le1 hg.2 (show 0 ≤ (cf (l.drop (i + 1))).1 by omega)
      rw [show ((i + 1 : Nat) : Int) - 1 = (i : Nat) by omega]
      repeat' (first | (apply AOps.nil; try simp only [List.nil_append, List.cons_append, List.set_cons_zero, List.set_cons_succ, List.length_cons, List.length_nil, Nat.reduceAdd, AV.sh, AV.sh1, AV.sh0, AO.sh, List.map_cons, List.map_nil, Nat.zero_add, Nat.add_zero, setAll]) | (apply w_move; exact rfl; exact rfl) | (apply w_assign; exact rfl; exact rfl) | apply AWp.seq | apply AWp.region | ((apply AWp.condP; exact rfl) <;> intro h) | apply AWp.block | apply AWp.ret | apply AWp.exit | apply AWp.skip | omega | ((first | apply w_gtr | apply w_geq | apply w_sub | apply w_mul | apply w_idx | apply w_ld); iterate 3 exact rfl) | (apply inI_of <;> omega))
      · have hm := cf_mono h3 i
        rw [hs] at hm
        rw [chC_lim (chOk_iff.2 ⟨h1, h2, h3⟩) (by simp only at hm; omega)]
        exact .vv3 Try.results6 rfl rfl rfl
      · exact ⟨i, ⟨by omega, by rw [hs]; simp only; omega⟩, by omega, ⟨lee rfl (by (repeat (first | exact le_nil | refine le_eq rfl rfl ?_ | refine le_eq rfl (congrArg AV.i (by rw [hs])) ?_))), by (repeat (exact lo_nil)), rfl, rfl⟩⟩
    · obtain rfl : k = 0 := by omega
      rw [List.drop_zero] at k1
      rw [chC_ok (chOk_iff.2 ⟨h1, h2, h3⟩) k1]
      repeat' (first | (apply AOps.nil; try simp only [List.nil_append, List.cons_append, List.set_cons_zero, List.set_cons_succ, List.length_cons, List.length_nil, Nat.reduceAdd, AV.sh, AV.sh1, AV.sh0, AO.sh, List.map_cons, List.map_nil, Nat.zero_add, Nat.add_zero, setAll]) | (apply w_move; exact rfl; exact rfl) | (apply w_assign; exact rfl; exact rfl) | apply AWp.seq | apply AWp.region | ((apply AWp.condP; exact rfl) <;> intro h) | apply AWp.block | apply AWp.ret | apply AWp.exit | apply AWp.skip | omega | ((apply w_geq); iterate 3 exact rfl))
      all_goals exact .vv3 Try.results6 rfl rfl rfl
  · rw [chC_bad h]
    cases hW : withinL l 2 1000 with
    | false =>
      rw [hW] at hw
      (refine AFnV.start Try.func6 Try.ntmps6 rfl (by kernel_rfl) fun hk => ?_; simp only [Env.start, enumF, List.length_cons, List.length_nil, Nat.reduceAdd, Nat.reduceSub, List.cons_append, List.nil_append])
      repeat' (first | (apply AOps.nil; try simp only [List.nil_append, List.cons_append, List.set_cons_zero, List.set_cons_succ, List.length_cons, List.length_nil, Nat.reduceAdd, AV.sh, AV.sh1, AV.sh0, AO.sh, List.map_cons, List.map_nil, Nat.zero_add, Nat.add_zero, setAll]) | ((apply AOps.splitP; exact rfl; exact rfl) <;> intro h) | (apply w_move; exact rfl; exact rfl) | (apply w_assign; exact rfl; exact rfl) | apply AWp.seq | apply AWp.region | (apply AWp.condT; exact rfl) | apply AWp.ret | (apply w_skip; exact rfl) | (apply w_pickT; exact rfl; exact rfl; exact rfl) | (apply w_pickF; exact rfl; exact rfl; exact rfl) | (apply w_len; exact rfl; exact rfl; first | exact .ints _ | exact .intss _ | exact .sli rfl | exact .sls rfl | exact .slr rfl | exact .orow rfl | exact .nil) | (apply w_call (hw); exact rfl; exact rfl; focus ((repeat (first | exact im_nil | refine im_cons rfl (.val _) ?_ | refine im_cons rfl (.ints _) ?_)); done)) | ((first | apply w_lss | apply w_gtr); iterate 3 exact rfl) | ((apply w_not); iterate 2 exact rfl))
      all_goals exact .vv3 Try.results6 rfl rfl rfl
    | true =>
      have hn := chOk_f h hW
      rw [hW] at hw
      (refine AFnV.start Try.func6 Try.ntmps6 rfl (by kernel_rfl) fun hk => ?_; simp only [Env.start, enumF, List.length_cons, List.length_nil, Nat.reduceAdd, Nat.reduceSub, List.cons_append, List.nil_append])
      repeat' (first | (apply AOps.nil; try simp only [List.nil_append, List.cons_append, List.set_cons_zero, List.set_cons_succ, List.length_cons, List.length_nil, Nat.reduceAdd, AV.sh, AV.sh1, AV.sh0, AO.sh, List.map_cons, List.map_nil, Nat.zero_add, Nat.add_zero, setAll]) | ((apply AOps.splitP; exact rfl; exact rfl) <;> intro h) | (apply w_move; exact rfl; exact rfl) | (apply w_assign; exact rfl; exact rfl) | apply AWp.seq | apply AWp.region | (apply AWp.condT; exact rfl) | apply AWp.ret | (apply w_skip; exact rfl) | (apply w_pickT; exact rfl; exact rfl; exact rfl) | (apply w_pickF; exact rfl; exact rfl; exact rfl) | (apply w_len; exact rfl; exact rfl; first | exact .ints _ | exact .intss _ | exact .sli rfl | exact .sls rfl | exact .slr rfl | exact .orow rfl | exact .nil) | (apply w_call (hw); exact rfl; exact rfl; focus ((repeat (first | exact im_nil | refine im_cons rfl (.val _) ?_ | refine im_cons rfl (.ints _) ?_)); done)) | omega | ((first | apply w_lss | apply w_gtr); iterate 3 exact rfl))
      all_goals exact .vv3 Try.results6 rfl rfl rfl
set_option maxHeartbeats 4000000 in
theorem specCF_c (l : List Int) : AFnV Try.prog 7 [.ints l] (.tuple #[.int .i64 (chC l).1, .int .i64 (chC l).2.1, .int .i64 (chC l).2.2]) := by
  (refine AFnV.start Try.func7 Try.ntmps7 rfl (by kernel_rfl) fun hk0 => ?_; simp only [Env.start, enumF, List.length_cons, List.length_nil, Nat.reduceAdd, Nat.reduceSub, List.cons_append, List.nil_append])
  obtain ⟨kk1, kk2⟩ : ArgOk (.ints l) := hk0 _ (by simp)
  repeat' (first | (apply AOps.nil; try simp only [List.nil_append, List.cons_append, List.set_cons_zero, List.set_cons_succ, List.length_cons, List.length_nil, Nat.reduceAdd, AV.sh, AV.sh1, AV.sh0, AO.sh, List.map_cons, List.map_nil, Nat.zero_add, Nat.add_zero, setAll]) | (apply w_assign; exact rfl; exact rfl) | apply AWp.seq | apply AWp.region | apply AWp.block)
  refine AWp.loop (ι := Nat) (fun k => ⟨51, [(0, .ints l), (5, .i k)]⟩) (fun _ => []) (fun k => k ≤ l.length ∧ ∀ j : Nat, j < k → 2 ≤ geti l (j : Nat) ∧ geti l (j : Nat) ≤ 1000) (fun k => l.length - k) 0 ⟨Nat.zero_le _, fun j hj => by omega⟩ ⟨lee rfl (by (repeat (first | exact le_nil | refine le_eq rfl rfl ?_))), by (repeat (exact lo_nil)), rfl, rfl⟩ ?_
  rintro k ⟨k0, k1⟩
  by_cases hk : k < l.length
  · have hin := l01In_c (geti l (k : Nat)) 2 1000
    by_cases hr : 2 ≤ geti l (k : Nat) ∧ geti l (k : Nat) ≤ 1000
    · rw [decide_eq_true hr] at hin
      repeat' (first | (apply AOps.nil; try simp only [List.nil_append, List.cons_append, List.set_cons_zero, List.set_cons_succ, List.length_cons, List.length_nil, Nat.reduceAdd, AV.sh, AV.sh1, AV.sh0, AO.sh, List.map_cons, List.map_nil, Nat.zero_add, Nat.add_zero, setAll]) | (apply w_move; exact rfl; exact rfl) | (apply w_assign; exact rfl; exact rfl) | apply AWp.seq | apply AWp.region | ((apply AWp.condP; exact rfl) <;> intro h) | (apply AWp.condF; exact rfl) | apply AWp.block | apply AWp.exit | apply AWp.skip | (apply w_len; exact rfl; exact rfl; first | exact .ints _ | exact .intss _ | exact .sli rfl | exact .sls rfl | exact .slr rfl | exact .orow rfl | exact .nil) | (apply w_call (hin); exact rfl; exact rfl; focus ((repeat (first | exact im_nil | refine im_cons rfl (.val _) ?_)); done)) | omega | ((first | apply w_lss | apply w_add | apply w_idx | apply w_ld); iterate 3 exact rfl) | ((apply w_not); iterate 2 exact rfl) | (apply inI_of <;> omega))
      exact ⟨k + 1, ⟨by omega, fun j hj => by
        rcases Nat.lt_or_ge j k with c | c
        · exact k1 j c
        · obtain rfl : j = k := by omega
          exact hr⟩, by omega, ⟨lee rfl (by (repeat (first | exact le_nil | refine le_eq rfl rfl ?_))), by (repeat (exact lo_nil)), rfl, rfl⟩⟩
    · rw [decide_eq_false hr] at hin
      have hno : ¬ chOk l = true := fun h => hr (ch_get (chOk_iff.1 h).2.2 hk)
      rw [chC_bad hno]
      repeat' (first | (apply AOps.nil; try simp only [List.nil_append, List.cons_append, List.set_cons_zero, List.set_cons_succ, List.length_cons, List.length_nil, Nat.reduceAdd, AV.sh, AV.sh1, AV.sh0, AO.sh, List.map_cons, List.map_nil, Nat.zero_add, Nat.add_zero, setAll]) | (apply w_move; exact rfl; exact rfl) | (apply w_assign; exact rfl; exact rfl) | apply AWp.seq | apply AWp.region | ((apply AWp.condP; exact rfl) <;> intro h) | (apply AWp.condT; exact rfl) | apply AWp.block | apply AWp.ret | apply AWp.exit | apply AWp.skip | (apply w_len; exact rfl; exact rfl; first | exact .ints _ | exact .intss _ | exact .sli rfl | exact .sls rfl | exact .slr rfl | exact .orow rfl | exact .nil) | (apply w_call (hin); exact rfl; exact rfl; focus ((repeat (first | exact im_nil | refine im_cons rfl (.val _) ?_)); done)) | omega | ((first | apply w_lss | apply w_idx | apply w_ld); iterate 3 exact rfl) | ((apply w_not); iterate 2 exact rfl))
      all_goals exact .vv3 Try.results7 rfl rfl rfl
  · obtain rfl : k = l.length := by omega
    have h3 : ChN l := fun b hb => by
      obtain ⟨j, hj, rfl⟩ := List.mem_iff_getElem.1 hb
      have := k1 j hj
      simpa [geti, hj] using this
    by_cases hlen : 1 ≤ l.length ∧ l.length ≤ 30
    · have hok := chOk_iff.2 ⟨hlen.1, hlen.2, h3⟩
      repeat' (first | (apply AOps.nil; try simp only [List.nil_append, List.cons_append, List.set_cons_zero, List.set_cons_succ, List.length_cons, List.length_nil, Nat.reduceAdd, AV.sh, AV.sh1, AV.sh0, AO.sh, List.map_cons, List.map_nil, Nat.zero_add, Nat.add_zero, setAll]) | ((apply AOps.splitP; exact rfl; exact rfl) <;> intro h) | (apply w_move; exact rfl; exact rfl) | (apply w_assign; exact rfl; exact rfl) | apply AWp.seq | apply AWp.region | ((apply AWp.condP; exact rfl) <;> intro h) | (apply AWp.condT; exact rfl) | apply AWp.block | apply AWp.ret | apply AWp.exit | apply AWp.skip | (apply w_skip; exact rfl) | (apply w_pickT; exact rfl; exact rfl; exact rfl) | (apply w_pickF; exact rfl; exact rfl; exact rfl) | (apply w_len; exact rfl; exact rfl; first | exact .ints _ | exact .intss _ | exact .sli rfl | exact .sls rfl | exact .slr rfl | exact .orow rfl | exact .nil) | omega | ((first | apply w_lss | apply w_gtr | apply w_sub); iterate 3 exact rfl) | (apply inI_of <;> omega))
      refine AWp.loop (ι := Nat) (fun k => ⟨51, [(0, .ints l), (6, .i (cf (l.drop k)).1), (7, .i (cf (l.drop k)).2), (8, .i ((k : Int) - 1))]⟩) (fun _ => []) (fun k => k ≤ l.length ∧ (cf (l.drop k)).1 ≤ 1000000000000) (fun k => k) l.length ⟨Nat.le_refl _, by rw [cf_end]; decide⟩ ⟨lee rfl (by (repeat (first | exact le_nil | refine le_eq rfl rfl ?_ | refine le_eq rfl (congrArg AV.i (by rw [cf_end])) ?_))), by (repeat (exact lo_nil)), rfl, rfl⟩ ?_
      rintro k ⟨k0, k1⟩
      obtain ⟨p0, p1⟩ := cf_pos (ch_drop h3 k)
      by_cases hk : 0 < k
      · obtain ⟨i, rfl⟩ : ∃ i, k = i + 1 := ⟨k - 1, by omega⟩
        have hs := cf_step (l := l) (i := i) (by omega)
        have hg := ch_get h3 (k := i) (by omega)
        have m1 := mul_ge hg.1 (show 0 ≤ (cf (l.drop (i + 1))).1 by omega)
        have m2 := mul_le1 hg.2 (show 0 ≤ (cf (l.drop (i + 1))).1 by omega)
        rw [show ((i + 1 : Nat) : Int) - 1 = (i : Nat) by omega]
        repeat' (first | (apply AOps.nil; try simp only [List.nil_append, List.cons_append, List.set_cons_zero, List.set_cons_succ, List.length_cons, List.length_nil, Nat.reduceAdd, AV.sh, AV.sh1, AV.sh0, AO.sh, List.map_cons, List.map_nil, Nat.zero_add, Nat.add_zero, setAll]) | (apply w_move; exact rfl; exact rfl) | (apply w_assign; exact rfl; exact rfl) | apply AWp.seq | apply AWp.region | ((apply AWp.condP; exact rfl) <;> intro h) | apply AWp.block | apply AWp.ret | apply AWp.exit | apply AWp.skip | omega | ((first | apply w_gtr | apply w_geq | apply w_sub | apply w_mul | apply w_idx | apply w_ld); iterate 3 exact rfl) | (apply inI_of <;> omega))
        · have hm := cf_mono h3 i
          rw [hs] at hm
          rw [chC_lim hok (by simp only at hm; omega)]
          exact .vv3 Try.results7 rfl rfl rfl
        · exact ⟨i, ⟨by omega, by rw [hs]; simp only; omega⟩, by omega, ⟨lee rfl (by (repeat (first | exact le_nil | refine le_eq rfl rfl ?_ | refine le_eq rfl (congrArg AV.i (by rw [hs])) ?_))), by (repeat (exact lo_nil)), rfl, rfl⟩⟩
      · obtain rfl : k = 0 := by omega
        rw [List.drop_zero] at k1
        rw [chC_ok hok k1]
        repeat' (first | (apply AOps.nil; try simp only [List.nil_append, List.cons_append, List.set_cons_zero, List.set_cons_succ, List.length_cons, List.length_nil, Nat.reduceAdd, AV.sh, AV.sh1, AV.sh0, AO.sh, List.map_cons, List.map_nil, Nat.zero_add, Nat.add_zero, setAll]) | (apply w_move; exact rfl; exact rfl) | (apply w_assign; exact rfl; exact rfl) | apply AWp.seq | apply AWp.region | ((apply AWp.condP; exact rfl) <;> intro h) | apply AWp.block | apply AWp.ret | apply AWp.exit | apply AWp.skip | omega | ((apply w_geq); iterate 3 exact rfl))
        all_goals exact .vv3 Try.results7 rfl rfl rfl
    · have hno : ¬ chOk l = true := fun h => hlen ⟨(chOk_iff.1 h).1, (chOk_iff.1 h).2.1⟩
      rw [chC_bad hno]
      repeat' (first | (apply AOps.nil; try simp only [List.nil_append, List.cons_append, List.set_cons_zero, List.set_cons_succ, List.length_cons, List.length_nil, Nat.reduceAdd, AV.sh, AV.sh1, AV.sh0, AO.sh, List.map_cons, List.map_nil, Nat.zero_add, Nat.add_zero, setAll]) | ((apply AOps.splitP; exact rfl; exact rfl) <;> intro h) | (apply w_move; exact rfl; exact rfl) | (apply w_assign; exact rfl; exact rfl) | apply AWp.seq | apply AWp.region | ((apply AWp.condP; exact rfl) <;> intro h) | (apply AWp.condT; exact rfl) | apply AWp.block | apply AWp.ret | apply AWp.exit | apply AWp.skip | (apply w_skip; exact rfl) | (apply w_pickT; exact rfl; exact rfl; exact rfl) | (apply w_pickF; exact rfl; exact rfl; exact rfl) | (apply w_len; exact rfl; exact rfl; first | exact .ints _ | exact .intss _ | exact .sli rfl | exact .sls rfl | exact .slr rfl | exact .orow rfl | exact .nil) | omega | ((first | apply w_lss | apply w_gtr); iterate 3 exact rfl))
      all_goals exact .vv3 Try.results7 rfl rfl rfl
end Go.Proofs.Ytcolpjpppdmanaa
/-
  Contracts of the laws' own helpers over lists of lists. No condition but a bound on the sizes.
-/
namespace Go.Proofs.Ytcolpjpppdmanaa
open Go Go.RowKit
attribute [local irreducible] AWp AOps ResIs Ret1 QOp LOp COp AFnV AFn Imms LeE LeO
set_option maxHeartbeats 1000000
set_option linter.unusedSimpArgs false
set_option linter.unusedVariables false

/-- The new slice of rows that a function hands back alone. -/
def IsIntss (e e2 : TypeId) (xss : List (List Int)) (r : AV) (os : List AO) : Prop := r = .own 0 ∧ os = [.sls e e2 xss]

end Go.Proofs.Ytcolpjpppdmanaa
/-
  A copy of a list. No condition but a bound on the size.
-/
namespace Go.Proofs.Ytcolpjpppdmanaa
open Go Go.RowKit
attribute [local irreducible] AWp AOps ResIs Ret1 QOp LOp COp AFnV AFn Imms LeE LeO
set_option maxHeartbeats 1000000
set_option linter.unusedSimpArgs false
set_option linter.unusedVariables false

theorem l01Own_c (xs : List Int) (h2 : xs.length ≤ 1048576) : AFn Try.prog 56 [.ints xs] (IsInts 2 xs) := by
  (refine AFn.start Try.func56 Try.ntmps56 rfl (by kernel_rfl) fun hk => ?_; simp only [Env.start, enumF, List.length_cons, List.length_nil, Nat.reduceAdd, Nat.reduceSub, List.cons_append, List.nil_append])
  repeat' (first
  | (apply AOps.nil; try simp only [List.nil_append, List.cons_append, List.set_cons_zero, List.set_cons_succ, List.length_cons, List.length_nil, Nat.reduceAdd, AV.sh, AV.sh1, AV.sh0, AO.sh, List.map_cons, List.map_nil, Nat.zero_add, Nat.add_zero, setAll])
  | ((apply AOps.splitP; exact rfl; exact rfl) <;> intro h)
  | ((apply AOps.splitN; exact rfl; exact rfl) <;> intro h)
  | (apply w_move; exact rfl; exact rfl)
  | (apply w_assign; exact rfl; exact rfl)
  | apply AWp.seq
  | apply AWp.region
  | ((apply AWp.condP; exact rfl) <;> intro h)
  | ((apply AWp.condN; exact rfl) <;> intro h)
  | (apply AWp.condT; exact rfl)
  | (apply AWp.condF; exact rfl)
  | ((apply AWp.condB; exact rfl) <;> intro h)
  | apply AWp.block
  | apply AWp.ret
  | apply AWp.exit
  | apply AWp.skip
  | (apply AWp.regionQ; kernel_rfl; kernel_rfl)
  | (apply if_pos'; exact rfl)
  | (apply if_neg'; decide)
  | (apply w_skip; exact rfl)
  | (apply w_pickT; exact rfl; exact rfl; exact rfl)
  | (apply w_pickF; exact rfl; exact rfl; exact rfl)
  | (apply w_len; exact rfl; exact rfl; first | exact .ints _ | exact .intss _ | exact .sli rfl | exact .sls rfl | exact .slr rfl | exact .orow rfl | exact .nil)
  | ((first | apply w_lss | apply w_leq | apply w_gtr | apply w_geq | apply w_eql | apply w_neq | apply w_add | apply w_sub | apply w_mul | apply w_idx | apply w_ld | apply w_fld | apply w_fa | apply w_extv | apply w_min | apply w_max | apply w_slhi | apply w_sllo | apply w_bs2); iterate 3 exact rfl)
  | ((first | apply w_eqlb | apply w_neqb | apply w_idxs | apply w_lds | apply w_ext); iterate 3 exact rfl)
  | (apply w_rem; exact rfl; exact rfl; exact rfl; (focus (omega; done)); (focus (omega; done)))
  | (apply w_quo; exact rfl; exact rfl; exact rfl; (focus (omega; done)); (focus (omega; done)))
  | (apply w_remT; exact rfl; exact rfl; exact rfl)
  | (apply w_quoT; exact rfl; exact rfl; exact rfl)
  | ((first | apply w_not | apply w_neg | apply w_conv | apply w_build0 | apply w_bs1 | apply w_boxa); iterate 2 exact rfl)
  | (apply w_idxo; exact rfl; exact rfl; (first | exact .sli rfl | exact .sls rfl | exact .slr rfl); exact rfl)
  | ((first | apply w_idxr | apply w_ldr); iterate 4 exact rfl)
  | (apply w_ldo; iterate 4 exact rfl)
  | (apply w_ldls; iterate 4 exact rfl)
  | (apply w_ldrp; iterate 4 exact rfl)
  | (apply w_ldb; iterate 5 exact rfl)
  | (apply w_ldst; iterate 5 exact rfl)
  | ((first | apply w_sllh | apply w_stbi); iterate 4 exact rfl)
  | ((first | apply w_oslo | apply w_oshi | apply w_stbii); iterate 4 exact rfl)
  | (apply w_copy; exact rfl; (first | exact .own rfl rfl rfl | exact .osub); exact rfl; rotate_left 1; exact rfl; (first | exact .ints _ | exact .sli rfl | exact .orow rfl | exact .nil | exact .osub rfl (by simp; omega)))
  | (apply w_build1; exact rfl; exact rfl; (first | exact one_val rfl rfl | exact one_ints | exact one_intss | exact one_own rfl True.intro))
  | (apply w_build2; exact rfl; exact rfl; exact rfl; (first | exact one_val rfl rfl | exact one_ints | exact one_intss | exact one_own rfl True.intro); (first | exact one_val rfl rfl | exact one_ints | exact one_intss | exact one_own rfl True.intro))
  | (apply w_bs0; iterate 1 exact rfl)
  | (apply w_appn; exact rfl; exact rfl; (first | exact .ints _ | exact .sli rfl | exact .orow rfl | exact .nil | exact .osub rfl (by simp; omega)); exact rfl)
  | (apply w_app; exact rfl; exact rfl; exact rfl; exact rfl; (first | exact .ints _ | exact .sli rfl | exact .orow rfl | exact .nil | exact .osub rfl (by simp; omega)); rotate_left 1; simp only [Env.mp, List.map_cons, List.map_nil, List.set_cons_zero, List.set_cons_succ, AV.kill, AV.kill1, AO.kill, AV.noRow, AV.noRow1, AO.via, reduceIte, Nat.reduceEqDiff, Nat.reduceLT, Env.up, Nat.zero_ne_one, Nat.one_ne_zero, Nat.reduceAdd, List.cons_append, List.nil_append]; rotate_left 1)
  | (apply w_alst; iterate 2 exact rfl)
  | (apply w_alone; iterate 3 exact rfl)
  | (apply w_mki; exact rfl; exact rfl; rotate_left 3; exact rfl; rotate_left 1)
  | (apply w_mkr; exact rfl; exact rfl; rotate_left 3; exact rfl; rotate_left 1)
  | (apply w_strow; exact rfl; exact rfl; rotate_left 1; exact rfl; exact rfl; exact rfl; exact rfl; simp only [Env.mp, List.map_cons, List.map_nil, List.set_cons_zero, List.set_cons_succ, AV.kill, AV.kill1, AO.kill, AV.noRow, AV.noRow1, AO.via, reduceIte, Nat.reduceEqDiff, Nat.reduceLT, Env.up, Nat.zero_ne_one, Nat.one_ne_zero, Nat.reduceAdd, List.cons_append, List.nil_append]; rotate_left 1)
  | (apply w_sti; exact rfl; exact rfl; rotate_left 1; exact rfl; rotate_left 2)
  | (apply w_stst; iterate 5 exact rfl)
  | (apply w_stbv; iterate 6 exact rfl)
  | (apply w_stbo; exact rfl; exact rfl; exact rfl; exact rfl; exact rfl; exact True.intro)
  | ((apply AOps.splitB; exact rfl; exact rfl) <;> intro h)
  | apply AllOf.nil
  | (apply AllOf.cons; exact rfl)
  | (apply AAny.take; exact rfl; exact rfl; kernel_rfl; kernel_rfl)
  | (apply AAny.all; exact rfl)
  | (apply AAny.done; exact rfl)
  | (apply inI_of <;> omega)
  | omega
  | (simp <;> omega))
  all_goals exact ⟨_, _, _, .v1 Try.results56 rfl, .sli rfl, rfl, rfl⟩
end Go.Proofs.Ytcolpjpppdmanaa
/-
  A term put into terms in order: the reference's. No condition but a bound on the sizes.
-/
namespace Go.Proofs.Ytcolpjpppdmanaa
open Go Go.RowKit
attribute [local irreducible] AWp AOps ResIs Ret1 QOp LOp COp AFnV AFn Imms LeE LeO
set_option maxHeartbeats 1000000
set_option linter.unusedSimpArgs false
set_option linter.unusedVariables false


theorem l01Own2_c (xss : List (List Int)) (hb : xss.length ≤ 1048576) (hr : ∀ xs ∈ xss, xs.length ≤ 1048576) : AFn Try.prog 71 [.intss xss] (IsIntss 24 2 xss) := by
  (refine AFn.start Try.func71 Try.ntmps71 rfl (by kernel_rfl) fun hk => ?_; simp only [Env.start, enumF, List.length_cons, List.length_nil, Nat.reduceAdd, Nat.reduceSub, List.cons_append, List.nil_append])
  repeat' (first | (apply AOps.nil; try simp only [List.nil_append, List.cons_append, List.set_cons_zero, List.set_cons_succ, List.length_cons, List.length_nil, Nat.reduceAdd, AV.sh, AV.sh1, AV.sh0, AO.sh, List.map_cons, List.map_nil, Nat.zero_add, Nat.add_zero, setAll]) | (apply w_assign; exact rfl; exact rfl) | apply AWp.seq | apply AWp.region | apply AWp.block | ((apply w_bsr0); iterate 1 exact rfl))
  refine AWp.loop (ι := Nat) (fun i => ⟨21, [(0, .intss xss), (3, .own 0), (4, .i i)]⟩) (fun i => [.sls 24 2 (xss.take i)]) (fun i => i ≤ xss.length) (fun i => xss.length - i) 0 (by omega) ⟨lee rfl (by (repeat (first | exact le_nil | refine le_eq rfl rfl ?_))), by (repeat (first | exact lo_nil | refine lo_eq rfl ?_)), rfl, rfl⟩ ?_
  rintro i h0
  have e1 : (xss.take i).length = i := by simp; omega
  by_cases hi : i < xss.length
  · have hb2 := hr (gets xss i) (gets_mem (by omega) (by omega))
    have e2 : xss.take i ++ [gets xss i] = xss.take (i + 1) := by rw [List.take_succ_eq_append_getElem hi]; simp [gets, hi]
    repeat' (first | (apply AOps.nil; try simp only [List.nil_append, List.cons_append, List.set_cons_zero, List.set_cons_succ, List.length_cons, List.length_nil, Nat.reduceAdd, AV.sh, AV.sh1, AV.sh0, AO.sh, List.map_cons, List.map_nil, Nat.zero_add, Nat.add_zero, setAll]) | (apply w_move; exact rfl; exact rfl) | (apply w_assign; exact rfl; exact rfl) | apply AWp.seq | apply AWp.region | ((apply AWp.condP; exact rfl) <;> intro h) | apply AWp.block | apply AWp.ret | apply AWp.exit | apply AWp.skip | (apply w_len; exact rfl; exact rfl; first | exact .ints _ | exact .intss _ | exact .sli rfl | exact .sls rfl | exact .slr rfl | exact .orow rfl | exact .nil) | ((first | apply w_bsr1 | apply w_lss | apply w_add | apply w_idx | apply w_ld); iterate 3 exact rfl) | (apply w_appr; exact rfl; exact rfl; exact rfl; exact rfl; exact rfl; exact rfl; exact rfl; rotate_left 1; simp only [Env.mp, List.map_cons, List.map_nil, List.set_cons_zero, List.set_cons_succ, AV.kill, AV.kill1, AO.kill, AV.rin, AV.rin1, AV.noRow, AV.noRow1, AO.via, reduceIte, Nat.reduceEqDiff, Nat.reduceLT, Env.up, Nat.zero_ne_one, Nat.one_ne_zero, Nat.reduceAdd, List.cons_append, List.nil_append]; rotate_left 1) | (apply w_callm (l01Own_c _ hb2); (focus ((repeat (first | exact im_nil | refine im_cons rfl (.ints _) ?_)); done)); rintro r os0 ⟨rfl, rfl⟩; try simp only [List.nil_append, List.cons_append, List.set_cons_zero, List.set_cons_succ, List.length_cons, List.length_nil, Nat.reduceAdd, AV.sh, AV.sh1, AV.sh0, AO.sh, List.map_cons, List.map_nil, Nat.zero_add, Nat.add_zero, setAll]) | omega | ((first | apply w_idxs | apply w_lds); iterate 3 exact rfl) | (apply inI_of <;> omega))
    all_goals exact ⟨i + 1, by omega, by omega, ⟨lee rfl (by (repeat (first | exact le_nil | refine le_eq rfl rfl ?_))), by (repeat (first | exact lo_nil | refine lo_eq (congrArg (AO.sls _ _) (e2)) ?_)), rfl, rfl⟩⟩
  · repeat' (first | (apply AOps.nil; try simp only [List.nil_append, List.cons_append, List.set_cons_zero, List.set_cons_succ, List.length_cons, List.length_nil, Nat.reduceAdd, AV.sh, AV.sh1, AV.sh0, AO.sh, List.map_cons, List.map_nil, Nat.zero_add, Nat.add_zero, setAll]) | (apply w_move; exact rfl; exact rfl) | (apply w_assign; exact rfl; exact rfl) | apply AWp.seq | apply AWp.region | ((apply AWp.condP; exact rfl) <;> intro h) | apply AWp.block | apply AWp.ret | apply AWp.exit | apply AWp.skip | (apply w_len; exact rfl; exact rfl; first | exact .ints _ | exact .intss _ | exact .sli rfl | exact .sls rfl | exact .slr rfl | exact .orow rfl | exact .nil) | omega | ((apply w_lss); iterate 3 exact rfl))
    have e : i = xss.length := by omega
    subst e
    exact ⟨_, _, _, .v1 Try.results71 rfl, .sls rfl, rfl, by simp⟩

/-- The term comes ahead of (i, j). -/
def bef (i j : Int) (t : List Int) : Prop := geti t 0 + geti t 1 < i + j ∨ (geti t 0 + geti t 1 = i + j ∧ geti t 0 < i)
instance (i j : Int) (t : List Int) : Decidable (bef i j t) := by unfold bef; infer_instance
end Go.Proofs.Ytcolpjpppdmanaa
/-
  Two own objects behind a struct as a result. No condition.
-/
namespace Go.Proofs.Ytcolpjpppdmanaa
open Go Go.RowKit

theorem plain_ne {o : AO} (h : o.plain) : o ≠ .dead := by rintro rfl; exact h
theorem NewObjs.two {base : Nat} {w : World} {ok : Nat → Prop} {gs0 : List Gh} {g1 g2 : Gh} {o1 o2 : AO} (p1 : o1.plain) (p2 : o2.plain) (h1 : RO base w ok gs0 g1 o1) (h2 : RO base w ok gs0 g2 o2) (hd : ∀ b, b ∈ g1.bl → b ∉ g2.bl)
    (n1 : ∀ b, b ∈ g1.bl → base ≤ b ∧ b < w.heap.size) (n2 : ∀ b, b ∈ g2.bl → base ≤ b ∧ b < w.heap.size) : NewObjs base w [g1, g2] [o1, o2] where
  hl := rfl
  ho h g o hg ho := by
    match h with
    | 0 => simp at hg ho; subst hg; subst ho; exact p1.ro h1
    | 1 => simp at hg ho; subst hg; subst ho; exact p2.ro h2
    | h + 2 => simp at hg
  hd h k g g' o o' hne hg hg' ho ho' _ _ b hb := by
    match h, k with
    | 0, 0 => exact absurd rfl hne
    | 1, 1 => exact absurd rfl hne
    | 0, 1 => simp at hg hg'; subst hg; subst hg'; exact hd b hb
    | 1, 0 => simp at hg hg'; subst hg; subst hg'; exact fun h => hd b h hb
    | h + 2, _ => simp at hg
    | _, k + 2 => simp at hg'
  hn h g o hg ho _ b hb := by
    match h with
    | 0 => simp at hg; subst hg; exact n1 b hb
    | 1 => simp at hg; subst hg; exact n2 b hb
    | h + 2 => simp at hg
theorem Ret1.oo {os : List AO} {i j : Nat} {o1 o2 : AO} (h1 : os[i]? = some o1) (h2 : os[j]? = some o2) (p1 : o1.plain) (p2 : o2.plain) (hne : i ≠ j) : Ret1 os (.agg [.own i, .own j]) (.agg [.own 0, .own 1]) [o1, o2] := by
  unfold Ret1
  intro base w gs env tm hr u hu
  cases hu with
  | @agg vs _ k1 ko k2 =>
    match vs, k1, ko with
    | [x, y], _, ko =>
      have a1 := k2 0
      have a2 := k2 1
      simp at a1 a2
      cases a1 with
      | @own _ g hg =>
        cases a2 with
        | @own _ g' hg' =>
          refine ⟨[g, g'], .two p1 p2 (hr.ho _ _ _ hg h1) (hr.ho _ _ _ hg' h2) (hr.hd _ _ _ _ _ _ hne hg hg' h1 h2 (plain_ne p1) (plain_ne p2)) (hr.hn _ _ _ hg h1 (plain_ne p1)) (hr.hn _ _ _ hg' h2 (plain_ne p2)), ?_⟩
          refine .agg (vs := [g.v, g'.v]) rfl ko fun q => ?_
          match q with
          | 0 => exact .own rfl
          | 1 => exact .own rfl
          | q + 2 => exact .any _
theorem Ret1.so {os : List AO} {i j a n : Nat} {o1 o2 : AO} (h1 : os[i]? = some o1) (h2 : os[j]? = some o2) (p1 : o1.plain) (p2 : o2.plain) (hne : i ≠ j) : Ret1 os (.agg [.osub i a n, .own j]) (.agg [.osub 0 a n, .own 1]) [o1, o2] := by
  unfold Ret1
  intro base w gs env tm hr u hu
  cases hu with
  | @agg vs _ k1 ko k2 =>
    match vs, k1, ko with
    | [x, y], _, ko =>
      have a1 := k2 0
      have a2 := k2 1
      simp at a1 a2
      cases a1 with
      | @osub _ _ _ cap p g hg c1 c2 c3 =>
        cases a2 with
        | @own _ g' hg' =>
          refine ⟨[g, g'], .two p1 p2 (hr.ho _ _ _ hg h1) (hr.ho _ _ _ hg' h2) (hr.hd _ _ _ _ _ _ hne hg hg' h1 h2 (plain_ne p1) (plain_ne p2)) (hr.hn _ _ _ hg h1 (plain_ne p1)) (hr.hn _ _ _ hg' h2 (plain_ne p2)), ?_⟩
          refine .agg (vs := [.slice p n cap, g'.v]) rfl ko fun q => ?_
          match q with
          | 0 => exact .osub (g := g) rfl c1 c2 c3
          | 1 => exact .own rfl
          | q + 2 => exact .any _
end Go.Proofs.Ytcolpjpppdmanaa
/-
  The order of two rows of two, walked. Condition: two numbers each.
-/
namespace Go.Proofs.Ytcolpjpppdmanaa
open Go Go.RowKit
attribute [local irreducible] AWp AOps ResIs Ret1 QOp LOp COp AFnV AFn Imms LeE LeO
set_option maxHeartbeats 1000000
set_option linter.unusedSimpArgs false
set_option linter.unusedVariables false

def less2 (a b : List Int) : Bool := decide (geti a 0 < geti b 0 ∨ (geti a 0 = geti b 0 ∧ geti a 1 < geti b 1))
theorem l01Less_c (a b : List Int) (ha : a.length = 2) (hb : b.length = 2) : AFnV Try.prog 42 [.ints a, .ints b] (.bool (less2 a b)) := by
  (refine AFnV.start Try.func42 Try.ntmps42 rfl (by kernel_rfl) fun hk => ?_; simp only [Env.start, enumF, List.length_cons, List.length_nil, Nat.reduceAdd, Nat.reduceSub, List.cons_append, List.nil_append])
  repeat' (first | (apply AOps.nil; try simp only [List.nil_append, List.cons_append, List.set_cons_zero, List.set_cons_succ, List.length_cons, List.length_nil, Nat.reduceAdd, AV.sh, AV.sh1, AV.sh0, AO.sh, List.map_cons, List.map_nil, Nat.zero_add, Nat.add_zero, setAll]) | (apply w_assign; exact rfl; exact rfl) | apply AWp.seq | apply AWp.region | apply AWp.block)
  refine AWp.loop (ι := Nat) (fun i => ⟨41, [(0, .ints a), (1, .ints b), (5, .i i)]⟩) (fun _ => []) (fun i => i ≤ 2 ∧ (1 ≤ i → geti a 0 = geti b 0) ∧ (2 ≤ i → geti a 1 = geti b 1)) (fun i => 2 - i) 0 ⟨by omega, fun h => by omega, fun h => by omega⟩ ⟨lee rfl (by (repeat (first | exact le_nil | refine le_eq rfl rfl ?_))), by (repeat (exact lo_nil)), rfl, rfl⟩ ?_
  rintro i ⟨h0, h1, h2⟩
  rcases (show i = 0 ∨ i = 1 ∨ i = 2 by omega) with rfl | rfl | rfl
  all_goals repeat' (first | (apply AOps.nil; try simp only [List.nil_append, List.cons_append, List.set_cons_zero, List.set_cons_succ, List.length_cons, List.length_nil, Nat.reduceAdd, AV.sh, AV.sh1, AV.sh0, AO.sh, List.map_cons, List.map_nil, Nat.zero_add, Nat.add_zero, setAll]) | ((apply AOps.splitP; exact rfl; exact rfl) <;> intro h) | (apply w_move; exact rfl; exact rfl) | (apply w_assign; exact rfl; exact rfl) | apply AWp.seq | apply AWp.region | ((apply AWp.condP; exact rfl) <;> intro h) | (apply AWp.condF; exact rfl) | apply AWp.block | apply AWp.ret | apply AWp.exit | apply AWp.skip | (apply AWp.regionQ; kernel_rfl; kernel_rfl) | (apply w_skip; exact rfl) | (apply w_pickT; exact rfl; exact rfl; exact rfl) | (apply w_pickF; exact rfl; exact rfl; exact rfl) | (apply w_len; exact rfl; exact rfl; first | exact .ints _ | exact .intss _ | exact .sli rfl | exact .sls rfl | exact .slr rfl | exact .orow rfl | exact .nil) | ((first | apply w_lss | apply w_neq | apply w_add | apply w_idx | apply w_ld); iterate 3 exact rfl) | (apply inI_of <;> omega) | omega)
  all_goals try simp only [Int.natCast_zero, Int.natCast_one] at *
  all_goals first
    | exact ⟨1, ⟨by omega, fun _ => by omega, fun h => by omega⟩, by omega, ⟨lee rfl (by (repeat (first | exact le_nil | refine le_eq rfl rfl ?_))), by (repeat (exact lo_nil)), rfl, rfl⟩⟩
    | exact ⟨2, ⟨by omega, fun _ => by omega, fun _ => by omega⟩, by omega, ⟨lee rfl (by (repeat (first | exact le_nil | refine le_eq rfl rfl ?_))), by (repeat (exact lo_nil)), rfl, rfl⟩⟩
    | (refine .bool Try.results42 rfl ?_
       unfold less2
       rw [Bool.eq_iff_iff, decide_eq_true_iff, decide_eq_true_iff]
       omega)

end Go.Proofs.Ytcolpjpppdmanaa
/-
  Functions that draw something from a source: whatever they hand back, over new objects. No condition.
-/
namespace Go.Proofs.Ytcolpjpppdmanaa
open Go Go.RowKit
set_option linter.unusedSimpArgs false

/-- Objects that may stand over a higher base. -/
def upO : AO → AO
  | .ob _ => .dead
  | .keep _ _ => .dead
  | o => o
theorem gb_up {n : Nat} {g : Gh} (h : GB g) (hb : ∀ b, b ∈ g.bl → n ≤ b) : ∀ b, g.v.ownBlock = some b → n ≤ b := fun b e => by
  rcases h with ⟨h3, _⟩ | ⟨h3, h4⟩
  · rw [h3] at e; cases e
  · rw [h3] at e; cases e; exact hb _ (by rw [h4]; simp)
theorem RO.raise {base n : Nat} {w : World} {ok ok' : Nat → Prop} {gs : List Gh} {g : Gh} {o : AO} (hk : ∀ b, ok b → ok' b) (hb : ∀ b, b ∈ g.bl → n ≤ b) (h : RO base w ok gs g o) : RO n w ok' gs g (upO o) := by
  have kp : Keeps ok ok' w w := fun b h _ => ⟨hk b h, rfl⟩
  cases o with
  | dead => trivial
  | ob q => trivial
  | keep m K => trivial
  | sli e xs =>
    obtain ⟨a1, a2, a3⟩ := h
    exact ⟨ownsRow_up a1 (gb_up a3 hb), a2, a3⟩
  | slr e avs =>
    obtain ⟨vs, a1, a2, a3, a4⟩ := h
    exact ⟨vs, ownsRow_up a1 (gb_up a4 hb), a2, fun i => (a3 i).mono kp fun _ _ h => h, a4⟩
  | sls e e2 xss =>
    obtain ⟨vs, bs, mb, a1, a2, a3, a4, a5, a6, a7, a8⟩ := h
    refine ⟨vs, bs, mb, ownsRow_up a1 fun b e1 => ?_, a2, a3, a4, fun i u hu => ?_, a6, a7, a8⟩
    · rcases a6 with ⟨h3, _⟩ | ⟨h3, h4⟩
      · rw [h3] at e1; cases e1
      · rw [h3] at e1; cases e1; exact hb _ (by rw [a7, h4]; simp)
    · obtain ⟨c1, c2, c3⟩ := a5 i u hu
      refine ⟨ownsRow_up c1 fun b e1 => ?_, c2, c3⟩
      refine hb b ?_
      rw [a7, List.mem_append, List.mem_flatten]
      have hi : i < bs.length := by
        have := (List.getElem?_eq_some_iff.1 hu).1
        omega
      refine .inr ⟨bs.getD i [], ?_, ?_⟩
      · rw [List.getD_eq_getElem?_getD, List.getElem?_eq_getElem hi]; exact List.getElem_mem _
      · rw [← c3, e1]; simp
  | bx T avs =>
    obtain ⟨cs, a1, a2, a3, a4, a5, a6, a7⟩ := h
    exact ⟨cs, a1, hb _ (by rw [a3]; simp), a3, a4, a5, a6, fun i => (a7 i).mono kp fun _ _ h => h⟩
theorem upO_dead {o : AO} (h : upO o ≠ .dead) : o ≠ .dead ∧ upO o = o := by cases o <;> simp_all [upO]
theorem upO_live {o : AO} (h : (upO o).live) : o.live := by cases o <;> simp_all [upO, AO.live]
theorem Rel.raise {base n : Nat} {w : World} {gs : List Gh} {env : Env} {o0 o1 : AO} {tl : List AO} {tm : Array Value} (hr : Rel base w gs env (o0 :: o1 :: tl) tm) (hs : n ≤ w.heap.size)
    (hb : ∀ (h : Nat) g o, gs[h + 2]? = some g → tl[h]? = some o → o ≠ .dead → ∀ b, b ∈ g.bl → n ≤ b) : Rel n w gs env (.dead :: .dead :: tl.map upO) tm := by
  have back : ∀ {h : Nat} {o : AO}, (AO.dead :: AO.dead :: tl.map upO)[h]? = some o → o = .dead ∨ ∃ k z, h = k + 2 ∧ tl[k]? = some z ∧ o = upO z := by
    intro h o ho
    match h with
    | 0 => cases ho; exact .inl rfl
    | 1 => cases ho; exact .inl rfl
    | k + 2 =>
      simp only [List.getElem?_cons_succ, List.getElem?_map] at ho
      cases e : tl[k]? with
      | none => rw [e] at ho; cases ho
      | some z => rw [e] at ho; cases ho; exact .inr ⟨k, z, rfl, e, rfl⟩
  have okm : ∀ b, okOf gs (o0 :: o1 :: tl) b → okOf gs (.dead :: .dead :: tl.map upO) b := by
    intro b hk h g o hg ho hl
    rcases back ho with rfl | ⟨k, z, rfl, hz, rfl⟩
    · exact hl.elim
    · exact hk (k + 2) g z hg hz (upO_live hl)
  have kp : Keeps (okOf gs (o0 :: o1 :: tl)) (okOf gs (.dead :: .dead :: tl.map upO)) w w := fun b h _ => ⟨okm b h, rfl⟩
  refine ⟨hs, ?_, hr.hs, fun i => (hr.he i).mono kp fun _ _ h => h, ?_, ?_, ?_⟩
  · have := hr.hl
    simpa using this
  · intro h g o hg ho
    rcases back ho with rfl | ⟨k, z, rfl, hz, rfl⟩
    · trivial
    · by_cases hd : upO z = .dead
      · rw [hd]; trivial
      · exact (hr.ho (k + 2) g z hg hz).raise okm (hb k g z hg hz (upO_dead hd).1)
  · intro h k g g' o o' hne hg hg' ho ho' hd hd'
    rcases back ho with rfl | ⟨i, z, rfl, hz, rfl⟩
    · exact absurd rfl hd
    · rcases back ho' with rfl | ⟨j, y, rfl, hy, rfl⟩
      · exact absurd rfl hd'
      · exact hr.hd (i + 2) (j + 2) g g' z y hne hg hg' hz hy (upO_dead hd).1 (upO_dead hd').1
  · intro h g o hg ho hd b hbb
    rcases back ho with rfl | ⟨i, z, rfl, hz, rfl⟩
    · exact absurd rfl hd
    · exact ⟨hb i g z hg hz (upO_dead hd).1 b hbb, (hr.hn (i + 2) g z hg hz (upO_dead hd).1 b hbb).2⟩

def AFnZ (P : Program) (f : FuncId) (T : TypeId) (bs : List Int) (as0 : List Value) (Q : AV → List AO → Prop) : Prop :=
  HasBody P f ∧ ∀ base w g0 vC at_ h, base ≤ w.heap.size → Sk T base w g0 vC at_ h → SOk bs at_ h → BysAt w (fun b => b ∉ g0.bl) vC bs →
    Calls P f (g0.v :: as0).toArray w fun ev w' => ∃ v r os1 gs1 at' h', ev = .returned v ∧ Q r os1 ∧ SOk bs at' h' ∧ Sk T base w' g0 vC at' h' ∧ NewObjs w.heap.size w' gs1 os1 ∧
      RV w' (fun b => w.heap.size ≤ b ∧ okOf gs1 os1 b) gs1 v r ∧ Below base w w' ∧ ∀ b, b < w.heap.size → b ∉ g0.bl → w'.heap[b]? = w.heap[b]?
def OEnd (P : Program) (fn : Func) (T : TypeId) (bs : List Int) (vC : Value) (K : Kp) (Q : AV → List AO → Prop) (env : Env) (os : List AO) : Prop :=
  ∃ a r objs tl, ResIs P fn env os a ∧ os = .keep 2 K :: skO T bs (.ro (roB vC bs)) :: tl ∧ Ret1 (.dead :: .dead :: tl.map upO) a r objs ∧ Q r objs
theorem AFnZ.mono {P : Program} {f : FuncId} {T : TypeId} {bs : List Int} {as0 : List Value} {Q Q' : AV → List AO → Prop} (h : AFnZ P f T bs as0 Q) (hq : ∀ r os, Q r os → Q' r os) : AFnZ P f T bs as0 Q' :=
  ⟨h.1, fun base w g0 vC at_ hh a b c d => (h.2 base w g0 vC at_ hh a b c d).mono fun _ _ ⟨v, r, os1, gs1, at', h', k1, k2, k3⟩ => ⟨v, r, os1, gs1, at', h', k1, hq _ _ k2, k3⟩⟩

set_option maxHeartbeats 2000000 in
theorem AFnZ.of {P : Program} {f : FuncId} {fn : Func} {c : Code} {T : TypeId} {bs : List Int} {as0 : List Value} {args' : List AV} {Q : AV → List AO → Prop} {n : Nat} (hf : P.funcs[f]? = some fn) (hb : fn.body = some c) (hnm : (fn.name == "runtime.NumGoroutine") = false)
    (hn : fn.ntmps - (as0.length + 1) = n) (ha : args' = .optr 1 0 :: as0.map AV.val)
    (h : ∀ K vC, AWp P c (OEnd P fn T bs vC K Q) (fun _ _ _ => False) (OEnd P fn T bs vC K Q) (Env.start args' n) [.keep 2 K, skO T bs (.ro (roB vC bs))]) :
    AFnZ P f T bs as0 Q := by
  refine ⟨⟨fn, c, hf, hnm, hb⟩, fun base w g0 vC at_ hh hbase hC hI hW => calls_of_wp hf hb ?_⟩
  have hvs : ((g0.v :: as0).toArray).size = as0.length + 1 := by simp
  rw [show fn.ntmps - ((g0.v :: as0).toArray).size = n by rw [hvs]; exact hn]
  obtain ⟨c1, c1', c2, c3, c4⟩ := hC
  obtain ⟨⟨i1, i2⟩, i3, i4⟩ := hI
  let bl : List Nat := (List.range w.heap.size).filter fun b => decide (base ≤ b) && !(g0.bl).contains b
  let gk : Gh := ⟨undef, 0, bl, []⟩
  let K : Kp := ⟨fun b => w.heap[b]?, [gk, g0]⟩
  have hlt : g0.b < w.heap.size := (Array.getElem?_eq_some_iff.1 c1).1
  have hbl : ∀ b, b ∈ bl ↔ b < w.heap.size ∧ base ≤ b ∧ b ∉ g0.bl := by
    intro b
    simp only [bl, List.mem_filter, List.mem_range, Bool.and_eq_true, decide_eq_true_eq, Bool.not_eq_true', List.contains_eq_mem, decide_eq_false_iff_not]
  have okk : ∀ b, b ∉ g0.bl → okOf [gk, g0] [.keep 2 K, skO T bs (.ro (roB vC bs))] b := by
    intro b hb i x y hx hy hl
    match i with
    | 0 => cases hy; exact hl.elim
    | 1 => cases hx; exact hb
    | i + 2 => simp at hx
  have kp : Keeps (fun b => b ∉ g0.bl) (okOf [gk, g0] [.keep 2 K, skO T bs (.ro (roB vC bs))]) w w := fun b hb _ => ⟨okk b hb, rfl⟩
  have hrel : Rel base w [gk, g0] (Env.start args' n) [.keep 2 K, skO T bs (.ro (roB vC bs))] ((g0.v :: as0).toArray ++ Array.replicate n undef) := by
    refine ⟨hbase, rfl, by simp [Env.start, ha], fun i => ?_, ?_, ?_, ?_⟩
    · refine start_rv args' n (g0.v :: as0).toArray (fun i => ?_) i
      rw [ha]
      match i with
      | 0 =>
        show RV w _ _ g0.v (.optr 1 0)
        rw [c4]
        exact .optr (g := g0) rfl
      | i + 1 =>
        have e1 : ((g0.v :: as0).toArray).getD (i + 1) undef = as0.getD i undef := by simp [Array.getD_eq_getD_getElem?, List.getD_eq_getElem?_getD]
        have e2 : (AV.optr 1 0 :: as0.map AV.val).getD (i + 1) .any = (as0.map AV.val).getD i .any := rfl
        rw [e1, e2]
        rw [List.getD_eq_getElem?_getD, List.getD_eq_getElem?_getD, List.getElem?_map]
        cases as0[i]? with
        | none => exact .any _
        | some z => exact .val z
    · intro i x y hx hy
      match i with
      | 0 =>
        cases hx; cases hy
        exact ⟨fun b _ => rfl, rfl, fun i x h => h⟩
      | 1 =>
        cases hx; cases hy
        refine ⟨[vC, .int .i64 at_, .int .u64 hh], c1, c2, c3, c4, rfl, ?_, fun j => ?_⟩
        · intro z hz
          simp only [List.mem_cons, List.not_mem_nil, or_false] at hz
          rcases hz with rfl | rfl | rfl
          · exact c1'
          · rfl
          · rfl
        · match j with
          | 0 => exact .ro ⟨rfl, hW.mono kp⟩
          | 1 => exact .ro ⟨at_, rfl, i1, i2⟩
          | 2 => exact .ro ⟨hh, rfl, i3, i4⟩
          | j + 3 => exact .any _
      | i + 2 => simp at hx
    · intro i j a b o1 o2 hij ha1 hb1 ho1 ho2 _ _ c hc1 hc2
      match i, j with
      | 0, 0 => omega
      | 0, 1 =>
        cases ha1; cases hb1
        exact ((hbl c).1 hc1).2.2 hc2
      | 1, 0 =>
        cases ha1; cases hb1
        exact ((hbl c).1 hc2).2.2 hc1
      | 1, 1 => omega
      | i + 2, _ => simp at ha1
      | 0, j + 2 => simp at hb1
      | 1, j + 2 => simp at hb1
    · intro i x y hx hy _ b hb
      match i with
      | 0 => cases hx; exact ⟨((hbl b).1 hb).2.1, ((hbl b).1 hb).1⟩
      | 1 =>
        cases hx
        rw [c3] at hb
        simp only [List.mem_cons, List.not_mem_nil, or_false] at hb
        subst hb; exact ⟨c2, hlt⟩
      | i + 2 => simp at hx
  have fin : ∀ {env : Env} {os1 : List AO} {gs2 : List Gh} {a : Act} {w' : World}, Rel base w' gs2 env os1 a.tmps → Below base w w' → OEnd P fn T bs vC K Q env os1 →
      ∃ u, (results fn a.tmps).run P w' = .ok u w' ∧ (∃ v r os1 gs1 at' h', Ending.returned u = .returned v ∧ Q r os1 ∧ SOk bs at' h' ∧ Sk T base w' g0 vC at' h' ∧ NewObjs w.heap.size w' gs1 os1 ∧
      RV w' (fun b => w.heap.size ≤ b ∧ okOf gs1 os1 b) gs1 v r ∧ Below base w w' ∧ ∀ b, b < w.heap.size → b ∉ g0.bl → w'.heap[b]? = w.heap[b]?) := by
    rintro env os1 gs2 a w' hr hbel ⟨A, r, objs, tl, hres, rfl, hret, hQ⟩
    obtain ⟨u, hu, hv⟩ := hres _ _ _ _ hr
    have hgl := hr.hl
    obtain ⟨x0, hx0⟩ : ∃ x, gs2[0]? = some x := ⟨_, List.getElem?_eq_getElem (by rw [hgl]; simp)⟩
    obtain ⟨r1, r2, r3⟩ := hr.ho 0 _ _ hx0 rfl
    have p0 := r3 0 gk rfl
    have p1 := r3 1 g0 rfl
    have e0 : x0 = gk := by rw [hx0] at p0; exact Option.some.inj p0
    subst e0
    have o1 := hr.ho 1 _ _ p1 rfl
    obtain ⟨cs, d1, d2, d3, d4, d5, d6, d7⟩ := o1
    match cs, d5 with
    | [z0, z1, z2], _ =>
      have q0 := d7 0
      have q1 : RV w' _ gs2 z1 (.ro (atR bs.length)) := d7 1
      have q2 : RV w' _ gs2 z2 (.ro hR) := d7 2
      have w0 : z0 = vC := by cases q0 with | ro h => exact h.1
      obtain ⟨at', e1, b1, b2⟩ : ∃ a : Int, z1 = .int .i64 a ∧ 0 ≤ a ∧ a ≤ bs.length := by cases q1 with | ro h => exact h
      obtain ⟨h', e2, b3, b4⟩ : ∃ a : Int, z2 = .int .u64 a ∧ 0 ≤ a ∧ a < 18446744073709551616 := by cases q2 with | ro h => exact h
      subst w0 e1 e2
      have hfr : ∀ b, b < w.heap.size → b ∉ g0.bl → w'.heap[b]? = w.heap[b]? := fun b hb hok => by
        rcases Nat.lt_or_ge b base with h6 | h6
        · exact hbel.block b h6
        · exact r1 b ((hbl b).2 ⟨hb, h6, hok⟩)
      have hSk : Sk T base w' g0 z0 at' h' := ⟨d1, c1', c2, c3, c4⟩
      have hrs : Rel w.heap.size w' gs2 env (.dead :: .dead :: tl.map upO) a.tmps := by
        refine hr.raise hbel.size fun k g o hg ho hd b hb => ?_
        have h5 := hr.hn (k + 2) _ _ hg ho hd b hb
        rcases Nat.lt_or_ge b w.heap.size with h6 | h6
        · exfalso
          by_cases h7 : b ∈ g0.bl
          · exact hr.hd (k + 2) 1 g g0 _ _ (by omega) hg p1 ho rfl hd (by simp) b hb h7
          · exact hr.hd (k + 2) 0 g gk _ _ (by omega) hg p0 ho rfl hd (by simp) b hb ((hbl b).2 ⟨h6, h5.1, h7⟩)
        · exact h6
      have okm : ∀ b, okOf gs2 (.keep 2 K :: skO T bs (.ro (roB z0 bs)) :: tl) b → okOf gs2 (.dead :: .dead :: tl.map upO) b := by
        intro b hk h g o hg ho hl
        match h with
        | 0 => cases ho; exact hl.elim
        | 1 => cases ho; exact hl.elim
        | k + 2 =>
          simp only [List.getElem?_cons_succ, List.getElem?_map] at ho
          cases e : tl[k]? with
          | none => rw [e] at ho; cases ho
          | some z => rw [e] at ho; cases ho; exact hk (k + 2) g z hg e (upO_live hl)
      obtain ⟨gs1, h4, h5⟩ := hret _ _ _ _ _ hrs u (hv.mono (fun b h _ => ⟨okm b h, rfl⟩) fun _ _ h => h)
      exact ⟨u, hu, u, r, objs, gs1, at', h', rfl, hQ, ⟨⟨b1, b2⟩, b3, b4⟩, hSk, h4, h5, hbel, hfr⟩
  refine wp_mono (h K vC base w w _ _ hrel (Below.refl _ _)) ?_
  intro ev a w' hq
  cases ev with
  | normal =>
    obtain ⟨env, os1, gs1, hr, hd, hbel, hx⟩ := hq
    obtain ⟨u, hu, hw⟩ := fin hr hbel hx
    exact ⟨hd, u, hu, hw⟩
  | exit j => obtain ⟨_, _, _, _, _, _, hx⟩ := hq; exact hx.elim
  | ret =>
    obtain ⟨env, os1, gs1, hr, hd, hbel, hx⟩ := hq
    obtain ⟨u, hu, hw⟩ := fin hr hbel hx
    exact ⟨hd, u, hu, hw⟩
  | goto l => exact (hq : False).elim
  | panic ch => exact (hq : False).elim
  | outgrown => exact (hq : False).elim
theorem AFnZ.start {P : Program} {f : FuncId} {fn : Func} {nt : Nat} {T : TypeId} {bs : List Int} {as0 : List Value} {Q : AV → List AO → Prop} (hf : P.funcs[f]? = some fn) (hnt : fn.ntmps = nt) {c : Code} (hb : fn.body = some c) (hnm : (fn.name == "runtime.NumGoroutine") = false)
    (h : ∀ K vC, AWp P c (OEnd P fn T bs vC K Q) (fun _ _ _ => False) (OEnd P fn T bs vC K Q) (Env.start (.optr 1 0 :: as0.map AV.val) (nt - (as0.length + 1))) [.keep 2 K, skO T bs (.ro (roB vC bs))]) :
    AFnZ P f T bs as0 Q := AFnZ.of hf hb hnm (by rw [hnt]) rfl h

section
variable {P : Program} {env : Env} {os : List AO} {d : Option Tmp} {ty : TypeId} {pos : String} {af : Array Edge} {g : Option (Nat × Bool)}
theorem c_callsoo {f : FuncId} {T : TypeId} {bs : List Int} {as0 : List Value} {Q : AV → List AO → Prop} {h0 : Nat} {a0 : AV} (hc : AFnZ P f T bs as0 Q) {x : Operand} {xs : List Operand} {ats : Array TypeId} (hx : AV.ev env x = .optr h0 0)
    (o0 : os[h0]? = some (skO T bs a0)) (hxs : xs.map (AV.ev env) = as0.map AV.val) (ra : RdB a0 bs) :
    COp P ⟨d, .call { callee := .value (.func f), args := (x :: xs).toArray, argTypes := ats }, ty, pos, af, g⟩ env os (fun r e' o => ∃ r0 os0, Q r0 os0 ∧ r = r0.sh os.length ∧ e' = env ∧ o = os ++ os0.map (AO.sh os.length)) := by
  intro base w gs tm hr
  obtain ⟨g0, z0, at_, hh, q0, hWk, hI, hW, t0, okb⟩ := sk_at hr o0 ra
  have hxv := hr.ev x
  rw [hx] at hxv
  have ex : Act.eval ⟨tm, []⟩ x = g0.v := by
    generalize Act.eval ⟨tm, []⟩ x = v at hxv
    cases hxv with
    | optr hh => rw [q0] at hh; cases hh; exact hWk.v.symm
  have exs : xs.map (Act.eval ⟨tm, []⟩) = as0 := by
    have hlen : xs.length = as0.length := by simpa using congrArg List.length hxs
    apply List.ext_getElem (by simpa using hlen)
    intro i k1 k2
    have k3 : i < xs.length := by simpa using k1
    have : AV.ev env xs[i] = .val as0[i] := by
      have := congrArg (fun l => l[i]?) hxs
      simpa [List.getElem?_eq_getElem k3, List.getElem?_eq_getElem k2] using this
    simpa using hr.evv this
  refine ⟨f, _, run_call hc.1 (x :: xs) ats _ rfl w, ?_⟩
  have eargs : ((x :: xs).map (Act.eval ⟨tm, []⟩)).toArray = (g0.v :: as0).toArray := by rw [List.map_cons, ex, exs]
  rw [eargs]
  refine (hc.2 base w g0 z0 at_ hh hr.hb hWk hI hW).mono ?_
  rintro ev w' ⟨v, r, os1, gs1, at', h', rfl, hQ, hI', hWk', hno, hv, hbel, hfr⟩
  have hlt : g0.b < w.heap.size := (Array.getElem?_eq_some_iff.1 hWk.cell).1
  obtain ⟨obj, hobj⟩ : ∃ o, w'.heap[g0.b]? = some o := ⟨_, hWk'.cell⟩
  -- a world in between: the source alone has changed
  let w1 : World := { w with heap := w.heap.setIfInBounds g0.b obj }
  have hs1 : w1.heap.size = w.heap.size := by simp [w1]
  have hg1 : ∀ b, w1.heap[b]? = if b = g0.b then some obj else w.heap[b]? := fun b => by
    show (w.heap.setIfInBounds g0.b obj)[b]? = _
    rw [Array.getElem?_setIfInBounds]
    by_cases e : g0.b = b
    · subst e; rw [if_pos rfl, if_pos hlt, if_pos rfl]
    · rw [if_neg e, if_neg fun h => e h.symm]
  have hSk1 : Sk T base w1 g0 z0 at' h' := ⟨by rw [hg1, if_pos rfl, ← hobj]; exact hWk'.cell, hWk'.one, hWk'.hb, hWk'.bl, hWk'.v⟩
  have hrel1 : Rel base w1 gs env os tm := sk_back hr o0 q0 t0 hI' hSk1 (by rw [hs1]; exact Nat.le_refl _) fun b hb hn => by
    rw [hg1, if_neg]
    intro e; subst e
    exact hn (by rw [hWk.bl]; simp)
  have hbel1 : Below w1.heap.size w1 w' := by
    refine ⟨hbel.os, hbel.tape, hbel.output, by rw [hs1]; exact hbel.size, fun b hb => ?_⟩
    rw [hs1] at hb
    rw [hg1]
    by_cases e : b = g0.b
    · subst e; rw [if_pos rfl, hobj]
    · rw [if_neg e]
      exact hfr b hb (by rw [hWk.bl]; simpa using e)
  have j := hrel1.join hbel1 (by rw [hs1]; exact hno)
  rw [hr.hl] at j
  exact ⟨v, _, _, _, _, rfl, ⟨r, os1, hQ, rfl, rfl, rfl⟩, j.1, j.2 (by rw [hs1]; exact hv), hbel⟩
end
section
variable {P : Program} {env : Env} {os : List AO} {d : Tmp} {ty : TypeId} {pos : String} {af : Array Edge} {l rest : List Oper} {K : APost}
theorem w_callsoo {g : Option (Nat × Bool)} {f : FuncId} {T : TypeId} {bs : List Int} {as0 : List Value} {Q : AV → List AO → Prop} {h0 m : Nat} {a0 : AV} {x : Operand} {xs : List Operand} {ats : Array TypeId} (hc : AFnZ P f T bs as0 Q)
    (hw : wantedA l env ⟨some d, .call { callee := .value (.func f), args := (x :: xs).toArray, argTypes := ats }, ty, pos, af, g⟩ = some true) (hx : evo env x = some (.optr h0 0))
    (o0 : os[h0]? = some (skO T bs a0)) (hxs : xs.map (AV.ev env) = as0.map AV.val) (ra : RdB a0 bs) (hm : os.length = m)
    (h' : ∀ r0 os0, Q r0 os0 → AOps P .seq l rest K (env.up d (r0.sh m)) (os ++ os0.map (AO.sh m))) :
    AOps P .seq l (⟨some d, .call { callee := .value (.func f), args := (x :: xs).toArray, argTypes := ats }, ty, pos, af, g⟩ :: rest) K env os := by
  subst hm
  exact AOps.cag hw (c_callsoo hc (ev_of hx) o0 hxs ra) fun r e' o ⟨r0, os0, h3, e1, e2, e5⟩ => by subst e1; subst e2; subst e5; exact h' r0 os0 h3
end
end Go.Proofs.Ytcolpjpppdmanaa
/-
  All rows of one own slice of rows are appended to another one, which takes them over. No condition.
-/
namespace Go.Proofs.Ytcolpjpppdmanaa
open Go Go.RowKit

section
variable {P : Program} {env : Env} {os : List AO} {d : Option Tmp} {ty : TypeId} {pos : String} {af : Array Edge} {g : Option (Nat × Bool)}
set_option maxHeartbeats 1000000 in
theorem l_append_rows {t e : TypeId} {bytes : Nat} [ht : TSlice P t e] [he : TElem P e (.slice none 0 0) bytes] {x y : Operand} {h k : Nat} {e' e2 e4 : TypeId} {xss yss : List (List Int)}
    (hx : AV.ev env x = .own h) (hs : os[h]? = some (.sls e' e2 xss)) (hee : e' = e) (hy : AV.ev env y = .own k) (hk : os[k]? = some (.sls e4 e2 yss)) (hne : (h == k) = false)
    (hb : (xss.length + yss.length) * bytes ≤ 140737488355328) :
    LOp P ⟨d, .call { callee := .builtin .append, args := #[x, y], argTypes := #[t, t] }, ty, pos, af, g⟩ env os (.own h) (env.mp (AV.lose h)) (((os.map (AO.via (AV.lose h) h)).set h (.sls e e2 (xss ++ yss))).set k .dead) := by
  subst hee
  have hne : h ≠ k := fun e => by subst e; simp at hne
  intro base w gs tm hr
  have hxv := hr.ev x
  rw [hx] at hxv
  have hyv := hr.ev y
  rw [hy] at hyv
  generalize hv : Act.eval ⟨tm, []⟩ x = v at hxv
  generalize hu : Act.eval ⟨tm, []⟩ y = u at hyv
  cases hxv with
  | @own _ gh hg =>
  cases hyv with
  | @own _ gk hgk =>
    have hro2 := hr.ho _ _ _ hgk hk
    obtain ⟨pa, cap, eu, _, _, hpa, hkl, hcells⟩ := sls_slice hro2
    obtain ⟨vs, bs, mb, a1, a2, a3, a4, a5, a6, a7, a8⟩ := hr.ho _ _ _ hg hs
    obtain ⟨us, cs, mk, b1, b2, b3, b4, b5, b6, b7, b8⟩ := hro2
    obtain ⟨ii, hi, hsz, hz, hby⟩ := he.info
    have hul : us.length = yss.length := b2
    have key : ∃ v' w', (Builtin.append_ #[t, t] ty #[gh.v, .slice pa yss.length cap]).run P w = .ok v' w' ∧ w'.ownsRow base e' 1 v' (vs.length + us.length) (vs ++ us) ∧ w.grownBy w' gh.v.ownBlock ∧
        (v'.ownBlock = gh.v.ownBlock ∨ v'.ownBlock = some w.heap.size) := by
      by_cases h0 : yss.length = 0
      · have e0 : us = [] := List.length_eq_zero_iff.1 (by omega)
        rw [h0, e0]
        exact ⟨gh.v, w, run_append_none ht.und hi a1 pa cap, by simpa using a1, ⟨rfl, rfl, rfl, Nat.le_refl _, fun _ _ _ => rfl⟩, .inl rfl⟩
      · have epa := hpa (by omega)
        subst epa
        have h64 : vs.length + yss.length ≤ maxLen := by
          have hb0 := he.pos
          have : xss.length + yss.length ≤ (xss.length + yss.length) * bytes := Nat.le_mul_of_pos_right _ hb0
          simp only [maxLen]; omega
        obtain ⟨v', w', r1, r2, r3, _, r5⟩ := run_append_own_at (P := P) w base t ty e' ii _ 1 bytes ht.und hi hz hsz hby rfl (by omega) gh.v vs.length vs a1 ⟨gk.b, 0, none⟩ yss.length cap us (by omega)
          (fun j u hj => by rw [add_none]; rw [Nat.zero_add]; exact (hcells j u (by rw [b4]; exact hj)).1)
          (fun u hu => by obtain ⟨j, hj⟩ := List.getElem?_of_mem hu; obtain ⟨_, ua, n, c, rfl⟩ := hcells j u (by rw [b4]; exact hj); rfl) h64 (by rw [a2]; exact hb) hr.hb
        exact ⟨v', w', r1, by rw [hul]; exact r2, r3, r5⟩
    obtain ⟨v', w', r1, r2, r3, r5⟩ := key
    have emb : gh.v.ownBlock.toList = mb := by
      rcases a6 with ⟨c1, c2⟩ | ⟨c1, c2⟩
      · rw [c1, c2]; rfl
      · rw [c1, c2]; rfl
    have hgb : ∀ b, b ∉ gh.bl → some b ≠ gh.v.ownBlock := fun b hb e => hb (by rw [a7, ← emb, ← e]; simp)
    have hnotmb : ∀ b, b ∉ mb → some b ≠ gh.v.ownBlock := fun b hb e => hb (by rw [← emb, ← e]; simp)
    have hdis : ∀ c, c ∈ gk.bl → c ∉ gh.bl := hr.hd k h gk gh _ _ (fun e => hne e.symm) hgk hg hk hs (by simp) (by simp)
    have hcsk : ∀ c, c ∈ cs.flatten → c ∈ gk.bl := fun c hc => by rw [b7]; exact List.mem_append.2 (.inr hc)
    have hlt : ∀ b, v'.ownBlock = some b → b < w'.heap.size := by
      intro b hb
      rcases r2.2 with ⟨e1, _⟩ | ⟨gg, cc, cur, e1, _, hgg, _⟩
      · rw [e1] at hb; cases hb
      · rw [e1] at hb; cases hb; exact (Array.getElem?_eq_some_iff.1 hgg).1
    have hhg : h < gs.length := (List.getElem?_eq_some_iff.1 hg).1
    have hbl0 : ∀ b, b ∈ gh.bl → b < w.heap.size := fun b hb => (hr.hn _ _ _ hg hs (by simp) b hb).2
    have hblk : ∀ b, b ∈ gk.bl → b < w.heap.size := fun b hb => (hr.hn _ _ _ hgk hk (by simp) b hb).2
    let g' : Gh := ⟨v', v'.ownBlock.getD 0, v'.ownBlock.toList ++ (bs ++ cs).flatten, vs ++ us⟩
    have efl : (bs ++ cs).flatten = bs.flatten ++ cs.flatten := by simp
    have hv'b : ∀ b, b ∈ v'.ownBlock.toList → v'.ownBlock = some b := fun b hb => by
      cases hvb : v'.ownBlock with
      | none => rw [hvb] at hb; simp at hb
      | some c => rw [hvb] at hb; simp at hb; rw [hb]
    have rowblk : ∀ (j : Nat) u, vs[j]? = some u → ∀ c, u.ownBlock = some c → c ∈ bs.flatten := by
      intro j u hj c hc
      have hjb : j < bs.length := by
        have := (List.getElem?_eq_some_iff.1 hj).1
        omega
      exact List.mem_flatten.2 ⟨bs.getD j [], by rw [List.getD_eq_getElem?_getD, List.getElem?_eq_getElem hjb]; simp, by rw [← (a5 j u hj).2.2, hc]; simp⟩
    have rowblk2 : ∀ (j : Nat) u, us[j]? = some u → ∀ c, u.ownBlock = some c → c ∈ cs.flatten := by
      intro j u hj c hc
      have hjb : j < cs.length := by
        have := (List.getElem?_eq_some_iff.1 hj).1
        omega
      exact List.mem_flatten.2 ⟨cs.getD j [], by rw [List.getD_eq_getElem?_getD, List.getElem?_eq_getElem hjb]; simp, by rw [← (b5 j u hj).2.2, hc]; simp⟩
    have a8' : (mb ++ bs.flatten).Nodup := by rw [← a7]; exact a8
    have b8' : (mk ++ cs.flatten).Nodup := by rw [← b7]; exact b8
    have mbfl : ∀ b, b ∈ mb → b ∉ bs.flatten := fun b hb hb2 => (List.nodup_append.1 a8').2.2 b hb b hb2 rfl
    have keep : ∀ c, c < w.heap.size → c ∉ mb → w'.heap[c]? = w.heap[c]? := fun c hc hcm => r3.block c hc (hnotmb c hcm)
    refine ⟨v', w', gs.set h g', .inl ?_, hr.absorb hg hs trivial hgk hk trivial hne g' _ (AV.lose h) rfl (fun b hb hn => r3.block b hb (hgb b hn)) r3.size ?_ (fun kp hv => hv.lose kp) ?_, ?_, ?_⟩
    · have eu' : gk.v = .slice pa yss.length cap := eu
      simp only [execOp, resolve, invoke, builtin, Sem.run_bind, Sem.run_pure, Result.andThen_ok, List.map_toArray, List.map_cons, List.map_nil, hv, hu, eu', r1]
    · intro b hb
      rcases List.mem_append.1 hb with hb | hb
      · have hb' := hv'b b hb
        refine ⟨?_, hlt b hb'⟩
        rcases r5 with r5 | r5
        · left
          rw [hb'] at r5
          exact Classical.byContradiction fun hn => hgb b hn r5
        · right; right
          rw [hb'] at r5; cases r5; exact Nat.le_refl _
      · rw [efl] at hb
        rcases List.mem_append.1 hb with hb | hb
        · have : b ∈ gh.bl := by rw [a7]; exact List.mem_append.2 (.inr hb)
          exact ⟨.inl this, Nat.lt_of_lt_of_le (hbl0 b this) r3.size⟩
        · exact ⟨.inr (.inl (hcsk b hb)), Nat.lt_of_lt_of_le (hblk b (hcsk b hb)) r3.size⟩
    · intro kp
      refine ⟨vs ++ us, bs ++ cs, v'.ownBlock.toList, by rw [List.length_append]; exact r2, by simp [a2, b2], by simp [a3, b3], rfl, fun j u hj => ?_, ?_, rfl, ?_⟩
      · rw [List.getElem?_append] at hj
        split at hj
        · rename_i hjl
          obtain ⟨q1, q2, q3⟩ := a5 j u hj
          have g1 : (xss ++ yss).getD j [] = xss.getD j [] := by
            simp only [List.getD_eq_getElem?_getD]; rw [List.getElem?_append_left (by omega)]
          have g2 : (bs ++ cs).getD j [] = bs.getD j [] := by
            simp only [List.getD_eq_getElem?_getD]; rw [List.getElem?_append_left (by omega)]
          rw [g1, g2]
          refine ⟨ownsRow_of_block q1 fun c hc => ?_, q2, q3⟩
          have hcf := rowblk j u hj c hc
          exact keep c (hbl0 c (by rw [a7]; exact List.mem_append.2 (.inr hcf))) fun hm => mbfl c hm hcf
        · rename_i hjl
          obtain ⟨q1, q2, q3⟩ := b5 _ u hj
          have g1 : (xss ++ yss).getD j [] = yss.getD (j - vs.length) [] := by
            simp only [List.getD_eq_getElem?_getD]; rw [List.getElem?_append_right (by omega), a2]
          have g2 : (bs ++ cs).getD j [] = cs.getD (j - vs.length) [] := by
            simp only [List.getD_eq_getElem?_getD]; rw [List.getElem?_append_right (by omega), a2, ← a3]
          rw [g1, g2]
          refine ⟨ownsRow_of_block q1 fun c hc => ?_, q2, q3⟩
          have hcm := hcsk c (rowblk2 _ u hj c hc)
          exact keep c (hblk c hcm) fun hm => hdis c hcm (by rw [a7]; exact List.mem_append.2 (.inl hm))
      · show (v'.ownBlock = none ∧ v'.ownBlock.toList = []) ∨ (v'.ownBlock = some (v'.ownBlock.getD 0) ∧ v'.ownBlock.toList = [v'.ownBlock.getD 0])
        cases v'.ownBlock with
        | none => exact .inl ⟨rfl, rfl⟩
        | some b => exact .inr ⟨rfl, rfl⟩
      · show (v'.ownBlock.toList ++ (bs ++ cs).flatten).Nodup
        rw [efl]
        refine nodup_rows a8' ?_ ?_ (List.nodup_append.1 b8').2.1 (fun b hb => by rw [← a7]; exact hdis b (hcsk b hb))
        · cases v'.ownBlock <;> simp
        · intro b hb
          have hb' := hv'b b hb
          rcases r5 with r5 | r5
          · rw [hb'] at r5
            have hm : b ∈ mb := by rw [← emb, ← r5]; simp
            exact ⟨mbfl b hm, fun hc => hdis b (hcsk b hc) (by rw [a7]; exact List.mem_append.2 (.inl hm))⟩
          · rw [hb'] at r5
            cases r5
            refine ⟨fun hc => ?_, fun hc => ?_⟩
            · have := hbl0 w.heap.size (by rw [a7]; exact List.mem_append.2 (.inr hc)); omega
            · have := hblk w.heap.size (hcsk _ hc); omega
    · exact RV.own (g := g') (by simp [hhg])
    · refine ⟨r3.os, r3.tape, r3.output, r3.size, fun b hb => r3.block b (by have := hr.hb; omega) (hgb b fun hm => ?_)⟩
      have := (hr.hn _ _ _ hg hs (by simp) b hm).1
      omega
end

section
variable {P : Program} {env : Env} {os : List AO} {d : Tmp} {ty : TypeId} {pos : String} {af : Array Edge} {l rest : List Oper} {K : APost}
theorem w_apprs {t e : TypeId} {bytes : Nat} [TSlice P t e] [TElem P e (.slice none 0 0) bytes] {x y : Operand} {h k : Nat} {e' e2 e4 : TypeId} {xss yss : List (List Int)}
    (hx : evo env x = some (.own h)) (hs : os[h]? = some (.sls e' e2 xss)) (hee : e' = e) (hy : evo env y = some (.own k)) (hk : os[k]? = some (.sls e4 e2 yss)) (hne : (h == k) = false)
    (hb : (xss.length + yss.length) * bytes ≤ 140737488355328) (h' : AOps P .seq l rest K (Env.up (env.mp (AV.lose h)) d (.own h)) (((os.map (AO.via (AV.lose h) h)).set h (.sls e e2 (xss ++ yss))).set k .dead)) :
    AOps P .seq l (⟨some d, .call { callee := .builtin .append, args := #[x, y], argTypes := #[t, t] }, ty, pos, af, none⟩ :: rest) K env os :=
  AOps.lo (l_append_rows (ev_of hx) hs hee (ev_of hy) hk hne hb) h'
end
end Go.Proofs.Ytcolpjpppdmanaa
/-
  A literal slice of two own rows, as an own slice of rows. No condition.
-/
namespace Go.Proofs.Ytcolpjpppdmanaa
open Go Go.RowKit
theorem ar2r : Array.range 2 = #[0, 1] := by apply Array.ext'; simp [List.range_succ]
section
variable {P : Program} {env : Env} {os : List AO} {d : Option Tmp} {ty : TypeId} {pos : String} {af : Array Edge} {g : Option (Nat × Bool)}
set_option maxHeartbeats 1000000 in
theorem l_bsr2s {t e e2 : TypeId} {bytes : Nat} [ht : TSlice P t e] [he : TElem P e (.slice none 0 0) bytes] [ht2 : TSlice P e e2] {x y : Operand} {k j : Nat} {e3 e4 : TypeId} {ys zs : List Int}
    (hx : AV.ev env x = .own k) (hk : os[k]? = some (.sli e3 ys)) (he3 : e3 = e2) (hy : AV.ev env y = .own j) (hj : os[j]? = some (.sli e4 zs)) (he4 : e4 = e2) (hkj : (k == j) = false) :
    LOp P ⟨d, .buildSlice t 2 #[(0, x), (1, y)], ty, pos, af, g⟩ env os (.own os.length) (env.mp (AV.lose os.length))
      ((((((os ++ [AO.sls e e2 []]).map (AO.via (AV.lose os.length) os.length)).set os.length (.sls e e2 [ys, zs])).set k .dead)).set j .dead) := by
  subst he3 he4
  have hkj : k ≠ j := fun e => by subst e; simp at hkj
  intro base w gs tm hr
  have hxv := hr.ev x
  rw [hx] at hxv
  have hyv := hr.ev y
  rw [hy] at hyv
  generalize hv : Act.eval ⟨tm, []⟩ x = v at hxv
  generalize hu : Act.eval ⟨tm, []⟩ y = u at hyv
  cases hxv with
  | @own _ gk hgk =>
  cases hyv with
  | @own _ gj hgj =>
    obtain ⟨b1, b2, b3⟩ := hr.ho _ _ _ hgk hk
    obtain ⟨c1, c2, c3⟩ := hr.ho _ _ _ hgj hj
    obtain ⟨ua, uc, eu⟩ := ownsRow_slice b1
    obtain ⟨va, vc, ev⟩ := ownsRow_slice c1
    obtain ⟨ii, hi, hs, hz, hby⟩ := he.info
    have hkl : k < os.length := (List.getElem?_eq_some_iff.1 hk).1
    have hjl : j < os.length := (List.getElem?_eq_some_iff.1 hj).1
    let g0 : Gh := ⟨.slice none 0 0, 0, [], []⟩
    have hr1 : Rel base w (gs ++ [g0]) env (os ++ [.sls e e4 []]) tm := hr.new (Below.refl _ _) _ g0 (fun _ b hb => by simp [g0] at hb) ⟨[], [], [], World.ownsRow_nil w base e 1, rfl, rfl, rfl, fun i u h => (by simp at h), .inl ⟨rfl, rfl⟩, rfl, by simp [g0]⟩
    have hl := hr.hl
    have hgp : (gs ++ [g0])[os.length]? = some g0 := by rw [← hl]; simp
    have hop : (os ++ [AO.sls e e4 []])[os.length]? = some (.sls e e4 []) := by simp
    have hgk' : (gs ++ [g0])[k]? = some gk := by rw [List.getElem?_append_left (by omega)]; exact hgk
    have hok' : (os ++ [AO.sls e e4 []])[k]? = some (.sli e4 ys) := by rw [List.getElem?_append_left hkl]; exact hk
    have hgj' : (gs ++ [g0])[j]? = some gj := by rw [List.getElem?_append_left (by omega)]; exact hgj
    have hoj' : (os ++ [AO.sls e e4 []])[j]? = some (.sli e4 zs) := by rw [List.getElem?_append_left hjl]; exact hj
    have hpl : os.length < (gs ++ [g0]).length := by simp; omega
    let w' := w.alloc (.cells [gk.v, gj.v].toArray e)
    let g' : Gh := ⟨.slice (some ⟨w.heap.size, 0, none⟩) 2 2, w.heap.size, [w.heap.size] ++ (gk.bl ++ gj.bl), [gk.v, gj.v]⟩
    have hbel : Below w.heap.size w w' := below_alloc w _
    have hblk : ∀ b, b ∈ gk.bl → b < w.heap.size := fun b hb => (hr.hn _ _ _ hgk hk (by simp) b hb).2
    have hblj : ∀ b, b ∈ gj.bl → b < w.heap.size := fun b hb => (hr.hn _ _ _ hgj hj (by simp) b hb).2
    have hdis : ∀ b, b ∈ gk.bl → b ∉ gj.bl := hr.hd k j gk gj _ _ hkj hgk hgj hk hj (by simp) (by simp)
    refine ⟨.slice (some ⟨w.heap.size, 0, none⟩) 2 2, w', (gs ++ [g0]).set os.length g', .inl ?_,
      hr1.absorb2 hgp hop trivial hgk' hok' trivial (by omega) hgj' hoj' trivial (by omega) g' (.sls e e4 [ys, zs]) (AV.lose os.length) rfl (fun b hb _ => hbel.block b hb) hbel.size ?_ (fun kp hv => hv.lose kp) ?_, ?_, hbel.mono hr.hb⟩
    · simp [execOp, Instr.buildSlice, run_underlying ht.und, sizeOf, typeInfo, zeroValue, hi, hs, hz, Instr.fill, newRow, hv, hu, eu, ev, Value.cells, ar2r, w']
    · intro b hb
      have hsz : w'.heap.size = w.heap.size + 1 := by simp [w']
      rcases List.mem_append.1 hb with hb | hb
      · simp at hb
        exact ⟨.inr (.inr (.inr (by omega))), by omega⟩
      · rcases List.mem_append.1 hb with hb | hb
        · have := hblk b hb
          exact ⟨.inr (.inl hb), by omega⟩
        · have := hblj b hb
          exact ⟨.inr (.inr (.inl hb)), by omega⟩
    · intro kp
      refine ⟨[gk.v, gj.v], [gk.bl, gj.bl], [w.heap.size], ⟨rfl, .inr ⟨w.heap.size, 2, _, rfl, hr.hb, heap_alloc_new w _, Nat.le_refl _, by simp [maxLen], by simp, by simp⟩⟩, rfl, rfl, rfl, fun i u hi => ?_, .inr ⟨rfl, rfl⟩, by simp [g'], ?_⟩
      · match i with
        | 0 =>
          simp at hi
          subst hi
          exact ⟨ownsRow_of_block b1 fun c hc => hbel.block c (hblk c (b3.mem hc)), b2, b3.list⟩
        | 1 =>
          simp at hi
          subst hi
          exact ⟨ownsRow_of_block c1 fun c hc => hbel.block c (hblj c (c3.mem hc)), c2, c3.list⟩
        | i + 2 => simp at hi
      · exact nodup_append3 (by simp) b3.nodup c3.nodup (fun b hb hb2 => by simp at hb; have := hblk b hb2; omega) (fun b hb hb2 => by simp at hb; have := hblj b hb2; omega) hdis
    · exact RV.own (g := g') (by rw [List.getElem?_set_self hpl])
end
section
variable {P : Program} {env : Env} {os : List AO} {d : Tmp} {ty : TypeId} {pos : String} {af : Array Edge} {l rest : List Oper} {K : APost}
theorem w_bsr2s {t e e2 e3 e4 : TypeId} {bytes : Nat} [TSlice P t e] [TElem P e (.slice none 0 0) bytes] [TSlice P e e2] {x y : Operand} {k j m : Nat} {ys zs : List Int} (hx : evo env x = some (.own k)) (hk : os[k]? = some (.sli e3 ys)) (he3 : e3 = e2)
    (hy : evo env y = some (.own j)) (hj : os[j]? = some (.sli e4 zs)) (he4 : e4 = e2) (hkj : (k == j) = false) (hm : os.length = m)
    (h' : AOps P .seq l rest K (Env.up (env.mp (AV.lose m)) d (.own m)) ((((((os ++ [AO.sls e e2 []]).map (AO.via (AV.lose m) m)).set m (.sls e e2 [ys, zs])).set k .dead)).set j .dead)) :
    AOps P .seq l (⟨some d, .buildSlice t 2 #[(0, x), (1, y)], ty, pos, af, none⟩ :: rest) K env os := by
  subst hm
  exact AOps.lo (l_bsr2s (ev_of hx) hk he3 (ev_of hy) hj he4 hkj) h'
end
section
variable {P : Program} {env : Env} {os : List AO} {d : Tmp} {ty : TypeId} {pos : String} {af : Array Edge} {l rest : List Oper} {K : APost}
end
end Go.Proofs.Ytcolpjpppdmanaa
/-
  Own numbers that are only read from here on; nil as own rows. No condition.
-/
namespace Go.Proofs.Ytcolpjpppdmanaa
open Go Go.RowKit

def AV.frzI1 (k : Nat) (xs : List Int) : AV → AV
  | .own h => if h = k then .ints xs else .own h
  | .optr h i => if h = k then .any else .optr h i
  | .osub h a b => if h = k then (if a + b ≤ xs.length then .ints ((xs.drop a).take b) else .any) else .osub h a b
  | .orow h i => if h = k then .any else .orow h i
  | .orptr h i j => if h = k then .any else .orptr h i j
  | .agg _ => .any
  | .tup _ => .any
  | a => a
def AV.frzI (k : Nat) (xs : List Int) : AV → AV
  | .own h => if h = k then .ints xs else .own h
  | .optr h i => if h = k then .any else .optr h i
  | .osub h a b => if h = k then (if a + b ≤ xs.length then .ints ((xs.drop a).take b) else .any) else .osub h a b
  | .orow h i => if h = k then .any else .orow h i
  | .orptr h i j => if h = k then .any else .orptr h i j
  | .agg l => .agg (l.map (AV.frzI1 k xs))
  | .tup l => .tup (l.map (AV.frzI1 k xs))
  | a => a
def AO.frzI (k : Nat) (xs : List Int) : AO → AO
  | .bx T avs => .bx T (avs.map (AV.frzI k xs))
  | .slr e avs => .slr e (avs.map (AV.frzI k xs))
  | o => o
theorem AO.frzI_dead {k : Nat} {xs : List Int} {o : AO} : o.frzI k xs = .dead ↔ o = .dead := by cases o <;> simp [AO.frzI]
theorem AO.frzI_live {k : Nat} {xs : List Int} {o : AO} : (o.frzI k xs).live ↔ o.live := by cases o <;> exact Iff.rfl
/-- An own slice, or a part of it, reads as its numbers. -/
theorem sli_at {base : Nat} {w : World} {ok ok' : Nat → Prop} {gs : List Gh} {g : Gh} {e : TypeId} {xs : List Int} (h : RO base w ok gs g (.sli e xs)) (hb : ∀ b, b ∈ g.bl → ok' b) :
    IntsAt w ok' g.v xs ∧ ∀ (p : Option Addr) (off len cap : Nat), (0 < len → p = some ⟨g.b, off, none⟩) → len ≤ cap → cap ≤ maxLen → off + len ≤ xs.length → IntsAt w ok' (.slice p len cap) ((xs.drop off).take len) := by
  obtain ⟨a1, a2, a3⟩ := h
  refine ⟨⟨RowAt.of_owns' (by rw [← List.length_map (f := Value.int .i64)] at a1; exact a1) fun b hbk => hb b (a3.mem hbk), a2⟩, fun p off len cap hp hc hm hle => ?_⟩
  have hl : (((xs.drop off).take len).map (Value.int .i64)).length = len := by simp; omega
  refine ⟨⟨p, cap, by rw [hl], by omega, hm, fun h0 => ?_⟩, fun x hx => a2 x (List.mem_of_mem_drop (List.mem_of_mem_take hx))⟩
  rw [hl] at h0
  have hgb : g.b ∈ g.bl := by
    obtain ⟨b, cap', e1, e2, e3, _⟩ := own_slice a1 (i := 0) (by simp; omega)
    have := a3.mem e2
    rw [a3.eq e2]; exact this
  refine ⟨_, off, hp h0, hb _ hgb, fun i u hu => ?_⟩
  have hi := (List.getElem?_eq_some_iff.1 hu).1
  rw [hl] at hi
  obtain ⟨b, cap', e1, e2, e3, _⟩ := own_slice a1 (i := off + i) (by simp; omega)
  rw [a3.eq e2, e3, ← hu, List.map_take, List.map_drop, List.getElem?_take, if_pos hi, List.getElem?_drop]

section
variable {w : World} {ok ok' : Nat → Prop} {gs : List Gh} {k : Nat} {xs : List Int}
/-- What the frozen rows look like to their readers. -/
def FrzIAt (w : World) (ok' : Nat → Prop) (gs : List Gh) (k : Nat) (xs : List Int) : Prop := ∀ g, gs[k]? = some g → IntsAt w ok' g.v xs ∧ ∀ (p : Option Addr) (off len cap : Nat), (0 < len → p = some ⟨g.b, off, none⟩) → len ≤ cap → cap ≤ maxLen → off + len ≤ xs.length → IntsAt w ok' (.slice p len cap) ((xs.drop off).take len)
theorem RV.frzI1 (kp : Keeps ok ok' w w) (hf : FrzIAt w ok' gs k xs) {v : Value} {a : AV} (hv : RV w ok gs v a) : RV w ok' gs v (a.frzI1 k xs) := by
  cases hv with
  | any v => exact .any v
  | val v => exact .val v
  | ints h => exact .ints (h.mono kp)
  | intss h => exact .intss (h.mono kp)
  | @ro v r h => exact .ro (r.up kp h)
  | iptr h h1 h2 => exact .iptr (h.mono kp) h1 h2
  | iiptr h h1 h2 => exact .iiptr (h.mono kp) h1 h2
  | own h1 =>
    simp only [AV.frzI1]; split
    · subst_vars; exact .ints (hf _ h1).1
    · exact .own h1
  | optr h1 =>
    simp only [AV.frzI1]; split
    · exact .any _
    · exact .optr h1
  | osub h1 h2 h3 h4 =>
    simp only [AV.frzI1]; split
    · split
      · rename_i h5; subst_vars; exact .ints ((hf _ h1).2 _ _ _ _ h2 h3 h4 h5)
      · exact .any _
    · exact .osub h1 h2 h3 h4
  | orow h1 h2 =>
    simp only [AV.frzI1]; split
    · exact .any _
    · exact .orow h1 h2
  | orptr h1 h2 =>
    simp only [AV.frzI1]; split
    · exact .any _
    · exact .orptr h1 h2
  | agg _ _ _ => exact .any _
  | tup _ _ => exact .any _
theorem getD_map_frzI1 (l : List AV) (i : Nat) : (l.map (AV.frzI1 k xs)).getD i .any = (l.getD i .any).frzI1 k xs := getD_map_f _ rfl l i
theorem getD_map_frzI (l : List AV) (i : Nat) : (l.map (AV.frzI k xs)).getD i .any = (l.getD i .any).frzI k xs := getD_map_f _ rfl l i
theorem RV.frzI (kp : Keeps ok ok' w w) (hf : FrzIAt w ok' gs k xs) {v : Value} {a : AV} (hv : RV w ok gs v a) : RV w ok' gs v (a.frzI k xs) := by
  cases hv with
  | any v => exact .any v
  | val v => exact .val v
  | ints h => exact .ints (h.mono kp)
  | intss h => exact .intss (h.mono kp)
  | @ro v r h => exact .ro (r.up kp h)
  | iptr h h1 h2 => exact .iptr (h.mono kp) h1 h2
  | iiptr h h1 h2 => exact .iiptr (h.mono kp) h1 h2
  | own h1 =>
    simp only [AV.frzI]; split
    · subst_vars; exact .ints (hf _ h1).1
    · exact .own h1
  | optr h1 =>
    simp only [AV.frzI]; split
    · exact .any _
    · exact .optr h1
  | osub h1 h2 h3 h4 =>
    simp only [AV.frzI]; split
    · split
      · rename_i h5; subst_vars; exact .ints ((hf _ h1).2 _ _ _ _ h2 h3 h4 h5)
      · exact .any _
    · exact .osub h1 h2 h3 h4
  | orow h1 h2 =>
    simp only [AV.frzI]; split
    · exact .any _
    · exact .orow h1 h2
  | orptr h1 h2 =>
    simp only [AV.frzI]; split
    · exact .any _
    · exact .orptr h1 h2
  | agg h1 h3 h2 => exact .agg (by simpa using h1) h3 fun i => by rw [getD_map_frzI1]; exact (h2 i).frzI1 kp hf
  | tup h1 h2 => exact .tup (by simpa using h1) fun i => by rw [getD_map_frzI1]; exact (h2 i).frzI1 kp hf
end
theorem Rel.freezeI {base : Nat} {w : World} {gs : List Gh} {env : Env} {os : List AO} {tm : Array Value} (h : Rel base w gs env os tm) {k : Nat} {e : TypeId} {xs : List Int} (hs : os[k]? = some (.sli e xs)) :
    Rel base w gs (env.mp (AV.frzI k xs)) ((os.map (AO.frzI k xs)).set k .dead) tm := by
  have hk : k < os.length := (List.getElem?_eq_some_iff.1 hs).1
  have oset : ∀ {i : Nat} {x : AO}, ((os.map (AO.frzI k xs)).set k .dead)[i]? = some x → (i = k ∧ x = .dead) ∨ (i ≠ k ∧ ∃ y, os[i]? = some y ∧ x = y.frzI k xs) := by
    intro i x hx
    rw [List.getElem?_set] at hx
    by_cases e : k = i
    · subst e
      rw [if_pos rfl, if_pos (by simpa using hk)] at hx
      cases hx; exact .inl ⟨rfl, rfl⟩
    · rw [if_neg e, List.getElem?_map] at hx
      cases hy : os[i]? with
      | none => rw [hy] at hx; cases hx
      | some y => rw [hy] at hx; cases hx; exact .inr ⟨fun e' => e e'.symm, y, rfl, rfl⟩
  have kp : Keeps (okOf gs os) (okOf gs ((os.map (AO.frzI k xs)).set k .dead)) w w := by
    intro b hb _
    refine ⟨fun i x o' hx ho' hl => ?_, rfl⟩
    rcases oset ho' with ⟨_, rfl⟩ | ⟨_, y, hy, rfl⟩
    · exact hl.elim
    · exact hb i x y hx hy (AO.frzI_live.1 hl)
  have hf : FrzIAt w (okOf gs ((os.map (AO.frzI k xs)).set k .dead)) gs k xs := by
    intro g hg
    refine sli_at (h.ho k g _ hg hs) fun b hb i x o' hx ho' hl hm => ?_
    rcases oset ho' with ⟨_, rfl⟩ | ⟨hik, y, hy, rfl⟩
    · exact hl.elim
    · exact h.hd k i g x _ _ (fun e => hik e.symm) hg hx hs hy (by simp) (AO.frzI_live.1 hl).ne b hb hm
  refine ⟨h.hb, by simpa using h.hl, h.hs, fun i => ?_, ?_, ?_, ?_⟩
  · rw [Env.lk_mp _ rfl]
    exact (h.he i).frzI kp hf
  · intro i g o' hg ho'
    rcases oset ho' with ⟨_, rfl⟩ | ⟨_, y, hy, rfl⟩
    · trivial
    · have hro := h.ho i g y hg hy
      cases y with
      | dead => trivial
      | sli e xs => exact hro
      | sls e e2 xs => exact hro
      | ob q => exact hro
      | keep n K => exact hro
      | slr e avs =>
        obtain ⟨vs, a1, a2, a3, a4⟩ := hro
        exact ⟨vs, a1, by simpa using a2, fun j => by rw [getD_map_frzI]; exact (a3 j).frzI kp hf, a4⟩
      | bx T avs =>
        obtain ⟨cs, c1, c2, c3, c4, c5, c6, c7⟩ := hro
        exact ⟨cs, c1, c2, c3, c4, by simpa using c5, c6, fun j => by rw [getD_map_frzI]; exact (c7 j).frzI kp hf⟩
  · intro i j g1 g2 o1 o2 hij hg1 hg2 ho1 ho2 hn1 hn2
    rcases oset ho1 with ⟨_, rfl⟩ | ⟨_, y, hy, rfl⟩
    · exact absurd rfl hn1
    · rcases oset ho2 with ⟨_, rfl⟩ | ⟨_, z, hz, rfl⟩
      · exact absurd rfl hn2
      · exact h.hd i j g1 g2 y z hij hg1 hg2 hy hz (fun e => hn1 (AO.frzI_dead.2 e)) (fun e => hn2 (AO.frzI_dead.2 e))
  · intro i g o' hg ho' hn
    rcases oset ho' with ⟨_, rfl⟩ | ⟨_, y, hy, rfl⟩
    · exact absurd rfl hn
    · exact h.hn i g y hg hy fun e => hn (AO.frzI_dead.2 e)
theorem Turns.freezeI {env : Env} {os : List AO} {k : Nat} {e : TypeId} {xs : List Int} (hs : os[k]? = some (.sli e xs)) : Turns env os (env.mp (AV.frzI k xs)) ((os.map (AO.frzI k xs)).set k .dead) :=
  fun _ _ gs _ h => ⟨gs, h.freezeI hs⟩
/-- A field that is nil becomes own rows. -/
theorem Rel.nilF {base : Nat} {w : World} {gs : List Gh} {env : Env} {os : List AO} {tm : Array Value} (h : Rel base w gs env os tm) {k i : Nat} {T : TypeId} {avs : List AV} (e e2 : TypeId) (hs : os[k]? = some (.bx T avs)) (hi : avs[i]? = some (.val (.slice none 0 0))) :
    ∃ gs', Rel base w gs' env ((os ++ [AO.sls e e2 []]).set k (.bx T (avs.set i (.own os.length)))) tm := by
  let g0 : Gh := ⟨.slice none 0 0, 0, [], []⟩
  have hr : Rel base w (gs ++ [g0]) env (os ++ [.sls e e2 []]) tm := h.new (Below.refl _ _) _ g0 (fun _ b hb => by simp [g0] at hb) ⟨[], [], [], World.ownsRow_nil w base e 1, rfl, rfl, rfl, fun i u h => (by simp at h), .inl ⟨rfl, rfl⟩, rfl, by simp [g0]⟩
  have hk : k < os.length := (List.getElem?_eq_some_iff.1 hs).1
  have hs' : (os ++ [AO.sls e e2 []])[k]? = some (.bx T avs) := by rw [List.getElem?_append_left hk]; exact hs
  have oset : ∀ {j : Nat} {x : AO}, ((os ++ [AO.sls e e2 []]).set k (.bx T (avs.set i (.own os.length))))[j]? = some x → (j = k ∧ x = .bx T (avs.set i (.own os.length))) ∨ (j ≠ k ∧ (os ++ [AO.sls e e2 []])[j]? = some x) := by
    intro j x hx
    rw [List.getElem?_set] at hx
    by_cases c : k = j
    · subst c
      rw [if_pos rfl, if_pos (by simp; omega)] at hx
      cases hx; exact .inl ⟨rfl, rfl⟩
    · rw [if_neg c] at hx
      exact .inr ⟨fun e' => c e'.symm, hx⟩
  have okm : ∀ b, okOf (gs ++ [g0]) (os ++ [.sls e e2 []]) b → okOf (gs ++ [g0]) ((os ++ [AO.sls e e2 []]).set k (.bx T (avs.set i (.own os.length)))) b := by
    intro b hb j x o hx ho hl
    rcases oset ho with ⟨rfl, rfl⟩ | ⟨_, ho⟩
    · exact hb j x _ hx hs' trivial
    · exact hb j x o hx ho hl
  have kp : Keeps (okOf (gs ++ [g0]) (os ++ [.sls e e2 []])) (okOf (gs ++ [g0]) ((os ++ [AO.sls e e2 []]).set k (.bx T (avs.set i (.own os.length))))) w w := fun b hb _ => ⟨okm b hb, rfl⟩
  have hgm : (gs ++ [g0])[os.length]? = some g0 := by rw [← h.hl]; simp
  refine ⟨gs ++ [g0], hr.hb, by have := hr.hl; simpa using this, hr.hs, fun j => (hr.he j).mono kp fun _ _ h => h, ?_, ?_, ?_⟩
  · intro j g o hg ho
    rcases oset ho with ⟨rfl, rfl⟩ | ⟨_, ho⟩
    · obtain ⟨cs, c1, c2, c3, c4, c5, c6, c7⟩ := hr.ho _ _ _ hg hs'
      refine ⟨cs, c1, c2, c3, c4, by simpa using c5, c6, fun q => ?_⟩
      have c8 := (c7 q).mono kp fun _ _ h => h
      by_cases hq : i = q
      · subst hq
        have hil : i < avs.length := (List.getElem?_eq_some_iff.1 hi).1
        have e1 : (avs.set i (.own os.length)).getD i .any = .own os.length := by simp [List.getD_eq_getElem?_getD, hil]
        have e2 : avs.getD i .any = .val (.slice none 0 0) := by simp [List.getD_eq_getElem?_getD, hi]
        rw [e1]
        rw [e2] at c8
        generalize cs.getD i undef = u at c8 ⊢
        cases c8
        exact .own (g := g0) hgm
      · have e1 : (avs.set i (.own os.length)).getD q .any = avs.getD q .any := by simp [List.getD_eq_getElem?_getD, hq]
        rw [e1]; exact c8
    · have hro := hr.ho j g o hg ho
      cases o with
      | dead => trivial
      | sli e xs => exact hro
      | sls e e2 xs => exact hro
      | ob q => exact hro
      | keep n K => exact hro
      | slr e avs =>
        obtain ⟨vs, a1, a2, a3, a4⟩ := hro
        exact ⟨vs, a1, a2, fun j => (a3 j).mono kp fun _ _ h => h, a4⟩
      | bx T avs =>
        obtain ⟨cs, c1, c2, c3, c4, c5, c6, c7⟩ := hro
        exact ⟨cs, c1, c2, c3, c4, c5, c6, fun j => (c7 j).mono kp fun _ _ h => h⟩
  · intro a b g1 g2 o1 o2 hab hg1 hg2 ho1 ho2 hn1 hn2
    rcases oset ho1 with ⟨q1, q2⟩ | ⟨_, q1⟩
    · rcases oset ho2 with ⟨p1, p2⟩ | ⟨_, p1⟩
      · exact absurd (q1.trans p1.symm) hab
      · rw [q1] at hg1 hab
        exact hr.hd _ _ g1 g2 _ _ hab hg1 hg2 hs' p1 (by simp) hn2
    · rcases oset ho2 with ⟨p1, p2⟩ | ⟨_, p1⟩
      · rw [p1] at hg2 hab
        exact hr.hd _ _ g1 g2 _ _ hab hg1 hg2 q1 hs' hn1 (by simp)
      · exact hr.hd _ _ g1 g2 _ _ hab hg1 hg2 q1 p1 hn1 hn2
  · intro a g o hg ho hn
    rcases oset ho with ⟨q1, q2⟩ | ⟨_, q1⟩
    · rw [q1] at hg
      exact hr.hn _ g _ hg hs' (by simp)
    · exact hr.hn _ g _ hg q1 hn
theorem Turns.nilF {env : Env} {os : List AO} {k i : Nat} {T : TypeId} {avs : List AV} (e e2 : TypeId) (hs : os[k]? = some (.bx T avs)) (hi : avs[i]? = some (.val (.slice none 0 0))) :
    Turns env os env ((os ++ [AO.sls e e2 []]).set k (.bx T (avs.set i (.own os.length)))) := fun _ _ _ _ h => h.nilF e e2 hs hi
end Go.Proofs.Ytcolpjpppdmanaa
/-
  Own slices whose cells are rows that are only read. No condition.
-/
namespace Go.Proofs.Ytcolpjpppdmanaa
open Go Go.RowKit

section
variable {P : Program} {env : Env} {os : List AO} {d : Option Tmp} {ty : TypeId} {pos : String} {af : Array Edge} {g : Option (Nat × Bool)} {wl : Bool}

theorem slr_slice {base : Nat} {w : World} {ok : Nat → Prop} {gs : List Gh} {gh : Gh} {e : TypeId} {avs : List AV} (h : RO base w ok gs gh (.slr e avs)) : ∃ a cap, gh.v = .slice a avs.length cap ∧ avs.length ≤ cap ∧ cap ≤ maxLen ∧
    (0 < avs.length → a = some ⟨gh.b, 0, none⟩) ∧ ∃ vs : List Value, vs.length = avs.length ∧ (∀ (i : Nat) u, vs[i]? = some u → w.cell? ⟨gh.b, i, none⟩ = some u) ∧ ∀ i : Nat, RV w ok gs (vs.getD i undef) (avs.getD i .any) := by
  obtain ⟨vs, a1, a2, a3, a4⟩ := h
  obtain ⟨a, cap, q1, q2, q3, q4⟩ := RowAt.of_owns a1
  rw [a2] at q1 q2 q4
  have hblk : ∀ b off, a = some ⟨b, off, none⟩ → 0 < avs.length → b = gh.b ∧ off = 0 := by
    intro b off ha hp
    obtain ⟨b', cap', r1, r2, _, _⟩ := own_slice a1 (i := 0) (by omega)
    rw [q1, ha] at r1
    simp only [Value.slice.injEq, Option.some.injEq, Addr.mk.injEq, and_true] at r1
    obtain ⟨⟨rfl, rfl⟩, _⟩ := r1
    rcases a4 with ⟨s1, _⟩ | ⟨s1, _⟩
    · rw [s1] at r2; cases r2
    · rw [s1] at r2; cases r2; exact ⟨rfl, rfl⟩
  refine ⟨a, cap, q1, q2, q3, fun hp => ?_, vs, a2, fun i u hu => ?_, a3⟩
  · obtain ⟨b, off, r1, _, _⟩ := q4 hp
    obtain ⟨rfl, rfl⟩ := hblk b off r1 hp
    exact r1
  · have hi := (List.getElem?_eq_some_iff.1 hu).1
    obtain ⟨b, off, r1, _, r3⟩ := q4 (by omega)
    obtain ⟨rfl, rfl⟩ := hblk b off r1 (by omega)
    have := r3 i u hu
    rwa [Nat.zero_add] at this

theorem q_slr_hi {t e : TypeId} [ht : TSlice P t e] [he : TCell P e] {x y : Operand} {h : Nat} {e' : TypeId} {avs : List AV} {n : Int} (hx : AV.ev env x = .own h) (hs : os[h]? = some (.slr e' avs)) (hy : AV.ev env y = .i n) (h0 : 0 ≤ n) (h1 : n ≤ avs.length) :
    QOp P wl ⟨d, .slice t x none (some y) none, ty, pos, af, g⟩ env os (.osub h 0 n.toNat) :=
  .of_run fun _ w gs tm hr => by
    have hh := hr.ev x
    rw [hx] at hh
    generalize hv : Act.eval ⟨tm, []⟩ x = v at hh
    cases hh with
    | @own _ gh hg =>
      obtain ⟨a, cap, ev, hc, hm, ha, _⟩ := slr_slice (hr.ho _ _ _ hg hs)
      have e1 := elem_of (P := P) ht.und
      refine ⟨sliced a 0 n.toNat cap 1, ?_, fun w' _ => ?_⟩
      · refine RV.osub hg (fun hp => ?_) (by omega) (by omega)
        rw [if_neg (by omega), ha (by omega)]
        simp [add_none]
      · have hrun := run_slice_h (P := P) w' t a avs.length cap (by rw [e1]; exact ht.und) .i64 n h0 (by omega)
        rw [e1, run_size] at hrun
        have hat := run_sliceAt_slice (P := P) w' t (.slice a avs.length cap) none (some (.int .i64 n)) none (by rw [e1]; exact ht.und)
        simp only [execOp, hv, ev, hr.evv hy, Option.map_none, Option.map_some, Sem.run_bind, hat, hrun, Result.andThen_ok, Sem.run_pure]
theorem q_slr_lo {t e : TypeId} [ht : TSlice P t e] [he : TCell P e] {x y : Operand} {h : Nat} {e' : TypeId} {avs : List AV} {n : Int} (hx : AV.ev env x = .own h) (hs : os[h]? = some (.slr e' avs)) (hy : AV.ev env y = .i n) (h0 : 0 ≤ n) (h1 : n ≤ avs.length) :
    QOp P wl ⟨d, .slice t x (some y) none none, ty, pos, af, g⟩ env os (.osub h n.toNat (avs.length - n.toNat)) :=
  .of_run fun _ w gs tm hr => by
    have hh := hr.ev x
    rw [hx] at hh
    generalize hv : Act.eval ⟨tm, []⟩ x = v at hh
    cases hh with
    | @own _ gh hg =>
      obtain ⟨a, cap, ev, hc, hm, ha, _⟩ := slr_slice (hr.ho _ _ _ hg hs)
      have e1 := elem_of (P := P) ht.und
      refine ⟨sliced a n.toNat avs.length cap 1, ?_, fun w' _ => ?_⟩
      · refine RV.osub hg (fun hp => ?_) (by omega) (by omega)
        rw [if_neg (by omega), ha (by omega)]
        simp [add_none]
      · have hrun := run_slice_l (P := P) w' t a avs.length cap (by rw [e1]; exact ht.und) .i64 n h0 h1
        rw [e1, run_size] at hrun
        have hat := run_sliceAt_slice (P := P) w' t (.slice a avs.length cap) (some (.int .i64 n)) none none (by rw [e1]; exact ht.und)
        simp only [execOp, hv, ev, hr.evv hy, Option.map_none, Option.map_some, Sem.run_bind, hat, hrun, Result.andThen_ok, Sem.run_pure]

end

section
variable {P : Program} {env : Env} {os : List AO} {d : Tmp} {ty : TypeId} {pos : String} {af : Array Edge} {g : Option (Nat × Bool)} {l rest : List Oper} {K : APost} {q : Md}
end
end Go.Proofs.Ytcolpjpppdmanaa
/-
  Slices whose rows are rows of an own slice: literals of one row, parts, parts appended. No condition.
-/
namespace Go.Proofs.Ytcolpjpppdmanaa
open Go Go.RowKit
def orL (k : Nat) (idx : List Nat) : List AV := idx.map (AV.orow k)
theorem orL_len (k : Nat) (idx : List Nat) : (orL k idx).length = idx.length := List.length_map _
theorem orL_app (k : Nat) (a b : List Nat) : orL k (a ++ b) = orL k a ++ orL k b := List.map_append
theorem orL_kill (h k : Nat) (idx : List Nat) : (orL k idx).map (AV.kill h) = orL k idx := by
  unfold orL
  rw [List.map_map]
  exact List.map_congr_left fun i _ => rfl
theorem orL_lim {n k : Nat} (h : k < n) (idx : List Nat) : (orL k idx).map (AV.lim n) = orL k idx := by
  unfold orL
  rw [List.map_map]
  refine List.map_congr_left fun i _ => ?_
  simp [AV.lim, h]
theorem orL_ren (t : List Nat) (idx : List Nat) : (orL 1 idx).map (AV.ren (0 :: 1 :: t)) = orL 1 idx := by
  unfold orL
  rw [List.map_map]
  exact List.map_congr_left fun i _ => rfl
theorem orL_get {k : Nat} {idx : List Nat} {j : Nat} (h : j < idx.length) : (orL k idx)[j]? = some (.orow k (idx.getD j 0)) := by
  unfold orL; rw [List.getElem?_map, List.getD_eq_getElem?_getD, List.getElem?_eq_getElem h]; rfl
section
variable {P : Program} {env : Env} {os : List AO} {d : Option Tmp} {ty : TypeId} {pos : String} {af : Array Edge} {g : Option (Nat × Bool)} {wl : Bool}
/-- A row of own rows is a slice. -/
theorem orow_one {base : Nat} {w : World} {gs : List Gh} {tm : Array Value} (hr : Rel base w gs env os tm) {k i : Nat} {e e2 : TypeId} {xss : List (List Int)} (hs : os[k]? = some (.sls e e2 xss)) {v : Value} {ok : Nat → Prop} (hv : RV w ok gs v (.orow k i)) :
    v.oneCell' = true ∧ ∃ a n c, v = .slice a n c := by
  cases hv with
  | @orow _ _ gk _ hg hrow =>
    obtain ⟨vs, bs, mb, a1, a2, a3, a4, a5, _⟩ := hr.ho _ _ _ hg hs
    rw [a4] at hrow
    obtain ⟨u, c, e1⟩ := ownsRow_slice (a5 _ _ hrow).1
    rw [e1]
    exact ⟨rfl, _, _, _, rfl⟩
theorem l_bso1 {t e : TypeId} {bytes : Nat} [ht : TSlice P t e] [he : TElem P e (.slice none 0 0) bytes] {x : Operand} {k i : Nat} {e1 e2 : TypeId} {xss : List (List Int)} (hx : AV.ev env x = .orow k i) (hk : os[k]? = some (.sls e1 e2 xss)) :
    LOp P ⟨d, .buildSlice t 1 #[(0, x)], ty, pos, af, g⟩ env os (.own os.length) env (os ++ [.slr e (orL k [i])]) := by
  intro base w gs tm hr
  have hxv := hr.ev x
  rw [hx] at hxv
  generalize hv : Act.eval ⟨tm, []⟩ x = v at hxv
  obtain ⟨hone, ua, un, uc, eu⟩ := orow_one hr hk hxv
  obtain ⟨ii, hi, hs, hz, hby⟩ := he.info
  have hbel := below_alloc w (.cells [v].toArray e)
  have hno : AO.slr e (orL k [i]) ≠ .dead → ∀ b, b ∈ [w.heap.size] → w.heap.size ≤ b ∧ b < (w.alloc (.cells [v].toArray e)).heap.size := fun _ b hb => by simp at hb; simp; omega
  let gn : Gh := ⟨.slice (some ⟨w.heap.size, 0, none⟩) 1 1, w.heap.size, [w.heap.size], []⟩
  have hgs : ∀ (i : Nat) g', gs[i]? = some g' → (gs ++ [gn])[i]? = some g' := fun i g' e => by
    rw [List.getElem?_append_left (List.getElem?_eq_some_iff.1 e).1]; exact e
  have kp := keeps_new (g := gn) (o := AO.slr e (orL k [i])) hr.hl hbel hno
  refine ⟨.slice (some ⟨w.heap.size, 0, none⟩) 1 1, _, gs ++ [gn], .inl ?_, hr.new hbel _ _ hno ?_, ?_, hbel.mono hr.hb⟩
  · simp [execOp, Instr.buildSlice, run_underlying ht.und, sizeOf, typeInfo, zeroValue, hi, hs, hz, Instr.fill, newRow, hv, eu, Value.cells, ar1]
  · refine ⟨[v], ⟨rfl, .inr ⟨w.heap.size, 1, _, rfl, hr.hb, heap_alloc_new w _, Nat.le_refl _, by simp [maxLen], by simp, by simp⟩⟩, rfl, fun i => ?_, .inr ⟨rfl, rfl⟩⟩
    match i with
    | 0 => exact hxv.mono kp hgs
    | i + 1 => exact .any _
  · have := RV.own (w := w.alloc (.cells [v].toArray e)) (ok := okOf (gs ++ [gn]) (os ++ [.slr e (orL k [i])])) (len_new (gs := gs) (g := gn))
    rw [hr.hl] at this
    exact this
theorem src_osub {y : Operand} {h k off len : Nat} {e e1 e2 : TypeId} {idx : List Nat} {xss : List (List Int)} (hy : AV.ev env y = .osub h off len) (hs : os[h]? = some (.slr e (orL k idx))) (hk : os[k]? = some (.sls e1 e2 xss)) (hle : off + len ≤ idx.length) : Src env os y (orL k ((idx.drop off).take len)) := by
  intro base w gs tm hr
  have hyv := hr.ev y
  rw [hy] at hyv
  generalize hv : Act.eval ⟨tm, []⟩ y = v at hyv
  cases hyv with
  | @osub _ _ _ cap p gh hg hp hc hm =>
    obtain ⟨_, _, _, _, _, _, vs, q5, q6, q7⟩ := slr_slice (hr.ho _ _ _ hg hs)
    rw [orL_len] at q5
    have hl : (orL k ((idx.drop off).take len)).length = len := by rw [orL_len]; simp; omega
    have rvj : ∀ j, j < idx.length → RV w (okOf gs os) gs (vs.getD j undef) (.orow k (idx.getD j 0)) := fun j hj => by
      have := q7 j
      rwa [List.getD_eq_getElem?_getD (l := orL k idx), orL_get hj] at this
    refine ⟨p, cap, (vs.drop off).take len, by rw [hl], by rw [hl]; simp; omega, fun h0 => ?_, fun u hu => ?_, fun i => ?_⟩
    · rw [hl] at h0
      refine ⟨_, hp h0, fun j u hj => ?_⟩
      rw [List.getElem?_take] at hj
      split at hj
      · rw [List.getElem?_drop] at hj
        rw [add_none]
        exact q6 _ _ hj
      · cases hj
    · obtain ⟨j, hj⟩ := List.getElem?_of_mem (List.mem_of_mem_drop (List.mem_of_mem_take hu))
      have hjl := (List.getElem?_eq_some_iff.1 hj).1
      have := rvj j (by omega)
      rw [List.getD_eq_getElem?_getD (l := vs), hj] at this
      exact (orow_one hr hk this).1
    · by_cases hi : i < len
      · have e1 : ((vs.drop off).take len).getD i undef = vs.getD (off + i) undef := by
          rw [List.getD_eq_getElem?_getD, List.getElem?_take, if_pos hi, List.getElem?_drop, List.getD_eq_getElem?_getD]
        have e2 : (orL k ((idx.drop off).take len)).getD i .any = .orow k (idx.getD (off + i) 0) := by
          unfold orL; rw [List.getD_eq_getElem?_getD, List.getElem?_map, List.getElem?_take, if_pos hi, List.getElem?_drop, List.getD_eq_getElem?_getD, List.getElem?_eq_getElem (by omega)]; rfl
        rw [e1, e2]
        exact rvj _ (by omega)
      · have e2 : (orL k ((idx.drop off).take len)).getD i .any = .any := by
          rw [List.getD_eq_getElem?_getD, List.getElem?_eq_none (by omega)]; rfl
        rw [e2]; exact .any _
theorem src_oslr {y : Operand} {q k : Nat} {e e1 e2 : TypeId} {idx : List Nat} {xss : List (List Int)} (hy : AV.ev env y = .own q) (hs : os[q]? = some (.slr e (orL k idx))) (hk : os[k]? = some (.sls e1 e2 xss)) : Src env os y (orL k idx) := by
  intro base w gs tm hr
  have hyv := hr.ev y
  rw [hy] at hyv
  generalize hv : Act.eval ⟨tm, []⟩ y = v at hyv
  cases hyv with
  | @own _ gh hg =>
    obtain ⟨a, cap, q1, q2, q3, q4, vs, q5, q6, q7⟩ := slr_slice (hr.ho _ _ _ hg hs)
    refine ⟨a, cap, vs, q1, q5, fun h0 => ⟨_, q4 h0, fun j u hj => by rw [add_none, Nat.zero_add]; exact q6 j u hj⟩, fun u hu => ?_, q7⟩
    obtain ⟨j, hj⟩ := List.getElem?_of_mem hu
    have hjl := (List.getElem?_eq_some_iff.1 hj).1
    have := q7 j
    rw [orL_len] at q5
    rw [List.getD_eq_getElem?_getD (l := orL k idx), orL_get (by omega), List.getD_eq_getElem?_getD (l := vs), hj] at this
    exact (orow_one hr hk this).1
end
section
variable {P : Program} {env : Env} {os : List AO} {d : Tmp} {ty : TypeId} {pos : String} {af : Array Edge} {g : Option (Nat × Bool)} {l rest : List Oper} {K : APost} {q : Md}
theorem w_bso0 {t e : TypeId} {bytes : Nat} [TSlice P t e] [TElem P e (.slice none 0 0) bytes] (k : Nat) {m : Nat} (hm : os.length = m) (h' : AOps P .seq l rest K (env.up d (.own m)) (os ++ [.slr e (orL k [])])) :
    AOps P .seq l (⟨some d, .buildSlice t 0 #[], ty, pos, af, none⟩ :: rest) K env os := AOps.lo (hm ▸ l_bsx0 k) h'
theorem w_bso1 {t e : TypeId} {bytes : Nat} [TSlice P t e] [TElem P e (.slice none 0 0) bytes] {x : Operand} {k i m : Nat} {e1 e2 : TypeId} {xss : List (List Int)} (hx : evo env x = some (.orow k i)) (hk : os[k]? = some (.sls e1 e2 xss)) (hm : os.length = m)
    (h' : AOps P .seq l rest K (env.up d (.own m)) (os ++ [.slr e (orL k [i])])) : AOps P .seq l (⟨some d, .buildSlice t 1 #[(0, x)], ty, pos, af, none⟩ :: rest) K env os := AOps.lo (hm ▸ l_bso1 (ev_of hx) hk) h'
theorem w_ldro {t : TypeId} [TCell P t] {x : Operand} {h i k : Nat} {e : TypeId} {idx : List Nat} (hw : wantedA l env ⟨some d, .load t x, ty, pos, af, g⟩ = some true) (hq : q.wl = false) (hx : evo env x = some (.optr h i)) (hs : os[h]? = some (.slr e (orL k idx))) (hi : i < idx.length)
    (h' : AOps P q l rest K (env.up d (.orow k (idx.getD i 0))) os) : AOps P q l (⟨some d, .load t x, ty, pos, af, g⟩ :: rest) K env os := AOps.qo hw (by rw [hq]; exact q_load_slr (ev_of hx) hs (orL_get hi)) h'
theorem w_leno {t e0 : TypeId} [TSlice P t e0] {x : Operand} {h k : Nat} {e : TypeId} {idx : List Nat} (hw : wantedA l env ⟨some d, .call { callee := .builtin .len, args := #[x], argTypes := #[t] }, ty, pos, af, g⟩ = some true) (hx : evo env x = some (.own h)) (hs : os[h]? = some (.slr e (orL k idx)))
    (h' : AOps P q l rest K (env.up d (.i idx.length)) os) : AOps P q l (⟨some d, .call { callee := .builtin .len, args := #[x], argTypes := #[t] }, ty, pos, af, g⟩ :: rest) K env os :=
  w_len hw hx (.slr hs) (by rw [orL_len]; exact h')
theorem w_idxq {t e : TypeId} [TSlice P t e] [TCell P e] {x y : Operand} {h k : Nat} {e' : TypeId} {idx : List Nat} {i : Int} (hw : wantedA l env ⟨some d, .indexAddr t x y, ty, pos, af, g⟩ = some true) (hx : evo env x = some (.own h)) (hs : os[h]? = some (.slr e' (orL k idx))) (hy : evo env y = some (.i i)) (h0 : 0 ≤ i) (h1 : i < idx.length)
    (h' : AOps P q l rest K (env.up d (.optr h i.toNat)) os) : AOps P q l (⟨some d, .indexAddr t x y, ty, pos, af, g⟩ :: rest) K env os := w_idxo hw hx (.slr hs) hy h0 (by rw [orL_len]; exact h1) h'
theorem w_osrhi {t e : TypeId} [TSlice P t e] [TCell P e] {x y : Operand} {h k : Nat} {e' : TypeId} {idx : List Nat} {n : Int} (hw : wantedA l env ⟨some d, .slice t x none (some y) none, ty, pos, af, g⟩ = some true) (hx : evo env x = some (.own h)) (hs : os[h]? = some (.slr e' (orL k idx))) (hy : evo env y = some (.i n)) (h0 : 0 ≤ n) (h1 : n ≤ idx.length)
    (h' : AOps P q l rest K (env.up d (.osub h 0 n.toNat)) os) : AOps P q l (⟨some d, .slice t x none (some y) none, ty, pos, af, g⟩ :: rest) K env os := AOps.qo hw (q_slr_hi (ev_of hx) hs (ev_of hy) h0 (by rw [orL_len]; exact h1)) h'
theorem w_osrlo {t e : TypeId} [TSlice P t e] [TCell P e] {x y : Operand} {h k : Nat} {e' : TypeId} {idx : List Nat} {n : Int} (hw : wantedA l env ⟨some d, .slice t x (some y) none none, ty, pos, af, g⟩ = some true) (hx : evo env x = some (.own h)) (hs : os[h]? = some (.slr e' (orL k idx))) (hy : evo env y = some (.i n)) (h0 : 0 ≤ n) (h1 : n ≤ idx.length)
    (h' : AOps P q l rest K (env.up d (.osub h n.toNat (idx.length - n.toNat))) os) : AOps P q l (⟨some d, .slice t x (some y) none none, ty, pos, af, g⟩ :: rest) K env os :=
  AOps.qo hw (q_slr_lo (P := P) (t := t) (e := e) (ev_of hx) hs (ev_of hy) h0 (by rw [orL_len]; exact h1)) (by rw [orL_len]; exact h')
theorem w_appos {t e : TypeId} {bytes : Nat} [TSlice P t e] [TElem P e (.slice none 0 0) bytes] {x y : Operand} {p h k off len : Nat} {e' e1 e2 e3 : TypeId} {idx jdx : List Nat} {xss : List (List Int)}
    (hx : evo env x = some (.own p)) (hs : os[p]? = some (.slr e' (orL k jdx))) (hee : e' = e) (hy : evo env y = some (.osub h off len)) (hh : os[h]? = some (.slr e1 (orL k idx))) (hk : os[k]? = some (.sls e2 e3 xss)) (hle : off + len ≤ idx.length) (hb : (jdx.length + len) * bytes ≤ 140737488355328)
    (h' : AOps P .seq l rest K (Env.up (env.mp (AV.kill p)) d (.own p)) ((os.map (AO.kill p)).set p (.slr e (orL k (jdx ++ (idx.drop off).take len))))) :
    AOps P .seq l (⟨some d, .call { callee := .builtin .append, args := #[x, y], argTypes := #[t, t] }, ty, pos, af, none⟩ :: rest) K env os :=
  AOps.lo (l_append_src (ev_of hx) hs hee (src_osub (ev_of hy) hh hk hle) (by rw [orL_len, orL_len, List.length_take, List.length_drop, Nat.min_eq_left (by omega)]; exact hb) (orL_kill _ _ _) (orL_kill _ _ _)) (by rw [orL_app] at h'; exact h')
theorem w_appol {t e : TypeId} {bytes : Nat} [TSlice P t e] [TElem P e (.slice none 0 0) bytes] {x y : Operand} {p h k : Nat} {e' e1 e2 e3 : TypeId} {idx jdx : List Nat} {xss : List (List Int)}
    (hx : evo env x = some (.own p)) (hs : os[p]? = some (.slr e' (orL k jdx))) (hee : e' = e) (hy : evo env y = some (.own h)) (hh : os[h]? = some (.slr e1 (orL k idx))) (hk : os[k]? = some (.sls e2 e3 xss)) (hb : (jdx.length + idx.length) * bytes ≤ 140737488355328)
    (h' : AOps P .seq l rest K (Env.up (env.mp (AV.kill p)) d (.own p)) ((os.map (AO.kill p)).set p (.slr e (orL k (jdx ++ idx))))) :
    AOps P .seq l (⟨some d, .call { callee := .builtin .append, args := #[x, y], argTypes := #[t, t] }, ty, pos, af, none⟩ :: rest) K env os :=
  AOps.lo (l_append_src (ev_of hx) hs hee (src_oslr (ev_of hy) hh hk) (by rw [orL_len, orL_len]; exact hb) (orL_kill _ _ _) (orL_kill _ _ _)) (by rw [orL_app] at h'; exact h')
end
end Go.Proofs.Ytcolpjpppdmanaa
/-
  A literal slice of one row, as an own slice of rows. No condition.
-/
namespace Go.Proofs.Ytcolpjpppdmanaa
open Go Go.RowKit
section
variable {P : Program} {env : Env} {os : List AO} {d : Option Tmp} {ty : TypeId} {pos : String} {af : Array Edge} {g : Option (Nat × Bool)}

end
section
variable {P : Program} {env : Env} {os : List AO} {d : Tmp} {ty : TypeId} {pos : String} {af : Array Edge} {l rest : List Oper} {K : APost}
end
section
variable {P : Program} {N : APost} {X : Nat → APost} {Rt : APost} {env : Env} {os : List AO}
/-- A loop whose rounds may number the objects anew. -/
theorem AWp.loopS {c : Code} {ι : Type} (E : ι → Env) (O : ι → List AO) (φ : ι → Prop) (μ : ι → Nat) (x0 : ι) (h0 : φ x0) (f0 : Fit env os (E x0) (O x0))
    (round : ∀ x, φ x → AWp P c (fun env' os' => ∃ y, φ y ∧ μ y < μ x ∧ (Fit env' os' (E y) (O y) ∨ ∃ σ, FitS σ env' os' (E y) (O y))) X Rt (E x) (O x)) : AWp P (.loop c) N X Rt env os := by
  intro base w0 w gs tm hr hb
  obtain ⟨gs0, hr0⟩ := hr.fit f0
  refine wp_loop_ghost (fun n a w' => ∃ x gs', φ x ∧ μ x = n ∧ Rel base w' gs' (E x) (O x) a.tmps ∧ a.defers = [] ∧ Below base w0 w') (μ x0) ⟨x0, gs0, h0, rfl, hr0, rfl, hb⟩ ?_
  rintro n a w1 ⟨x, gs1, hφ, rfl, hr1, hd, hb1⟩
  have ea : a = ⟨a.tmps, []⟩ := by cases a; simp_all
  rw [ea]
  refine wp_mono (round x hφ base w0 w1 gs1 a.tmps hr1 hb1) ?_
  intro e a' w' hq
  cases e with
  | normal =>
    obtain ⟨env', os', gs', r1, r2, r3, y, hy, hlt, hf⟩ := hq
    rcases hf with hf | ⟨σ, hf⟩
    · obtain ⟨gs2, hr2⟩ := r1.fit hf
      exact ⟨μ y, hlt, y, gs2, hy, rfl, hr2, r2, r3⟩
    · obtain ⟨gs2, hr2⟩ := r1.fits hf
      exact ⟨μ y, hlt, y, gs2, hy, rfl, hr2, r2, r3⟩
  | exit j => exact hq
  | ret => exact hq
  | goto l => exact hq
  | panic ch => exact hq
  | outgrown => exact hq
end

end Go.Proofs.Ytcolpjpppdmanaa
/-
  Draws of graphs: edges in order. Condition: small graphs.
-/
namespace Go.Proofs.Ytcolpjpppdmanaa
open Go Go.RowKit
attribute [local irreducible] AWp AOps ResIs Ret1 QOp LOp COp AFnV AFn Imms LeE LeO
set_option maxHeartbeats 1000000
set_option linter.unusedSimpArgs false
set_option linter.unusedVariables false

theorem l01Same_c (xs ys : List Int) : AFnV Try.prog 57 [.ints xs, .ints ys] (.bool (decide (xs = ys))) := by
  (refine AFnV.start Try.func57 Try.ntmps57 rfl (by kernel_rfl) fun hk0 => ?_; simp only [Env.start, enumF, List.length_cons, List.length_nil, Nat.reduceAdd, Nat.reduceSub, List.cons_append, List.nil_append])
  obtain ⟨k1, k2⟩ : ArgOk (.ints xs) := hk0 _ (by simp)
  obtain ⟨k3, k4⟩ : ArgOk (.ints ys) := hk0 _ (by simp)
  by_cases hl : xs.length = ys.length
  · repeat' (first | (apply AOps.nil; try simp only [List.nil_append, List.cons_append, List.set_cons_zero, List.set_cons_succ, List.length_cons, List.length_nil, Nat.reduceAdd, AV.sh, AV.sh1, AV.sh0, AO.sh, List.map_cons, List.map_nil, Nat.zero_add, Nat.add_zero, setAll]) | (apply w_move; exact rfl; exact rfl) | (apply w_assign; exact rfl; exact rfl) | apply AWp.seq | apply AWp.region | ((apply AWp.condP; exact rfl) <;> intro h) | apply AWp.block | apply AWp.ret | apply AWp.skip | (apply w_len; exact rfl; exact rfl; first | exact .ints _ | exact .intss _ | exact .sli rfl | exact .sls rfl | exact .slr rfl | exact .orow rfl | exact .nil) | omega | ((apply w_neq); iterate 3 exact rfl))
    refine AWp.loop (ι := Nat) (fun i => ⟨26, [(0, .ints xs), (1, .ints ys), (5, .i i)]⟩) (fun _ => []) (fun i => i ≤ xs.length ∧ xs.take i = ys.take i) (fun i => xs.length - i) 0 ⟨by omega, rfl⟩ ⟨lee rfl (by (repeat (first | exact le_nil | refine le_eq rfl rfl ?_))), by (repeat (exact lo_nil)), rfl, rfl⟩ ?_
    rintro i ⟨i0, i1⟩
    by_cases hi : i < xs.length
    · by_cases he : geti xs i = geti ys i
      · repeat' (first | (apply AOps.nil; try simp only [List.nil_append, List.cons_append, List.set_cons_zero, List.set_cons_succ, List.length_cons, List.length_nil, Nat.reduceAdd, AV.sh, AV.sh1, AV.sh0, AO.sh, List.map_cons, List.map_nil, Nat.zero_add, Nat.add_zero, setAll]) | (apply w_move; exact rfl; exact rfl) | (apply w_assign; exact rfl; exact rfl) | apply AWp.seq | apply AWp.region | ((apply AWp.condP; exact rfl) <;> intro h) | apply AWp.block | apply AWp.ret | apply AWp.exit | apply AWp.skip | (apply AWp.regionQ; kernel_rfl; kernel_rfl) | (apply w_len; exact rfl; exact rfl; first | exact .ints _ | exact .intss _ | exact .sli rfl | exact .sls rfl | exact .slr rfl | exact .orow rfl | exact .nil) | omega | ((first | apply w_lss | apply w_neq | apply w_add | apply w_idx | apply w_ld); iterate 3 exact rfl) | (apply inI_of <;> omega))
        refine ⟨i + 1, ⟨by omega, ?_⟩, by omega, ⟨lee rfl (by (repeat (first | exact le_nil | refine le_eq rfl rfl ?_))), by (repeat (exact lo_nil)), rfl, rfl⟩⟩
        rw [List.take_succ_eq_append_getElem hi, List.take_succ_eq_append_getElem (by omega), i1]
        simp only [geti, Int.toNat_natCast] at he
        rw [List.getD_eq_getElem?_getD, List.getD_eq_getElem?_getD, List.getElem?_eq_getElem hi, List.getElem?_eq_getElem (by omega)] at he
        simp only [Option.getD_some] at he
        rw [he]
      · repeat' (first | (apply AOps.nil; try simp only [List.nil_append, List.cons_append, List.set_cons_zero, List.set_cons_succ, List.length_cons, List.length_nil, Nat.reduceAdd, AV.sh, AV.sh1, AV.sh0, AO.sh, List.map_cons, List.map_nil, Nat.zero_add, Nat.add_zero, setAll]) | (apply w_move; exact rfl; exact rfl) | (apply w_assign; exact rfl; exact rfl) | apply AWp.seq | apply AWp.region | ((apply AWp.condP; exact rfl) <;> intro h) | apply AWp.block | apply AWp.ret | apply AWp.exit | apply AWp.skip | (apply AWp.regionQ; kernel_rfl; kernel_rfl) | (apply w_len; exact rfl; exact rfl; first | exact .ints _ | exact .intss _ | exact .sli rfl | exact .sls rfl | exact .slr rfl | exact .orow rfl | exact .nil) | omega | ((first | apply w_lss | apply w_neq | apply w_idx | apply w_ld); iterate 3 exact rfl))
        exact .bool Try.results57 rfl (decide_eq_false fun e => he (by rw [e])).symm
    · repeat' (first | (apply AOps.nil; try simp only [List.nil_append, List.cons_append, List.set_cons_zero, List.set_cons_succ, List.length_cons, List.length_nil, Nat.reduceAdd, AV.sh, AV.sh1, AV.sh0, AO.sh, List.map_cons, List.map_nil, Nat.zero_add, Nat.add_zero, setAll]) | (apply w_move; exact rfl; exact rfl) | (apply w_assign; exact rfl; exact rfl) | apply AWp.seq | apply AWp.region | ((apply AWp.condP; exact rfl) <;> intro h) | apply AWp.block | apply AWp.ret | apply AWp.exit | apply AWp.skip | (apply AWp.regionQ; kernel_rfl; kernel_rfl) | (apply w_len; exact rfl; exact rfl; first | exact .ints _ | exact .intss _ | exact .sli rfl | exact .sls rfl | exact .slr rfl | exact .orow rfl | exact .nil) | omega | ((apply w_lss); iterate 3 exact rfl))
      refine .bool Try.results57 rfl (decide_eq_true ?_).symm
      rw [List.take_of_length_le (by omega), List.take_of_length_le (by omega)] at i1
      exact i1
  · repeat' (first | (apply AOps.nil; try simp only [List.nil_append, List.cons_append, List.set_cons_zero, List.set_cons_succ, List.length_cons, List.length_nil, Nat.reduceAdd, AV.sh, AV.sh1, AV.sh0, AO.sh, List.map_cons, List.map_nil, Nat.zero_add, Nat.add_zero, setAll]) | (apply w_move; exact rfl; exact rfl) | (apply w_assign; exact rfl; exact rfl) | apply AWp.seq | apply AWp.region | ((apply AWp.condP; exact rfl) <;> intro h) | apply AWp.block | apply AWp.ret | apply AWp.skip | (apply w_len; exact rfl; exact rfl; first | exact .ints _ | exact .intss _ | exact .sli rfl | exact .sls rfl | exact .slr rfl | exact .orow rfl | exact .nil) | omega | ((apply w_neq); iterate 3 exact rfl))
    exact .bool Try.results57 rfl (decide_eq_false fun e => hl (by rw [e])).symm

theorem lim_one {K : Kp} {e e2 e3 : TypeId} {ys : List (List Int)} (st : List Nat) : [AO.keep 1 K, .sls e e2 ys, .slr e3 (orL 1 st)].map (AO.lim 3) = [AO.keep 1 K, .sls e e2 ys, .slr e3 (orL 1 st)] := by
  simp only [List.map_cons, List.map_nil, AO.lim, orL_lim (show 1 < 3 by decide)]
  rfl
theorem lim_two {K : Kp} {e e2 e3 e4 : TypeId} {ys : List (List Int)} (st su : List Nat) : [AO.keep 1 K, .sls e e2 ys, .slr e3 (orL 1 st), .slr e4 (orL 1 su)].map (AO.lim 4) = [AO.keep 1 K, .sls e e2 ys, .slr e3 (orL 1 st), .slr e4 (orL 1 su)] := by
  simp only [List.map_cons, List.map_nil, AO.lim, orL_lim (show 1 < 4 by decide)]
  rfl
/-- One index more, in its place. -/
def insQ (idx : List Nat) (a i : Nat) : List Nat := (idx.drop 0).take a ++ i :: (idx.drop a).take (idx.length - a)
theorem insQ_ok {idx : List Nat} {a i : Nat} (ha : a ≤ idx.length) (hn : idx.Nodup) (hk : ∀ k ∈ idx, k < i) : (insQ idx a i).length = idx.length + 1 ∧ (insQ idx a i).Nodup ∧ ∀ k ∈ insQ idx a i, k < i + 1 := by
  have e : insQ idx a i = idx.take a ++ i :: idx.drop a := by
    unfold insQ
    rw [List.drop_zero, List.take_of_length_le (l := idx.drop a) (by rw [List.length_drop]; omega)]
  have hp : (insQ idx a i).Perm (i :: idx) := by
    rw [e]
    have := List.perm_middle (a := i) (l₁ := idx.take a) (l₂ := idx.drop a)
    rwa [List.take_append_drop] at this
  refine ⟨by rw [hp.length_eq]; rfl, hp.nodup_iff.2 (List.nodup_cons.2 ⟨fun h => by have := hk i h; omega, hn⟩), fun k h => ?_⟩
  rcases List.mem_cons.1 (hp.mem_iff.1 h) with rfl | h
  · omega
  · have := hk k h; omega
set_option maxHeartbeats 8000000 in
theorem l11Sorted_c (E : List (List Int)) (h1 : E.length ≤ 200) (h2 : ∀ e ∈ E, e.length = 2) : AFnT Try.prog 49 [.own 0] 24 2 E (fun r => r.length = E.length ∧ ∀ e ∈ r, e ∈ E) := by
  have hE2 : ∀ j : Nat, j < E.length → (E.getD j []).length = 2 := fun j hj => h2 _ (by rw [List.getD_eq_getElem?_getD, List.getElem?_eq_getElem hj]; exact List.getElem_mem _)
  (refine AFnT.start Try.func49 Try.ntmps49 rfl (by kernel_rfl) fun K => ?_; simp only [Env.start, enumF, List.map_cons, List.map_nil, AV.sh, List.length_cons, List.length_nil, Nat.reduceAdd, Nat.reduceSub, List.cons_append, List.nil_append])
  repeat' (first | (apply AOps.nil; try simp only [List.nil_append, List.cons_append, List.set_cons_zero, List.set_cons_succ, List.length_cons, List.length_nil, Nat.reduceAdd, AV.sh, AV.sh1, AV.sh0, AO.sh, List.map_cons, List.map_nil, Nat.zero_add, Nat.add_zero, setAll]) | (apply w_assign; exact rfl; exact rfl) | apply AWp.seq | apply AWp.region | apply AWp.block | (apply w_bso0 1; exact rfl; try simp only [List.nil_append, List.cons_append, List.set_cons_zero, List.set_cons_succ, List.length_cons, List.length_nil, Nat.reduceAdd, AV.sh, AV.sh1, AV.sh0, AO.sh, List.map_cons, List.map_nil, Nat.zero_add, Nat.add_zero, setAll]))
  refine AWp.loopS (ι := Nat × List Nat) (fun s => ⟨48, [(0, .own 1), (3, .own 2), (4, .i s.1)]⟩) (fun s => [.keep 1 K, .sls 24 2 E, .slr 24 (orL 1 s.2)]) (fun s => s.1 ≤ E.length ∧ s.2.length = s.1 ∧ s.2.Nodup ∧ ∀ k ∈ s.2, k < s.1) (fun s => E.length - s.1) (0, []) ⟨Nat.zero_le _, rfl, List.nodup_nil, fun k hk => by cases hk⟩ ⟨lee rfl (by (repeat (first | exact le_nil | refine le_eq rfl rfl ?_))), by (repeat (first | exact lo_nil | refine lo_eq rfl ?_)), rfl, (by first | exact rfl | exact lim_one _)⟩ ?_
  rintro ⟨i, idx⟩ ⟨i0, i1, i2, i3⟩
  simp only at i0 i1 i2 i3
  by_cases hi : i < E.length
  · repeat' (first | (apply AOps.nil; try simp only [List.nil_append, List.cons_append, List.set_cons_zero, List.set_cons_succ, List.length_cons, List.length_nil, Nat.reduceAdd, AV.sh, AV.sh1, AV.sh0, AO.sh, List.map_cons, List.map_nil, Nat.zero_add, Nat.add_zero, setAll]) | (apply w_move; exact rfl; exact rfl) | (apply w_assign; exact rfl; exact rfl) | apply AWp.seq | apply AWp.region | ((apply AWp.condP; exact rfl) <;> intro h) | apply AWp.block | apply AWp.ret | apply AWp.exit | apply AWp.skip | ((first | apply w_leno | apply w_lss); iterate 3 exact rfl) | (apply w_len; exact rfl; exact rfl; first | exact .ints _ | exact .intss _ | exact .sli rfl | exact .sls rfl | exact .slr rfl | exact .orow rfl | exact .nil) | omega)
    refine AWp.loop (ι := Nat) (fun a => ⟨48, [(0, .own 1), (3, .own 2), (4, .i i), (5, .i a)]⟩) (fun a => [.keep 1 K, .sls 24 2 E, .slr 24 (orL 1 idx)]) (fun a => a ≤ idx.length) (fun a => idx.length - a) 0 (Nat.zero_le _) ⟨lee rfl (by (repeat (first | exact le_nil | refine le_eq rfl rfl ?_))), by (repeat (first | exact lo_nil | refine lo_eq rfl ?_)), rfl, (by first | exact rfl | exact lim_one _)⟩ ?_
    intro a a0
    by_cases ha : a < idx.length
    · have hk : idx.getD a 0 < E.length := by
        have := i3 (idx.getD a 0) (by rw [List.getD_eq_getElem?_getD, List.getElem?_eq_getElem ha]; exact List.getElem_mem _)
        omega
      have hless := l01Less_c (E.getD (idx.getD a 0) []) (E.getD i []) (hE2 _ hk) (hE2 _ hi)
      repeat' (apply AWp.seq)
      by_cases hc : geti (E.getD (idx.getD a 0) []) 0 < geti (E.getD i []) 0 ∨ geti (E.getD (idx.getD a 0) []) 0 = geti (E.getD i []) 0 ∧ geti (E.getD (idx.getD a 0) []) 1 < geti (E.getD i []) 1
      · have hb : less2 (E.getD (idx.getD a 0) []) (E.getD i []) = true := decide_eq_true hc
        rw [hb] at hless
        repeat' (first | (apply AOps.nil; try simp only [List.nil_append, List.cons_append, List.set_cons_zero, List.set_cons_succ, List.length_cons, List.length_nil, Nat.reduceAdd, AV.sh, AV.sh1, AV.sh0, AO.sh, List.map_cons, List.map_nil, Nat.zero_add, Nat.add_zero, setAll]) | ((apply AOps.splitP; exact rfl; exact rfl) <;> intro h) | (apply w_move; exact rfl; exact rfl) | (apply w_assign; exact rfl; exact rfl) | apply AWp.seq | apply AWp.region | (apply AWp.condT; exact rfl) | (apply AWp.condF; exact rfl) | apply AWp.block | apply AWp.exit | apply AWp.skip | (apply AWp.regionQ; kernel_rfl; kernel_rfl) | (apply w_skip; exact rfl) | (apply w_pickT; exact rfl; exact rfl; exact rfl) | (apply w_pickF; exact rfl; exact rfl; exact rfl) | ((first | apply w_leno | apply w_lss | apply w_add | apply w_idx | apply w_ld); iterate 3 exact rfl) | ((first | apply w_idxq | apply w_ldro); iterate 4 exact rfl) | (apply w_call (hless); exact rfl; exact rfl; focus ((repeat (first | exact im_nil | refine im_cons rfl (.orow rfl) ?_)); done)) | omega | (apply w_idxo; exact rfl; exact rfl; (exact .sls rfl); exact rfl) | (apply w_ldls; iterate 4 exact rfl) | (apply inI_of <;> omega))
        exact ⟨a + 1, by omega, by omega, ⟨lee rfl (by (repeat (first | exact le_nil | refine le_eq rfl rfl ?_))), by (repeat (first | exact lo_nil | refine lo_eq rfl ?_)), rfl, (by first | exact rfl | exact lim_one _)⟩⟩
      · have hb : less2 (E.getD (idx.getD a 0) []) (E.getD i []) = false := decide_eq_false hc
        rw [hb] at hless
        refine AWp.regionQ (by kernel_rfl) (by kernel_rfl) ?_
        repeat' (first | (apply AOps.nil; try simp only [List.nil_append, List.cons_append, List.set_cons_zero, List.set_cons_succ, List.length_cons, List.length_nil, Nat.reduceAdd, AV.sh, AV.sh1, AV.sh0, AO.sh, List.map_cons, List.map_nil, Nat.zero_add, Nat.add_zero, setAll]) | ((apply AOps.splitP; exact rfl; exact rfl) <;> intro h) | (apply w_move; exact rfl; exact rfl) | apply AWp.seq | (apply AWp.condF; exact rfl) | apply AWp.exit | (apply w_skip; exact rfl) | (apply w_pickT; exact rfl; exact rfl; exact rfl) | (apply w_pickF; exact rfl; exact rfl; exact rfl) | ((first | apply w_leno | apply w_lss | apply w_idx | apply w_ld); iterate 3 exact rfl) | ((first | apply w_idxq | apply w_ldro); iterate 4 exact rfl) | (apply w_call (hless); exact rfl; exact rfl; focus ((repeat (first | exact im_nil | refine im_cons rfl (.orow rfl) ?_)); done)) | omega | (apply w_idxo; exact rfl; exact rfl; (exact .sls rfl); exact rfl) | (apply w_ldls; iterate 4 exact rfl))
        refine AWp.regionA (by kernel_rfl) (envC := ⟨48, [(0, .own 1), (3, .own 2), (4, .i i), (5, .i a), (6, .own 3)]⟩) (osC := [.keep 1 K, .sls 24 2 E, .slr 24 (orL 1 idx), .slr 24 (orL 1 ([i] ++ (idx.drop a).take (idx.length - a)))]) rfl rfl ?_ ?_
        · repeat' (first | (apply AOps.nil; try simp only [List.nil_append, List.cons_append, List.set_cons_zero, List.set_cons_succ, List.length_cons, List.length_nil, Nat.reduceAdd, AV.sh, AV.sh1, AV.sh0, AO.sh, List.map_cons, List.map_nil, Nat.zero_add, Nat.add_zero, setAll]) | (apply w_move; exact rfl; exact rfl) | (apply w_assign; exact rfl; exact rfl) | (apply w_bso1; exact rfl; exact rfl; exact rfl; try simp only [List.nil_append, List.cons_append, List.set_cons_zero, List.set_cons_succ, List.length_cons, List.length_nil, Nat.reduceAdd, AV.sh, AV.sh1, AV.sh0, AO.sh, List.map_cons, List.map_nil, Nat.zero_add, Nat.add_zero, setAll]) | ((first | apply w_idxq | apply w_ldro | apply w_osrlo); iterate 4 exact rfl) | (apply w_appos; exact rfl; exact rfl; exact rfl; exact rfl; exact rfl; exact rfl; rotate_left 2; simp only [Env.mp, List.map_cons, List.map_nil, List.set_cons_zero, List.set_cons_succ, AV.kill, AV.kill1, AO.kill, AV.lose, AV.lose1, orL_kill, AV.noRow, AV.noRow1, AO.via, reduceIte, Nat.reduceEqDiff, Nat.reduceLT, Env.up, Nat.zero_ne_one, Nat.one_ne_zero, Nat.reduceAdd, List.cons_append, List.nil_append]; rotate_left 1) | omega | (apply w_idxo; exact rfl; exact rfl; (exact .sls rfl); exact rfl) | (apply w_ldls; iterate 4 exact rfl) | apply AllOf.nil | (apply AllOf.cons; exact rfl) | (apply AAny.take; exact rfl; exact rfl; kernel_rfl; kernel_rfl) | (apply AAny.all; exact rfl) | (apply AAny.done; exact rfl) | (simp <;> omega))
          all_goals (apply Or.inl; refine ⟨lee rfl ?_, ?_, rfl, (lim_two _ _)⟩; (focus ((repeat (first | exact le_nil | refine le_eq rfl rfl ?_)); done)); (focus ((repeat (first | exact lo_nil | refine lo_eq rfl ?_)); done)))
        repeat' (first | (apply AOps.nil; try simp only [List.nil_append, List.cons_append, List.set_cons_zero, List.set_cons_succ, List.length_cons, List.length_nil, Nat.reduceAdd, AV.sh, AV.sh1, AV.sh0, AO.sh, List.map_cons, List.map_nil, Nat.zero_add, Nat.add_zero, setAll]) | (apply w_move; exact rfl; exact rfl) | (apply w_assign; exact rfl; exact rfl) | apply AWp.region | ((first | apply w_add | apply w_slhi); iterate 3 exact rfl) | (apply w_bso0 1; exact rfl; try simp only [List.nil_append, List.cons_append, List.set_cons_zero, List.set_cons_succ, List.length_cons, List.length_nil, Nat.reduceAdd, AV.sh, AV.sh1, AV.sh0, AO.sh, List.map_cons, List.map_nil, Nat.zero_add, Nat.add_zero, setAll]) | ((apply w_osrhi); iterate 4 exact rfl) | (apply w_appos; exact rfl; exact rfl; exact rfl; exact rfl; exact rfl; exact rfl; rotate_left 2; simp only [Env.mp, List.map_cons, List.map_nil, List.set_cons_zero, List.set_cons_succ, AV.kill, AV.kill1, AO.kill, AV.lose, AV.lose1, orL_kill, AV.noRow, AV.noRow1, AO.via, reduceIte, Nat.reduceEqDiff, Nat.reduceLT, Env.up, Nat.zero_ne_one, Nat.one_ne_zero, Nat.reduceAdd, List.cons_append, List.nil_append]; rotate_left 1) | (apply w_appol; exact rfl; exact rfl; exact rfl; exact rfl; exact rfl; exact rfl; rotate_left 1; simp only [Env.mp, List.map_cons, List.map_nil, List.set_cons_zero, List.set_cons_succ, AV.kill, AV.kill1, AO.kill, AV.lose, AV.lose1, orL_kill, AV.noRow, AV.noRow1, AO.via, reduceIte, Nat.reduceEqDiff, Nat.reduceLT, Env.up, Nat.zero_ne_one, Nat.one_ne_zero, Nat.reduceAdd, List.cons_append, List.nil_append]; rotate_left 1) | omega | (apply inI_of <;> omega) | (simp <;> omega))
        obtain ⟨n1, n2, n3⟩ := insQ_ok (i := i) a0 i2 i3
        refine ⟨(i + 1, insQ idx a i), ⟨by simp only; omega, by simp only; omega, n2, n3⟩, by simp only; omega, ?_⟩
        (apply Or.inr; refine ⟨[0, 1, 4], ⟨by decide, fun x hx => Nat.lt_of_lt_of_le ((by decide : ∀ x ∈ ([0, 1, 4] : List Nat), x < 5) x hx) (Nat.le_of_ble_eq_true rfl)⟩, lee rfl ?_, ?_, rfl, (lim_one _)⟩; (focus ((repeat (first | exact le_nil | refine le_eq rfl rfl ?_)); done)); (focus ((repeat (first | exact lo_nil | refine lo_eq rfl ?_ | refine lo_eq (congrArg (AO.slr _) (orL_ren _ _)) ?_)); done)))
    · repeat' (apply AWp.seq)
      refine AWp.regionQ (by kernel_rfl) (by kernel_rfl) ?_
      repeat' (first | (apply AOps.nil; try simp only [List.nil_append, List.cons_append, List.set_cons_zero, List.set_cons_succ, List.length_cons, List.length_nil, Nat.reduceAdd, AV.sh, AV.sh1, AV.sh0, AO.sh, List.map_cons, List.map_nil, Nat.zero_add, Nat.add_zero, setAll]) | ((apply AOps.splitP; exact rfl; exact rfl) <;> intro h) | (apply w_move; exact rfl; exact rfl) | apply AWp.seq | (apply AWp.condF; exact rfl) | apply AWp.exit | (apply w_skip; exact rfl) | (apply w_pickF; exact rfl; exact rfl; exact rfl) | ((first | apply w_leno | apply w_lss | apply w_idx | apply w_ld); iterate 3 exact rfl) | ((first | apply w_idxq | apply w_ldro); iterate 4 exact rfl) | omega)
      refine AWp.regionA (by kernel_rfl) (envC := ⟨48, [(0, .own 1), (3, .own 2), (4, .i i), (5, .i a), (6, .own 3)]⟩) (osC := [.keep 1 K, .sls 24 2 E, .slr 24 (orL 1 idx), .slr 24 (orL 1 ([i] ++ (idx.drop a).take (idx.length - a)))]) rfl rfl ?_ ?_
      · repeat' (first | (apply AOps.nil; try simp only [List.nil_append, List.cons_append, List.set_cons_zero, List.set_cons_succ, List.length_cons, List.length_nil, Nat.reduceAdd, AV.sh, AV.sh1, AV.sh0, AO.sh, List.map_cons, List.map_nil, Nat.zero_add, Nat.add_zero, setAll]) | (apply w_move; exact rfl; exact rfl) | (apply w_assign; exact rfl; exact rfl) | (apply w_bso1; exact rfl; exact rfl; exact rfl; try simp only [List.nil_append, List.cons_append, List.set_cons_zero, List.set_cons_succ, List.length_cons, List.length_nil, Nat.reduceAdd, AV.sh, AV.sh1, AV.sh0, AO.sh, List.map_cons, List.map_nil, Nat.zero_add, Nat.add_zero, setAll]) | ((first | apply w_idxq | apply w_ldro | apply w_osrlo); iterate 4 exact rfl) | (apply w_appos; exact rfl; exact rfl; exact rfl; exact rfl; exact rfl; exact rfl; rotate_left 2; simp only [Env.mp, List.map_cons, List.map_nil, List.set_cons_zero, List.set_cons_succ, AV.kill, AV.kill1, AO.kill, AV.lose, AV.lose1, orL_kill, AV.noRow, AV.noRow1, AO.via, reduceIte, Nat.reduceEqDiff, Nat.reduceLT, Env.up, Nat.zero_ne_one, Nat.one_ne_zero, Nat.reduceAdd, List.cons_append, List.nil_append]; rotate_left 1) | omega | (apply w_idxo; exact rfl; exact rfl; (exact .sls rfl); exact rfl) | (apply w_ldls; iterate 4 exact rfl) | apply AllOf.nil | (apply AllOf.cons; exact rfl) | (apply AAny.take; exact rfl; exact rfl; kernel_rfl; kernel_rfl) | (apply AAny.all; exact rfl) | (apply AAny.done; exact rfl) | (simp <;> omega))
        all_goals (apply Or.inl; refine ⟨lee rfl ?_, ?_, rfl, (lim_two _ _)⟩; (focus ((repeat (first | exact le_nil | refine le_eq rfl rfl ?_)); done)); (focus ((repeat (first | exact lo_nil | refine lo_eq rfl ?_)); done)))
      repeat' (first | (apply AOps.nil; try simp only [List.nil_append, List.cons_append, List.set_cons_zero, List.set_cons_succ, List.length_cons, List.length_nil, Nat.reduceAdd, AV.sh, AV.sh1, AV.sh0, AO.sh, List.map_cons, List.map_nil, Nat.zero_add, Nat.add_zero, setAll]) | (apply w_move; exact rfl; exact rfl) | (apply w_assign; exact rfl; exact rfl) | apply AWp.region | ((first | apply w_add | apply w_slhi); iterate 3 exact rfl) | (apply w_bso0 1; exact rfl; try simp only [List.nil_append, List.cons_append, List.set_cons_zero, List.set_cons_succ, List.length_cons, List.length_nil, Nat.reduceAdd, AV.sh, AV.sh1, AV.sh0, AO.sh, List.map_cons, List.map_nil, Nat.zero_add, Nat.add_zero, setAll]) | ((apply w_osrhi); iterate 4 exact rfl) | (apply w_appos; exact rfl; exact rfl; exact rfl; exact rfl; exact rfl; exact rfl; rotate_left 2; simp only [Env.mp, List.map_cons, List.map_nil, List.set_cons_zero, List.set_cons_succ, AV.kill, AV.kill1, AO.kill, AV.lose, AV.lose1, orL_kill, AV.noRow, AV.noRow1, AO.via, reduceIte, Nat.reduceEqDiff, Nat.reduceLT, Env.up, Nat.zero_ne_one, Nat.one_ne_zero, Nat.reduceAdd, List.cons_append, List.nil_append]; rotate_left 1) | (apply w_appol; exact rfl; exact rfl; exact rfl; exact rfl; exact rfl; exact rfl; rotate_left 1; simp only [Env.mp, List.map_cons, List.map_nil, List.set_cons_zero, List.set_cons_succ, AV.kill, AV.kill1, AO.kill, AV.lose, AV.lose1, orL_kill, AV.noRow, AV.noRow1, AO.via, reduceIte, Nat.reduceEqDiff, Nat.reduceLT, Env.up, Nat.zero_ne_one, Nat.one_ne_zero, Nat.reduceAdd, List.cons_append, List.nil_append]; rotate_left 1) | omega | (apply inI_of <;> omega) | (simp <;> omega))
      obtain ⟨n1, n2, n3⟩ := insQ_ok (i := i) a0 i2 i3
      refine ⟨(i + 1, insQ idx a i), ⟨by simp only; omega, by simp only; omega, n2, n3⟩, by simp only; omega, ?_⟩
      (apply Or.inr; refine ⟨[0, 1, 4], ⟨by decide, fun x hx => Nat.lt_of_lt_of_le ((by decide : ∀ x ∈ ([0, 1, 4] : List Nat), x < 5) x hx) (Nat.le_of_ble_eq_true rfl)⟩, lee rfl ?_, ?_, rfl, (lim_one _)⟩; (focus ((repeat (first | exact le_nil | refine le_eq rfl rfl ?_)); done)); (focus ((repeat (first | exact lo_nil | refine lo_eq rfl ?_ | refine lo_eq (congrArg (AO.slr _) (orL_ren _ _)) ?_)); done)))
  · obtain rfl : i = E.length := by omega
    repeat' (first | (apply AOps.nil; try simp only [List.nil_append, List.cons_append, List.set_cons_zero, List.set_cons_succ, List.length_cons, List.length_nil, Nat.reduceAdd, AV.sh, AV.sh1, AV.sh0, AO.sh, List.map_cons, List.map_nil, Nat.zero_add, Nat.add_zero, setAll]) | (apply w_move; exact rfl; exact rfl) | (apply w_assign; exact rfl; exact rfl) | apply AWp.seq | apply AWp.region | ((apply AWp.condP; exact rfl) <;> intro h) | apply AWp.block | apply AWp.ret | apply AWp.exit | apply AWp.skip | ((first | apply w_leno | apply w_lss); iterate 3 exact rfl) | (apply w_len; exact rfl; exact rfl; first | exact .ints _ | exact .intss _ | exact .sli rfl | exact .sls rfl | exact .slr rfl | exact .orow rfl | exact .nil) | omega)
    refine ⟨_, _, 2, _, Turns.merge (p := 2) (k := 1) (idx := idx) rfl rfl i2, .v1 Try.results49 rfl, rfl, ⟨by rw [List.length_map]; exact i1, fun e he => ?_⟩, rfl⟩
    obtain ⟨j, hj, rfl⟩ := List.mem_map.1 he
    have hjl := i3 j hj
    rw [List.getD_eq_getElem?_getD, List.getElem?_eq_getElem hjl]
    exact List.getElem_mem _
end Go.Proofs.Ytcolpjpppdmanaa
/-
  Draws of graphs: copies, blow-ups. Condition: small graphs.
-/
namespace Go.Proofs.Ytcolpjpppdmanaa
open Go Go.RowKit
attribute [local irreducible] AWp AOps ResIs Ret1 QOp LOp COp AFnV AFn Imms LeE LeO
set_option maxHeartbeats 1000000
set_option linter.unusedSimpArgs false
set_option linter.unusedVariables false

/-- Numbers in range. -/
def WB (B : Int) (W : List Int) : Prop := ∀ w ∈ W, -B ≤ w ∧ w ≤ B
theorem WB.get {B : Int} {W : List Int} (h : WB B W) (hB : 0 ≤ B) (i : Int) : -B ≤ geti W i ∧ geti W i ≤ B := by
  unfold geti
  rw [List.getD_eq_getElem?_getD]
  cases hx : W[i.toNat]? with
  | none => simp; omega
  | some x => exact h x (List.mem_of_getElem? hx)
theorem WB.mono {B C : Int} {W : List Int} (h : WB B W) (hc : B ≤ C) : WB C W := fun w hw => by have := h w hw; omega
theorem WB.set {B : Int} {W : List Int} (h : WB B W) {i : Nat} {x : Int} (hx : -B ≤ x ∧ x ≤ B) : WB B (W.set i x) := fun w hw => by
  rcases List.mem_or_eq_of_mem_set hw with hw | rfl
  · exact h w hw
  · exact hx
theorem WB.snoc {B : Int} {W : List Int} (h : WB B W) {x : Int} (hx : -B ≤ x ∧ x ≤ B) : WB B (W ++ [x]) := fun w hw => by
  rcases List.mem_append.1 hw with hw | hw
  · exact h w hw
  · rw [List.mem_singleton.1 hw]; exact hx
theorem WB.low {B : Int} {W : List Int} (h : WB B W) (hB : 0 ≤ B) (i : Nat) : WB (B + 1) (W.set i (geti W (i : Nat) - 1)) :=
  (h.mono (by omega)).set (by have := h.get hB (i : Nat); omega)
/-- A graph that is drawn: so many vertices and edges, weights and edges in range. -/
structure GD (n m : Nat) (B : Int) (W : List Int) (E : List (List Int)) : Prop where
  wl : W.length = n
  el : E.length ≤ m
  wb : WB B W
  er : ∀ e ∈ E, e.length = 2 ∧ (0 ≤ geti e 0 ∧ geti e 0 < n) ∧ (0 ≤ geti e 1 ∧ geti e 1 < n)
set_option maxHeartbeats 8000000 in
theorem l11Own_c (W : List Int) (E : List (List Int)) (hw : W.length ≤ 1000) (hb : E.length ≤ 1000) (hr : ∀ xs ∈ E, xs.length ≤ 1048576) :
    AFn Try.prog 58 [.agg [.ints W, .intss E]] (fun r os => r = .agg [.own 0, .own 1] ∧ os = [.sli 2 W, .sls 24 2 E]) := by
  have t1 := l01Own_c W (by omega)
  have t2 := l01Own2_c E (by omega) hr
  (refine AFn.start Try.func58 Try.ntmps58 rfl (by kernel_rfl) fun hk => ?_; simp only [Env.start, enumF, List.length_cons, List.length_nil, Nat.reduceAdd, Nat.reduceSub, List.cons_append, List.nil_append])
  repeat' (first | (apply AOps.nil; try simp only [List.nil_append, List.cons_append, List.set_cons_zero, List.set_cons_succ, List.length_cons, List.length_nil, Nat.reduceAdd, AV.sh, AV.sh1, AV.sh0, AO.sh, List.map_cons, List.map_nil, Nat.zero_add, Nat.add_zero, setAll]) | apply AWp.seq | apply AWp.region | ((apply w_boxa); iterate 2 exact rfl) | (apply w_alst; iterate 2 exact rfl))
  refine AWp.regionA (by kernel_rfl) (envC := ⟨10, [(2, .optr 0 0)]⟩) (osC := [.bx 32 [.own 1, .own 2], .sli 2 W, .sls 24 2 E]) rfl rfl ?_ ?_
  · repeat' (first | (apply AOps.nil; try simp only [List.nil_append, List.cons_append, List.set_cons_zero, List.set_cons_succ, List.length_cons, List.length_nil, Nat.reduceAdd, AV.sh, AV.sh1, AV.sh0, AO.sh, List.map_cons, List.map_nil, Nat.zero_add, Nat.add_zero, setAll]) | (apply w_callm (t1); (focus ((repeat (first | exact im_nil | refine im_cons rfl (.ints _) ?_)); done)); rintro r os0 ⟨rfl, rfl⟩; try simp only [List.nil_append, List.cons_append, List.set_cons_zero, List.set_cons_succ, List.length_cons, List.length_nil, Nat.reduceAdd, AV.sh, AV.sh1, AV.sh0, AO.sh, List.map_cons, List.map_nil, Nat.zero_add, Nat.add_zero, setAll]) | (apply w_callm (t2); (focus ((repeat (first | exact im_nil | refine im_cons rfl (.intss _) ?_)); done)); rintro r os0 ⟨rfl, rfl⟩; try simp only [List.nil_append, List.cons_append, List.set_cons_zero, List.set_cons_succ, List.length_cons, List.length_nil, Nat.reduceAdd, AV.sh, AV.sh1, AV.sh0, AO.sh, List.map_cons, List.map_nil, Nat.zero_add, Nat.add_zero, setAll]) | ((first | apply w_ld | apply w_fa); iterate 3 exact rfl) | (apply w_ldb; iterate 5 exact rfl) | (apply w_build2; exact rfl; exact rfl; exact rfl; (exact one_own rfl True.intro); (exact one_own rfl True.intro)) | (apply w_stst; iterate 5 exact rfl) | apply AllOf.nil | (apply AllOf.cons; exact rfl) | (apply AAny.take; exact rfl; exact rfl; kernel_rfl; kernel_rfl) | (apply AAny.all; exact rfl) | (apply AAny.done; exact rfl))
    all_goals first
      | (apply Or.inr; refine ⟨[1, 2, 3], ⟨by decide, fun x hx => Nat.lt_of_lt_of_le ((by decide : ∀ x ∈ ([1, 2, 3] : List Nat), x < 4) x hx) (Nat.le_of_ble_eq_true rfl)⟩, lee rfl ?_, ?_, rfl, rfl⟩; (focus ((repeat (first | exact le_nil | refine le_eq rfl rfl ?_)); done)); (focus ((repeat (first | exact lo_nil | refine lo_eq rfl ?_)); done)))
      | (apply Or.inl; refine ⟨lee rfl ?_, ?_, rfl, rfl⟩; (focus ((repeat (exact le_nil)); done)); (focus ((repeat (exact lo_nil)); done)))
  repeat' (apply AWp.ret)
  all_goals exact ⟨_, _, _, .c1 Try.results58 rfl rfl rfl, .oo rfl rfl trivial trivial (by decide), rfl, rfl⟩
theorem GD.blow {n m : Nat} {B : Int} {W : List Int} {E E' : List (List Int)} (h : GD n m B W E) {v : Int} (hv : 0 ≤ v ∧ v < n) (hB : 0 ≤ B) (hl : E'.length = (E ++ [[v, (W.length : Int)]]).length) (he : ∀ e ∈ E', e ∈ E ++ [[v, (W.length : Int)]]) :
    GD (n + 1) (m + 1) (B + 1) (W.set v.toNat (geti W (v.toNat : Nat) - 1) ++ [-1]) E' where
  wl := by simp [h.wl]
  el := by have := h.el; rw [hl]; simp; omega
  wb := (h.wb.low hB _).snoc (by omega)
  er e hm := by
    rcases List.mem_append.1 (he e hm) with hm | hm
    · have := h.er e hm; omega
    · rw [List.mem_singleton.1 hm, h.wl]
      refine ⟨rfl, ?_, ?_⟩
      · show 0 ≤ v ∧ v < (n + 1 : Nat); omega
      · show 0 ≤ (n : Int) ∧ (n : Int) < (n + 1 : Nat); omega
/-- A graph in new memory. -/
def IsG (n m : Nat) (B : Int) (T T2 : TypeId) (r : AV) (os : List AO) : Prop := ∃ W E, r = .agg [.own 0, .own 1] ∧ os = [.sli T2 W, .sls T T2 E] ∧ GD n m B W E
set_option maxHeartbeats 8000000 in
theorem l11BlowVertex_c (W : List Int) (E : List (List Int)) (n m : Nat) (B : Int) (h : GD n m B W E) (hn : n ≤ 50 ∧ m ≤ 100 ∧ 1 ≤ B ∧ B ≤ 3000) (v : Int) (hv : 0 ≤ v ∧ v < n) :
    AFn Try.prog 48 [.agg [.ints W, .intss E], .i v] (IsG (n + 1) (m + 1) (B + 1) 24 2) := by
  have hwl := h.wl
  have hel := h.el
  have ho := l11Own_c W E (by omega) (by omega) (fun e he => by have := (h.er e he).1; omega)
  have hb := h.wb.get (by omega) (v.toNat : Nat)
  have hs := l11Sorted_c (E ++ [[v, (W.length : Int)]]) (by simp; omega) (fun e he => by
    rcases List.mem_append.1 he with he | he
    · exact (h.er e he).1
    · rw [List.mem_singleton.1 he]; rfl)
  (refine AFn.start Try.func48 Try.ntmps48 rfl (by kernel_rfl) fun hk => ?_; simp only [Env.start, enumF, List.length_cons, List.length_nil, Nat.reduceAdd, Nat.reduceSub, List.cons_append, List.nil_append])
  repeat' (first | (apply AOps.nil; try simp only [List.nil_append, List.cons_append, List.set_cons_zero, List.set_cons_succ, List.length_cons, List.length_nil, Nat.reduceAdd, AV.sh, AV.sh1, AV.sh0, AO.sh, List.map_cons, List.map_nil, Nat.zero_add, Nat.add_zero, setAll]) | (apply w_move; exact rfl; exact rfl) | (apply w_assign; exact rfl; exact rfl) | apply AWp.seq | apply AWp.region | apply AWp.ret | (apply w_len; exact rfl; exact rfl; first | exact .ints _ | exact .intss _ | exact .sli rfl | exact .sls rfl | exact .slr rfl | exact .orow rfl | exact .nil) | ((first | apply w_bsr1 | apply w_sub | apply w_idx | apply w_ld | apply w_fa | apply w_bs2); iterate 3 exact rfl) | (apply w_appr; exact rfl; exact rfl; exact rfl; exact rfl; exact rfl; exact rfl; exact rfl; rotate_left 1; simp only [Env.mp, List.map_cons, List.map_nil, List.set_cons_zero, List.set_cons_succ, AV.kill, AV.kill1, AO.kill, AV.rin, AV.rin1, AV.noRow, AV.noRow1, AO.via, reduceIte, Nat.reduceEqDiff, Nat.reduceLT, Env.up, Nat.zero_ne_one, Nat.one_ne_zero, Nat.reduceAdd, List.cons_append, List.nil_append]; rotate_left 1) | (apply w_callm (ho); (focus ((repeat (first | exact im_nil | refine im_cons rfl (im_agg2 (.ints _) (.intss _)) ?_)); done)); rintro r os0 ⟨rfl, rfl⟩; try simp only [List.nil_append, List.cons_append, List.set_cons_zero, List.set_cons_succ, List.length_cons, List.length_nil, Nat.reduceAdd, AV.sh, AV.sh1, AV.sh0, AO.sh, List.map_cons, List.map_nil, Nat.zero_add, Nat.add_zero, setAll]) | (apply w_callt 3 (hs); exact rfl; exact rfl; (focus ((repeat (first | exact imu_nil | refine imu_cons rfl (.own rfl) ?_)); done)); rintro xss0 ⟨hl, he⟩; simp only [Env.mp, List.map_cons, List.map_nil, List.set_cons_zero, List.set_cons_succ, AV.kill, AV.kill1, AO.kill, AV.lose, AV.lose1, List.map_append, map_orow_kill, AV.noRow, AV.noRow1, AO.via, reduceIte, Nat.reduceEqDiff, Nat.reduceLT, Env.up, Nat.zero_ne_one, Nat.one_ne_zero, Nat.reduceAdd, List.cons_append, List.nil_append]) | omega | ((first | apply w_bs1 | apply w_boxa); iterate 2 exact rfl) | (apply w_idxo; exact rfl; exact rfl; (exact .sli rfl); exact rfl) | (apply w_ldo; iterate 4 exact rfl) | (apply w_ldb; iterate 5 exact rfl) | (apply w_ldst; iterate 5 exact rfl) | (apply w_app; exact rfl; exact rfl; exact rfl; exact rfl; (exact .sli rfl); rotate_left 1; simp only [Env.mp, List.map_cons, List.map_nil, List.set_cons_zero, List.set_cons_succ, AV.kill, AV.kill1, AO.kill, AV.noRow, AV.noRow1, AO.via, reduceIte, Nat.reduceEqDiff, Nat.reduceLT, Env.up, Nat.zero_ne_one, Nat.one_ne_zero, Nat.reduceAdd, List.cons_append, List.nil_append]; rotate_left 1) | (apply w_alst; iterate 2 exact rfl) | (apply w_sti; exact rfl; exact rfl; rotate_left 1; exact rfl; rotate_left 2) | (apply w_stst; iterate 5 exact rfl) | (apply w_stbo; exact rfl; exact rfl; exact rfl; exact rfl; exact rfl; exact True.intro) | (apply inI_of <;> omega) | (simp <;> omega))
  refine ⟨_, _, _, .c1 Try.results48 rfl rfl rfl, .oo (i := 2) (j := 3) rfl rfl trivial trivial (by decide), _, _, rfl, rfl, ?_⟩
  exact h.blow hv (by omega) hl he
end Go.Proofs.Ytcolpjpppdmanaa
/-
  An edge of a graph blown up. Condition: small graphs.
-/
namespace Go.Proofs.Ytcolpjpppdmanaa
open Go Go.RowKit
attribute [local irreducible] AWp AOps ResIs Ret1 QOp LOp COp AFnV AFn Imms LeE LeO
set_option maxHeartbeats 1000000
set_option linter.unusedSimpArgs false
set_option linter.unusedVariables false

theorem GD.blow2 {n m : Nat} {B : Int} {W X : List Int} {E R E' : List (List Int)} (h : GD n m B W E) {v u : Int} (hv : 0 ≤ v ∧ v < n) (hu : 0 ≤ u ∧ u < n) (hX : X.length = n + 1) (c : WB (B + 1 + 1) X) (r1 : R.length ≤ E.length) (r2 : ∀ e ∈ R, e ∈ E)
    (hl : E'.length = (R ++ [[v, (W.length : Int)], [u, (W.length : Int)]]).length) (he : ∀ e ∈ E', e ∈ R ++ [[v, (W.length : Int)], [u, (W.length : Int)]]) : GD (n + 1) (m + 2) (B + 2) X E' where
  wl := hX
  el := by have := h.el; rw [hl]; simp; omega
  wb := c.mono (by omega)
  er e hm := by
    have hn : 0 ≤ (n : Int) ∧ (n : Int) < (n + 1 : Nat) := by omega
    rcases List.mem_append.1 (he e hm) with hm | hm
    · have := h.er e (r2 e hm); omega
    · rw [h.wl] at hm
      simp at hm
      rcases hm with rfl | rfl
      · refine ⟨rfl, ?_, hn⟩
        show 0 ≤ v ∧ v < (n + 1 : Nat); omega
      · refine ⟨rfl, ?_, hn⟩
        show 0 ≤ u ∧ u < (n + 1 : Nat); omega
set_option maxHeartbeats 8000000 in
theorem l11BlowEdge_c (W : List Int) (E : List (List Int)) (n m : Nat) (B : Int) (hG : GD n m B W E) (hn : n ≤ 50 ∧ m ≤ 100 ∧ 1 ≤ B ∧ B ≤ 3000) (v u : Int) (hv : 0 ≤ v ∧ v < n) (hu : 0 ≤ u ∧ u < n) :
    AFn Try.prog 47 [.agg [.ints W, .intss E], .i v, .i u] (IsG (n + 1) (m + 2) (B + 2) 24 2) := by
  have hwl := hG.wl
  have hel := hG.el
  have ho := l01Own_c W (by omega)
  have c1 : WB B (W ++ [-1]) := hG.wb.snoc (by omega)
  have c2 := c1.low (by omega) v.toNat
  have c3 := c2.low (by omega) u.toNat
  have hb := c1.get (by omega) (v.toNat : Nat)
  have hb2 := c2.get (by omega) (u.toNat : Nat)
  have hXl : (((W ++ [-1]).set v.toNat (geti (W ++ [-1]) (v.toNat : Nat) - 1)).set u.toNat (geti ((W ++ [-1]).set v.toNat (geti (W ++ [-1]) (v.toNat : Nat) - 1)) (u.toNat : Nat) - 1)).length = n + 1 := by simp [hwl]
  (refine AFn.start Try.func47 Try.ntmps47 rfl (by kernel_rfl) fun hk => ?_; simp only [Env.start, enumF, List.length_cons, List.length_nil, Nat.reduceAdd, Nat.reduceSub, List.cons_append, List.nil_append])
  repeat' (first | (apply AOps.nil; try simp only [List.nil_append, List.cons_append, List.set_cons_zero, List.set_cons_succ, List.length_cons, List.length_nil, Nat.reduceAdd, AV.sh, AV.sh1, AV.sh0, AO.sh, List.map_cons, List.map_nil, Nat.zero_add, Nat.add_zero, setAll]) | (apply w_move; exact rfl; exact rfl) | (apply w_assign; exact rfl; exact rfl) | apply AWp.seq | apply AWp.region | apply AWp.block | (apply w_len; exact rfl; exact rfl; first | exact .ints _ | exact .intss _ | exact .sli rfl | exact .sls rfl | exact .slr rfl | exact .orow rfl | exact .nil) | ((first | apply w_sub | apply w_idx | apply w_ld | apply w_fa); iterate 3 exact rfl) | (apply w_build21; exact rfl; exact rfl; exact rfl; (exact one_own rfl True.intro)) | (apply w_callm (ho); (focus ((repeat (first | exact im_nil | refine im_cons rfl (.ints _) ?_)); done)); rintro r os0 ⟨rfl, rfl⟩; try simp only [List.nil_append, List.cons_append, List.set_cons_zero, List.set_cons_succ, List.length_cons, List.length_nil, Nat.reduceAdd, AV.sh, AV.sh1, AV.sh0, AO.sh, List.map_cons, List.map_nil, Nat.zero_add, Nat.add_zero, setAll]) | omega | ((first | apply w_bs1 | apply w_boxa); iterate 2 exact rfl) | (apply w_idxo; exact rfl; exact rfl; (exact .sli rfl); exact rfl) | (apply w_ldo; iterate 4 exact rfl) | (apply w_ldb; iterate 5 exact rfl) | (apply w_app; exact rfl; exact rfl; exact rfl; exact rfl; (exact .sli rfl); rotate_left 1; simp only [Env.mp, List.map_cons, List.map_nil, List.set_cons_zero, List.set_cons_succ, AV.kill, AV.kill1, AO.kill, AV.noRow, AV.noRow1, AO.via, reduceIte, Nat.reduceEqDiff, Nat.reduceLT, Env.up, Nat.zero_ne_one, Nat.one_ne_zero, Nat.reduceAdd, List.cons_append, List.nil_append]; rotate_left 1) | (apply w_alst; iterate 2 exact rfl) | (apply w_sti; exact rfl; exact rfl; rotate_left 1; exact rfl; rotate_left 2) | (apply w_stst; iterate 5 exact rfl) | (apply inI_of <;> omega) | (simp <;> omega))
  generalize (((W ++ [-1]).set v.toNat (geti (W ++ [-1]) (v.toNat : Nat) - 1)).set u.toNat (geti ((W ++ [-1]).set v.toNat (geti (W ++ [-1]) (v.toNat : Nat) - 1)) (u.toNat : Nat) - 1)) = X at *
  refine AWp.turns (Turns.nilF (k := 4) (i := 1) 24 2 rfl rfl) ?_
  refine AWp.cut (env' := ⟨78, [(1, .i v), (2, .i u), (3, .optr 0 0), (6, .optr 1 0), (7, .i W.length), (8, .optr 3 0), (9, .i 0)]⟩) (os' := [.bx 32 [.ints W, .intss E], .bx 32 [.val (.slice none 0 0), .val (.slice none 0 0)], .sli 2 X, .bx 32 [.own 2, .own 4], .sls 24 2 []]) ?_ ?_
  · (apply Or.inr; refine ⟨[0, 1, 2, 4, 5], ⟨by decide, fun x hx => Nat.lt_of_lt_of_le ((by decide : ∀ x ∈ ([0, 1, 2, 4, 5] : List Nat), x < 6) x hx) (Nat.le_of_ble_eq_true rfl)⟩, lee rfl ?_, ?_, rfl, rfl⟩; (focus ((repeat (first | exact le_nil | refine le_eq rfl rfl ?_)); done)); (focus ((repeat (first | exact lo_nil | refine lo_eq rfl ?_)); done)))
  refine AWp.loopS (ι := Nat × List (List Int)) (fun s => ⟨78, [(1, .i v), (2, .i u), (3, .optr 0 0), (6, .optr 1 0), (7, .i W.length), (8, .optr 3 0), (9, .i s.1)]⟩) (fun s => [.bx 32 [.ints W, .intss E], .bx 32 [.val (.slice none 0 0), .val (.slice none 0 0)], .sli 2 X, .bx 32 [.own 2, .own 4], .sls 24 2 s.2]) (fun s => s.1 ≤ E.length ∧ s.2.length ≤ s.1 ∧ ∀ e ∈ s.2, e ∈ E) (fun s => E.length - s.1) (0, []) ⟨Nat.zero_le _, Nat.le_refl _, fun e he => by cases he⟩ ⟨lee rfl (by (repeat (first | exact le_nil | refine le_eq rfl rfl ?_))), by (repeat (first | exact lo_nil | refine lo_eq rfl ?_)), rfl, rfl⟩ ?_
  rintro ⟨i, R⟩ ⟨i0, i1, i2⟩
  simp only at i0 i1 i2
  by_cases hi : i < E.length
  · have hm := gets_mem (xss := E) (i := (i : Nat)) (by omega) (by omega)
    have he2 := (hG.er _ hm).1
    have hsame := l01Same_c (gets E (i : Nat)) [min v u, max v u]
    have hrow := l01Own_c (gets E (i : Nat)) (by omega)
    by_cases hc : gets E (i : Nat) = [min v u, max v u]
    · rw [decide_eq_true hc] at hsame
      repeat' (first | (apply AOps.nil; try simp only [List.nil_append, List.cons_append, List.set_cons_zero, List.set_cons_succ, List.length_cons, List.length_nil, Nat.reduceAdd, AV.sh, AV.sh1, AV.sh0, AO.sh, List.map_cons, List.map_nil, Nat.zero_add, Nat.add_zero, setAll]) | (apply w_move; exact rfl; exact rfl) | (apply w_assign; exact rfl; exact rfl) | apply AWp.seq | apply AWp.region | ((apply AWp.condP; exact rfl) <;> intro h) | (apply AWp.condF; exact rfl) | apply AWp.block | apply AWp.exit | apply AWp.skip | (apply w_len; exact rfl; exact rfl; first | exact .ints _ | exact .intss _ | exact .sli rfl | exact .sls rfl | exact .slr rfl | exact .orow rfl | exact .nil) | (apply w_call (hsame); exact rfl; exact rfl; focus ((repeat (first | exact im_nil | refine im_cons rfl (.ints _) ?_ | refine im_cons rfl (.sli rfl) ?_)); done)) | omega | ((first | apply w_lss | apply w_add | apply w_idx | apply w_ld | apply w_fa | apply w_min | apply w_max | apply w_bs2); iterate 3 exact rfl) | ((first | apply w_idxs | apply w_lds); iterate 3 exact rfl) | ((apply w_not); iterate 2 exact rfl) | (apply w_ldb; iterate 5 exact rfl) | (apply inI_of <;> omega))
      refine ⟨(i + 1, R), ⟨by simp only; omega, by simp only; omega, i2⟩, by simp only; omega, ?_⟩
      (apply Or.inl; refine ⟨lee rfl ?_, ?_, rfl, rfl⟩; (focus ((repeat (first | exact le_nil | refine le_eq rfl rfl ?_)); done)); (focus ((repeat (first | exact lo_nil | refine lo_eq rfl ?_)); done)))
    · rw [decide_eq_false hc] at hsame
      repeat' (first | (apply AOps.nil; try simp only [List.nil_append, List.cons_append, List.set_cons_zero, List.set_cons_succ, List.length_cons, List.length_nil, Nat.reduceAdd, AV.sh, AV.sh1, AV.sh0, AO.sh, List.map_cons, List.map_nil, Nat.zero_add, Nat.add_zero, setAll]) | (apply w_move; exact rfl; exact rfl) | apply AWp.seq | apply AWp.region | ((apply AWp.condP; exact rfl) <;> intro h) | (apply AWp.condT; exact rfl) | apply AWp.block | apply AWp.exit | apply AWp.skip | (apply w_len; exact rfl; exact rfl; first | exact .ints _ | exact .intss _ | exact .sli rfl | exact .sls rfl | exact .slr rfl | exact .orow rfl | exact .nil) | (apply w_call (hsame); exact rfl; exact rfl; focus ((repeat (first | exact im_nil | refine im_cons rfl (.ints _) ?_ | refine im_cons rfl (.sli rfl) ?_)); done)) | omega | ((first | apply w_lss | apply w_idx | apply w_ld | apply w_fa | apply w_min | apply w_max | apply w_bs2); iterate 3 exact rfl) | ((first | apply w_idxs | apply w_lds); iterate 3 exact rfl) | ((apply w_not); iterate 2 exact rfl) | (apply w_ldb; iterate 5 exact rfl) | (apply inI_of <;> omega))
      refine AWp.regionA (by kernel_rfl) (envC := ⟨78, [(1, .i v), (2, .i u), (3, .optr 0 0), (6, .optr 1 0), (7, .i W.length), (8, .optr 3 0), (9, .i i)]⟩) (osC := [.bx 32 [.ints W, .intss E], .bx 32 [.val (.slice none 0 0), .val (.slice none 0 0)], .sli 2 X, .bx 32 [.own 2, .own 4], .sls 24 2 (R ++ [gets E (i : Nat)])]) rfl rfl ?_ ?_
      · repeat' (first | (apply AOps.nil; try simp only [List.nil_append, List.cons_append, List.set_cons_zero, List.set_cons_succ, List.length_cons, List.length_nil, Nat.reduceAdd, AV.sh, AV.sh1, AV.sh0, AO.sh, List.map_cons, List.map_nil, Nat.zero_add, Nat.add_zero, setAll]) | (apply w_move; exact rfl; exact rfl) | ((first | apply w_bsr1 | apply w_idx | apply w_ld | apply w_fa); iterate 3 exact rfl) | (apply w_appr; exact rfl; exact rfl; exact rfl; exact rfl; exact rfl; exact rfl; exact rfl; rotate_left 1; simp only [Env.mp, List.map_cons, List.map_nil, List.set_cons_zero, List.set_cons_succ, AV.kill, AV.kill1, AO.kill, AV.rin, AV.rin1, AV.noRow, AV.noRow1, AO.via, reduceIte, Nat.reduceEqDiff, Nat.reduceLT, Env.up, Nat.zero_ne_one, Nat.one_ne_zero, Nat.reduceAdd, List.cons_append, List.nil_append]; rotate_left 1) | (apply w_callm (hrow); (focus ((repeat (first | exact im_nil | refine im_cons rfl (.ints _) ?_)); done)); rintro r os0 ⟨rfl, rfl⟩; try simp only [List.nil_append, List.cons_append, List.set_cons_zero, List.set_cons_succ, List.length_cons, List.length_nil, Nat.reduceAdd, AV.sh, AV.sh1, AV.sh0, AO.sh, List.map_cons, List.map_nil, Nat.zero_add, Nat.add_zero, setAll]) | omega | ((first | apply w_idxs | apply w_lds); iterate 3 exact rfl) | (apply w_ldb; iterate 5 exact rfl) | (apply w_stbo; exact rfl; exact rfl; exact rfl; exact rfl; exact rfl; exact True.intro) | apply AllOf.nil | (apply AllOf.cons; exact rfl) | (apply AAny.take; exact rfl; exact rfl; kernel_rfl; kernel_rfl) | (apply AAny.all; exact rfl) | (apply AAny.done; exact rfl))
        all_goals (apply Or.inl; refine ⟨lee rfl ?_, ?_, rfl, rfl⟩; (focus ((repeat (first | exact le_nil | refine le_eq rfl rfl ?_)); done)); (focus ((repeat (first | exact lo_nil | refine lo_eq rfl ?_)); done)))
      repeat' (first | (apply AOps.nil; try simp only [List.nil_append, List.cons_append, List.set_cons_zero, List.set_cons_succ, List.length_cons, List.length_nil, Nat.reduceAdd, AV.sh, AV.sh1, AV.sh0, AO.sh, List.map_cons, List.map_nil, Nat.zero_add, Nat.add_zero, setAll]) | (apply w_move; exact rfl; exact rfl) | (apply w_assign; exact rfl; exact rfl) | apply AWp.region | ((apply w_add); iterate 3 exact rfl) | (apply inI_of <;> omega))
      refine ⟨(i + 1, R ++ [gets E (i : Nat)]), ⟨by simp only; omega, by simp only [List.length_append, List.length_singleton]; omega, fun e he => by
        rcases List.mem_append.1 he with he | he
        · exact i2 e he
        · rw [List.mem_singleton.1 he]; exact hm⟩, by simp only; omega, ?_⟩
      (apply Or.inl; refine ⟨lee rfl ?_, ?_, rfl, rfl⟩; (focus ((repeat (first | exact le_nil | refine le_eq rfl rfl ?_)); done)); (focus ((repeat (first | exact lo_nil | refine lo_eq rfl ?_)); done)))
  · obtain rfl : i = E.length := by omega
    have hs := l11Sorted_c (R ++ [[v, (W.length : Int)], [u, (W.length : Int)]]) (by simp; omega) (fun e he => by
      rcases List.mem_append.1 he with he | he
      · exact (hG.er e (i2 e he)).1
      · simp at he; rcases he with rfl | rfl <;> rfl)
    repeat' (first | (apply AOps.nil; try simp only [List.nil_append, List.cons_append, List.set_cons_zero, List.set_cons_succ, List.length_cons, List.length_nil, Nat.reduceAdd, AV.sh, AV.sh1, AV.sh0, AO.sh, List.map_cons, List.map_nil, Nat.zero_add, Nat.add_zero, setAll]) | (apply w_move; exact rfl; exact rfl) | apply AWp.seq | apply AWp.region | ((apply AWp.condP; exact rfl) <;> intro h) | apply AWp.block | apply AWp.ret | apply AWp.exit | apply AWp.skip | (apply w_len; exact rfl; exact rfl; first | exact .ints _ | exact .intss _ | exact .sli rfl | exact .sls rfl | exact .slr rfl | exact .orow rfl | exact .nil) | (apply w_bsr2s; exact rfl; exact rfl; exact rfl; exact rfl; exact rfl; exact rfl; exact rfl; exact rfl; simp only [Env.mp, List.map_cons, List.map_nil, List.set_cons_zero, List.set_cons_succ, AV.kill, AV.kill1, AO.kill, AV.lose, AV.lose1, List.map_append, map_orow_kill, AV.noRow, AV.noRow1, AO.via, reduceIte, Nat.reduceEqDiff, Nat.reduceLT, Env.up, Nat.zero_ne_one, Nat.one_ne_zero, Nat.reduceAdd, List.cons_append, List.nil_append]) | (apply w_apprs; exact rfl; exact rfl; exact rfl; exact rfl; exact rfl; exact rfl; rotate_left 1; simp only [Env.mp, List.map_cons, List.map_nil, List.set_cons_zero, List.set_cons_succ, AV.kill, AV.kill1, AO.kill, AV.lose, AV.lose1, List.map_append, map_orow_kill, AV.noRow, AV.noRow1, AO.via, reduceIte, Nat.reduceEqDiff, Nat.reduceLT, Env.up, Nat.zero_ne_one, Nat.one_ne_zero, Nat.reduceAdd, List.cons_append, List.nil_append]; rotate_left 1) | (apply w_callt 4 (hs); exact rfl; exact rfl; (focus ((repeat (first | exact imu_nil | refine imu_cons rfl (.own rfl) ?_)); done)); rintro xss0 ⟨hl, he⟩; simp only [Env.mp, List.map_cons, List.map_nil, List.set_cons_zero, List.set_cons_succ, AV.kill, AV.kill1, AO.kill, AV.lose, AV.lose1, List.map_append, map_orow_kill, AV.noRow, AV.noRow1, AO.via, reduceIte, Nat.reduceEqDiff, Nat.reduceLT, Env.up, Nat.zero_ne_one, Nat.one_ne_zero, Nat.reduceAdd, List.cons_append, List.nil_append]) | omega | ((first | apply w_lss | apply w_ld | apply w_fa | apply w_bs2); iterate 3 exact rfl) | (apply w_ldb; iterate 5 exact rfl) | (apply w_ldst; iterate 5 exact rfl) | (apply w_stst; iterate 5 exact rfl) | (apply w_stbo; exact rfl; exact rfl; exact rfl; exact rfl; exact rfl; exact True.intro) | (apply inI_of <;> omega) | (simp <;> omega))
    refine ⟨_, _, _, .c1 Try.results47 rfl rfl rfl, .oo (i := 2) (j := 4) rfl rfl trivial trivial (by decide), _, _, rfl, rfl, ?_⟩
    exact hG.blow2 hv hu hXl c3 (R := R) i1 i2 hl he
end Go.Proofs.Ytcolpjpppdmanaa
/-
  Draws of graphs. Condition: not too many bytes.
-/
namespace Go.Proofs.Ytcolpjpppdmanaa
open Go Go.RowKit
attribute [local irreducible] AWp AOps ResIs Ret1 QOp LOp COp AFnV AFn Imms LeE LeO
set_option maxHeartbeats 1000000
set_option linter.unusedSimpArgs false
set_option linter.unusedVariables false

/-- A graph of at most so many vertices. -/
def IsGd (n : Nat) (B : Int) (T T2 : TypeId) (r : AV) (os : List AO) : Prop := ∃ W E k, r = .agg [.own 0, .own 1] ∧ os = [.sli T2 W, .sls T T2 E] ∧ GD k (2 * k) B W E ∧ 1 ≤ k ∧ k ≤ n
theorem GD.grow1 {n m : Nat} {B : Int} {W : List Int} {E : List (List Int)} (h : GD n m (4 + B) W E) {b : Int} (hb : 0 ≤ b ∧ b < 4) (hB : 0 ≤ B) : GD (n + 1) m (4 + B) (W ++ [-1 - b]) E where
  wl := by simp [h.wl]
  el := h.el
  wb := h.wb.snoc (by omega)
  er e he := by have := h.er e he; omega
theorem GD.grow2 {n m : Nat} {B : Int} {W : List Int} {E E' : List (List Int)} (h : GD n m (4 + B) W E) {v b : Int} (hv : 0 ≤ v ∧ v < n) (hb : 0 ≤ b ∧ b < 4) (hB : 0 ≤ B) (hl : E'.length = (E ++ [[v, (W.length : Int)]]).length) (he : ∀ e ∈ E', e ∈ E ++ [[v, (W.length : Int)]]) :
    GD (n + 1) (m + 1) (4 + B) (W ++ [-1 - b]) E' where
  wl := by simp [h.wl]
  el := by have := h.el; rw [hl]; simp; omega
  wb := (h.grow1 hb hB).wb
  er e hm := by
    rcases List.mem_append.1 (he e hm) with hm | hm
    · have := h.er e hm; omega
    · rw [List.mem_singleton.1 hm, h.wl]
      refine ⟨rfl, ?_, ?_⟩
      · show 0 ≤ v ∧ v < (n + 1 : Nat); omega
      · show 0 ≤ (n : Int) ∧ (n : Int) < (n + 1 : Nat); omega
set_option maxHeartbeats 16000000 in
theorem l11Draw_c (bs : List Int) (hl : bs.length ≤ 1048576) (hbs : ∀ i, 0 ≤ geti bs i ∧ geti bs i ≤ 255) (most : Int) (hm : 0 ≤ most ∧ most ≤ 40) :
    AFnZ Try.prog 40 57 bs [.int .i64 most] (IsGd 40 1000 24 2) := by
  have hn : ∀ z : Int, z ≤ 1000 → AFnS Try.prog 17 57 bs [.int .i64 z] (Nx z) := fun z hz => l01Next_c bs hl hbs z (by omega)
  have h3 := hn 3 (by omega)
  have hmo := hn most (by omega)
  (refine AFnZ.start Try.func40 Try.ntmps40 rfl (by kernel_rfl) fun K vC => ?_; simp only [Env.start, enumF, List.map_cons, List.map_nil, List.length_cons, List.length_nil, Nat.reduceAdd, Nat.reduceSub, Nat.zero_add, List.cons_append, List.nil_append])
  repeat' (first | (apply AOps.nil; try simp only [List.nil_append, List.cons_append, List.set_cons_zero, List.set_cons_succ, List.length_cons, List.length_nil, Nat.reduceAdd, AV.sh, AV.sh1, AV.sh0, AO.sh, List.map_cons, List.map_nil, Nat.zero_add, Nat.add_zero, setAll]) | (apply w_move; exact rfl; exact rfl) | (apply w_assign; exact rfl; exact rfl) | apply AWp.seq | apply AWp.region | apply AWp.block | (apply w_build21; exact rfl; exact rfl; exact rfl; (exact one_own rfl True.intro)) | ((apply w_bs1); iterate 2 exact rfl) | (apply w_callso (h3); exact rfl; exact rfl; exact rfl; exact rfl; (exact rdB_ro _ _); (rintro _ ⟨x, rfl, hx⟩)) | (apply w_callso (hmo); exact rfl; exact rfl; exact rfl; exact rfl; (exact rdB_ro _ _); (rintro _ ⟨x, rfl, hx⟩)) | ((apply w_sub); iterate 3 exact rfl) | (apply w_alst; iterate 2 exact rfl) | (apply w_stst; iterate 5 exact rfl) | (apply inI_of <;> omega))
  refine AWp.turns (Turns.nilF (k := 4) (i := 1) 24 2 rfl rfl) ?_
  rename_i a ha y hy
  refine AWp.cut (env' := ⟨107, [(0, .optr 1 0), (1, .i most), (4, .optr 2 0), (5, .optr 4 0), (6, .i y), (7, .i x)]⟩) (os' := [.keep 2 K, skO 57 bs (.ro (roB vC bs)), .bx 32 [.val (.slice none 0 0), .val (.slice none 0 0)], .sli 2 [-1 - a], .bx 32 [.own 3, .own 5], .sls 24 2 []]) ?_ ?_
  · (apply Or.inl; refine ⟨lee rfl ?_, ?_, rfl, rfl⟩; (focus ((repeat (first | exact le_nil | refine le_eq rfl rfl ?_)); done)); (focus ((repeat (first | exact lo_nil | refine lo_eq rfl ?_)); done)))
  refine AWp.loopS (ι := Int × List Int × List (List Int)) (fun s => ⟨107, [(0, .optr 1 0), (1, .i most), (4, .optr 2 0), (5, .optr 4 0), (6, .i y), (7, .i s.1)]⟩) (fun s => [.keep 2 K, skO 57 bs (.ro (roB vC bs)), .bx 32 [.val (.slice none 0 0), .val (.slice none 0 0)], .sli 2 s.2.1, .bx 32 [.own 3, .own 5], .sls 24 2 s.2.2]) (fun s => 0 ≤ s.1 ∧ 1 ≤ s.2.1.length ∧ s.1 + s.2.1.length ≤ 40 ∧ GD s.2.1.length (2 * s.2.1.length) (4 + 2 * s.2.1.length) s.2.1 s.2.2) (fun s => s.1.toNat) (x, [-1 - a], []) ⟨by simp only; omega, by simp, by simp; omega, ?_⟩ ⟨lee rfl (by (repeat (first | exact le_nil | refine le_eq rfl rfl ?_))), by (repeat (first | exact lo_nil | refine lo_eq rfl ?_)), rfl, rfl⟩ ?_
  · exact ⟨rfl, by simp, fun w hw => by rw [List.mem_singleton.1 hw]; simp; omega, fun e he => by cases he⟩
  rintro ⟨k, W, E⟩ ⟨i0, i1, i2, hG⟩
  simp only at i0 i1 i2 hG
  have hel := hG.el
  by_cases hk : 0 < k
  · have hv := hn W.length (by omega)
    have h2 := hn 2 (by omega)
    have hbv := fun v h => l11BlowVertex_c W E W.length (2 * W.length) (4 + 2 * W.length) hG (by omega) v h
    have hbe := fun v u h h' => l11BlowEdge_c W E W.length (2 * W.length) (4 + 2 * W.length) hG (by omega) v u h h'
    have grow : ∀ {m : Nat} {B : Int} {W2 : List Int} {E2 : List (List Int)}, GD (W.length + 1) m B W2 E2 → m ≤ 2 * W.length + 2 → B ≤ 4 + 2 * W.length + 2 → 0 ≤ k - 1 ∧ 1 ≤ W2.length ∧ k - 1 + W2.length ≤ 40 ∧ GD W2.length (2 * W2.length) (4 + 2 * W2.length) W2 E2 := fun h hm hB => by
      have := h.wl
      refine ⟨by omega, by omega, by omega, rfl, by have := h.el; omega, h.wb.mono (by omega), fun e he => ?_⟩
      have := h.er e he
      omega
    by_cases hy0 : y = 0
    · subst hy0
      by_cases he : 0 < E.length
      · have hE := hn E.length (by omega)
        repeat' (first | (apply AOps.nil; try simp only [List.nil_append, List.cons_append, List.set_cons_zero, List.set_cons_succ, List.length_cons, List.length_nil, Nat.reduceAdd, AV.sh, AV.sh1, AV.sh0, AO.sh, List.map_cons, List.map_nil, Nat.zero_add, Nat.add_zero, setAll]) | ((apply AOps.splitP; exact rfl; exact rfl) <;> intro h) | (apply w_move; exact rfl; exact rfl) | (apply w_assign; exact rfl; exact rfl) | apply AWp.seq | apply AWp.region | ((apply AWp.condP; exact rfl) <;> intro h) | (apply AWp.condF; exact rfl) | apply AWp.block | apply AWp.exit | apply AWp.skip | (apply w_skip; exact rfl) | (apply w_pickT; exact rfl; exact rfl; exact rfl) | (apply w_pickF; exact rfl; exact rfl; exact rfl) | (apply w_len; exact rfl; exact rfl; first | exact .ints _ | exact .intss _ | exact .sli rfl | exact .sls rfl | exact .slr rfl | exact .orow rfl | exact .nil) | (apply w_callso (hv); exact rfl; exact rfl; exact rfl; exact rfl; (exact rdB_ro _ _); (rintro _ ⟨v, rfl, hv1⟩)) | (apply w_callso (h2); exact rfl; exact rfl; exact rfl; exact rfl; (exact rdB_ro _ _); (rintro _ ⟨z, rfl, hz⟩)) | omega | contradiction | ((first | apply w_gtr | apply w_eql | apply w_ld | apply w_fa); iterate 3 exact rfl) | (apply w_ldb; iterate 5 exact rfl) | (apply w_ldst; iterate 5 exact rfl))
        · refine AWp.regionAI (ι := Nat) (fun j => j < E.length) (fun j => ⟨107, [(0, .optr 1 0), (1, .i most), (4, .optr 2 0), (5, .optr 4 0), (6, .i 0), (7, .i k), (8, .i W.length), (9, .i v), (10, .orow 5 j)]⟩) (fun _ => [.keep 2 K, skO 57 bs (.ro (roB vC bs)), .bx 32 [.val (.slice none 0 0), .val (.slice none 0 0)], .sli 2 W, .bx 32 [.own 3, .own 5], .sls 24 2 E]) (by kernel_rfl) rfl rfl ?_ ?_
          · repeat' (first | (apply AOps.nil; try simp only [List.nil_append, List.cons_append, List.set_cons_zero, List.set_cons_succ, List.length_cons, List.length_nil, Nat.reduceAdd, AV.sh, AV.sh1, AV.sh0, AO.sh, List.map_cons, List.map_nil, Nat.zero_add, Nat.add_zero, setAll]) | (apply w_move; exact rfl; exact rfl) | (apply w_assign; exact rfl; exact rfl) | (apply w_len; exact rfl; exact rfl; first | exact .ints _ | exact .intss _ | exact .sli rfl | exact .sls rfl | exact .slr rfl | exact .orow rfl | exact .nil) | (apply w_callso (hE); exact rfl; exact rfl; exact rfl; exact rfl; (exact rdB_ro _ _); (rintro _ ⟨j, rfl, hj⟩)) | omega | ((first | apply w_idx | apply w_ld | apply w_fa); iterate 3 exact rfl) | (apply w_idxo; exact rfl; exact rfl; (exact .sls rfl); exact rfl) | (apply w_ldls; iterate 4 exact rfl) | (apply w_ldb; iterate 5 exact rfl) | apply AllOf.nil | (apply AllOf.cons; exact rfl) | (apply AAny.take; exact rfl; exact rfl; kernel_rfl; kernel_rfl) | (apply AAny.all; exact rfl) | (apply AAny.done; exact rfl))
            all_goals refine ⟨j.toNat, by omega, ?_⟩
            all_goals (apply Or.inl; refine ⟨lee rfl ?_, ?_, rfl, rfl⟩; (focus ((repeat (first | exact le_nil | refine le_eq rfl rfl ?_)); done)); (focus ((repeat (first | exact lo_nil | refine lo_eq rfl ?_)); done)))
          intro j hj
          have hej : (E.getD j []).length = 2 ∧ (0 ≤ geti (E.getD j []) 0 ∧ geti (E.getD j []) 0 < W.length) ∧ (0 ≤ geti (E.getD j []) 1 ∧ geti (E.getD j []) 1 < W.length) := hG.er _ (gets_mem (xss := E) (i := (j : Nat)) (by omega) (by omega))
          refine AWp.regionAI (ι := List Int × List (List Int)) (fun s => GD (W.length + 1) (2 * W.length + 2) (4 + 2 * W.length + 2) s.1 s.2) (fun s => ⟨107, [(0, .optr 1 0), (1, .i most), (4, .optr 2 0), (5, .optr 4 0), (6, .i 0), (7, .i k)]⟩) (fun s => [.keep 2 K, skO 57 bs (.ro (roB vC bs)), .bx 32 [.val (.slice none 0 0), .val (.slice none 0 0)], .sli 2 s.1, .bx 32 [.own 3, .own 5], .sls 24 2 s.2]) (by kernel_rfl) rfl rfl ?_ ?_
          · repeat' (first | (apply AOps.nil; try simp only [List.nil_append, List.cons_append, List.set_cons_zero, List.set_cons_succ, List.length_cons, List.length_nil, Nat.reduceAdd, AV.sh, AV.sh1, AV.sh0, AO.sh, List.map_cons, List.map_nil, Nat.zero_add, Nat.add_zero, setAll]) | (apply w_move; exact rfl; exact rfl) | (apply w_callm ((hbe _ _ hej.2.1 hej.2.2)); (focus ((repeat (first | exact im_nil | refine im_cons rfl (.val _) ?_ | refine im_cons rfl (im_agg2 (.sli rfl) (.sls rfl)) ?_)); done)); rintro r os0 ⟨W2, E2, rfl, rfl, hG2⟩; try simp only [List.nil_append, List.cons_append, List.set_cons_zero, List.set_cons_succ, List.length_cons, List.length_nil, Nat.reduceAdd, AV.sh, AV.sh1, AV.sh0, AO.sh, List.map_cons, List.map_nil, Nat.zero_add, Nat.add_zero, setAll]) | omega | ((first | apply w_idxr | apply w_ldr); iterate 4 exact rfl) | (apply w_ldrp; iterate 4 exact rfl) | (apply w_ldst; iterate 5 exact rfl) | (apply w_stst; iterate 5 exact rfl) | apply AllOf.nil | (apply AllOf.cons; exact rfl) | (apply AAny.take; exact rfl; exact rfl; kernel_rfl; kernel_rfl) | (apply AAny.all; exact rfl) | (apply AAny.done; exact rfl))
            all_goals refine ⟨(W2, E2), hG2, ?_⟩
            all_goals (apply Or.inr; refine ⟨[0, 1, 2, 6, 4, 7], ⟨by decide, fun x hx => Nat.lt_of_lt_of_le ((by decide : ∀ x ∈ ([0, 1, 2, 6, 4, 7] : List Nat), x < 8) x hx) (Nat.le_of_ble_eq_true rfl)⟩, lee rfl ?_, ?_, rfl, rfl⟩; (focus ((repeat (first | exact le_nil | refine le_eq rfl rfl ?_)); done)); (focus ((repeat (first | exact lo_nil | refine lo_eq rfl ?_)); done)))
          rintro ⟨W2, E2⟩ hG2
          repeat' (first | (apply AOps.nil; try simp only [List.nil_append, List.cons_append, List.set_cons_zero, List.set_cons_succ, List.length_cons, List.length_nil, Nat.reduceAdd, AV.sh, AV.sh1, AV.sh0, AO.sh, List.map_cons, List.map_nil, Nat.zero_add, Nat.add_zero, setAll]) | (apply w_move; exact rfl; exact rfl) | (apply w_assign; exact rfl; exact rfl) | apply AWp.region | ((apply w_sub); iterate 3 exact rfl) | (apply inI_of <;> omega))
          refine ⟨(k - 1, W2, E2), grow hG2 (by omega) (by omega), by simp only; omega, ?_⟩
          (apply Or.inl; refine ⟨lee rfl ?_, ?_, rfl, rfl⟩; (focus ((repeat (first | exact le_nil | refine le_eq rfl rfl ?_)); done)); (focus ((repeat (first | exact lo_nil | refine lo_eq rfl ?_)); done)))
        have hbv1 := hbv v (by omega)
        repeat' (first | (apply AOps.nil; try simp only [List.nil_append, List.cons_append, List.set_cons_zero, List.set_cons_succ, List.length_cons, List.length_nil, Nat.reduceAdd, AV.sh, AV.sh1, AV.sh0, AO.sh, List.map_cons, List.map_nil, Nat.zero_add, Nat.add_zero, setAll]) | (apply w_move; exact rfl; exact rfl) | (apply w_assign; exact rfl; exact rfl) | apply AWp.region | (apply w_callm (hbv1); (focus ((repeat (first | exact im_nil | refine im_cons rfl (.val _) ?_ | refine im_cons rfl (im_agg2 (.sli rfl) (.sls rfl)) ?_)); done)); rintro r os0 ⟨W2, E2, rfl, rfl, hG2⟩; try simp only [List.nil_append, List.cons_append, List.set_cons_zero, List.set_cons_succ, List.length_cons, List.length_nil, Nat.reduceAdd, AV.sh, AV.sh1, AV.sh0, AO.sh, List.map_cons, List.map_nil, Nat.zero_add, Nat.add_zero, setAll]) | ((apply w_sub); iterate 3 exact rfl) | (apply w_stst; iterate 5 exact rfl) | (apply inI_of <;> omega))
        refine ⟨(k - 1, W2, E2), grow hG2 (by omega) (by omega), by simp only; omega, ?_⟩
        (apply Or.inr; refine ⟨[0, 1, 2, 6, 4, 7], ⟨by decide, fun x hx => Nat.lt_of_lt_of_le ((by decide : ∀ x ∈ ([0, 1, 2, 6, 4, 7] : List Nat), x < 8) x hx) (Nat.le_of_ble_eq_true rfl)⟩, lee rfl ?_, ?_, rfl, rfl⟩; (focus ((repeat (first | exact le_nil | refine le_eq rfl rfl ?_)); done)); (focus ((repeat (first | exact lo_nil | refine lo_eq rfl ?_)); done)))
      · repeat' (first | (apply AOps.nil; try simp only [List.nil_append, List.cons_append, List.set_cons_zero, List.set_cons_succ, List.length_cons, List.length_nil, Nat.reduceAdd, AV.sh, AV.sh1, AV.sh0, AO.sh, List.map_cons, List.map_nil, Nat.zero_add, Nat.add_zero, setAll]) | ((apply AOps.splitP; exact rfl; exact rfl) <;> intro h) | (apply w_move; exact rfl; exact rfl) | (apply w_assign; exact rfl; exact rfl) | apply AWp.seq | apply AWp.region | ((apply AWp.condP; exact rfl) <;> intro h) | (apply AWp.condF; exact rfl) | apply AWp.block | apply AWp.exit | apply AWp.skip | (apply w_skip; exact rfl) | (apply w_pickT; exact rfl; exact rfl; exact rfl) | (apply w_pickF; exact rfl; exact rfl; exact rfl) | (apply w_len; exact rfl; exact rfl; first | exact .ints _ | exact .intss _ | exact .sli rfl | exact .sls rfl | exact .slr rfl | exact .orow rfl | exact .nil) | (apply w_callso (hv); exact rfl; exact rfl; exact rfl; exact rfl; (exact rdB_ro _ _); (rintro _ ⟨v, rfl, hv1⟩)) | omega | contradiction | ((first | apply w_gtr | apply w_eql | apply w_ld | apply w_fa); iterate 3 exact rfl) | (apply w_ldb; iterate 5 exact rfl) | (apply w_ldst; iterate 5 exact rfl))
        have hbv1 := hbv v (by omega)
        repeat' (first | (apply AOps.nil; try simp only [List.nil_append, List.cons_append, List.set_cons_zero, List.set_cons_succ, List.length_cons, List.length_nil, Nat.reduceAdd, AV.sh, AV.sh1, AV.sh0, AO.sh, List.map_cons, List.map_nil, Nat.zero_add, Nat.add_zero, setAll]) | (apply w_move; exact rfl; exact rfl) | (apply w_assign; exact rfl; exact rfl) | apply AWp.region | (apply w_callm (hbv1); (focus ((repeat (first | exact im_nil | refine im_cons rfl (.val _) ?_ | refine im_cons rfl (im_agg2 (.sli rfl) (.sls rfl)) ?_)); done)); rintro r os0 ⟨W2, E2, rfl, rfl, hG2⟩; try simp only [List.nil_append, List.cons_append, List.set_cons_zero, List.set_cons_succ, List.length_cons, List.length_nil, Nat.reduceAdd, AV.sh, AV.sh1, AV.sh0, AO.sh, List.map_cons, List.map_nil, Nat.zero_add, Nat.add_zero, setAll]) | ((apply w_sub); iterate 3 exact rfl) | (apply w_stst; iterate 5 exact rfl) | (apply inI_of <;> omega))
        refine ⟨(k - 1, W2, E2), grow hG2 (by omega) (by omega), by simp only; omega, ?_⟩
        (apply Or.inr; refine ⟨[0, 1, 2, 6, 4, 7], ⟨by decide, fun x hx => Nat.lt_of_lt_of_le ((by decide : ∀ x ∈ ([0, 1, 2, 6, 4, 7] : List Nat), x < 8) x hx) (Nat.le_of_ble_eq_true rfl)⟩, lee rfl ?_, ?_, rfl, rfl⟩; (focus ((repeat (first | exact le_nil | refine le_eq rfl rfl ?_)); done)); (focus ((repeat (first | exact lo_nil | refine lo_eq rfl ?_)); done)))
    · repeat' (first | (apply AOps.nil; try simp only [List.nil_append, List.cons_append, List.set_cons_zero, List.set_cons_succ, List.length_cons, List.length_nil, Nat.reduceAdd, AV.sh, AV.sh1, AV.sh0, AO.sh, List.map_cons, List.map_nil, Nat.zero_add, Nat.add_zero, setAll]) | ((apply AOps.splitP; exact rfl; exact rfl) <;> intro h) | (apply w_move; exact rfl; exact rfl) | (apply w_assign; exact rfl; exact rfl) | apply AWp.seq | apply AWp.region | ((apply AWp.condP; exact rfl) <;> intro h) | (apply AWp.condF; exact rfl) | apply AWp.block | apply AWp.exit | apply AWp.skip | (apply w_skip; exact rfl) | (apply w_pickF; exact rfl; exact rfl; exact rfl) | (apply w_len; exact rfl; exact rfl; first | exact .ints _ | exact .intss _ | exact .sli rfl | exact .sls rfl | exact .slr rfl | exact .orow rfl | exact .nil) | (apply w_callso (hv); exact rfl; exact rfl; exact rfl; exact rfl; (exact rdB_ro _ _); (rintro _ ⟨v, rfl, hv1⟩)) | omega | ((first | apply w_gtr | apply w_eql | apply w_ld | apply w_fa); iterate 3 exact rfl) | (apply w_ldb; iterate 5 exact rfl))
      refine AWp.regionAI (ι := Int) (fun b => 0 ≤ b ∧ b < 4) (fun b => ⟨107, [(0, .optr 1 0), (1, .i most), (4, .optr 2 0), (5, .optr 4 0), (6, .i y), (7, .i k), (8, .i W.length), (9, .i v)]⟩) (fun b => [.keep 2 K, skO 57 bs (.ro (roB vC bs)), .bx 32 [.val (.slice none 0 0), .val (.slice none 0 0)], .sli 2 (W ++ [-1 - b]), .bx 32 [.own 3, .own 5], .sls 24 2 E]) (by kernel_rfl) rfl rfl ?_ ?_
      · have h4 := hn 4 (by omega)
        repeat' (first | (apply AOps.nil; try simp only [List.nil_append, List.cons_append, List.set_cons_zero, List.set_cons_succ, List.length_cons, List.length_nil, Nat.reduceAdd, AV.sh, AV.sh1, AV.sh0, AO.sh, List.map_cons, List.map_nil, Nat.zero_add, Nat.add_zero, setAll]) | (apply w_move; exact rfl; exact rfl) | ((apply w_bs1); iterate 2 exact rfl) | (apply w_callso (h4); exact rfl; exact rfl; exact rfl; exact rfl; (exact rdB_ro _ _); (rintro _ ⟨b, rfl, hb⟩)) | ((first | apply w_sub | apply w_ld | apply w_fa); iterate 3 exact rfl) | (apply w_ldb; iterate 5 exact rfl) | (apply w_app; exact rfl; exact rfl; exact rfl; exact rfl; (exact .sli rfl); rotate_left 1; simp only [Env.mp, List.map_cons, List.map_nil, List.set_cons_zero, List.set_cons_succ, AV.kill, AV.kill1, AO.kill, AV.noRow, AV.noRow1, AO.via, reduceIte, Nat.reduceEqDiff, Nat.reduceLT, Env.up, Nat.zero_ne_one, Nat.one_ne_zero, Nat.reduceAdd, List.cons_append, List.nil_append]; rotate_left 1) | (apply w_stbo; exact rfl; exact rfl; exact rfl; exact rfl; exact rfl; exact True.intro) | apply AllOf.nil | (apply AllOf.cons; exact rfl) | (apply AAny.take; exact rfl; exact rfl; kernel_rfl; kernel_rfl) | (apply AAny.all; exact rfl) | (apply AAny.done; exact rfl) | (apply inI_of <;> omega) | (simp <;> omega))
        all_goals refine ⟨b, by omega, ?_⟩
        all_goals (apply Or.inl; refine ⟨lee rfl ?_, ?_, rfl, rfl⟩; (focus ((repeat (first | exact le_nil | refine le_eq rfl rfl ?_)); done)); (focus ((repeat (first | exact lo_nil | refine lo_eq rfl ?_)); done)))
      intro b hb
      have h8 := hn 8 (by omega)
      have hs := l11Sorted_c (E ++ [[v, (W.length : Int)]]) (by simp; omega) (fun e he => by
        rcases List.mem_append.1 he with he | he
        · exact (hG.er e he).1
        · rw [List.mem_singleton.1 he]; rfl)
      have g1 := hG.grow1 (b := b) hb (by omega)
      have g2 := fun E' hl he => hG.grow2 (E' := E') (v := v) (b := b) (by omega) hb (by omega) hl he
      have hwl : (W ++ [-1 - b]).length = W.length + 1 := by simp
      generalize W ++ [-1 - b] = W3 at *
      by_cases hy1 : y = 1
      · subst hy1
        repeat' (first | (apply AOps.nil; try simp only [List.nil_append, List.cons_append, List.set_cons_zero, List.set_cons_succ, List.length_cons, List.length_nil, Nat.reduceAdd, AV.sh, AV.sh1, AV.sh0, AO.sh, List.map_cons, List.map_nil, Nat.zero_add, Nat.add_zero, setAll]) | ((apply AOps.splitP; exact rfl; exact rfl) <;> intro h) | (apply w_move; exact rfl; exact rfl) | (apply w_assign; exact rfl; exact rfl) | apply AWp.seq | apply AWp.region | (apply AWp.condT; exact rfl) | (apply w_skip; exact rfl) | (apply w_pickT; exact rfl; exact rfl; exact rfl) | ((first | apply w_bsr1 | apply w_eql | apply w_sub | apply w_ld | apply w_fa | apply w_bs2); iterate 3 exact rfl) | (apply w_appr; exact rfl; exact rfl; exact rfl; exact rfl; exact rfl; exact rfl; exact rfl; rotate_left 1; simp only [Env.mp, List.map_cons, List.map_nil, List.set_cons_zero, List.set_cons_succ, AV.kill, AV.kill1, AO.kill, AV.rin, AV.rin1, AV.noRow, AV.noRow1, AO.via, reduceIte, Nat.reduceEqDiff, Nat.reduceLT, Env.up, Nat.zero_ne_one, Nat.one_ne_zero, Nat.reduceAdd, List.cons_append, List.nil_append]; rotate_left 1) | (apply w_callt 5 (hs); exact rfl; exact rfl; (focus ((repeat (first | exact imu_nil | refine imu_cons rfl (.own rfl) ?_)); done)); rintro xss0 ⟨hl, he⟩; simp only [Env.mp, List.map_cons, List.map_nil, List.set_cons_zero, List.set_cons_succ, AV.kill, AV.kill1, AO.kill, AV.lose, AV.lose1, List.map_append, map_orow_kill, AV.noRow, AV.noRow1, AO.via, reduceIte, Nat.reduceEqDiff, Nat.reduceLT, Env.up, Nat.zero_ne_one, Nat.one_ne_zero, Nat.reduceAdd, List.cons_append, List.nil_append]) | omega | (apply w_ldb; iterate 5 exact rfl) | (apply w_stbo; exact rfl; exact rfl; exact rfl; exact rfl; exact rfl; exact True.intro) | (apply inI_of <;> omega))
        refine ⟨(k - 1, W3, _), grow (g2 _ hl he) (by omega) (by omega), by simp only; omega, ?_⟩
        (apply Or.inl; refine ⟨lee rfl ?_, ?_, rfl, rfl⟩; (focus ((repeat (first | exact le_nil | refine le_eq rfl rfl ?_)); done)); (focus ((repeat (first | exact lo_nil | refine lo_eq rfl ?_)); done)))
      · repeat' (first | (apply AOps.nil; try simp only [List.nil_append, List.cons_append, List.set_cons_zero, List.set_cons_succ, List.length_cons, List.length_nil, Nat.reduceAdd, AV.sh, AV.sh1, AV.sh0, AO.sh, List.map_cons, List.map_nil, Nat.zero_add, Nat.add_zero, setAll]) | ((apply AOps.splitP; exact rfl; exact rfl) <;> intro h) | (apply w_move; exact rfl; exact rfl) | (apply w_assign; exact rfl; exact rfl) | apply AWp.seq | apply AWp.region | ((apply AWp.condP; exact rfl) <;> intro h) | (apply AWp.condT; exact rfl) | apply AWp.skip | (apply w_skip; exact rfl) | (apply w_pickT; exact rfl; exact rfl; exact rfl) | (apply w_pickF; exact rfl; exact rfl; exact rfl) | ((first | apply w_bsr1 | apply w_gtr | apply w_eql | apply w_sub | apply w_ld | apply w_fa | apply w_bs2); iterate 3 exact rfl) | (apply w_appr; exact rfl; exact rfl; exact rfl; exact rfl; exact rfl; exact rfl; exact rfl; rotate_left 1; simp only [Env.mp, List.map_cons, List.map_nil, List.set_cons_zero, List.set_cons_succ, AV.kill, AV.kill1, AO.kill, AV.rin, AV.rin1, AV.noRow, AV.noRow1, AO.via, reduceIte, Nat.reduceEqDiff, Nat.reduceLT, Env.up, Nat.zero_ne_one, Nat.one_ne_zero, Nat.reduceAdd, List.cons_append, List.nil_append]; rotate_left 1) | (apply w_callso (h8); exact rfl; exact rfl; exact rfl; exact rfl; (exact rdB_ro _ _); (rintro _ ⟨z, rfl, hz⟩)) | (apply w_callt 5 (hs); exact rfl; exact rfl; (focus ((repeat (first | exact imu_nil | refine imu_cons rfl (.own rfl) ?_)); done)); rintro xss0 ⟨hl, he⟩; simp only [Env.mp, List.map_cons, List.map_nil, List.set_cons_zero, List.set_cons_succ, AV.kill, AV.kill1, AO.kill, AV.lose, AV.lose1, List.map_append, map_orow_kill, AV.noRow, AV.noRow1, AO.via, reduceIte, Nat.reduceEqDiff, Nat.reduceLT, Env.up, Nat.zero_ne_one, Nat.one_ne_zero, Nat.reduceAdd, List.cons_append, List.nil_append]) | omega | (apply w_ldb; iterate 5 exact rfl) | (apply w_stbo; exact rfl; exact rfl; exact rfl; exact rfl; exact rfl; exact True.intro) | (apply inI_of <;> omega))
        · refine ⟨(k - 1, W3, _), grow (g2 _ hl he) (by omega) (by omega), by simp only; omega, ?_⟩
          (apply Or.inl; refine ⟨lee rfl ?_, ?_, rfl, rfl⟩; (focus ((repeat (first | exact le_nil | refine le_eq rfl rfl ?_)); done)); (focus ((repeat (first | exact lo_nil | refine lo_eq rfl ?_)); done)))
        · refine ⟨(k - 1, W3, E), grow g1 (by omega) (by omega), by simp only; omega, ?_⟩
          (apply Or.inl; refine ⟨lee rfl ?_, ?_, rfl, rfl⟩; (focus ((repeat (first | exact le_nil | refine le_eq rfl rfl ?_)); done)); (focus ((repeat (first | exact lo_nil | refine lo_eq rfl ?_)); done)))
  · have hv := hn W.length (by omega)
    have h12 := hn 12 (by omega)
    have hp : AFnL Try.prog 18 57 bs [0, 1, 5, -1000, 1000] (fun rv => ∃ y, rv = .int .i64 y ∧ (-1000 ≤ y ∧ y ≤ 1000)) :=
      (l01Pick_c bs hl hbs [0, 1, 5, -1000, 1000] ⟨by simp, by simp⟩).mono fun _ ⟨y, e, hy⟩ => ⟨y, e, by simp at hy; omega⟩
    have hfin : ∀ W2 : List Int, W2.length = W.length → WB 1000 W2 → GD W2.length (2 * W2.length) 1000 W2 E := fun W2 hl2 hb2 => ⟨rfl, by omega, hb2, fun e he => by have := hG.er e he; omega⟩
    have w0 : WB 1000 W := hG.wb.mono (by omega)
    repeat' (first | (apply AOps.nil; try simp only [List.nil_append, List.cons_append, List.set_cons_zero, List.set_cons_succ, List.length_cons, List.length_nil, Nat.reduceAdd, AV.sh, AV.sh1, AV.sh0, AO.sh, List.map_cons, List.map_nil, Nat.zero_add, Nat.add_zero, setAll]) | (apply w_move; exact rfl; exact rfl) | apply AWp.seq | apply AWp.region | ((apply AWp.condP; exact rfl) <;> intro h) | apply AWp.block | apply AWp.ret | apply AWp.exit | apply AWp.skip | (apply w_callso (h12); exact rfl; exact rfl; exact rfl; exact rfl; (exact rdB_ro _ _); (rintro _ ⟨z, rfl, hz⟩)) | omega | ((first | apply w_gtr | apply w_eql); iterate 3 exact rfl) | (apply w_ldst; iterate 5 exact rfl) | (apply w_stst; iterate 5 exact rfl))
    · refine AWp.regionAI (ι := List Int) (fun X => X.length = W.length ∧ WB 1000 X) (fun X => ⟨107, [(0, .optr 1 0), (4, .optr 2 0), (5, .optr 4 0)]⟩) (fun X => [.keep 2 K, skO 57 bs (.ro (roB vC bs)), .bx 32 [.val (.slice none 0 0), .val (.slice none 0 0)], .sli 2 X, .bx 32 [.own 3, .own 5], .sls 24 2 E]) (by kernel_rfl) rfl rfl ?_ ?_
      · repeat' (first | (apply AOps.nil; try simp only [List.nil_append, List.cons_append, List.set_cons_zero, List.set_cons_succ, List.length_cons, List.length_nil, Nat.reduceAdd, AV.sh, AV.sh1, AV.sh0, AO.sh, List.map_cons, List.map_nil, Nat.zero_add, Nat.add_zero, setAll]) | (apply w_move; exact rfl; exact rfl) | (apply w_len; exact rfl; exact rfl; first | exact .ints _ | exact .intss _ | exact .sli rfl | exact .sls rfl | exact .slr rfl | exact .orow rfl | exact .nil) | (apply w_bs5; iterate 6 exact rfl) | (apply w_callso (hv); exact rfl; exact rfl; exact rfl; exact rfl; (exact rdB_ro _ _); (rintro _ ⟨j, rfl, hj⟩)) | (apply w_callsol (hp); exact rfl; exact rfl; exact rfl; exact rfl; (exact rdB_ro _ _); exact rfl; (rintro _ ⟨t, rfl, ht⟩)) | omega | ((first | apply w_idx | apply w_ld | apply w_fa); iterate 3 exact rfl) | (apply w_idxo; exact rfl; exact rfl; (exact .sli rfl); exact rfl) | (apply w_ldb; iterate 5 exact rfl) | (apply w_sti; exact rfl; exact rfl; rotate_left 1; exact rfl; rotate_left 2) | apply AllOf.nil | (apply AllOf.cons; exact rfl) | (apply AAny.take; exact rfl; exact rfl; kernel_rfl; kernel_rfl) | (apply AAny.all; exact rfl) | (apply AAny.done; exact rfl) | (apply inI_of <;> omega))
        all_goals refine ⟨W.set j.toNat t, ⟨List.length_set, w0.set ht⟩, ?_⟩
        all_goals (apply Or.inl; refine ⟨lee rfl ?_, ?_, rfl, rfl⟩; (focus ((repeat (first | exact le_nil | refine le_eq rfl rfl ?_)); done)); (focus ((repeat (first | exact lo_nil | refine lo_eq rfl ?_)); done)))
      rintro X ⟨hX1, hX2⟩
      repeat' (first | (apply AOps.nil; try simp only [List.nil_append, List.cons_append, List.set_cons_zero, List.set_cons_succ, List.length_cons, List.length_nil, Nat.reduceAdd, AV.sh, AV.sh1, AV.sh0, AO.sh, List.map_cons, List.map_nil, Nat.zero_add, Nat.add_zero, setAll]) | apply AWp.seq | apply AWp.region | apply AWp.ret | (apply w_ldst; iterate 5 exact rfl) | (apply w_stst; iterate 5 exact rfl))
      exact ⟨_, _, _, _, .c1 Try.results40 rfl rfl rfl, rfl, .oo (i := 3) (j := 5) rfl rfl trivial trivial (by decide), X, E, X.length, rfl, rfl, hfin X hX1 hX2, by omega, by omega⟩
    · exact ⟨_, _, _, _, .c1 Try.results40 rfl rfl rfl, rfl, .oo (i := 3) (j := 5) rfl rfl trivial trivial (by decide), W, E, W.length, rfl, rfl, hfin W rfl w0, by omega, by omega⟩
end Go.Proofs.Ytcolpjpppdmanaa
/-
  Draws of what mostly is a graph. Condition: not too many bytes.
-/
namespace Go.Proofs.Ytcolpjpppdmanaa
open Go Go.RowKit
attribute [local irreducible] AWp AOps ResIs Ret1 QOp LOp COp AFnV AFn Imms LeE LeO
set_option maxHeartbeats 1000000
set_option linter.unusedSimpArgs false
set_option linter.unusedVariables false

/-- A graph, of whose numbers perhaps the first is left out. -/
def IsGo (T T2 : TypeId) (r : AV) (os : List AO) : Prop := ∃ W E, os = [.sli T2 W, .sls T T2 E] ∧ (r = .agg [.own 0, .own 1] ∨ r = .agg [.osub 0 1 (W.length - 1), .own 1]) ∧ 1 ≤ W.length ∧ W.length ≤ 40 ∧ E.length ≤ 81 ∧ WB 1001 W ∧ ∀ e ∈ E, e.length = 2
set_option maxHeartbeats 16000000 in
theorem l11DrawAny_c (bs : List Int) (hl : bs.length ≤ 1048576) (hbs : ∀ i, 0 ≤ geti bs i ∧ geti bs i ≤ 255) (most : Int) (hm : 0 ≤ most ∧ most ≤ 40) :
    AFnZ Try.prog 26 57 bs [.int .i64 most] (IsGo 24 2) := by
  have hn : ∀ z : Int, z ≤ 1000 → AFnS Try.prog 17 57 bs [.int .i64 z] (Nx z) := fun z hz => l01Next_c bs hl hbs z (by omega)
  have h24 := hn 24 (by omega)
  have h2 := hn 2 (by omega)
  have hd := l11Draw_c bs hl hbs most hm
  have hp : AFnL Try.prog 18 57 bs [1001, -1001] (fun rv => ∃ y, rv = .int .i64 y ∧ (-1001 ≤ y ∧ y ≤ 1001)) :=
    (l01Pick_c bs hl hbs [1001, -1001] ⟨by simp, by simp⟩).mono fun _ ⟨y, e, hy⟩ => ⟨y, e, by simp at hy; omega⟩
  (refine AFnZ.start Try.func26 Try.ntmps26 rfl (by kernel_rfl) fun K vC => ?_; simp only [Env.start, enumF, List.map_cons, List.map_nil, List.length_cons, List.length_nil, Nat.reduceAdd, Nat.reduceSub, Nat.zero_add, List.cons_append, List.nil_append])
  repeat' (first | (apply AOps.nil; try simp only [List.nil_append, List.cons_append, List.set_cons_zero, List.set_cons_succ, List.length_cons, List.length_nil, Nat.reduceAdd, AV.sh, AV.sh1, AV.sh0, AO.sh, List.map_cons, List.map_nil, Nat.zero_add, Nat.add_zero, setAll]) | (apply w_move; exact rfl; exact rfl) | (apply w_assign; exact rfl; exact rfl) | apply AWp.seq | apply AWp.region | (apply w_len; exact rfl; exact rfl; first | exact .ints _ | exact .intss _ | exact .sli rfl | exact .sls rfl | exact .slr rfl | exact .orow rfl | exact .nil) | (apply w_callsoo (hd); exact rfl; exact rfl; exact rfl; exact rfl; (exact rdB_ro _ _); exact rfl; (rintro r os0 ⟨W, E, n, rfl, rfl, hG, hn1, hn2⟩; try simp only [List.nil_append, List.cons_append, List.set_cons_zero, List.set_cons_succ, List.length_cons, List.length_nil, Nat.reduceAdd, AV.sh, AV.sh1, AV.sh0, AO.sh, List.map_cons, List.map_nil, Nat.zero_add, Nat.add_zero, setAll])) | ((first | apply w_ld | apply w_fa); iterate 3 exact rfl) | (apply w_ldb; iterate 5 exact rfl) | (apply w_alst; iterate 2 exact rfl) | (apply w_stst; iterate 5 exact rfl))
  have hwl := hG.wl
  have hel := hG.el
  have hv := hn W.length (by omega)
  have w0 : WB 1001 W := hG.wb.mono (by omega)
  have e0 : ∀ e ∈ E, e.length = 2 := fun e he => (hG.er e he).1
  repeat' (first | (apply AOps.nil; try simp only [List.nil_append, List.cons_append, List.set_cons_zero, List.set_cons_succ, List.length_cons, List.length_nil, Nat.reduceAdd, AV.sh, AV.sh1, AV.sh0, AO.sh, List.map_cons, List.map_nil, Nat.zero_add, Nat.add_zero, setAll]) | (apply w_assign; exact rfl; exact rfl) | apply AWp.seq | apply AWp.region | ((apply AWp.condP; exact rfl) <;> intro h) | apply AWp.block | apply AWp.ret | apply AWp.skip | ((apply w_stbu); iterate 4 exact rfl) | (apply w_callso (h24); exact rfl; exact rfl; exact rfl; exact rfl; (exact rdB_ro _ _); (rintro _ ⟨x, rfl, hx⟩)) | omega | ((first | apply w_eql | apply w_ld | apply w_fa | apply w_sllo); iterate 3 exact rfl) | (apply w_ldb; iterate 5 exact rfl) | (apply w_ldst; iterate 5 exact rfl) | ((apply w_oslo); iterate 4 exact rfl) | (apply w_stst; iterate 5 exact rfl))
  · refine AWp.regionAI (ι := List Int) (fun X => X.length = W.length ∧ WB 1001 X) (fun X => ⟨48, [(0, .optr 1 0), (4, .optr 2 0), (5, .optr 5 0), (14, .i x)]⟩) (fun X => [.keep 2 K, skO 57 bs (.ro (roB vC bs)), .bx 32 [.val (.slice none 0 0), .val (.slice none 0 0)], .sli 2 X, .sls 24 2 E, .bx 32 [.own 3, .own 4]]) (by kernel_rfl) rfl rfl ?_ ?_
    · repeat' (first | (apply AOps.nil; try simp only [List.nil_append, List.cons_append, List.set_cons_zero, List.set_cons_succ, List.length_cons, List.length_nil, Nat.reduceAdd, AV.sh, AV.sh1, AV.sh0, AO.sh, List.map_cons, List.map_nil, Nat.zero_add, Nat.add_zero, setAll]) | (apply w_move; exact rfl; exact rfl) | (apply w_callso (hv); exact rfl; exact rfl; exact rfl; exact rfl; (exact rdB_ro _ _); (rintro _ ⟨j, rfl, hj⟩)) | (apply w_callsol (hp); exact rfl; exact rfl; exact rfl; exact rfl; (exact rdB_ro _ _); exact rfl; (rintro _ ⟨t, rfl, ht⟩)) | omega | ((first | apply w_idx | apply w_ld | apply w_fa | apply w_bs2); iterate 3 exact rfl) | (apply w_idxo; exact rfl; exact rfl; (exact .sli rfl); exact rfl) | (apply w_ldb; iterate 5 exact rfl) | (apply w_sti; exact rfl; exact rfl; rotate_left 1; exact rfl; rotate_left 2) | apply AllOf.nil | (apply AllOf.cons; exact rfl) | (apply AAny.take; exact rfl; exact rfl; kernel_rfl; kernel_rfl) | (apply AAny.all; exact rfl) | (apply AAny.done; exact rfl) | (apply inI_of <;> omega))
      all_goals refine ⟨W.set j.toNat t, ⟨List.length_set, w0.set ht⟩, ?_⟩
      all_goals (apply Or.inl; refine ⟨lee rfl ?_, ?_, rfl, rfl⟩; (focus ((repeat (first | exact le_nil | refine le_eq rfl rfl ?_)); done)); (focus ((repeat (first | exact lo_nil | refine lo_eq rfl ?_)); done)))
    rintro X ⟨hX1, hX2⟩
    repeat' (first | (apply AOps.nil; try simp only [List.nil_append, List.cons_append, List.set_cons_zero, List.set_cons_succ, List.length_cons, List.length_nil, Nat.reduceAdd, AV.sh, AV.sh1, AV.sh0, AO.sh, List.map_cons, List.map_nil, Nat.zero_add, Nat.add_zero, setAll]) | apply AWp.seq | apply AWp.region | apply AWp.ret | (apply w_ldst; iterate 5 exact rfl) | (apply w_stst; iterate 5 exact rfl))
    exact ⟨_, _, _, _, .c1 Try.results26 rfl rfl rfl, rfl, .oo (i := 3) (j := 4) rfl rfl trivial trivial (by decide), X, E, rfl, .inl rfl, by omega, by omega, by omega, hX2, e0⟩
  · refine AWp.regionAI (ι := List Int) (fun e => e.length = 2) (fun e => ⟨48, [(0, .optr 1 0), (4, .optr 2 0), (5, .optr 5 0), (14, .i x)]⟩) (fun e => [.keep 2 K, skO 57 bs (.ro (roB vC bs)), .bx 32 [.val (.slice none 0 0), .val (.slice none 0 0)], .sli 2 W, .sls 24 2 (E ++ [e]), .bx 32 [.own 3, .own 4]]) (by kernel_rfl) rfl rfl ?_ ?_
    · repeat' (first | (apply AOps.nil; try simp only [List.nil_append, List.cons_append, List.set_cons_zero, List.set_cons_succ, List.length_cons, List.length_nil, Nat.reduceAdd, AV.sh, AV.sh1, AV.sh0, AO.sh, List.map_cons, List.map_nil, Nat.zero_add, Nat.add_zero, setAll]) | (apply w_move; exact rfl; exact rfl) | ((first | apply w_bsr1 | apply w_sub | apply w_ld | apply w_fa | apply w_bs2); iterate 3 exact rfl) | (apply w_appr; exact rfl; exact rfl; exact rfl; exact rfl; exact rfl; exact rfl; exact rfl; rotate_left 1; simp only [Env.mp, List.map_cons, List.map_nil, List.set_cons_zero, List.set_cons_succ, AV.kill, AV.kill1, AO.kill, AV.rin, AV.rin1, AV.noRow, AV.noRow1, AO.via, reduceIte, Nat.reduceEqDiff, Nat.reduceLT, Env.up, Nat.zero_ne_one, Nat.one_ne_zero, Nat.reduceAdd, List.cons_append, List.nil_append]; rotate_left 1) | (apply w_callso (hv); exact rfl; exact rfl; exact rfl; exact rfl; (exact rdB_ro _ _); (rintro _ ⟨j, rfl, hj⟩)) | (apply w_callso (h2); exact rfl; exact rfl; exact rfl; exact rfl; (exact rdB_ro _ _); (rintro _ ⟨t, rfl, ht⟩)) | omega | (apply w_ldb; iterate 5 exact rfl) | (apply w_stbo; exact rfl; exact rfl; exact rfl; exact rfl; exact rfl; exact True.intro) | apply AllOf.nil | (apply AllOf.cons; exact rfl) | (apply AAny.take; exact rfl; exact rfl; kernel_rfl; kernel_rfl) | (apply AAny.all; exact rfl) | (apply AAny.done; exact rfl) | (apply inI_of <;> omega))
      all_goals refine ⟨[j, (W.length : Int) - t], rfl, ?_⟩
      all_goals (apply Or.inl; refine ⟨lee rfl ?_, ?_, rfl, rfl⟩; (focus ((repeat (first | exact le_nil | refine le_eq rfl rfl ?_)); done)); (focus ((repeat (first | exact lo_nil | refine lo_eq rfl ?_)); done)))
    rintro e he
    repeat' (first | (apply AOps.nil; try simp only [List.nil_append, List.cons_append, List.set_cons_zero, List.set_cons_succ, List.length_cons, List.length_nil, Nat.reduceAdd, AV.sh, AV.sh1, AV.sh0, AO.sh, List.map_cons, List.map_nil, Nat.zero_add, Nat.add_zero, setAll]) | apply AWp.seq | apply AWp.region | apply AWp.ret | (apply w_ldst; iterate 5 exact rfl) | (apply w_stst; iterate 5 exact rfl))
    refine ⟨_, _, _, _, .c1 Try.results26 rfl rfl rfl, rfl, .oo (i := 3) (j := 4) rfl rfl trivial trivial (by decide), W, _, rfl, .inl rfl, by omega, by omega, by simp; omega, w0, fun e' he' => ?_⟩
    rcases List.mem_append.1 he' with h | h
    · exact e0 _ h
    · rw [List.mem_singleton.1 h]; exact he
  · exact ⟨_, _, _, _, .c1 Try.results26 rfl rfl rfl, rfl, .so (i := 3) (j := 4) rfl rfl trivial trivial (by decide), W, E, rfl, .inr rfl, by omega, by omega, by omega, w0, e0⟩
  · exact ⟨_, _, _, _, .c1 Try.results26 rfl rfl rfl, rfl, .oo (i := 3) (j := 4) rfl rfl trivial trivial (by decide), W, E, rfl, .inl rfl, by omega, by omega, by omega, w0, e0⟩
end Go.Proofs.Ytcolpjpppdmanaa
/-
  Results of two structs of a number and a list. No condition.
-/
namespace Go.Proofs.Ytcolpjpppdmanaa
open Go Go.RowKit
set_option linter.unusedVariables false

section
variable {P : Program} {env : Env} {os : List AO}
theorem ResIs.cc {fn : Func} {p q : Tmp} {T : TypeId} (h : fn.results = #[.cell p T, .cell q T]) {n : Nat} {zs : List Value} [ht : TStruct P T n zs] {k k' : Nat} {T' T'' : TypeId} {avs avs' : List AV} (hp : env.fd p = some (.optr k 0)) (hq : env.fd q = some (.optr k' 0))
    (hs : os[k]? = some (.bx T' avs)) (hs' : os[k']? = some (.bx T'' avs')) (hn : avs.length = n) (hn' : avs'.length = n) : ResIs P fn env os (.tup [.agg avs, .agg avs']) := by
  unfold ResIs
  intro base w gs tm hr
  obtain ⟨b, cs, e1, e2, e3⟩ := res_cell (P := P) (T := T) (gd_of hp) hs hn hr
  obtain ⟨b', cs', f1, f2, f3⟩ := res_cell (P := P) (T := T) (gd_of hq) hs' hn' hr
  have e1' : tm[p]?.getD undef = .pointer (some ⟨b, 0, none⟩) := by simpa using e1
  have f1' : tm[q]?.getD undef = .pointer (some ⟨b', 0, none⟩) := by simpa using f1
  refine ⟨.tuple #[.agg cs, .agg cs'], by simp [results, h, e1', f1', asAddr, e2, f2], .tup (vs := [.agg cs, .agg cs']) rfl fun i => ?_⟩
  match i with
  | 0 => exact e3
  | 1 => exact f3
  | i + 2 => exact .any _
end
end Go.Proofs.Ytcolpjpppdmanaa
/-
  Draws of a fraction, and of a graph with two vertices. Condition: not too many bytes.
-/
namespace Go.Proofs.Ytcolpjpppdmanaa
open Go Go.RowKit
theorem ResIs.ctt {P : Program} {env : Env} {os : List AO} {fn : Func} {p u q : Tmp} {T : TypeId} (h : fn.results = #[.cell p T, .tmp u, .tmp q]) {n : Nat} {zs : List Value} [ht : TStruct P T n zs] {k : Nat} {T' : TypeId} {avs : List AV} {a b : AV} (hp : env.fd p = some (.optr k 0)) (hu : env.fd u = some a) (hq : env.fd q = some b)
    (hs : os[k]? = some (.bx T' avs)) (hn : avs.length = n) : ResIs P fn env os (.tup [.agg avs, a, b]) := by
  unfold ResIs
  intro base w gs tm hr
  obtain ⟨b', cs, e1, e2, e3⟩ := res_cell (P := P) (T := T) (gd_of hp) hs hn hr
  have e1' : tm[p]?.getD undef = .pointer (some ⟨b', 0, none⟩) := by simpa using e1
  have g1 := hr.he u
  rw [gd_of hu] at g1
  have g2 := hr.he q
  rw [gd_of hq] at g2
  refine ⟨.tuple #[.agg cs, tm.getD u undef, tm.getD q undef], by simp [results, h, e1', asAddr, e2], .tup (vs := [.agg cs, tm.getD u undef, tm.getD q undef]) rfl fun i => ?_⟩
  match i with
  | 0 => exact e3
  | 1 => exact g1
  | 2 => exact g2
  | i + 3 => exact .any _
attribute [local irreducible] AWp AOps ResIs Ret1 QOp LOp COp AFnV AFn Imms LeE LeO
set_option maxHeartbeats 1000000
set_option linter.unusedSimpArgs false
set_option linter.unusedVariables false

theorem chC_in (l : List Int) : (0 ≤ (chC l).1 ∧ (chC l).1 ≤ 1000000000000) ∧ (0 ≤ (chC l).2.1 ∧ (chC l).2.1 ≤ 1000000000000) ∧ (0 ≤ (chC l).2.2 ∧ (chC l).2.2 ≤ 3) := by
  by_cases h : chOk l = true
  · obtain ⟨p0, p1⟩ := cf_pos (chOk_iff.1 h).2.2
    by_cases h2 : (cf l).1 ≤ 1000000000000
    · rw [chC_ok h h2]; simp only; omega
    · rw [chC_lim h h2]; simp
  · rw [chC_bad h]; simp
/-- Two numbers. -/
def IsPQ (r : AV) (os : List AO) : Prop := ∃ p q : Int, r = .val (.tuple #[.int .i64 p, .int .i64 q]) ∧ os = []
set_option maxHeartbeats 8000000 in
theorem drawCO_c (bs : List Int) (hl : bs.length ≤ 1048576) (hbs : ∀ i, 0 ≤ geti bs i ∧ geti bs i ≤ 255) : AFn Try.prog 11 [.ro (byR bs)] IsPQ := by
  have hf := l01From_c bs hl hbs
  have hn : ∀ z : Int, z ≤ 10000 → AFnS Try.prog 17 57 bs [.int .i64 z] (Nx z) := fun z hz => l01Next_c bs hl hbs z (by omega)
  have h3 := hn 3 (by omega)
  have h3000 := hn 3000 (by omega)
  have h1000 := hn 1000 (by omega)
  have hd := drawCF_c bs hl hbs
  (refine AFn.start Try.func11 Try.ntmps11 rfl (by kernel_rfl) fun hk => ?_; simp only [Env.start, enumF, List.length_cons, List.length_nil, Nat.reduceAdd, Nat.reduceSub, List.cons_append, List.nil_append])
  repeat' (first | (apply AOps.nil; try simp only [List.nil_append, List.cons_append, List.set_cons_zero, List.set_cons_succ, List.length_cons, List.length_nil, Nat.reduceAdd, AV.sh, AV.sh1, AV.sh0, AO.sh, List.map_cons, List.map_nil, Nat.zero_add, Nat.add_zero, setAll]) | (apply w_move; exact rfl; exact rfl) | (apply w_assign; exact rfl; exact rfl) | apply AWp.seq | apply AWp.region | (apply w_callsof (hf); exact rfl; (exact rdB_by _); exact rfl; try simp only [List.nil_append, List.cons_append, List.set_cons_zero, List.set_cons_succ, List.length_cons, List.length_nil, Nat.reduceAdd, AV.sh, AV.sh1, AV.sh0, AO.sh, List.map_cons, List.map_nil, Nat.zero_add, Nat.add_zero, setAll]) | (apply w_callm (hd); (focus ((repeat (first | exact im_nil | refine im_cons rfl (.ro _) ?_)); done)); rintro r os0 ⟨xs, rfl, rfl, hx⟩; try simp only [List.nil_append, List.cons_append, List.set_cons_zero, List.set_cons_succ, List.length_cons, List.length_nil, Nat.reduceAdd, AV.sh, AV.sh1, AV.sh0, AO.sh, List.map_cons, List.map_nil, Nat.zero_add, Nat.add_zero, setAll]))
  have hc := specCF_c xs
  obtain ⟨i1, i2, i3⟩ := chC_in xs
  generalize (chC xs).1 = a at *
  generalize (chC xs).2.1 = b at *
  generalize (chC xs).2.2 = c at *
  repeat' (first | (apply AOps.nil; try simp only [List.nil_append, List.cons_append, List.set_cons_zero, List.set_cons_succ, List.length_cons, List.length_nil, Nat.reduceAdd, AV.sh, AV.sh1, AV.sh0, AO.sh, List.map_cons, List.map_nil, Nat.zero_add, Nat.add_zero, setAll]) | ((apply AOps.splitP; exact rfl; exact rfl) <;> intro h) | (apply w_move; exact rfl; exact rfl) | (apply w_assign; exact rfl; exact rfl) | apply AWp.seq | apply AWp.region | ((apply AWp.condP; exact rfl) <;> intro h) | (apply AWp.condF; exact rfl) | apply AWp.ret | apply AWp.skip | (apply w_skip; exact rfl) | (apply w_pickT; exact rfl; exact rfl; exact rfl) | (apply w_pickF; exact rfl; exact rfl; exact rfl) | (apply w_call (hc); exact rfl; exact rfl; focus ((repeat (first | exact im_nil | refine im_cons rfl (.sli rfl) ?_)); done)) | (apply w_callso (h3); exact rfl; exact rfl; exact rfl; exact rfl; (exact rdB_by _); (rintro _ ⟨x, rfl, hx⟩)) | (apply w_callso (h3000); exact rfl; exact rfl; exact rfl; exact rfl; (exact rdB_by _); (rintro _ ⟨x, rfl, hx⟩)) | (apply w_callso (h1000); exact rfl; exact rfl; exact rfl; exact rfl; (exact rdB_by _); (rintro _ ⟨x, rfl, hx⟩)) | ((first | apply w_gtr | apply w_eql | apply w_sub | apply w_extv); iterate 3 exact rfl) | (apply inI_of <;> omega))
  all_goals exact ⟨_, _, _, .vv2 Try.results11 rfl rfl, .val _, _, _, rfl, rfl⟩
/-- A graph, perhaps without its first weight, and two numbers. -/
def IsGik (T T2 : TypeId) (r : AV) (os : List AO) : Prop := ∃ W E g, ∃ i k : Int, os = [.sli T2 W, .sls T T2 E] ∧ (g = .agg [.own 0, .own 1] ∨ g = .agg [.osub 0 1 (W.length - 1), .own 1]) ∧ r = .tup [g, .i i, .i k] ∧ 1 ≤ W.length ∧ W.length ≤ 40
set_option maxHeartbeats 8000000 in
theorem drawPB_c (bs : List Int) (hl : bs.length ≤ 1048576) (hbs : ∀ i, 0 ≤ geti bs i ∧ geti bs i ≤ 255) : AFn Try.prog 13 [.ro (byR bs)] (IsGik 24 2) := by
  have hf := l01From_c bs hl hbs
  have hn : ∀ z : Int, z ≤ 10000 → AFnS Try.prog 17 57 bs [.int .i64 z] (Nx z) := fun z hz => l01Next_c bs hl hbs z (by omega)
  have h24 := hn 24 (by omega)
  have hd := l11DrawAny_c bs hl hbs 14 (by omega)
  (refine AFn.start Try.func13 Try.ntmps13 rfl (by kernel_rfl) fun hk => ?_; simp only [Env.start, enumF, List.length_cons, List.length_nil, Nat.reduceAdd, Nat.reduceSub, List.cons_append, List.nil_append])
  repeat' (first | (apply AOps.nil; try simp only [List.nil_append, List.cons_append, List.set_cons_zero, List.set_cons_succ, List.length_cons, List.length_nil, Nat.reduceAdd, AV.sh, AV.sh1, AV.sh0, AO.sh, List.map_cons, List.map_nil, Nat.zero_add, Nat.add_zero, setAll]) | (apply w_move; exact rfl; exact rfl) | (apply w_assign; exact rfl; exact rfl) | apply AWp.seq | apply AWp.region | (apply w_callsof (hf); exact rfl; (exact rdB_by _); exact rfl; try simp only [List.nil_append, List.cons_append, List.set_cons_zero, List.set_cons_succ, List.length_cons, List.length_nil, Nat.reduceAdd, AV.sh, AV.sh1, AV.sh0, AO.sh, List.map_cons, List.map_nil, Nat.zero_add, Nat.add_zero, setAll]) | (apply w_callsoo (hd); exact rfl; exact rfl; exact rfl; exact rfl; (exact rdB_by _); exact rfl; (rintro r os0 ⟨W, E, rfl, hr, hw1, hw2, he, hwb, he2⟩; try simp only [List.nil_append, List.cons_append, List.set_cons_zero, List.set_cons_succ, List.length_cons, List.length_nil, Nat.reduceAdd, AV.sh, AV.sh1, AV.sh0, AO.sh, List.map_cons, List.map_nil, Nat.zero_add, Nat.add_zero, setAll])) | (apply w_alst; iterate 2 exact rfl))
  have hn1 := hn (W.length : Int) (by omega)
  have hn2 := hn ((W.length - 1 : Nat) : Int) (by omega)
  rcases hr with rfl | rfl
  all_goals try simp only [List.nil_append, List.cons_append, List.set_cons_zero, List.set_cons_succ, List.length_cons, List.length_nil, Nat.reduceAdd, AV.sh, AV.sh1, AV.sh0, AO.sh, List.map_cons, List.map_nil, Nat.zero_add, Nat.add_zero, setAll]
  all_goals repeat' (first | (apply AOps.nil; try simp only [List.nil_append, List.cons_append, List.set_cons_zero, List.set_cons_succ, List.length_cons, List.length_nil, Nat.reduceAdd, AV.sh, AV.sh1, AV.sh0, AO.sh, List.map_cons, List.map_nil, Nat.zero_add, Nat.add_zero, setAll]) | (apply w_assign; exact rfl; exact rfl) | apply AWp.seq | apply AWp.region | (apply w_len; exact rfl; exact rfl; first | exact .ints _ | exact .intss _ | exact .sli rfl | exact .sls rfl | exact .slr rfl | exact .orow rfl | exact .nil) | ((apply w_lenos); iterate 2 exact rfl) | ((first | apply w_ld | apply w_fa); iterate 3 exact rfl) | (apply w_ldb; iterate 5 exact rfl) | (apply w_stst; iterate 5 exact rfl))
  · have hall : ∀ x : Int, (0 ≤ x ∧ (1 ≤ (24 : Int) → x < 24) ∧ ((24 : Int) < 1 → x = 0)) → AFnS Try.prog 17 57 bs [.int .i64 ((W.length : Int) + x / 23)] (Nx ((W.length : Int) + x / 23)) := fun x hx => hn _ (by omega)
    refine AWp.regionAI (ι := Int × Int) (fun _ => True) (fun s => ⟨26, [(2, .optr 0 0), (3, .i s.1), (4, .i s.2)]⟩) (fun _ => [.bx 32 [.own 2, .own 3], skO 57 bs (.ro (byR bs)), .sli 2 W, .sls 24 2 E, .bx 32 [.own 2, .own 3]]) (by kernel_rfl) rfl rfl ?_ ?_
    · repeat' (first | (apply AOps.nil; try simp only [List.nil_append, List.cons_append, List.set_cons_zero, List.set_cons_succ, List.length_cons, List.length_nil, Nat.reduceAdd, AV.sh, AV.sh1, AV.sh0, AO.sh, List.map_cons, List.map_nil, Nat.zero_add, Nat.add_zero, setAll]) | (apply w_move; exact rfl; exact rfl) | (apply w_assign; exact rfl; exact rfl) | (apply w_callso (hn1); exact rfl; exact rfl; exact rfl; exact rfl; (exact rdB_by _); (rintro _ ⟨a, rfl, ha⟩)) | (apply w_callso (h24); exact rfl; exact rfl; exact rfl; exact rfl; (exact rdB_by _); (rintro _ ⟨x, rfl, hx⟩)) | (apply w_callso ((hall _ (by assumption))); exact rfl; exact rfl; exact rfl; exact rfl; (exact rdB_by _); (rintro _ ⟨b, rfl, hb⟩)) | ((apply w_add); iterate 3 exact rfl) | (apply w_quo; exact rfl; exact rfl; exact rfl; (focus (omega; done)); (focus (omega; done))) | (apply w_ldst; iterate 5 exact rfl) | (apply w_stst; iterate 5 exact rfl) | apply AllOf.nil | (apply AllOf.cons; exact rfl) | (apply AAny.take; exact rfl; exact rfl; kernel_rfl; kernel_rfl) | (apply AAny.all; exact rfl) | (apply AAny.done; exact rfl) | (apply inI_of <;> omega))
      all_goals refine ⟨(a, b), trivial, ?_⟩
      all_goals (apply Or.inl; refine ⟨lee rfl ?_, ?_, rfl, rfl⟩; (focus ((repeat (first | exact le_nil | refine le_eq rfl rfl ?_)); done)); (focus ((repeat (first | exact lo_nil | refine lo_eq rfl ?_)); done)))
    rintro ⟨i, k⟩ _
    repeat' (apply AWp.ret)
    all_goals exact ⟨_, _, _, .ctt Try.results13 rfl rfl rfl rfl rfl, .tup3 (.oo (i := 2) (j := 3) rfl rfl trivial trivial (by decide)), W, E, _, i, k, rfl, .inl rfl, rfl, hw1, hw2⟩
  · have hall : ∀ x : Int, (0 ≤ x ∧ (1 ≤ (24 : Int) → x < 24) ∧ ((24 : Int) < 1 → x = 0)) → AFnS Try.prog 17 57 bs [.int .i64 (((W.length - 1 : Nat) : Int) + x / 23)] (Nx (((W.length - 1 : Nat) : Int) + x / 23)) := fun x hx => hn _ (by omega)
    refine AWp.regionAI (ι := Int × Int) (fun _ => True) (fun s => ⟨26, [(2, .optr 0 0), (3, .i s.1), (4, .i s.2)]⟩) (fun _ => [.bx 32 [.osub 2 1 (W.length - 1), .own 3], skO 57 bs (.ro (byR bs)), .sli 2 W, .sls 24 2 E, .bx 32 [.osub 2 1 (W.length - 1), .own 3]]) (by kernel_rfl) rfl rfl ?_ ?_
    · repeat' (first | (apply AOps.nil; try simp only [List.nil_append, List.cons_append, List.set_cons_zero, List.set_cons_succ, List.length_cons, List.length_nil, Nat.reduceAdd, AV.sh, AV.sh1, AV.sh0, AO.sh, List.map_cons, List.map_nil, Nat.zero_add, Nat.add_zero, setAll]) | (apply w_move; exact rfl; exact rfl) | (apply w_assign; exact rfl; exact rfl) | (apply w_callso (hn2); exact rfl; exact rfl; exact rfl; exact rfl; (exact rdB_by _); (rintro _ ⟨a, rfl, ha⟩)) | (apply w_callso (h24); exact rfl; exact rfl; exact rfl; exact rfl; (exact rdB_by _); (rintro _ ⟨x, rfl, hx⟩)) | (apply w_callso ((hall _ (by assumption))); exact rfl; exact rfl; exact rfl; exact rfl; (exact rdB_by _); (rintro _ ⟨b, rfl, hb⟩)) | ((apply w_add); iterate 3 exact rfl) | (apply w_quo; exact rfl; exact rfl; exact rfl; (focus (omega; done)); (focus (omega; done))) | (apply w_ldst; iterate 5 exact rfl) | (apply w_stst; iterate 5 exact rfl) | apply AllOf.nil | (apply AllOf.cons; exact rfl) | (apply AAny.take; exact rfl; exact rfl; kernel_rfl; kernel_rfl) | (apply AAny.all; exact rfl) | (apply AAny.done; exact rfl) | (apply inI_of <;> omega))
      all_goals refine ⟨(a, b), trivial, ?_⟩
      all_goals (apply Or.inl; refine ⟨lee rfl ?_, ?_, rfl, rfl⟩; (focus ((repeat (first | exact le_nil | refine le_eq rfl rfl ?_)); done)); (focus ((repeat (first | exact lo_nil | refine lo_eq rfl ?_)); done)))
    rintro ⟨i, k⟩ _
    repeat' (apply AWp.ret)
    all_goals exact ⟨_, _, _, .ctt Try.results13 rfl rfl rfl rfl rfl, .tup3 (.so (i := 2) (j := 3) rfl rfl trivial trivial (by decide)), W, E, _, i, k, rfl, .inr rfl, rfl, hw1, hw2⟩
end Go.Proofs.Ytcolpjpppdmanaa
/-
  Paths in a forest: a walk that never turns back is the walk up the tree; searched from the other end it is the same, reversed. No condition.
-/
namespace Go.Proofs.Ytcolpjpppdmanaa
open Go Go.RowKit

/-- A walk to k that never turns back; f is the vertex before. -/
def RW (near : Int → List Int) (k : Int) : Int → List Int → Prop
  | _, [] => False
  | _, [i] => i = k
  | f, i :: j :: l => j ∈ near i ∧ j ≠ f ∧ RW near k i (j :: l)
/-- The walk up to k. -/
def UpW (p : List Int) (k : Int) : List Int → Prop
  | [] => False
  | [i] => i = k
  | i :: j :: l => i ≠ k ∧ geti p i = j ∧ UpW p k (j :: l)
theorem UpW.uniq {p : List Int} {k : Int} : ∀ {l l' : List Int}, UpW p k l → UpW p k l' → l.head? = l'.head? → l = l'
  | [], _, h, _, _ => h.elim
  | _, [], _, h, _ => h.elim
  | [i], [j], h, h', e => by simpa using e
  | [i], j :: j2 :: l', h, h', e => by
    have : i = j := by simpa using e
    subst this
    exact absurd h h'.1
  | i :: i2 :: l, [j], h, h', e => by
    have : i = j := by simpa using e
    subst this
    exact absurd h' h.1
  | i :: i2 :: l, j :: j2 :: l', h, h', e => by
    have : i = j := by simpa using e
    subst this
    obtain ⟨_, h2, h3⟩ := h
    obtain ⟨_, g2, g3⟩ := h'
    rw [h2] at g2
    subst g2
    rw [UpW.uniq h3 g3 rfl]
section
variable {n : Nat} {near : Int → List Int} {k : Int} {o p : List Int}
/-- A walk that never turns back goes up. -/
theorem rw_up (hF : Fst n near) (h : Tr n near k o p) : ∀ {l : List Int} {f : Int}, RW near k f l → UpW p k l ∧ ∀ x ∈ l, x ∈ o
  | [], _, hr => hr.elim
  | [i], _, hr => ⟨hr, fun x hx => by
      rw [List.mem_singleton.1 hx, show i = k from hr]; exact h.rt⟩
  | i :: j :: l, f, hr => by
    obtain ⟨r1, r2, r3⟩ := hr
    obtain ⟨u1, u2⟩ := rw_up hF h r3
    have hj := u2 j (by simp)
    have hi : i ∈ near j := hF.sym _ _ r1
    have hne : i ≠ geti p j := by
      cases l with
      | nil =>
        have e : j = k := u1
        rw [e, h.pr]
        have := (hF.bnd _ _ r1).2.1
        omega
      | cons j2 l =>
        rw [u1.2.1]
        exact fun e => r3.2.1 e.symm
    obtain ⟨c1, c2, c3⟩ := h.ch hj hi hne
    refine ⟨⟨c2, c3, u1⟩, fun x hx => ?_⟩
    rcases List.mem_cons.1 hx with rfl | hx
    · exact c1
    · exact u2 x hx
/-- The walk up from a vertex of the tree. -/
theorem up_ex (h : Tr n near k o p) {i : Int} (hi : i ∈ o) : ∃ l, UpW p k l ∧ l.head? = some i ∧ (∀ x ∈ l, x ∈ o) ∧ l.length ≤ n := by
  obtain ⟨q, q1, q2⟩ := h.rank
  have key : ∀ (m : Nat) (i : Int), i ∈ o → q i ≤ m → ∃ l, UpW p k l ∧ l.head? = some i ∧ (∀ x ∈ l, x ∈ o) ∧ l.length ≤ m + 1 := by
    intro m
    induction m with
    | zero =>
      intro i hi hm
      by_cases e : i = k
      · exact ⟨[i], e, rfl, fun x hx => by rw [List.mem_singleton.1 hx]; exact hi, by simp⟩
      · have := (q2 i hi e).2.1; omega
    | succ m ih =>
      intro i hi hm
      by_cases e : i = k
      · exact ⟨[i], e, rfl, fun x hx => by rw [List.mem_singleton.1 hx]; exact hi, by simp⟩
      · obtain ⟨a1, a2, a3⟩ := q2 i hi e
        obtain ⟨l, l1, l2, l3, l4⟩ := ih _ a1 (by omega)
        cases l with
        | nil => exact l1.elim
        | cons j l =>
          have : j = geti p i := by simpa using l2
          refine ⟨i :: j :: l, ⟨e, this.symm, l1⟩, rfl, fun x hx => ?_, by simp at l4 ⊢; omega⟩
          rcases List.mem_cons.1 hx with rfl | hx
          · exact hi
          · exact l3 x hx
  have := q1 i hi
  obtain ⟨l, l1, l2, l3, l4⟩ := key (n - 1) i hi (by omega)
  exact ⟨l, l1, l2, l3, by omega⟩
/-- The walk up never turns back. -/
theorem up_rw (hF : Fst n near) (h : Tr n near k o p) : ∀ {l : List Int} {f : Int}, UpW p k l → (∀ x ∈ l, x ∈ o) → (∀ i, l.head? = some i → i ≠ k → geti p i ≠ f) → RW near k f l
  | [], _, hu, _, _ => hu.elim
  | [i], _, hu, _, _ => hu
  | i :: j :: l, f, hu, ho, hf => by
    obtain ⟨u1, u2, u3⟩ := hu
    have hi := ho i (by simp)
    obtain ⟨q, q1, q2⟩ := h.rank
    obtain ⟨a1, a2, a3⟩ := q2 i hi u1
    refine ⟨?_, ?_, up_rw hF h u3 (fun x hx => ho x (List.mem_cons_of_mem _ hx)) fun j' hj' hjk e => ?_⟩
    · rw [← u2]; exact hF.sym _ _ a3
    · rw [← u2]; exact hf i rfl u1
    · have hj : j' = j := by simpa using hj'.symm
      rw [hj] at e hjk
      have := (q2 j (by rw [← u2]; exact a1) hjk).2.1
      rw [e, ← u2] at this
      omega
end
/-! ### The search -/
def pfL (rec : Int → Option (List Int)) (i f : Int) : List Int → Option (List Int)
  | [] => none
  | j :: js => if j = f then pfL rec i f js else match rec j with
    | some l => some (i :: l)
    | none => pfL rec i f js
def pf (near : Int → List Int) (k : Int) : Nat → Int → Int → Option (List Int)
  | 0, _, _ => none
  | m + 1, i, f => if i = k then some [i] else pfL (fun j => pf near k m j i) i f (near i)
/-- How deep a search goes. -/
def Dp (near : Int → List Int) : Nat → Int → Int → Prop
  | 0, _, _ => False
  | m + 1, i, f => ∀ j ∈ near i, j ≠ f → Dp near m j i
theorem pfL_app (rec : Int → Option (List Int)) (i f : Int) : ∀ (a b : List Int), pfL rec i f a = none → pfL rec i f (a ++ b) = pfL rec i f b
  | [], b, _ => rfl
  | j :: a, b, h => by
    rw [pfL] at h
    rw [List.cons_append, pfL]
    by_cases e : j = f
    · rw [if_pos e] at h ⊢; exact pfL_app rec i f a b h
    · rw [if_neg e] at h ⊢
      cases hr : rec j with
      | some l => rw [hr] at h; cases h
      | none => rw [hr] at h; exact pfL_app rec i f a b h
theorem pfL_some {rec : Int → Option (List Int)} {i f : Int} : ∀ {js l : List Int}, pfL rec i f js = some l → ∃ j ∈ js, j ≠ f ∧ ∃ l', rec j = some l' ∧ l = i :: l'
  | [], _, h => by cases h
  | j :: js, l, h => by
    rw [pfL] at h
    by_cases e : j = f
    · rw [if_pos e] at h
      obtain ⟨j', h1, h2⟩ := pfL_some h
      exact ⟨j', List.mem_cons_of_mem _ h1, h2⟩
    · rw [if_neg e] at h
      cases hr : rec j with
      | some l' => rw [hr] at h; exact ⟨j, by simp, e, l', hr, (Option.some.inj h).symm⟩
      | none =>
        rw [hr] at h
        obtain ⟨j', h1, h2⟩ := pfL_some h
        exact ⟨j', List.mem_cons_of_mem _ h1, h2⟩
theorem pfL_ne {rec : Int → Option (List Int)} {i f : Int} : ∀ {js : List Int}, (∃ j ∈ js, j ≠ f ∧ rec j ≠ none) → pfL rec i f js ≠ none
  | [], h => by obtain ⟨j, hj, _⟩ := h; cases hj
  | j :: js, h => by
    obtain ⟨j', h1, h2, h3⟩ := h
    rw [pfL]
    by_cases e : j = f
    · rw [if_pos e]
      rcases List.mem_cons.1 h1 with rfl | h1
      · exact absurd e h2
      · exact pfL_ne ⟨j', h1, h2, h3⟩
    · rw [if_neg e]
      cases hr : rec j with
      | some l => simp
      | none =>
        rcases List.mem_cons.1 h1 with rfl | h1
        · exact absurd hr h3
        · exact pfL_ne ⟨j', h1, h2, h3⟩
section
variable {n : Nat} {near : Int → List Int} {k : Int} {o p : List Int}
theorem pf_rw : ∀ {m : Nat} {i f : Int} {l : List Int}, pf near k m i f = some l → RW near k f l ∧ l.head? = some i ∧ l.length ≤ m
  | 0, _, _, _, h => by cases h
  | m + 1, i, f, l, h => by
    rw [pf] at h
    by_cases e : i = k
    · rw [if_pos e] at h
      obtain rfl := Option.some.inj h
      exact ⟨e, rfl, by simp⟩
    · rw [if_neg e] at h
      obtain ⟨j, j1, j2, l', h1, rfl⟩ := pfL_some h
      obtain ⟨r1, r2, r3⟩ := pf_rw h1
      cases l' with
      | nil => exact r1.elim
      | cons j' l' =>
        have : j' = j := by simpa using r2
        subst this
        exact ⟨⟨j1, j2, r1⟩, rfl, by simp at r3 ⊢; omega⟩
theorem rw_pf : ∀ {m : Nat} {i f : Int} {l : List Int}, RW near k f l → l.head? = some i → Dp near m i f → pf near k m i f ≠ none
  | 0, _, _, _, _, _, h => h.elim
  | m + 1, i, f, l, hr, hi, hd => by
    rw [pf]
    by_cases e : i = k
    · rw [if_pos e]; simp
    · rw [if_neg e]
      match l, hr, hi with
      | [j], hr, hi =>
        have : j = i := by simpa using hi
        exact absurd (this ▸ hr) e
      | j :: j2 :: l, hr, hi =>
        have : j = i := by simpa using hi
        subst this
        exact pfL_ne ⟨j2, hr.1, hr.2.1, rw_pf hr.2.2 rfl (hd j2 hr.1 hr.2.1)⟩
theorem dp_tree (h : Tr n near k o p) : Dp near n k (-1) := by
  obtain ⟨q, q1, q2⟩ := h.rank
  have key : ∀ (m : Nat) (v : Int), v ∈ o → n - q v ≤ m → Dp near m v (geti p v) := by
    intro m
    induction m with
    | zero =>
      intro v hv hm
      have := q1 v hv; omega
    | succ m ih =>
      intro v hv hm j hj hne
      obtain ⟨c1, c2, c3⟩ := h.ch hv hj hne
      have := (q2 j c1 c2).2.1
      rw [c3] at this
      have hk := ih j c1 (by have := q1 j c1; omega)
      rwa [c3] at hk
  have := key n k h.rt (by omega)
  rwa [h.pr] at this
/-- What the search finds. -/
theorem pf_eq (hF : Fst n near) {i : Int} (hi : 0 ≤ i ∧ i < n) (h : Tr n near k o p) {l : List Int} (hl : UpW p k l) (hh : l.head? = some i) (ho : ∀ x ∈ l, x ∈ o) : pf near k n i (-1) = some l := by
  obtain ⟨o2, p2, h2⟩ := tree_ex hF hi
  have hr : RW near k (-1) l := up_rw hF h hl ho fun j hj hjk e => by
    have hj' : j = i := by rw [hh] at hj; exact (Option.some.inj hj).symm
    rw [hj'] at e hjk
    obtain ⟨q, q1, q2⟩ := h.rank
    have hio : i ∈ o := ho i (by cases l with
      | nil => cases hh
      | cons a l => simp at hh; simp [hh])
    have := h.rng _ (q2 i hio hjk).1
    rw [e] at this; omega
  have hne := rw_pf hr hh (dp_tree h2)
  cases e : pf near k n i (-1) with
  | none => exact absurd e hne
  | some l' =>
    obtain ⟨r1, r2, _⟩ := pf_rw e
    rw [(rw_up hF h r1).1.uniq hl (by rw [r2, hh])]
theorem pf_no (hF : Fst n near) {i : Int} (h : Tr n near k o p) (hi : i ∉ o) : pf near k n i (-1) = none := by
  cases e : pf near k n i (-1) with
  | none => rfl
  | some l =>
    obtain ⟨r1, r2, _⟩ := pf_rw e
    refine absurd ((rw_up hF h r1).2 i ?_) hi
    cases l with
    | nil => cases r2
    | cons a l => simp at r2; simp [r2]
/-! ### The other way -/
theorem rw_snoc (hF : Fst n near) : ∀ {l : List Int} {f a : Int} , RW near k f l → a ∈ near k → (∀ x y, l = x ++ [y, k] → y ≠ a) → (l = [k] → f ≠ a) → RW near a f (l ++ [a])
  | [], _, _, hr, _, _, _ => hr.elim
  | [i], f, a, hr, ha, _, h1 => by
    have e : i = k := hr
    subst e
    exact ⟨ha, fun e => h1 rfl e.symm, rfl⟩
  | [i, j], f, a, hr, ha, h0, _ => by
    obtain ⟨r1, r2, r3⟩ := hr
    have e : j = k := r3
    subst e
    exact ⟨r1, r2, ha, fun e => h0 [] i rfl e.symm, rfl⟩
  | i :: j :: j2 :: l, f, a, hr, ha, h0, _ => by
    obtain ⟨r1, r2, r3⟩ := hr
    exact ⟨r1, r2, rw_snoc hF r3 ha (fun x y e => h0 (i :: x) y (by rw [e]; rfl)) fun e => by simp at e⟩
theorem rw_rev (hF : Fst n near) : ∀ {l : List Int} {f : Int}, RW near k f l → ∀ i, l.head? = some i → RW near i (-1) l.reverse ∧ ∀ x y, l.reverse = x ++ [y, i] → y ∈ near i ∧ l = i :: y :: x.reverse
  | [], _, hr, _, _ => hr.elim
  | [j], _, hr, i, hi => by
    have e : j = i := by simpa using hi
    subst e
    refine ⟨rfl, fun x y e => ?_⟩
    have := congrArg List.length e
    simp at this
  | j :: j2 :: l, f, hr, i, hi => by
    have e : j = i := by simpa using hi
    subst e
    obtain ⟨r1, r2, r3⟩ := hr
    obtain ⟨s1, s2⟩ := rw_rev hF r3 j2 rfl
    have hb := hF.bnd _ _ r1
    rw [List.reverse_cons]
    refine ⟨rw_snoc hF s1 (hF.sym _ _ r1) (fun x y e => ?_) (fun _ => by omega), fun x y e => ?_⟩
    · obtain ⟨_, e2⟩ := s2 x y e
      have e3 : l = y :: x.reverse := by simpa using e2
      subst e3
      exact r3.2.1
    · have e2 := congrArg List.reverse e
      simp at e2
      obtain ⟨rfl, rfl⟩ := e2
      exact ⟨r1, rfl⟩
/-- The path back is the path, reversed. -/
theorem pf_rev (hF : Fst n near) {i : Int} (hk : 0 ≤ k ∧ k < n) (hi : 0 ≤ i ∧ i < n) {l : List Int} (h : pf near k n i (-1) = some l) : pf near i n k (-1) = some l.reverse := by
  obtain ⟨r1, r2, _⟩ := pf_rw h
  obtain ⟨s1, _⟩ := rw_rev hF r1 i r2
  obtain ⟨o2, p2, h2⟩ := tree_ex hF hi
  obtain ⟨u1, u2⟩ := rw_up hF h2 s1
  refine pf_eq hF hk h2 u1 ?_ u2
  have : ∀ {l : List Int} {f : Int}, RW near k f l → l.getLast? = some k := by
    intro l
    induction l with
    | nil => intro f h; exact h.elim
    | cons a l ih =>
      intro f h
      cases l with
      | nil => simp; exact h
      | cons b l => rw [List.getLast?_cons_cons]; exact ih h.2.2
  rw [List.head?_reverse]
  exact this r1
end
end Go.Proofs.Ytcolpjpppdmanaa
