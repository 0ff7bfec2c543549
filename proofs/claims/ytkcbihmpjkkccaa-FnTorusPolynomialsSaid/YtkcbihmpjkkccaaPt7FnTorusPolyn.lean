/-
  Parts of the proof, one behind the other: contracts of functions and plain laws. No condition.
-/
import Derived.Test.YtkcbihmpjkkccaaPt6FnTorusPolyn
/-
  The binomial product of a torus polynomial in the program. Condition: coprime numbers up to 40.
-/
namespace Go.Proofs.Ytkcbihmpjkkccaa
open Go Go.RowKit
open Cy (Ser Pol Phi xp)
attribute [local irreducible] AWp AOps ResIs Ret1 QOp LOp COp AFnV AFn Imms LeE LeO
set_option maxHeartbeats 1000000
set_option linter.unusedSimpArgs false
set_option linter.unusedVariables false

theorem trX {b : Nat} (hb : 0 < b) {f : Ser} (hf : ∀ n, -1 ≤ f n ∧ f n ≤ 1) (k c : Nat) : -1000000 ≤ Cy.mul (trF (xp b) k) f c ∧ Cy.mul (trF (xp b) k) f c ≤ 1000000 := by
  by_cases h0 : k = 0
  · subst h0
    rw [trF_zero, Cy.zero_mul]
    show -1000000 ≤ (0 : Int) ∧ (0 : Int) ≤ 1000000
    omega
  · by_cases h1 : k ≤ b
    · have e : trF (xp b) k = Cy.neg Cy.one := by
        funext n
        unfold trF Cy.neg Cy.one
        rw [xp_at]
        by_cases hn : n < k
        · rw [if_pos hn, if_pos (by omega)]; omega
        · rw [if_neg hn, if_neg (by omega)]; rfl
      rw [e, Cy.neg_mul, Cy.one_mul]
      have := hf c
      simp only [Cy.neg]; omega
    · rw [trF_all (xp_pol hb).1 (by omega), Cy.mul_comm]
      have e := Cy.mul_xp b f c
      rw [Cy.mul_neg] at e
      simp only [Cy.neg] at e
      have h1 := hf c
      have h2 := hf (c - b)
      split at e <;> omega
def bpO (p q i : Nat) : List Int := if i = 0 then [1] else if i = 1 then tab (p * q + 1) (xp (p * q)) else tab (p * q + 2) (Cy.mul (xp (p * q)) (xp 1))
noncomputable def bpQ (p q i : Nat) : List Int := if i ≤ 2 then tab (p * q + 2) (Cy.mul (xp (p * q)) (xp 1)) else if i = 3 then tab (p * (q - 1) + 1 + 1) (Cy.mul (Ge p q) (xp 1)) else tab (p * (q - 1) + 1 - q + 1) (To p q)
theorem xp_bd (b n : Nat) : -1 ≤ xp b n ∧ xp b n ≤ 1 := by rw [xp_at]; split <;> split <;> omega
theorem one_pol : Pol 0 Cy.one := fun n hn => by
  have h1 : n ≠ 0 := by omega
  simp [Cy.one, h1]
/-- A product with a binomial. -/
theorem prodX_c {a b : Nat} (ha : a + b ≤ 2000) (hb : 0 < b) {f : Ser} (hf : Pol a f) (hB : ∀ n, -1 ≤ f n ∧ f n ≤ 1) :
    AFn Try.prog 22 [.ints (tab (a + 1) f), .ints (tab (b + 1) (xp b))] (IsIC 2 (tab (a + b + 1) (Cy.mul f (xp b))) 0) := by
  have s1 := ser_tab hf
  have s2 := ser_tab (xp_pol hb).1
  have h := productOf_c (tab (a + 1) f) (tab (b + 1) (xp b)) (by rw [tab_len]; omega) (by rw [tab_len]; omega) (by rw [tab_len, tab_len]; omega)
    (fun i => by have := hB i; have e : geti (tab (a + 1) f) (i : Nat) = f i := congrFun s1 i; omega)
    (fun k => by have := xp_bd b k; have e : geti (tab (b + 1) (xp b)) (k : Nat) = xp b k := congrFun s2 k; omega)
    (fun k c => by rw [s1, s2]; exact trX hb hB k c)
  have e1 := pm_tabw hf (xp_pol hb).1
  have w1 : (tab (a + 1) fun c => wr (f c)) = tab (a + 1) f := ser_small hf fun k => by have := hB k; omega
  have w2 : (tab (b + 1) fun c => wr (xp b c)) = tab (b + 1) (xp b) := ser_small (xp_pol hb).1 fun k => by have := xp_bd b k; omega
  have w3 : (tab (a + b + 1) fun c => wr (Cy.mul f (xp b) c)) = tab (a + b + 1) (Cy.mul f (xp b)) := ser_small (hf.mul (xp_pol hb).1) fun k => by
    have := trX hb hB (b + 1) k
    rw [trF_all (xp_pol hb).1 (by omega), Cy.mul_comm] at this
    exact this
  rw [w1, w2, w3] at e1
  rw [e1] at h
  exact h
set_option maxHeartbeats 16000000 in
theorem binomialProduct_c (P Q : Nat) (hp : 1 ≤ P ∧ P ≤ 40) (hq : 1 ≤ Q ∧ Q ≤ 40) (hc : Nat.Coprime P Q) :
    AFn Try.prog 9 [.intss [[(P : Int) * Q, 1], [1, 1], [(P : Int), -1], [(Q : Int), -1]]] (IsIC 2 (tab (P * (Q - 1) + 1 - Q + 1) (To P Q)) 0) := by
  have hPQ : P * (Q - 1) + P = P * Q := by
    obtain ⟨k, rfl⟩ : ∃ k, Q = k + 1 := ⟨Q - 1, by omega⟩
    rw [Nat.add_sub_cancel, Nat.mul_succ]
  have hm : P * Q ≤ 40 * 40 := Nat.mul_le_mul (by omega) (by omega)
  have hm1 : 1 ≤ P * Q := Nat.mul_pos (by omega) (by omega)
  have b1 := binomial_c (P * Q) hm1 (by omega)
  have b2 := binomial_c P (by omega) (by omega)
  have b3 := binomial_c 1 (by omega) (by omega)
  have b4 := binomial_c Q (by omega) (by omega)
  have p1 := prodX_c (a := 0) (b := P * Q) (by omega) (by omega) one_pol (fun n => by unfold Cy.one; split <;> omega)
  rw [Cy.one_mul, Nat.zero_add, show tab (0 + 1) Cy.one = [(1 : Int)] from rfl] at p1
  have p2 := prodX_c (a := P * Q) (b := 1) (by omega) (by omega) (xp_pol hm1).1 (xp_bd _)
  obtain ⟨gx1, gx2⟩ := gx_pol (p := P) (q := Q) (by omega) (by omega)
  have q1 := quotientOf_c (Cy.mul (Ge P Q) (xp 1)) P (P * (Q - 1) + 1) (by omega) (by omega) gx1 (fun n => by have := gx_bd P Q n; omega)
  have eG : Cy.mul (Cy.mul (Ge P Q) (xp 1)) (xp P) = Cy.mul (xp (P * Q)) (xp 1) := by
    rw [Cy.mul_assoc, Cy.mul_comm (xp 1), ← Cy.mul_assoc, ge_xp (by omega) (by omega)]
  rw [eG, show P * (Q - 1) + 1 + P + 1 = P * Q + 2 by omega] at q1
  obtain ⟨t0, t1, t2⟩ := to_deg (p := P) (q := Q) (by omega) (by omega) hc (D := toD P Q (P * Q)) (by have := (toL_pol P Q (P * Q)).1; rwa [toL_all] at this)
  have q2 := quotientOf_c (To P Q) Q (P * (Q - 1) + 1 - Q) (by omega) (by omega) t1 (fun n => by
    by_cases hn : n ≤ P * (Q - 1) + 1 - Q
    · have := to_bd (p := P) (q := Q) (by omega) (by omega) hc n; omega
    · rw [t1 n (by omega)]; omega)
  rw [to_eq (by omega) (by omega) hc, show P * (Q - 1) + 1 - Q + Q + 1 = P * (Q - 1) + 1 + 1 by omega] at q2
  have o0 : bpO P Q 0 = [1] := rfl
  have o1 : bpO P Q 1 = tab (P * Q + 1) (xp (P * Q)) := rfl
  have o2 : ∀ i, 2 ≤ i → bpO P Q i = tab (P * Q + 1 + 1) (Cy.mul (xp (P * Q)) (xp 1)) := fun i hi => by unfold bpO; rw [if_neg (by omega), if_neg (by omega)]
  have u0 : ∀ i, i ≤ 2 → bpQ P Q i = tab (P * Q + 2) (Cy.mul (xp (P * Q)) (xp 1)) := fun i hi => by unfold bpQ; rw [if_pos hi]
  have u3 : bpQ P Q 3 = tab (P * (Q - 1) + 1 + 1) (Cy.mul (Ge P Q) (xp 1)) := rfl
  have u4 : bpQ P Q 4 = tab (P * (Q - 1) + 1 - Q + 1) (To P Q) := rfl
  rw [← o0, ← o1] at p1
  rw [← o1, ← o2 2 (by omega)] at p2
  rw [← u0 2 (by omega), ← u3] at q1
  rw [← u3, ← u4] at q2
  rw [← u4]
  have uo : bpO P Q 4 = bpQ P Q 0 := by rw [o2 4 (by omega), u0 0 (by omega)]
  have o23 : bpO P Q 2 = bpO P Q 3 := by rw [o2 2 (by omega), o2 3 (by omega)]
  have o34 : bpO P Q 3 = bpO P Q 4 := by rw [o2 3 (by omega), o2 4 (by omega)]
  have u01 : bpQ P Q 0 = bpQ P Q 1 := by rw [u0 0 (by omega), u0 1 (by omega)]
  have u12 : bpQ P Q 1 = bpQ P Q 2 := by rw [u0 1 (by omega), u0 2 (by omega)]
  have l0 : ∀ i, 1 ≤ (bpO P Q i).length ∧ (bpO P Q i).length ≤ 2000 := fun i => by
    unfold bpO; split
    · simp
    · split <;> rw [tab_len] <;> omega
  generalize bpO P Q = O at *
  generalize bpQ P Q = U at *
  obtain ⟨Z, hZ⟩ : ∃ Z : List (List Int), Z = [[(P : Int) * Q, 1], [1, 1], [(P : Int), -1], [(Q : Int), -1]] := ⟨_, rfl⟩
  have lZ : Z.length = 4 := by rw [hZ]; rfl
  have g0 : gets Z (0 : Nat) = [(P : Int) * Q, 1] := by rw [hZ]; rfl
  have g1 : gets Z (1 : Nat) = [1, 1] := by rw [hZ]; rfl
  have g2 : gets Z (2 : Nat) = [(P : Int), -1] := by rw [hZ]; rfl
  have g3 : gets Z (3 : Nat) = [(Q : Int), -1] := by rw [hZ]; rfl
  rw [← hZ]
  clear hZ
  have hPQi : ((P * Q : Nat) : Int) = (P : Int) * Q := Int.natCast_mul _ _
  (refine AFn.start Try.func9 Try.ntmps9 rfl (by kernel_rfl) fun hk => ?_; simp only [Env.start, enumF, List.length_cons, List.length_nil, Nat.reduceAdd, Nat.reduceSub, List.cons_append, List.nil_append])
  repeat' (first | (apply AOps.nil; try simp only [List.nil_append, List.cons_append, List.set_cons_zero, List.set_cons_succ, List.length_cons, List.length_nil, Nat.reduceAdd, AV.sh, AV.sh1, AV.sh0, AO.sh, List.map_cons, List.map_nil, Nat.zero_add, Nat.add_zero, setAll]) | (apply w_move; exact rfl; exact rfl) | (apply w_assign; exact rfl; exact rfl) | apply AWp.seq | apply AWp.region | ((apply AWp.condP; exact rfl) <;> intro h) | apply AWp.block | apply AWp.ret | apply AWp.skip | (apply w_len; exact rfl; exact rfl; first | exact .ints _ | exact .intss _ | exact .sli rfl | exact .sls rfl | exact .slr rfl | exact .orow rfl | exact .nil) | omega | ((apply w_gtr); iterate 3 exact rfl))
  all_goals try (exfalso; omega)
  refine AWp.loop (ι := Nat) (fun i => ⟨113, [(0, .intss Z), (4, .i (if i = 0 then (0 : Int) else if i = 1 then ((P * Q : Nat) : Int) else ((P * Q + 1 : Nat) : Int))), (21, .intss Z), (22, .i Z.length), (23, .i i)]⟩) (fun _ => []) (fun i => i ≤ 4) (fun i => 4 - i) 0 (by omega) ⟨lee rfl (by (repeat (first | exact le_nil | refine le_eq rfl rfl ?_))), by (repeat (exact lo_nil)), rfl, rfl⟩ ?_
  intro i i0
  by_cases hi : i < 4
  · obtain ⟨h1, h2, h3, h4⟩ : (gets Z (i : Nat)).length = 2 ∧ (1 ≤ geti (gets Z (i : Nat)) 0 ∧ geti (gets Z (i : Nat)) 0 ≤ 2000) ∧ (-20 ≤ geti (gets Z (i : Nat)) 1 ∧ geti (gets Z (i : Nat)) 1 ≤ 20) ∧
        (if i = 0 then (0 : Int) else if i = 1 then ((P * Q : Nat) : Int) else ((P * Q + 1 : Nat) : Int)) + geti (gets Z (i : Nat)) 0 * max (geti (gets Z (i : Nat)) 1) 0 = (if i + 1 = 0 then (0 : Int) else if i + 1 = 1 then ((P * Q : Nat) : Int) else ((P * Q + 1 : Nat) : Int)) := by
      have m1 : max (1 : Int) 0 = 1 := by decide
      have m2 : max (-1 : Int) 0 = 0 := by decide
      match i, hi with
      | 0, _ =>
        have a0 : geti [(P : Int) * Q, 1] 0 = (P : Int) * Q := rfl
        have a1 : geti [(P : Int) * Q, 1] 1 = 1 := rfl
        rw [g0, a0, a1, m1]; simp; omega
      | 1, _ =>
        have a0 : geti [(1 : Int), 1] 0 = 1 := rfl
        have a1 : geti [(1 : Int), 1] 1 = 1 := rfl
        rw [g1, a0, a1, m1]; simp
      | 2, _ =>
        have a0 : geti [(P : Int), -1] 0 = P := rfl
        have a1 : geti [(P : Int), -1] 1 = -1 := rfl
        rw [g2, a0, a1, m2]; simp; omega
      | 3, _ =>
        have a0 : geti [(Q : Int), -1] 0 = Q := rfl
        have a1 : geti [(Q : Int), -1] 1 = -1 := rfl
        rw [g3, a0, a1, m2]; simp; omega
    obtain ⟨dd, hdd⟩ : ∃ dd : Int, dd = (if i = 0 then (0 : Int) else if i = 1 then ((P * Q : Nat) : Int) else ((P * Q + 1 : Nat) : Int)) := ⟨_, rfl⟩
    have hdb : 0 ≤ dd ∧ dd ≤ 2000 := by rw [hdd]; split; omega; split <;> omega
    have hmx : 0 ≤ geti (gets Z (i : Nat)) 0 * max (geti (gets Z (i : Nat)) 1) 0 ∧ geti (gets Z (i : Nat)) 0 * max (geti (gets Z (i : Nat)) 1) 0 ≤ 2000 := by
      have : dd + geti (gets Z (i : Nat)) 0 * max (geti (gets Z (i : Nat)) 1) 0 ≤ 2000 := by rw [hdd, h4]; split; omega; split <;> omega
      have h5 : 0 ≤ geti (gets Z (i : Nat)) 0 * max (geti (gets Z (i : Nat)) 1) 0 := Int.mul_nonneg (by omega) (by omega)
      omega
    rw [← hdd] at h4 ⊢
    repeat' (first | (apply AOps.nil; try simp only [List.nil_append, List.cons_append, List.set_cons_zero, List.set_cons_succ, List.length_cons, List.length_nil, Nat.reduceAdd, AV.sh, AV.sh1, AV.sh0, AO.sh, List.map_cons, List.map_nil, Nat.zero_add, Nat.add_zero, setAll]) | ((apply AOps.splitP; exact rfl; exact rfl) <;> intro h) | ((apply AOps.splitN; exact rfl; exact rfl) <;> intro h) | (apply w_move; exact rfl; exact rfl) | (apply w_assign; exact rfl; exact rfl) | apply AWp.seq | apply AWp.region | ((apply AWp.condP; exact rfl) <;> intro h) | ((apply AWp.condN; exact rfl) <;> intro h) | (apply AWp.condT; exact rfl) | apply AWp.block | apply AWp.ret | apply AWp.exit | apply AWp.skip | (apply w_skip; exact rfl) | (apply w_pickT; exact rfl; exact rfl; exact rfl) | (apply w_pickF; exact rfl; exact rfl; exact rfl) | (apply w_len; exact rfl; exact rfl; first | exact .ints _ | exact .intss _ | exact .sli rfl | exact .sls rfl | exact .slr rfl | exact .orow rfl | exact .nil) | (apply w_call (inRange_c _ _ _); exact rfl; exact rfl; focus ((repeat (first | exact im_nil | refine im_cons rfl (.val _) ?_)); done)) | omega | ((first | apply w_lss | apply w_neq | apply w_idx | apply w_ld); iterate 3 exact rfl) | ((first | apply w_idxs | apply w_lds); iterate 3 exact rfl) | ((apply w_not); iterate 2 exact rfl))
    all_goals try (exfalso; omega)
    refine AWp.regionG [] (by kernel_rfl) (envC := ⟨113, [(0, .intss Z), (4, .i (dd + geti (gets Z (i : Nat)) 0 * max (geti (gets Z (i : Nat)) 1) 0)), (21, .intss Z), (22, .i Z.length), (23, .i i)]⟩) (osC := []) rfl (by first | exact rfl | (simp [AO.lim, AV.lim, bL_lim]; done)) ?_ ?_
    · repeat' (first | (apply AOps.nil; try simp only [List.nil_append, List.cons_append, List.set_cons_zero, List.set_cons_succ, List.length_cons, List.length_nil, Nat.reduceAdd, AV.sh, AV.sh1, AV.sh0, AO.sh, List.map_cons, List.map_nil, Nat.zero_add, Nat.add_zero, setAll]) | (apply w_move; exact rfl; exact rfl) | (apply w_assign; exact rfl; exact rfl) | (apply AAnyG.takeW; exact rfl; exact rfl; kernel_rfl; kernel_rfl) | (apply AAnyG.takeL; exact rfl; exact rfl; kernel_rfl) | (apply AAnyG.done; exact rfl) | omega | ((first | apply w_add | apply w_mul | apply w_idx | apply w_ld | apply w_max); iterate 3 exact rfl) | (apply inI_of <;> omega))
      all_goals (apply Or.inl; refine ⟨lee rfl ?_, ?_, rfl, (by first | exact rfl | (simp [AO.lim, AV.lim, bL_lim]; done))⟩; (focus ((repeat (first | exact le_nil | refine le_eq rfl rfl ?_)); done)); (focus ((repeat (exact lo_nil)); done)))
    rw [h4]
    repeat' (first | (apply AOps.nil; try simp only [List.nil_append, List.cons_append, List.set_cons_zero, List.set_cons_succ, List.length_cons, List.length_nil, Nat.reduceAdd, AV.sh, AV.sh1, AV.sh0, AO.sh, List.map_cons, List.map_nil, Nat.zero_add, Nat.add_zero, setAll]) | (apply w_move; exact rfl; exact rfl) | apply AWp.region | ((apply w_add); iterate 3 exact rfl) | (apply inI_of <;> omega))
    exact ⟨i + 1, by omega, by omega, ⟨lee rfl (by (repeat (first | exact le_nil | refine le_eq rfl rfl ?_))), by (repeat (exact lo_nil)), rfl, rfl⟩⟩
  have ei : i = 4 := by omega
  subst ei
  have hpo : (if (4 : Nat) = 0 then (0 : Int) else if (4 : Nat) = 1 then ((P * Q : Nat) : Int) else ((P * Q + 1 : Nat) : Int)) = ((P * Q + 1 : Nat) : Int) := rfl
  rw [hpo]
  repeat' (first | (apply AOps.nil; try simp only [List.nil_append, List.cons_append, List.set_cons_zero, List.set_cons_succ, List.length_cons, List.length_nil, Nat.reduceAdd, AV.sh, AV.sh1, AV.sh0, AO.sh, List.map_cons, List.map_nil, Nat.zero_add, Nat.add_zero, setAll]) | (apply w_move; exact rfl; exact rfl) | (apply w_assign; exact rfl; exact rfl) | apply AWp.seq | apply AWp.region | ((apply AWp.condP; exact rfl) <;> intro h) | apply AWp.block | apply AWp.ret | apply AWp.exit | apply AWp.skip | (apply w_len; exact rfl; exact rfl; first | exact .ints _ | exact .intss _ | exact .sli rfl | exact .sls rfl | exact .slr rfl | exact .orow rfl | exact .nil) | omega | ((first | apply w_lss | apply w_gtr); iterate 3 exact rfl) | ((apply w_bs1); iterate 2 exact rfl) | (apply inI_of <;> omega))
  all_goals try (exfalso; omega)
  rw [← o0]
  refine AWp.loopS (ι := Nat) (fun i => ⟨113, [(0, .intss Z), (7, .own 0), (58, .intss Z), (59, .i Z.length), (60, .i i)]⟩) (fun i => [.sli 2 (O i)]) (fun i => i ≤ 4) (fun i => 4 - i) 0 (by omega) ⟨lee rfl (by (repeat (first | exact le_nil | refine le_eq rfl rfl ?_))), by (repeat (first | exact lo_nil | refine lo_eq rfl ?_)), rfl, rfl⟩ ?_
  intro i i0
  by_cases hi : i < 4
  · have hli := l0 i
    have hr : (gets Z (i : Nat)).length = 2 := by
      match i, hi with
      | 0, _ => rw [g0]; rfl
      | 1, _ => rw [g1]; rfl
      | 2, _ => rw [g2]; rfl
      | 3, _ => rw [g3]; rfl
    by_cases hi2 : i < 2
    · have hone : geti (gets Z (i : Nat)) 1 = 1 := by
        match i, hi2 with
        | 0, _ => rw [g0]; rfl
        | 1, _ => rw [g1]; rfl
      obtain ⟨B, hB1, hB2⟩ : ∃ B, AFn Try.prog 16 [.i (geti (gets Z (i : Nat)) 0)] (IsInts 2 B) ∧ AFn Try.prog 22 [.ints (O i), .ints B] (IsIC 2 (O (i + 1)) 0) := by
        match i, hi2 with
        | 0, _ =>
          have a0 : geti (gets Z (0 : Nat)) 0 = ((P * Q : Nat) : Int) := by rw [g0, hPQi]; rfl
          rw [a0]
          exact ⟨_, b1, by rw [← o1]; first | exact p1 | (rw [Nat.zero_add, ← o1] at p1; exact p1)⟩
        | 1, _ =>
          have a0 : geti (gets Z (1 : Nat)) 0 = ((1 : Nat) : Int) := by rw [g1]; rfl
          rw [a0]
          exact ⟨_, b3, p2⟩
      repeat' (first | (apply AOps.nil; try simp only [List.nil_append, List.cons_append, List.set_cons_zero, List.set_cons_succ, List.length_cons, List.length_nil, Nat.reduceAdd, AV.sh, AV.sh1, AV.sh0, AO.sh, List.map_cons, List.map_nil, Nat.zero_add, Nat.add_zero, setAll]) | (apply w_move; exact rfl; exact rfl) | (apply w_assign; exact rfl; exact rfl) | apply AWp.seq | apply AWp.region | ((apply AWp.condP; exact rfl) <;> intro h) | apply AWp.block | apply AWp.exit | apply AWp.skip | (apply w_len; exact rfl; exact rfl; first | exact .ints _ | exact .intss _ | exact .sli rfl | exact .sls rfl | exact .slr rfl | exact .orow rfl | exact .nil) | omega | ((first | apply w_lss | apply w_idx | apply w_ld); iterate 3 exact rfl) | ((first | apply w_idxs | apply w_lds); iterate 3 exact rfl))
      refine AWp.loopS (ι := Nat) (fun e => ⟨113, [(0, .intss Z), (7, .own 0), (9, .ints (gets Z (i : Nat))), (10, .i e), (58, .intss Z), (59, .i Z.length), (60, .i i)]⟩) (fun e => [.sli 2 (if e = 0 then O i else O (i + 1))]) (fun e => e ≤ 1) (fun e => 1 - e) 0 (by omega) ⟨lee rfl (by (repeat (first | exact le_nil | refine le_eq rfl rfl ?_))), by (repeat (first | exact lo_nil | refine lo_eq rfl ?_)), rfl, rfl⟩ ?_
      intro e e0
      by_cases he : e = 0
      · subst he
        rw [if_pos rfl]
        repeat' (first | (apply AOps.nil; try simp only [List.nil_append, List.cons_append, List.set_cons_zero, List.set_cons_succ, List.length_cons, List.length_nil, Nat.reduceAdd, AV.sh, AV.sh1, AV.sh0, AO.sh, List.map_cons, List.map_nil, Nat.zero_add, Nat.add_zero, setAll]) | (apply w_move; exact rfl; exact rfl) | (apply w_assign; exact rfl; exact rfl) | apply AWp.seq | apply AWp.region | ((apply AWp.condP; exact rfl) <;> intro h) | apply AWp.block | apply AWp.ret | apply AWp.exit | apply AWp.skip | (apply w_callm (hB1); (focus ((repeat (first | exact im_nil | refine im_cons rfl (.val _) ?_)); done)); rintro r os0 ⟨rfl, rfl⟩; try simp only [List.nil_append, List.cons_append, List.set_cons_zero, List.set_cons_succ, List.length_cons, List.length_nil, Nat.reduceAdd, AV.sh, AV.sh1, AV.sh0, AO.sh, List.map_cons, List.map_nil, Nat.zero_add, Nat.add_zero, setAll]) | (apply w_callm (hB2); (focus ((repeat (first | exact im_nil | refine im_cons rfl (.sli rfl) ?_)); done)); rintro r os0 ⟨rfl, rfl⟩; try simp only [List.nil_append, List.cons_append, List.set_cons_zero, List.set_cons_succ, List.length_cons, List.length_nil, Nat.reduceAdd, AV.sh, AV.sh1, AV.sh0, AO.sh, List.map_cons, List.map_nil, Nat.zero_add, Nat.add_zero, setAll]) | omega | ((first | apply w_lss | apply w_neq | apply w_add | apply w_idx | apply w_ld | apply w_extv); iterate 3 exact rfl) | ((apply w_ext); iterate 3 exact rfl) | (apply inI_of <;> omega))
        all_goals try (exfalso; omega)
        refine ⟨1, by omega, by omega, ?_⟩
        rw [if_neg (by omega)]
        (apply Or.inr; refine ⟨[2], ⟨by decide, fun x hx => Nat.lt_of_lt_of_le ((by decide : ∀ x ∈ ([2] : List Nat), x < 3) x hx) (Nat.le_of_ble_eq_true rfl)⟩, lee rfl ?_, ?_, rfl, rfl⟩; (focus ((repeat (first | exact le_nil | refine le_eq rfl rfl ?_)); done)); (focus ((repeat (first | exact lo_nil | refine lo_eq rfl ?_)); done)))
      · have e1 : e = 1 := by omega
        subst e1
        rw [if_neg (by omega)]
        repeat' (first | (apply AOps.nil; try simp only [List.nil_append, List.cons_append, List.set_cons_zero, List.set_cons_succ, List.length_cons, List.length_nil, Nat.reduceAdd, AV.sh, AV.sh1, AV.sh0, AO.sh, List.map_cons, List.map_nil, Nat.zero_add, Nat.add_zero, setAll]) | (apply w_move; exact rfl; exact rfl) | apply AWp.seq | apply AWp.region | ((apply AWp.condP; exact rfl) <;> intro h) | apply AWp.block | apply AWp.exit | apply AWp.skip | omega | ((first | apply w_lss | apply w_add | apply w_idx | apply w_ld); iterate 3 exact rfl) | (apply inI_of <;> omega))
        all_goals try (exfalso; omega)
        refine ⟨i + 1, by omega, by omega, ?_⟩
        (apply Or.inl; refine ⟨lee rfl ?_, ?_, rfl, rfl⟩; (focus ((repeat (first | exact le_nil | refine le_eq rfl rfl ?_)); done)); (focus ((repeat (first | exact lo_nil | refine lo_eq rfl ?_)); done)))
    · have hone : geti (gets Z (i : Nat)) 1 = -1 := by
        match i, hi, hi2 with
        | 2, _, _ => rw [g2]; rfl
        | 3, _, _ => rw [g3]; rfl
      have hO : O i = O (i + 1) := by
        match i, hi, hi2 with
        | 2, _, _ => exact o23
        | 3, _, _ => exact o34
      repeat' (first | (apply AOps.nil; try simp only [List.nil_append, List.cons_append, List.set_cons_zero, List.set_cons_succ, List.length_cons, List.length_nil, Nat.reduceAdd, AV.sh, AV.sh1, AV.sh0, AO.sh, List.map_cons, List.map_nil, Nat.zero_add, Nat.add_zero, setAll]) | (apply w_move; exact rfl; exact rfl) | (apply w_assign; exact rfl; exact rfl) | apply AWp.seq | apply AWp.region | ((apply AWp.condP; exact rfl) <;> intro h) | apply AWp.block | apply AWp.exit | apply AWp.skip | (apply w_len; exact rfl; exact rfl; first | exact .ints _ | exact .intss _ | exact .sli rfl | exact .sls rfl | exact .slr rfl | exact .orow rfl | exact .nil) | omega | ((first | apply w_lss | apply w_idx | apply w_ld); iterate 3 exact rfl) | ((first | apply w_idxs | apply w_lds); iterate 3 exact rfl))
      refine AWp.loopS (ι := Nat) (fun e => ⟨113, [(0, .intss Z), (7, .own 0), (9, .ints (gets Z (i : Nat))), (10, .i e), (58, .intss Z), (59, .i Z.length), (60, .i i)]⟩) (fun e => [.sli 2 (O i)]) (fun e => e = 0) (fun e => 1 - e) 0 rfl ⟨lee rfl (by (repeat (first | exact le_nil | refine le_eq rfl rfl ?_))), by (repeat (first | exact lo_nil | refine lo_eq rfl ?_)), rfl, rfl⟩ ?_
      intro e e0
      subst e0
      repeat' (first | (apply AOps.nil; try simp only [List.nil_append, List.cons_append, List.set_cons_zero, List.set_cons_succ, List.length_cons, List.length_nil, Nat.reduceAdd, AV.sh, AV.sh1, AV.sh0, AO.sh, List.map_cons, List.map_nil, Nat.zero_add, Nat.add_zero, setAll]) | (apply w_move; exact rfl; exact rfl) | apply AWp.seq | apply AWp.region | ((apply AWp.condP; exact rfl) <;> intro h) | apply AWp.block | apply AWp.exit | apply AWp.skip | omega | ((first | apply w_lss | apply w_add | apply w_idx | apply w_ld); iterate 3 exact rfl) | (apply inI_of <;> omega))
      all_goals try (exfalso; omega)
      refine ⟨i + 1, by omega, by omega, ?_⟩
      rw [← hO]
      (apply Or.inl; refine ⟨lee rfl ?_, ?_, rfl, rfl⟩; (focus ((repeat (first | exact le_nil | refine le_eq rfl rfl ?_)); done)); (focus ((repeat (first | exact lo_nil | refine lo_eq rfl ?_)); done)))
  have ei : i = 4 := by omega
  subst ei
  rw [uo]
  repeat' (first | (apply AOps.nil; try simp only [List.nil_append, List.cons_append, List.set_cons_zero, List.set_cons_succ, List.length_cons, List.length_nil, Nat.reduceAdd, AV.sh, AV.sh1, AV.sh0, AO.sh, List.map_cons, List.map_nil, Nat.zero_add, Nat.add_zero, setAll]) | (apply w_move; exact rfl; exact rfl) | apply AWp.seq | apply AWp.region | ((apply AWp.condP; exact rfl) <;> intro h) | apply AWp.block | apply AWp.exit | apply AWp.skip | (apply w_len; exact rfl; exact rfl; first | exact .ints _ | exact .intss _ | exact .sli rfl | exact .sls rfl | exact .slr rfl | exact .orow rfl | exact .nil) | omega | ((apply w_lss); iterate 3 exact rfl))
  all_goals try (exfalso; omega)
  refine AWp.loopS (ι := Nat) (fun i => ⟨113, [(0, .intss Z), (7, .own 0), (85, .intss Z), (86, .i Z.length), (87, .i i)]⟩) (fun i => [.sli 2 (U i)]) (fun i => i ≤ 4) (fun i => 4 - i) 0 (by omega) ⟨lee rfl (by (repeat (first | exact le_nil | refine le_eq rfl rfl ?_))), by (repeat (first | exact lo_nil | refine lo_eq rfl ?_)), rfl, rfl⟩ ?_
  intro i i0
  by_cases hi : i < 4
  · have hr : (gets Z (i : Nat)).length = 2 := by
      match i, hi with
      | 0, _ => rw [g0]; rfl
      | 1, _ => rw [g1]; rfl
      | 2, _ => rw [g2]; rfl
      | 3, _ => rw [g3]; rfl
    by_cases hi2 : i < 2
    · have hone : geti (gets Z (i : Nat)) 1 = 1 := by
        match i, hi2 with
        | 0, _ => rw [g0]; rfl
        | 1, _ => rw [g1]; rfl
      have hO : U i = U (i + 1) := by
        match i, hi2 with
        | 0, _ => exact u01
        | 1, _ => exact u12
      repeat' (first | (apply AOps.nil; try simp only [List.nil_append, List.cons_append, List.set_cons_zero, List.set_cons_succ, List.length_cons, List.length_nil, Nat.reduceAdd, AV.sh, AV.sh1, AV.sh0, AO.sh, List.map_cons, List.map_nil, Nat.zero_add, Nat.add_zero, setAll]) | (apply w_move; exact rfl; exact rfl) | (apply w_assign; exact rfl; exact rfl) | apply AWp.seq | apply AWp.region | ((apply AWp.condP; exact rfl) <;> intro h) | apply AWp.block | apply AWp.ret | apply AWp.exit | apply AWp.skip | omega | ((first | apply w_lss | apply w_idx | apply w_ld); iterate 3 exact rfl) | ((first | apply w_idxs | apply w_lds); iterate 3 exact rfl))
      refine AWp.loopS (ι := Nat) (fun e => ⟨113, [(0, .intss Z), (7, .own 0), (14, .ints (gets Z (i : Nat))), (15, .i 1), (85, .intss Z), (86, .i Z.length), (87, .i i)]⟩) (fun e => [.sli 2 (U i)]) (fun e => e = 0) (fun e => 1 - e) 0 rfl ⟨lee rfl (by (repeat (first | exact le_nil | refine le_eq rfl rfl ?_ | refine le_eq rfl (congrArg AV.i (by omega)) ?_))), by (repeat (first | exact lo_nil | refine lo_eq rfl ?_)), rfl, rfl⟩ ?_
      intro e e0
      subst e0
      repeat' (first | (apply AOps.nil; try simp only [List.nil_append, List.cons_append, List.set_cons_zero, List.set_cons_succ, List.length_cons, List.length_nil, Nat.reduceAdd, AV.sh, AV.sh1, AV.sh0, AO.sh, List.map_cons, List.map_nil, Nat.zero_add, Nat.add_zero, setAll]) | (apply w_move; exact rfl; exact rfl) | apply AWp.seq | apply AWp.region | ((apply AWp.condP; exact rfl) <;> intro h) | apply AWp.block | apply AWp.exit | apply AWp.skip | omega | ((first | apply w_lss | apply w_add); iterate 3 exact rfl) | (apply inI_of <;> omega))
      all_goals try (exfalso; omega)
      refine ⟨i + 1, by omega, by omega, ?_⟩
      rw [← hO]
      (apply Or.inl; refine ⟨lee rfl ?_, ?_, rfl, rfl⟩; (focus ((repeat (first | exact le_nil | refine le_eq rfl rfl ?_)); done)); (focus ((repeat (first | exact lo_nil | refine lo_eq rfl ?_)); done)))
    · have hone : geti (gets Z (i : Nat)) 1 = -1 := by
        match i, hi, hi2 with
        | 2, _, _ => rw [g2]; rfl
        | 3, _, _ => rw [g3]; rfl
      obtain ⟨B, hB1, hB2⟩ : ∃ B, AFn Try.prog 16 [.i (geti (gets Z (i : Nat)) 0)] (IsInts 2 B) ∧ AFn Try.prog 15 [.ints (U i), .ints B] (IsIC 2 (U (i + 1)) 0) := by
        match i, hi, hi2 with
        | 2, _, _ =>
          have a0 : geti (gets Z (2 : Nat)) 0 = ((P : Nat) : Int) := by rw [g2]; rfl
          rw [a0]
          exact ⟨_, b2, q1⟩
        | 3, _, _ =>
          have a0 : geti (gets Z (3 : Nat)) 0 = ((Q : Nat) : Int) := by rw [g3]; rfl
          rw [a0]
          exact ⟨_, b4, q2⟩
      repeat' (first | (apply AOps.nil; try simp only [List.nil_append, List.cons_append, List.set_cons_zero, List.set_cons_succ, List.length_cons, List.length_nil, Nat.reduceAdd, AV.sh, AV.sh1, AV.sh0, AO.sh, List.map_cons, List.map_nil, Nat.zero_add, Nat.add_zero, setAll]) | (apply w_move; exact rfl; exact rfl) | (apply w_assign; exact rfl; exact rfl) | apply AWp.seq | apply AWp.region | ((apply AWp.condP; exact rfl) <;> intro h) | apply AWp.block | apply AWp.ret | apply AWp.exit | apply AWp.skip | omega | ((first | apply w_lss | apply w_idx | apply w_ld); iterate 3 exact rfl) | ((first | apply w_idxs | apply w_lds); iterate 3 exact rfl))
      refine AWp.loopS (ι := Nat) (fun e => ⟨113, [(0, .intss Z), (7, .own 0), (14, .ints (gets Z (i : Nat))), (15, .i ((e : Int) - 1)), (85, .intss Z), (86, .i Z.length), (87, .i i)]⟩) (fun e => [.sli 2 (if e = 0 then U i else U (i + 1))]) (fun e => e ≤ 1) (fun e => 1 - e) 0 (by omega) ⟨lee rfl (by (repeat (first | exact le_nil | refine le_eq rfl rfl ?_ | refine le_eq rfl (congrArg AV.i (by omega)) ?_))), by (repeat (first | exact lo_nil | refine lo_eq rfl ?_)), rfl, rfl⟩ ?_
      intro e e0
      by_cases he : e = 0
      · subst he
        rw [if_pos rfl]
        repeat' (first | (apply AOps.nil; try simp only [List.nil_append, List.cons_append, List.set_cons_zero, List.set_cons_succ, List.length_cons, List.length_nil, Nat.reduceAdd, AV.sh, AV.sh1, AV.sh0, AO.sh, List.map_cons, List.map_nil, Nat.zero_add, Nat.add_zero, setAll]) | (apply w_move; exact rfl; exact rfl) | (apply w_assign; exact rfl; exact rfl) | apply AWp.seq | apply AWp.region | ((apply AWp.condP; exact rfl) <;> intro h) | apply AWp.block | apply AWp.ret | apply AWp.exit | apply AWp.skip | (apply w_callm (hB1); (focus ((repeat (first | exact im_nil | refine im_cons rfl (.val _) ?_)); done)); rintro r os0 ⟨rfl, rfl⟩; try simp only [List.nil_append, List.cons_append, List.set_cons_zero, List.set_cons_succ, List.length_cons, List.length_nil, Nat.reduceAdd, AV.sh, AV.sh1, AV.sh0, AO.sh, List.map_cons, List.map_nil, Nat.zero_add, Nat.add_zero, setAll]) | (apply w_callm (hB2); (focus ((repeat (first | exact im_nil | refine im_cons rfl (.sli rfl) ?_)); done)); rintro r os0 ⟨rfl, rfl⟩; try simp only [List.nil_append, List.cons_append, List.set_cons_zero, List.set_cons_succ, List.length_cons, List.length_nil, Nat.reduceAdd, AV.sh, AV.sh1, AV.sh0, AO.sh, List.map_cons, List.map_nil, Nat.zero_add, Nat.add_zero, setAll]) | omega | ((first | apply w_lss | apply w_neq | apply w_add | apply w_idx | apply w_ld | apply w_extv); iterate 3 exact rfl) | ((apply w_ext); iterate 3 exact rfl) | (apply inI_of <;> omega))
        all_goals try (exfalso; omega)
        refine ⟨1, by omega, by omega, ?_⟩
        rw [if_neg (by omega)]
        (apply Or.inr; refine ⟨[2], ⟨by decide, fun x hx => Nat.lt_of_lt_of_le ((by decide : ∀ x ∈ ([2] : List Nat), x < 3) x hx) (Nat.le_of_ble_eq_true rfl)⟩, lee rfl ?_, ?_, rfl, rfl⟩; (focus ((repeat (first | exact le_nil | refine le_eq rfl rfl ?_)); done)); (focus ((repeat (first | exact lo_nil | refine lo_eq rfl ?_)); done)))
      · have e1 : e = 1 := by omega
        subst e1
        rw [if_neg (by omega)]
        repeat' (first | (apply AOps.nil; try simp only [List.nil_append, List.cons_append, List.set_cons_zero, List.set_cons_succ, List.length_cons, List.length_nil, Nat.reduceAdd, AV.sh, AV.sh1, AV.sh0, AO.sh, List.map_cons, List.map_nil, Nat.zero_add, Nat.add_zero, setAll]) | (apply w_move; exact rfl; exact rfl) | apply AWp.seq | apply AWp.region | ((apply AWp.condP; exact rfl) <;> intro h) | apply AWp.block | apply AWp.exit | apply AWp.skip | omega | ((first | apply w_lss | apply w_add); iterate 3 exact rfl) | (apply inI_of <;> omega))
        all_goals try (exfalso; omega)
        refine ⟨i + 1, by omega, by omega, ?_⟩
        (apply Or.inl; refine ⟨lee rfl ?_, ?_, rfl, rfl⟩; (focus ((repeat (first | exact le_nil | refine le_eq rfl rfl ?_)); done)); (focus ((repeat (first | exact lo_nil | refine lo_eq rfl ?_)); done)))
  have ei : i = 4 := by omega
  subst ei
  repeat' (first | (apply AOps.nil; try simp only [List.nil_append, List.cons_append, List.set_cons_zero, List.set_cons_succ, List.length_cons, List.length_nil, Nat.reduceAdd, AV.sh, AV.sh1, AV.sh0, AO.sh, List.map_cons, List.map_nil, Nat.zero_add, Nat.add_zero, setAll]) | (apply w_move; exact rfl; exact rfl) | (apply w_assign; exact rfl; exact rfl) | apply AWp.seq | apply AWp.region | ((apply AWp.condP; exact rfl) <;> intro h) | apply AWp.block | apply AWp.ret | apply AWp.exit | apply AWp.skip | omega | ((apply w_lss); iterate 3 exact rfl))
  all_goals try (exfalso; omega)
  exact ⟨_, _, _, .a2 Try.results9 rfl rfl, .tup2 (.sli rfl), rfl, rfl⟩
end Go.Proofs.Ytkcbihmpjkkccaa
/-
  A literal slice of four own rows, read as rows. No condition.
-/
namespace Go.Proofs.Ytkcbihmpjkkccaa
open Go Go.RowKit
set_option linter.unusedSimpArgs false

def issR (Z : List (List Int)) : Ro where
  p w ok v := IntssAt w ok v Z
  up k h := h.mono k
/-- A contract about rows holds of whatever reads as rows. -/
theorem AFn.iss {P : Program} {f : FuncId} {Z : List (List Int)} {Q : AV → List AO → Prop} (h : AFn P f [.intss Z] Q) : AFn P f [.ro (issR Z)] Q :=
  ⟨h.1, fun w vs hv => h.2 w vs ⟨hv.1, fun i => by
    have h2 := hv.2 i
    match i with
    | 0 =>
      have h2 : RV w (fun _ => True) [] (vs.getD 0 undef) (.ro (issR Z)) := h2
      show RV w (fun _ => True) [] (vs.getD 0 undef) (.intss Z)
      generalize vs.getD 0 undef = z at h2 ⊢
      cases h2 with
      | ro h => exact .intss h
    | i + 1 => exact .any _⟩⟩
theorem ar4 : Array.range 4 = #[0, 1, 2, 3] := by apply Array.ext'; simp [List.range_succ]
section
variable {P : Program} {env : Env} {os : List AO} {d : Option Tmp} {ty : TypeId} {pos : String} {af : Array Edge} {g : Option (Nat × Bool)}
theorem own_row {base : Nat} {w : World} {gs : List Gh} {tm : Array Value} (hr : Rel base w gs env os tm) {x : Operand} {k : Nat} {e3 : TypeId} {ys : List Int} (hx : AV.ev env x = .own k) (hk : os[k]? = some (.sli e3 ys)) :
    ∃ a n c, Act.eval ⟨tm, []⟩ x = .slice a n c ∧ RV w (okOf gs os) gs (.slice a n c) (.own k) := by
  have hxv := hr.ev x
  rw [hx] at hxv
  generalize hv : Act.eval ⟨tm, []⟩ x = v at hxv
  have h2 := hxv
  cases hxv with
  | @own _ gk hgk =>
    obtain ⟨b1, b2, b3⟩ := hr.ho _ _ _ hgk hk
    obtain ⟨ua, uc, eu⟩ := ownsRow_slice b1
    rw [eu] at h2 ⊢
    exact ⟨_, _, _, rfl, h2⟩
theorem l_bslr4 {t e : TypeId} {bytes : Nat} [ht : TSlice P t e] [he : TElem P e (.slice none 0 0) bytes] {x1 x2 x3 x4 : Operand} {k1 k2 k3 k4 : Nat} {t1 t2 t3 t4 : TypeId} {y1 y2 y3 y4 : List Int}
    (h1 : AV.ev env x1 = .own k1) (h2 : AV.ev env x2 = .own k2) (h3 : AV.ev env x3 = .own k3) (h4 : AV.ev env x4 = .own k4) (o1 : os[k1]? = some (.sli t1 y1)) (o2 : os[k2]? = some (.sli t2 y2)) (o3 : os[k3]? = some (.sli t3 y3)) (o4 : os[k4]? = some (.sli t4 y4)) :
    LOp P ⟨d, .buildSlice t 4 #[(0, x1), (1, x2), (2, x3), (3, x4)], ty, pos, af, g⟩ env os (.own os.length) env (os ++ [.slr e [.own k1, .own k2, .own k3, .own k4]]) :=
  l_slrnew (by simp [maxLen]) fun base w gs tm hr => by
    obtain ⟨a1, n1, c1, e1, r1⟩ := own_row hr h1 o1
    obtain ⟨a2, n2, c2, e2, r2⟩ := own_row hr h2 o2
    obtain ⟨a3, n3, c3, e3, r3⟩ := own_row hr h3 o3
    obtain ⟨a4, n4, c4, e4, r4⟩ := own_row hr h4 o4
    obtain ⟨ii, hi, hs, hz, hby⟩ := he.info
    refine ⟨[.slice a1 n1 c1, .slice a2 n2 c2, .slice a3 n3 c3, .slice a4 n4 c4], rfl, rv_list rfl fun i hi => ?_, ?_⟩
    · match i, hi with
      | 0, _ => exact r1
      | 1, _ => exact r2
      | 2, _ => exact r3
      | 3, _ => exact r4
    · simp [execOp, Instr.buildSlice, run_underlying ht.und, sizeOf, typeInfo, zeroValue, hi, hs, hz, Instr.fill, newRow, e1, e2, e3, e4, Value.cells, ar4]
end
/-- An own row that is handed on reads as its numbers. -/
theorem reads_row {base : Nat} {w : World} {gs : List Gh} {os : List AO} {ok : Nat → Prop} (hro : ∀ (h : Nat) g o, gs[h]? = some g → os[h]? = some o → RO base w (okOf gs os) gs g o) {k : Nat} {e : TypeId} {ys : List Int} (hs : os[k]? = some (.sli e ys))
    (hok : ∀ g o, gs[k]? = some g → os[k]? = some o → o ≠ .dead → ∀ b, b ∈ g.bl → ok b) {v : Value} (hv : RV w (okOf gs os) gs v (.own k)) : IntsAt w ok v ys := by
  cases hv with
  | @own _ g hg =>
    obtain ⟨a1, a2, a3⟩ := hro _ _ _ hg hs
    refine ⟨?_, a2⟩
    obtain ⟨p, cap, e0⟩ := ownsRow_slice a1
    rcases Nat.eq_zero_or_pos ys.length with h0 | h0
    · have : ys = [] := List.length_eq_zero_iff.1 h0
      subst this
      rcases a1.2 with ⟨h1, h2⟩ | ⟨b, cap, cur, h1, r⟩
      · rw [h1]; exact ⟨none, 0, rfl, by simp, by simp [maxLen], fun hp => by simp at hp⟩
      · rw [h1]; exact ⟨_, cap, rfl, by simp, r.2.2.2.1, fun hp => by simp at hp⟩
    · obtain ⟨b, cap, e1, e2, _⟩ := own_slice a1 (i := 0) (by simpa using h0)
      have hb : g.b = b := a3.eq e2
      rcases a1.2 with ⟨h1, h2⟩ | ⟨b', cap', cur, h1, r⟩
      · rw [h1] at e1; simp at h2; subst h2; simp at h0
      · rw [h1]
        refine ⟨_, cap', by simp, ?_, r.2.2.2.1, fun _ => ⟨b', 0, rfl, ?_, fun i u hu => ?_⟩⟩
        · have := r.2.2.1; simpa using this
        · refine hok _ _ hg hs (by simp) b' ?_
          rw [h1] at e1; cases e1
          rcases a3 with ⟨h3, h4⟩ | ⟨h3, h4⟩
          · rw [h1] at h3; cases h3
          · rw [h4, hb]; simp
        · have hi := (List.getElem?_eq_some_iff.1 hu).1
          have h9 := (own_slice a1 (i := i) hi)
          obtain ⟨b2, cap2, e3, e4, e5, _⟩ := h9
          rw [h1] at e3; cases e3
          rw [Nat.zero_add, e5]; exact hu
theorem reads_slr4 {os : List AO} {p : Nat} {e t1 t2 t3 t4 : TypeId} {k1 k2 k3 k4 : Nat} {y1 y2 y3 y4 : List Int} (hs : os[p]? = some (.slr e [.own k1, .own k2, .own k3, .own k4]))
    (o1 : os[k1]? = some (.sli t1 y1)) (o2 : os[k2]? = some (.sli t2 y2)) (o3 : os[k3]? = some (.sli t3 y3)) (o4 : os[k4]? = some (.sli t4 y4)) : Reads os [p, k1, k2, k3, k4] (.own p) (issR [y1, y2, y3, y4]) := by
  intro base w gs ok hro hok kp v hv
  cases hv with
  | @own _ gp hg =>
    obtain ⟨vs, a1, a2, a3, a4⟩ := hro _ _ _ hg hs
    have hvs : vs.length = 4 := by simpa using a2
    have hall : ∀ (i : Nat) u, vs[i]? = some u → IntsAt w ok u ([y1, y2, y3, y4].getD i []) := by
      intro i u hu
      have hi := (List.getElem?_eq_some_iff.1 hu).1
      have h5 := a3 i
      have h6 : vs.getD i undef = u := by rw [List.getD_eq_getElem?_getD, hu]; rfl
      rw [h6] at h5
      match i, (show i < 4 by omega) with
      | 0, _ => exact reads_row hro o1 (hok k1 (by simp)) h5
      | 1, _ => exact reads_row hro o2 (hok k2 (by simp)) h5
      | 2, _ => exact reads_row hro o3 (hok k3 (by simp)) h5
      | 3, _ => exact reads_row hro o4 (hok k4 (by simp)) h5
    refine ⟨vs, ?_, by simpa using a2, hall⟩
    obtain ⟨b, cap, e1, e2, _⟩ := own_slice a1 (i := 0) (by omega)
    rcases a1.2 with ⟨h1, h2⟩ | ⟨b', cap', cur, h1, r⟩
    · rw [h1] at e1; cases e1
    · rw [h1] at e1; cases e1
      rw [h1]
      refine ⟨_, cap, rfl, ?_, r.2.2.2.1, fun _ => ⟨b, 0, rfl, ?_, fun i u hu => ?_⟩⟩
      · exact r.2.2.1
      · refine hok p (by simp) _ _ hg hs (by simp) b ?_
        rcases a4 with ⟨h3, h4⟩ | ⟨h3, h4⟩
        · rw [h1] at h3; cases h3
        · rw [h4]
          have : gp.b = b := by rw [h1] at h3; cases h3; rfl
          rw [this]; simp
      · have hi := (List.getElem?_eq_some_iff.1 hu).1
        obtain ⟨b2, cap2, e3, e4, e5, _⟩ := own_slice a1 (i := i) hi
        rw [h1] at e3; cases e3
        rw [Nat.zero_add, e5]; exact hu
section
variable {P : Program} {env : Env} {os : List AO} {d : Tmp} {ty : TypeId} {pos : String} {af : Array Edge} {l rest : List Oper} {K : APost}
theorem w_bslr4 {t e : TypeId} {bytes : Nat} [TSlice P t e] [TElem P e (.slice none 0 0) bytes] {x1 x2 x3 x4 : Operand} {k1 k2 k3 k4 m : Nat} {t1 t2 t3 t4 : TypeId} {y1 y2 y3 y4 : List Int}
    (h1 : evo env x1 = some (.own k1)) (h2 : evo env x2 = some (.own k2)) (h3 : evo env x3 = some (.own k3)) (h4 : evo env x4 = some (.own k4)) (o1 : os[k1]? = some (.sli t1 y1)) (o2 : os[k2]? = some (.sli t2 y2)) (o3 : os[k3]? = some (.sli t3 y3)) (o4 : os[k4]? = some (.sli t4 y4)) (hm : os.length = m)
    (h' : AOps P .seq l rest K (env.up d (.own m)) (os ++ [.slr e [.own k1, .own k2, .own k3, .own k4]])) : AOps P .seq l (⟨some d, .buildSlice t 4 #[(0, x1), (1, x2), (2, x3), (3, x4)], ty, pos, af, none⟩ :: rest) K env os :=
  AOps.lo (hm ▸ l_bslr4 (ev_of h1) (ev_of h2) (ev_of h3) (ev_of h4) o1 o2 o3 o4) h'
end
end Go.Proofs.Ytkcbihmpjkkccaa
/-
  The law of torus polynomials. No condition.
-/
namespace Go.Proofs.Ytkcbihmpjkkccaa
open Go Go.RowKit
attribute [local irreducible] AWp AOps ResIs Ret1 QOp LOp COp AFnV AFn Imms LeE LeO
set_option maxHeartbeats 1000000
set_option linter.unusedSimpArgs false
set_option linter.unusedVariables false

set_option maxHeartbeats 16000000 in
theorem lawTorusFn_c (bs : List Int) (hbs : ∀ x ∈ bs, 0 ≤ x ∧ x ≤ 255) : AFnV Try.prog 3 [.ro (byR bs)] (.bool true) := by
  have hb0 : ∀ i, 0 ≤ geti bs i ∧ geti bs i ≤ 255 := fun i => by
    unfold geti
    rw [List.getD_eq_getElem?_getD]
    cases h : bs[i.toNat]? with
    | none => simp
    | some x => exact hbs x (List.mem_of_getElem? h)
  have hbig := big_c bs
  (refine AFnV.start Try.func3 Try.ntmps3 rfl (by kernel_rfl) fun hk => ?_; simp only [Env.start, enumF, List.length_cons, List.length_nil, Nat.reduceAdd, Nat.reduceSub, List.cons_append, List.nil_append])
  by_cases hl : (4096 : Int) < bs.length
  · rw [decide_eq_true hl] at hbig
    repeat' (first | (apply AOps.nil; try simp only [List.nil_append, List.cons_append, List.set_cons_zero, List.set_cons_succ, List.length_cons, List.length_nil, Nat.reduceAdd, AV.sh, AV.sh1, AV.sh0, AO.sh, List.map_cons, List.map_nil, Nat.zero_add, Nat.add_zero, setAll]) | (apply w_move; exact rfl; exact rfl) | (apply w_assign; exact rfl; exact rfl) | apply AWp.seq | apply AWp.region | (apply AWp.condT; exact rfl) | apply AWp.ret | (apply w_call (hbig); exact rfl; exact rfl; focus ((repeat (first | exact im_nil | refine im_cons rfl (.ro _) ?_)); done)))
    all_goals exact .bool Try.results3 rfl rfl
  rw [decide_eq_false hl] at hbig
  have hd := drawTorus_c bs (by omega) hb0
  repeat' (first | (apply AOps.nil; try simp only [List.nil_append, List.cons_append, List.set_cons_zero, List.set_cons_succ, List.length_cons, List.length_nil, Nat.reduceAdd, AV.sh, AV.sh1, AV.sh0, AO.sh, List.map_cons, List.map_nil, Nat.zero_add, Nat.add_zero, setAll]) | (apply w_move; exact rfl; exact rfl) | (apply w_assign; exact rfl; exact rfl) | apply AWp.seq | apply AWp.region | (apply AWp.condF; exact rfl) | apply AWp.skip | ((apply w_extv); iterate 3 exact rfl) | (apply w_call (hbig); exact rfl; exact rfl; focus ((repeat (first | exact im_nil | refine im_cons rfl (.ro _) ?_)); done)) | (apply w_callm (hd); (focus ((repeat (first | exact im_nil | refine im_cons rfl (.ro _) ?_)); done)); rintro r os0 ⟨p, q, rfl, hp, hq, rfl⟩; try simp only [List.nil_append, List.cons_append, List.set_cons_zero, List.set_cons_succ, List.length_cons, List.length_nil, Nat.reduceAdd, AV.sh, AV.sh1, AV.sh0, AO.sh, List.map_cons, List.map_nil, Nat.zero_add, Nat.add_zero, setAll]))
  have hi := implTorus_c p q
  have hs := specTorus_c p q
  have hll := tpV_len p q
  have hlk := likeInts_t (tpV p q) (by omega)
  by_cases hE : tpE p q = 0
  · have hr : (1 ≤ p ∧ p ≤ 40) ∧ (1 ≤ q ∧ q ≤ 40) ∧ Int.gcd p q = 1 := by
      unfold tpE at hE
      split at hE
      · split at hE
        · rename_i h1 h2; exact ⟨by omega, by omega, h2⟩
        · cases hE
      · cases hE
    obtain ⟨r1, r2, r3⟩ := hr
    have hcop : Nat.Coprime p q := r3
    have hV : tab (p * (q - 1) + 1 - q + 1) (To p q) = tpV p q := by
      unfold tpV
      rw [if_pos ⟨by omega, by omega, r3⟩, Int.toNat_natCast, Int.toNat_natCast]
    have hbp := (binomialProduct_c p q r1 r2 hcop).iss
    rw [hV] at hbp
    have hmul : 0 ≤ (p : Int) * q ∧ (p : Int) * q ≤ 1600 := by
      rw [← Int.natCast_mul]
      have : p * q ≤ 40 * 40 := Nat.mul_le_mul r1.2 r2.2
      omega
    rw [hE] at hi hs
    have hsm : p < 2 ∨ q < 2 → tpV p q = [1] := by
      rintro (h | h)
      · have : p = 1 := by omega
        subst this; exact tpV_one q r2
      · have : q = 1 := by omega
        subst this; rw [tpV_comm p 1 r1.1 (by omega)]; exact tpV_one p r1
    have hpb1 : 2 ≤ p → 2 ≤ q → p < q → AFn Try.prog 10 [.agg [.ints [(p : Int), (q : Int)]]] (IsIC 2 (tpV p q) 0) := fun h1 h2 h3 => by
      have h := pb_pair h1 h3 (by omega) (by omega) hcop
      have h4 := implPolynomialOfBranch_c [(p : Int), (q : Int)]
      rw [h.1, h.2] at h4; exact h4
    have hpb2 : 2 ≤ p → 2 ≤ q → q < p → AFn Try.prog 10 [.agg [.ints [(q : Int), (p : Int)]]] (IsIC 2 (tpV p q) 0) := fun h1 h2 h3 => by
      have h := pb_pair h2 h3 (by omega) (by omega) hcop.symm
      have h4 := implPolynomialOfBranch_c [(q : Int), (p : Int)]
      rw [h.1, h.2, tpV_comm q p r2.1 r1.1] at h4; exact h4
    have hne : p = q → p < 2 := fun h => by
      subst h
      have : p = 1 := by have := hcop; rwa [Nat.coprime_self] at this
      omega
    generalize tpV p q = V at *
    by_cases hgt : (q : Int) < p
    · by_cases hlt : (q : Int) < 2
      · have hv1 := hsm (by omega)
        subst hv1
        repeat' (first | (apply AOps.nil; try simp only [List.nil_append, List.cons_append, List.set_cons_zero, List.set_cons_succ, List.length_cons, List.length_nil, Nat.reduceAdd, AV.sh, AV.sh1, AV.sh0, AO.sh, List.map_cons, List.map_nil, Nat.zero_add, Nat.add_zero, setAll]) | ((apply AOps.splitP; exact rfl; exact rfl) <;> intro h) | (apply w_move; exact rfl; exact rfl) | (apply w_assign; exact rfl; exact rfl) | apply AWp.seq | apply AWp.region | ((apply AWp.condP; exact rfl) <;> intro h) | (apply AWp.condT; exact rfl) | (apply AWp.condF; exact rfl) | apply AWp.ret | apply AWp.skip | (apply w_skip; exact rfl) | (apply w_pickT; exact rfl; exact rfl; exact rfl) | (apply w_pickF; exact rfl; exact rfl; exact rfl) | (apply w_len; exact rfl; exact rfl; first | exact .ints _ | exact .intss _ | exact .sli rfl | exact .sls rfl | exact .slr rfl | exact .orow rfl | exact .nil) | (apply w_bslr4; exact rfl; exact rfl; exact rfl; exact rfl; exact rfl; exact rfl; exact rfl; exact rfl; exact rfl; try simp only [List.nil_append, List.cons_append, List.set_cons_zero, List.set_cons_succ, List.length_cons, List.length_nil, Nat.reduceAdd, AV.sh, AV.sh1, AV.sh0, AO.sh, List.map_cons, List.map_nil, Nat.zero_add, Nat.add_zero, setAll]) | ((apply w_not); iterate 2 exact rfl) | ((first | apply w_ldby | apply w_lss | apply w_gtr | apply w_eql | apply w_neq | apply w_mul | apply w_idx | apply w_extv | apply w_bs2); iterate 3 exact rfl) | (apply w_callm (hi); (focus ((repeat (first | exact im_nil | refine im_cons rfl (.val _) ?_)); done)); rintro r os0 ⟨rfl, rfl⟩; try simp only [List.nil_append, List.cons_append, List.set_cons_zero, List.set_cons_succ, List.length_cons, List.length_nil, Nat.reduceAdd, AV.sh, AV.sh1, AV.sh0, AO.sh, List.map_cons, List.map_nil, Nat.zero_add, Nat.add_zero, setAll]) | (apply w_callm (hs); (focus ((repeat (first | exact im_nil | refine im_cons rfl (.val _) ?_)); done)); rintro r os0 ⟨rfl, rfl⟩; try simp only [List.nil_append, List.cons_append, List.set_cons_zero, List.set_cons_succ, List.length_cons, List.length_nil, Nat.reduceAdd, AV.sh, AV.sh1, AV.sh0, AO.sh, List.map_cons, List.map_nil, Nat.zero_add, Nat.add_zero, setAll]) | (apply w_call (hlk); exact rfl; exact rfl; focus ((repeat (first | exact im_nil | refine im_cons rfl (.sli rfl) ?_)); done)) | (apply w_callm (hbp); (focus ((repeat (first | exact im_nil | refine im_cons rfl (.sem _ (reads_slr4 rfl rfl rfl rfl rfl)) ?_)); done)); rintro r os0 ⟨rfl, rfl⟩; try simp only [List.nil_append, List.cons_append, List.set_cons_zero, List.set_cons_succ, List.length_cons, List.length_nil, Nat.reduceAdd, AV.sh, AV.sh1, AV.sh0, AO.sh, List.map_cons, List.map_nil, Nat.zero_add, Nat.add_zero, setAll]) | omega | ((first | apply w_idxs | apply w_lds | apply w_ext); iterate 3 exact rfl) | (apply w_idxo; exact rfl; exact rfl; (exact .sli rfl); exact rfl) | (apply w_ldo; iterate 4 exact rfl) | (apply inI_of <;> omega))
        all_goals try (exfalso; omega)
        all_goals first | (exfalso; exact absurd (rfl : (([1] : List Int).length : Int) = 1) (by assumption)) | exact .bool Try.results3 rfl rfl | exact .bool Try.results3 rfl (by decide) | exact .bool Try.results3 rfl (by simp; done)
      · have hpb := hpb2 (by omega) (by omega) (by omega)
        repeat' (first | (apply AOps.nil; try simp only [List.nil_append, List.cons_append, List.set_cons_zero, List.set_cons_succ, List.length_cons, List.length_nil, Nat.reduceAdd, AV.sh, AV.sh1, AV.sh0, AO.sh, List.map_cons, List.map_nil, Nat.zero_add, Nat.add_zero, setAll]) | ((apply AOps.splitP; exact rfl; exact rfl) <;> intro h) | (apply w_move; exact rfl; exact rfl) | (apply w_assign; exact rfl; exact rfl) | apply AWp.seq | apply AWp.region | ((apply AWp.condP; exact rfl) <;> intro h) | (apply AWp.condT; exact rfl) | (apply AWp.condF; exact rfl) | apply AWp.ret | apply AWp.skip | (apply w_skip; exact rfl) | (apply w_pickT; exact rfl; exact rfl; exact rfl) | (apply w_pickF; exact rfl; exact rfl; exact rfl) | (apply w_len; exact rfl; exact rfl; first | exact .ints _ | exact .intss _ | exact .sli rfl | exact .sls rfl | exact .slr rfl | exact .orow rfl | exact .nil) | (apply w_bslr4; exact rfl; exact rfl; exact rfl; exact rfl; exact rfl; exact rfl; exact rfl; exact rfl; exact rfl; try simp only [List.nil_append, List.cons_append, List.set_cons_zero, List.set_cons_succ, List.length_cons, List.length_nil, Nat.reduceAdd, AV.sh, AV.sh1, AV.sh0, AO.sh, List.map_cons, List.map_nil, Nat.zero_add, Nat.add_zero, setAll]) | ((apply w_not); iterate 2 exact rfl) | ((first | apply w_lss | apply w_gtr | apply w_eql | apply w_neq | apply w_mul | apply w_idx | apply w_extv | apply w_bs2); iterate 3 exact rfl) | (apply w_callm (hi); (focus ((repeat (first | exact im_nil | refine im_cons rfl (.val _) ?_)); done)); rintro r os0 ⟨rfl, rfl⟩; try simp only [List.nil_append, List.cons_append, List.set_cons_zero, List.set_cons_succ, List.length_cons, List.length_nil, Nat.reduceAdd, AV.sh, AV.sh1, AV.sh0, AO.sh, List.map_cons, List.map_nil, Nat.zero_add, Nat.add_zero, setAll]) | (apply w_callm (hs); (focus ((repeat (first | exact im_nil | refine im_cons rfl (.val _) ?_)); done)); rintro r os0 ⟨rfl, rfl⟩; try simp only [List.nil_append, List.cons_append, List.set_cons_zero, List.set_cons_succ, List.length_cons, List.length_nil, Nat.reduceAdd, AV.sh, AV.sh1, AV.sh0, AO.sh, List.map_cons, List.map_nil, Nat.zero_add, Nat.add_zero, setAll]) | (apply w_call (hlk); exact rfl; exact rfl; focus ((repeat (first | exact im_nil | refine im_cons rfl (.sli rfl) ?_)); done)) | (apply w_callm (hbp); (focus ((repeat (first | exact im_nil | refine im_cons rfl (.sem _ (reads_slr4 rfl rfl rfl rfl rfl)) ?_)); done)); rintro r os0 ⟨rfl, rfl⟩; try simp only [List.nil_append, List.cons_append, List.set_cons_zero, List.set_cons_succ, List.length_cons, List.length_nil, Nat.reduceAdd, AV.sh, AV.sh1, AV.sh0, AO.sh, List.map_cons, List.map_nil, Nat.zero_add, Nat.add_zero, setAll]) | (apply w_callm (hpb); (focus ((repeat (first | exact im_nil | refine im_cons rfl (im_agg1 (.sli rfl)) ?_)); done)); rintro r os0 ⟨rfl, rfl⟩; try simp only [List.nil_append, List.cons_append, List.set_cons_zero, List.set_cons_succ, List.length_cons, List.length_nil, Nat.reduceAdd, AV.sh, AV.sh1, AV.sh0, AO.sh, List.map_cons, List.map_nil, Nat.zero_add, Nat.add_zero, setAll]) | omega | ((apply w_ext); iterate 3 exact rfl) | (apply w_build1; exact rfl; exact rfl; (exact one_own rfl True.intro)) | (apply inI_of <;> omega))
        all_goals try (exfalso; omega)
        all_goals first | (exfalso; exact absurd (rfl : (([1] : List Int).length : Int) = 1) (by assumption)) | exact .bool Try.results3 rfl rfl | exact .bool Try.results3 rfl (by decide) | exact .bool Try.results3 rfl (by simp; done)
    · by_cases hlt : (p : Int) < 2
      · have hv1 := hsm (by omega)
        subst hv1
        repeat' (first | (apply AOps.nil; try simp only [List.nil_append, List.cons_append, List.set_cons_zero, List.set_cons_succ, List.length_cons, List.length_nil, Nat.reduceAdd, AV.sh, AV.sh1, AV.sh0, AO.sh, List.map_cons, List.map_nil, Nat.zero_add, Nat.add_zero, setAll]) | ((apply AOps.splitP; exact rfl; exact rfl) <;> intro h) | (apply w_move; exact rfl; exact rfl) | (apply w_assign; exact rfl; exact rfl) | apply AWp.seq | apply AWp.region | ((apply AWp.condP; exact rfl) <;> intro h) | (apply AWp.condT; exact rfl) | (apply AWp.condF; exact rfl) | apply AWp.ret | apply AWp.skip | (apply w_skip; exact rfl) | (apply w_pickT; exact rfl; exact rfl; exact rfl) | (apply w_pickF; exact rfl; exact rfl; exact rfl) | (apply w_len; exact rfl; exact rfl; first | exact .ints _ | exact .intss _ | exact .sli rfl | exact .sls rfl | exact .slr rfl | exact .orow rfl | exact .nil) | (apply w_bslr4; exact rfl; exact rfl; exact rfl; exact rfl; exact rfl; exact rfl; exact rfl; exact rfl; exact rfl; try simp only [List.nil_append, List.cons_append, List.set_cons_zero, List.set_cons_succ, List.length_cons, List.length_nil, Nat.reduceAdd, AV.sh, AV.sh1, AV.sh0, AO.sh, List.map_cons, List.map_nil, Nat.zero_add, Nat.add_zero, setAll]) | ((apply w_not); iterate 2 exact rfl) | ((first | apply w_ldby | apply w_lss | apply w_gtr | apply w_eql | apply w_neq | apply w_mul | apply w_idx | apply w_extv | apply w_bs2); iterate 3 exact rfl) | (apply w_callm (hi); (focus ((repeat (first | exact im_nil | refine im_cons rfl (.val _) ?_)); done)); rintro r os0 ⟨rfl, rfl⟩; try simp only [List.nil_append, List.cons_append, List.set_cons_zero, List.set_cons_succ, List.length_cons, List.length_nil, Nat.reduceAdd, AV.sh, AV.sh1, AV.sh0, AO.sh, List.map_cons, List.map_nil, Nat.zero_add, Nat.add_zero, setAll]) | (apply w_callm (hs); (focus ((repeat (first | exact im_nil | refine im_cons rfl (.val _) ?_)); done)); rintro r os0 ⟨rfl, rfl⟩; try simp only [List.nil_append, List.cons_append, List.set_cons_zero, List.set_cons_succ, List.length_cons, List.length_nil, Nat.reduceAdd, AV.sh, AV.sh1, AV.sh0, AO.sh, List.map_cons, List.map_nil, Nat.zero_add, Nat.add_zero, setAll]) | (apply w_call (hlk); exact rfl; exact rfl; focus ((repeat (first | exact im_nil | refine im_cons rfl (.sli rfl) ?_)); done)) | (apply w_callm (hbp); (focus ((repeat (first | exact im_nil | refine im_cons rfl (.sem _ (reads_slr4 rfl rfl rfl rfl rfl)) ?_)); done)); rintro r os0 ⟨rfl, rfl⟩; try simp only [List.nil_append, List.cons_append, List.set_cons_zero, List.set_cons_succ, List.length_cons, List.length_nil, Nat.reduceAdd, AV.sh, AV.sh1, AV.sh0, AO.sh, List.map_cons, List.map_nil, Nat.zero_add, Nat.add_zero, setAll]) | omega | ((first | apply w_idxs | apply w_lds | apply w_ext); iterate 3 exact rfl) | (apply w_idxo; exact rfl; exact rfl; (exact .sli rfl); exact rfl) | (apply w_ldo; iterate 4 exact rfl) | (apply inI_of <;> omega))
        all_goals try (exfalso; omega)
        all_goals first | (exfalso; exact absurd (rfl : (([1] : List Int).length : Int) = 1) (by assumption)) | exact .bool Try.results3 rfl rfl | exact .bool Try.results3 rfl (by decide) | exact .bool Try.results3 rfl (by simp; done)
      · have hpb := hpb1 (by omega) (by omega) (by omega)
        repeat' (first | (apply AOps.nil; try simp only [List.nil_append, List.cons_append, List.set_cons_zero, List.set_cons_succ, List.length_cons, List.length_nil, Nat.reduceAdd, AV.sh, AV.sh1, AV.sh0, AO.sh, List.map_cons, List.map_nil, Nat.zero_add, Nat.add_zero, setAll]) | ((apply AOps.splitP; exact rfl; exact rfl) <;> intro h) | (apply w_move; exact rfl; exact rfl) | (apply w_assign; exact rfl; exact rfl) | apply AWp.seq | apply AWp.region | ((apply AWp.condP; exact rfl) <;> intro h) | (apply AWp.condT; exact rfl) | (apply AWp.condF; exact rfl) | apply AWp.ret | apply AWp.skip | (apply w_skip; exact rfl) | (apply w_pickT; exact rfl; exact rfl; exact rfl) | (apply w_pickF; exact rfl; exact rfl; exact rfl) | (apply w_len; exact rfl; exact rfl; first | exact .ints _ | exact .intss _ | exact .sli rfl | exact .sls rfl | exact .slr rfl | exact .orow rfl | exact .nil) | (apply w_bslr4; exact rfl; exact rfl; exact rfl; exact rfl; exact rfl; exact rfl; exact rfl; exact rfl; exact rfl; try simp only [List.nil_append, List.cons_append, List.set_cons_zero, List.set_cons_succ, List.length_cons, List.length_nil, Nat.reduceAdd, AV.sh, AV.sh1, AV.sh0, AO.sh, List.map_cons, List.map_nil, Nat.zero_add, Nat.add_zero, setAll]) | ((apply w_not); iterate 2 exact rfl) | ((first | apply w_lss | apply w_gtr | apply w_eql | apply w_neq | apply w_mul | apply w_idx | apply w_extv | apply w_bs2); iterate 3 exact rfl) | (apply w_callm (hi); (focus ((repeat (first | exact im_nil | refine im_cons rfl (.val _) ?_)); done)); rintro r os0 ⟨rfl, rfl⟩; try simp only [List.nil_append, List.cons_append, List.set_cons_zero, List.set_cons_succ, List.length_cons, List.length_nil, Nat.reduceAdd, AV.sh, AV.sh1, AV.sh0, AO.sh, List.map_cons, List.map_nil, Nat.zero_add, Nat.add_zero, setAll]) | (apply w_callm (hs); (focus ((repeat (first | exact im_nil | refine im_cons rfl (.val _) ?_)); done)); rintro r os0 ⟨rfl, rfl⟩; try simp only [List.nil_append, List.cons_append, List.set_cons_zero, List.set_cons_succ, List.length_cons, List.length_nil, Nat.reduceAdd, AV.sh, AV.sh1, AV.sh0, AO.sh, List.map_cons, List.map_nil, Nat.zero_add, Nat.add_zero, setAll]) | (apply w_call (hlk); exact rfl; exact rfl; focus ((repeat (first | exact im_nil | refine im_cons rfl (.sli rfl) ?_)); done)) | (apply w_callm (hbp); (focus ((repeat (first | exact im_nil | refine im_cons rfl (.sem _ (reads_slr4 rfl rfl rfl rfl rfl)) ?_)); done)); rintro r os0 ⟨rfl, rfl⟩; try simp only [List.nil_append, List.cons_append, List.set_cons_zero, List.set_cons_succ, List.length_cons, List.length_nil, Nat.reduceAdd, AV.sh, AV.sh1, AV.sh0, AO.sh, List.map_cons, List.map_nil, Nat.zero_add, Nat.add_zero, setAll]) | (apply w_callm (hpb); (focus ((repeat (first | exact im_nil | refine im_cons rfl (im_agg1 (.sli rfl)) ?_)); done)); rintro r os0 ⟨rfl, rfl⟩; try simp only [List.nil_append, List.cons_append, List.set_cons_zero, List.set_cons_succ, List.length_cons, List.length_nil, Nat.reduceAdd, AV.sh, AV.sh1, AV.sh0, AO.sh, List.map_cons, List.map_nil, Nat.zero_add, Nat.add_zero, setAll]) | omega | ((apply w_ext); iterate 3 exact rfl) | (apply w_build1; exact rfl; exact rfl; (exact one_own rfl True.intro)) | (apply inI_of <;> omega))
        all_goals try (exfalso; omega)
        all_goals first | (exfalso; exact absurd (rfl : (([1] : List Int).length : Int) = 1) (by assumption)) | exact .bool Try.results3 rfl rfl | exact .bool Try.results3 rfl (by decide) | exact .bool Try.results3 rfl (by simp; done)
  · have hV : tpV p q = [] := by
      unfold tpV
      rw [if_neg]
      rintro ⟨h1, h2, h3⟩
      apply hE
      unfold tpE
      rw [if_pos ⟨h1, h2⟩, if_pos h3]
    rw [hV] at hi hs hlk
    generalize tpE p q = E at *
    repeat' (first | (apply AOps.nil; try simp only [List.nil_append, List.cons_append, List.set_cons_zero, List.set_cons_succ, List.length_cons, List.length_nil, Nat.reduceAdd, AV.sh, AV.sh1, AV.sh0, AO.sh, List.map_cons, List.map_nil, Nat.zero_add, Nat.add_zero, setAll]) | ((apply AOps.splitP; exact rfl; exact rfl) <;> intro h) | (apply w_move; exact rfl; exact rfl) | (apply w_assign; exact rfl; exact rfl) | apply AWp.seq | apply AWp.region | ((apply AWp.condP; exact rfl) <;> intro h) | (apply AWp.condT; exact rfl) | (apply AWp.condF; exact rfl) | apply AWp.ret | apply AWp.skip | (apply w_skip; exact rfl) | (apply w_pickT; exact rfl; exact rfl; exact rfl) | (apply w_pickF; exact rfl; exact rfl; exact rfl) | (apply w_len; exact rfl; exact rfl; first | exact .ints _ | exact .intss _ | exact .sli rfl | exact .sls rfl | exact .slr rfl | exact .orow rfl | exact .nil) | ((apply w_not); iterate 2 exact rfl) | ((first | apply w_eql | apply w_neq | apply w_mul | apply w_extv | apply w_bs2); iterate 3 exact rfl) | (apply w_callm (hi); (focus ((repeat (first | exact im_nil | refine im_cons rfl (.val _) ?_)); done)); rintro r os0 ⟨rfl, rfl⟩; try simp only [List.nil_append, List.cons_append, List.set_cons_zero, List.set_cons_succ, List.length_cons, List.length_nil, Nat.reduceAdd, AV.sh, AV.sh1, AV.sh0, AO.sh, List.map_cons, List.map_nil, Nat.zero_add, Nat.add_zero, setAll]) | (apply w_callm (hs); (focus ((repeat (first | exact im_nil | refine im_cons rfl (.val _) ?_)); done)); rintro r os0 ⟨rfl, rfl⟩; try simp only [List.nil_append, List.cons_append, List.set_cons_zero, List.set_cons_succ, List.length_cons, List.length_nil, Nat.reduceAdd, AV.sh, AV.sh1, AV.sh0, AO.sh, List.map_cons, List.map_nil, Nat.zero_add, Nat.add_zero, setAll]) | (apply w_call (hlk); exact rfl; exact rfl; focus ((repeat (first | exact im_nil | refine im_cons rfl (.sli rfl) ?_)); done)) | omega | ((apply w_ext); iterate 3 exact rfl))
    all_goals try (exfalso; omega)
    all_goals first | (exfalso; exact absurd (rfl : (([1] : List Int).length : Int) = 1) (by assumption)) | exact .bool Try.results3 rfl rfl | exact .bool Try.results3 rfl (by decide) | exact .bool Try.results3 rfl (by simp; done)
end Go.Proofs.Ytkcbihmpjkkccaa
