/-
  Parts of the proof, one behind the other: contracts of functions and plain laws. No condition.
-/
import Derived.OrdersHeld
import Derived.WalkKit
import Derived.Deep.LoopGhost
import Derived.Deep.Draws
import Derived.Lib.Walk
import Derived.Lib.SliceRun
import Derived.Lib.JoinLaws
import Derived.Lib.AppendZeros
import Derived.Lib.Overlaps
import Derived.Laws.Externs
import Derived.Laws.IdiomCopy
import Derived.Laws.AppendOwn
import Derived.Maps.AppendAt
import Derived.Shelf.RegionOpenPlain
import Derived.Shelf.Spec.SlicesInsert
import Derived.Shelf.Spec.SlicesInsertGrow
import Derived.Lib.LazyBuf
import Derived.Deep.Upon
import Derived.Test.YtdkociacaagcoaaPt3PolynomialOf
/-
  The cyclotomic polynomial in the reference, whole. No condition but bounds.
-/
namespace Go.Proofs.Ytdkociacaagcoaa
open Go Go.RowKit
open Cy (prm gpf Upto mob tot Phi Ser Pol)
attribute [local irreducible] AWp AOps ResIs Ret1 QOp LOp COp AFnV AFn Imms LeE LeO
set_option maxHeartbeats 1000000
set_option linter.unusedSimpArgs false
set_option linter.unusedVariables false

/-- The reference's state: m is done, n is left. -/
structure RcI (n0 n m p : Nat) : Prop where
  pr : m * n = n0
  n1 : 1 ≤ n
  m1 : 1 ≤ m
  p2 : 2 ≤ p
  lo : ∀ q, prm q → q ∣ n → p ≤ q
/-- The first time or not. -/
def Fst (b : Bool) (m p : Nat) : Prop := if b = true then ∀ q, prm q → q ∣ m → q < p else p ∣ m ∧ Upto p m
theorem phi_step {m p : Nat} (hp : prm p) (m1 : 1 ≤ m) (hu : Upto p m) :
    (p ∣ m → sprI (phiW m) p (tot m + 1) = phiW (m * p)) ∧ (¬ p ∣ m → Cy.mul (Phi (m * p)) (Phi m) = Cy.sub p (Phi m) ∧ tot (m * p) = tot m * p - tot m ∧ Pol (tot (m * p)) (Phi (m * p))) := by
  have hp2 := hp.1
  obtain ⟨e1, _⟩ := Cy.e_of hp m1 hu (Cy.ok m m1)
  have ht := Cy.tot_mul hp m1 hu
  constructor
  · intro h
    rw [if_pos h, Cy.mul_one] at e1
    rw [if_pos h] at ht
    unfold phiW
    rw [sprI_all _ (by omega), e1, ht, Nat.mul_comm p]
  · intro h
    rw [if_neg h] at e1 ht
    refine ⟨e1, ?_, (Cy.phi_deg (m * p) (Nat.mul_pos m1 (by omega))).1⟩
    rw [ht, Nat.sub_mul, Nat.one_mul, Nat.mul_comm]

set_option maxHeartbeats 16000000 in
theorem l02Cyclotomic_c (n0 : Nat) (h1 : 1 ≤ n0) (h2 : n0 ≤ 1000000) : AFn Try.prog 31 [.i n0] (IsInts 2 (phiW n0)) := by
  have hone : [(-1 : Int), 1] = phiW 1 := phiW_one.symm
  (refine AFn.start Try.func31 Try.ntmps31 rfl (by kernel_rfl) fun hk => ?_; simp only [Env.start, enumF, List.length_cons, List.length_nil, Nat.reduceAdd, Nat.reduceSub, List.cons_append, List.nil_append])
  repeat' (first | (apply AOps.nil; try simp only [List.nil_append, List.cons_append, List.set_cons_zero, List.set_cons_succ, List.length_cons, List.length_nil, Nat.reduceAdd, AV.sh, AV.sh1, AV.sh0, AO.sh, List.map_cons, List.map_nil, Nat.zero_add, Nat.add_zero, setAll]) | (apply w_assign; exact rfl; exact rfl) | apply AWp.seq | apply AWp.region | apply AWp.block | ((apply w_bs2); iterate 3 exact rfl) | (apply inI_of <;> omega))
  refine AWp.loop (ι := Nat × Nat × Nat) (fun s => ⟨31, [(0, .i s.1), (3, .own 0), (4, .i s.2.2)]⟩) (fun s => [.sli 2 (phiW s.2.1)]) (fun s => RcI n0 s.1 s.2.1 s.2.2 ∧ ∀ q, prm q → q ∣ s.2.1 → q < s.2.2) (fun s => s.1 + 1 - s.2.2) (n0, 1, 2) ⟨⟨by simp, h1, by simp, by simp, fun q hq _ => hq.1⟩, fun q hq hd => by have := Nat.le_of_dvd (by simp) hd; have := hq.1; simp only at *; omega⟩ ⟨lee rfl (by (repeat (first | exact le_nil | refine le_eq rfl rfl ?_))), by (repeat (first | exact lo_nil | refine lo_eq (congrArg (AO.sli _) (hone)) ?_)), rfl, rfl⟩ ?_
  rintro ⟨n, m, p⟩ ⟨hI, hlt⟩
  simp only at hI hlt
  have hn1 := hI.n1
  have hm1 := hI.m1
  have hp2 := hI.p2
  have hnn : n ≤ n0 := by rw [← hI.pr]; exact Nat.le_mul_of_pos_left _ hm1
  by_cases hn : 1 < n
  · have hpn : p ≤ n := by
      obtain ⟨q, hq, hd⟩ := Cy.prm_ex n hn
      have := hI.lo q hq hd
      have := Nat.le_of_dvd (by omega) hd
      omega
    repeat' (first | (apply AOps.nil; try simp only [List.nil_append, List.cons_append, List.set_cons_zero, List.set_cons_succ, List.length_cons, List.length_nil, Nat.reduceAdd, AV.sh, AV.sh1, AV.sh0, AO.sh, List.map_cons, List.map_nil, Nat.zero_add, Nat.add_zero, setAll]) | (apply w_move; exact rfl; exact rfl) | (apply w_assign; exact rfl; exact rfl) | apply AWp.seq | apply AWp.region | ((apply AWp.condP; exact rfl) <;> intro h) | apply AWp.block | apply AWp.ret | apply AWp.exit | apply AWp.skip | omega | ((apply w_gtr); iterate 3 exact rfl))
    refine AWp.loopS (ι := Nat × Nat × Bool) (fun s => ⟨31, [(0, .i s.1), (3, .own 0), (4, .i p), (5, .b s.2.2)]⟩) (fun s => [.sli 2 (phiW s.2.1)]) (fun s => RcI n0 s.1 s.2.1 p ∧ Fst s.2.2 s.2.1 p ∧ s.1 ≤ n) (fun s => s.1) (n, m, true) ⟨hI, by unfold Fst; rw [if_pos rfl]; exact hlt, Nat.le_refl _⟩ ⟨lee rfl (by (repeat (first | exact le_nil | refine le_eq rfl rfl ?_))), by (repeat (first | exact lo_nil | refine lo_eq rfl ?_)), rfl, rfl⟩ ?_
    rintro ⟨n', m', b⟩ ⟨hI', hF, hle⟩
    simp only at hI' hF hle
    have hn1' := hI'.n1
    have hm1' := hI'.m1
    have hc1 : ((n' % p : Nat) : Int) = (n' : Int) % (p : Int) := Int.natCast_emod n' p
    have hc2 : ((n' / p : Nat) : Int) = (n' : Int) / (p : Int) := Int.natCast_ediv n' p
    have hlt' : n' / p < n' := Nat.div_lt_self (by omega) (by omega)
    have hq0 : 0 ≤ (n' : Int) / (p : Int) ∧ (n' : Int) / (p : Int) ≤ n' := ⟨Int.ediv_nonneg (by omega) (by omega), Int.ediv_le_self _ (by omega)⟩
    by_cases hd : n' % p = 0
    · have hdv := Nat.dvd_of_mod_eq_zero hd
      have hp : prm p := least_prm hp2 hI'.lo hdv
      have hu : Upto p m' := by
        unfold Fst at hF
        split at hF
        · exact fun q hq hqd => by have := hF q hq hqd; omega
        · exact hF.2
      have hq1 : 1 ≤ n' / p := Nat.div_pos (Nat.le_of_dvd (by omega) hdv) (by omega)
      have hnp : n' / p * p = n' := Nat.div_mul_cancel hdv
      have tp := tot_pos (n := m') (by omega)
      have hmp : m' * p ≤ n0 := by
        rw [← hI'.pr, ← hnp, Nat.mul_comm (n' / p), ← Nat.mul_assoc]
        exact Nat.le_mul_of_pos_right _ hq1
      have htp : tot m' * p ≤ 1000000 := by have := Nat.mul_le_mul_right p tp.2; omega
      have hmle : m' ≤ 1000000 := by have := Nat.le_mul_of_pos_right m' (show 0 < p by omega); omega
      have lW : (phiW m').length = tot m' + 1 := tab_len _ _
      have hsp := l02Spread_c (phiW m') p (by omega) (by omega) (by rw [lW, Nat.add_sub_cancel]; omega) (by omega) (by omega) (fun x hx => by
        unfold phiW tab at hx
        obtain ⟨c, _, rfl⟩ := List.mem_map.1 hx
        exact wr_in _)
      rw [lW] at hsp
      have hIn : RcI n0 (n' / p) (m' * p) p := ⟨by rw [← hI'.pr, Nat.mul_assoc, Nat.mul_comm p, hnp], hq1, Nat.mul_pos hm1' (by omega), hp2, fun q hq hqd => hI'.lo q hq (Nat.dvd_trans hqd ⟨p, hnp.symm⟩)⟩
      have hFn : Fst false (m' * p) p := by
        unfold Fst
        rw [if_neg (by simp)]
        exact ⟨⟨m', Nat.mul_comm _ _⟩, fun q hq hqd => by
          rcases Cy.prm_mul hq hqd with k | k
          · exact hu q hq k
          · have := Cy.prm_dvd hq hp k; omega⟩
      obtain ⟨st1, st2⟩ := phi_step hp hm1' hu
      cases b with
      | true =>
        have hnd : ¬ p ∣ m' := fun h => by
          unfold Fst at hF
          rw [if_pos rfl] at hF
          have := hF p hp h
          omega
        obtain ⟨u1, u2, u3⟩ := st2 hnd
        rw [u2] at u3
        have hge : tot m' ≤ tot m' * p := Nat.le_mul_of_pos_right _ (by omega)
        have hph := Cy.phi_deg m' hm1'
        have hqt := l02Quotient_c (Phi (m' * p)) (Phi m') (Cy.sub p (Phi m')) (tot m' * p) (tot m') u1 hph.1 hph.2.1 u3 hge htp
        have hspr : sprI (phiW m') p (tot m' + 1) = tab (tot m' * p + 1) fun c => wr (Cy.sub p (Phi m') c) := by unfold phiW; exact sprI_all _ (by omega)
        rw [hspr] at hsp
        have hphW : phiW m' = tab (tot m' + 1) fun c => wr (Phi m' c) := rfl
        rw [← hphW] at hqt
        have hres : tab (tot m' * p - tot m' + 1) (fun c => wr (Phi (m' * p) c)) = phiW (m' * p) := by unfold phiW; rw [u2]
        rw [hres] at hqt
        repeat' (first | (apply AOps.nil; try simp only [List.nil_append, List.cons_append, List.set_cons_zero, List.set_cons_succ, List.length_cons, List.length_nil, Nat.reduceAdd, AV.sh, AV.sh1, AV.sh0, AO.sh, List.map_cons, List.map_nil, Nat.zero_add, Nat.add_zero, setAll]) | (apply w_move; exact rfl; exact rfl) | (apply w_assign; exact rfl; exact rfl) | apply AWp.seq | apply AWp.region | ((apply AWp.condP; exact rfl) <;> intro h) | (apply AWp.condT; exact rfl) | apply AWp.block | apply AWp.exit | apply AWp.skip | (apply w_callm (hsp); (focus ((repeat (first | exact im_nil | refine im_cons rfl (.val _) ?_ | refine im_cons rfl (.sli rfl) ?_)); done)); rintro r os0 ⟨rfl, rfl⟩; try simp only [List.nil_append, List.cons_append, List.set_cons_zero, List.set_cons_succ, List.length_cons, List.length_nil, Nat.reduceAdd, AV.sh, AV.sh1, AV.sh0, AO.sh, List.map_cons, List.map_nil, Nat.zero_add, Nat.add_zero, setAll]) | (apply w_callm (hqt); (focus ((repeat (first | exact im_nil | refine im_cons rfl (.sli rfl) ?_)); done)); rintro r os0 ⟨rfl, rfl⟩; try simp only [List.nil_append, List.cons_append, List.set_cons_zero, List.set_cons_succ, List.length_cons, List.length_nil, Nat.reduceAdd, AV.sh, AV.sh1, AV.sh0, AO.sh, List.map_cons, List.map_nil, Nat.zero_add, Nat.add_zero, setAll]) | omega | ((first | apply w_eql | apply w_extv); iterate 3 exact rfl) | ((apply w_ext); iterate 3 exact rfl) | (apply w_rem; exact rfl; exact rfl; exact rfl; (focus (omega; done)); (focus (omega; done))) | (apply w_quo; exact rfl; exact rfl; exact rfl; (focus (omega; done)); (focus (omega; done))) | (apply inI_of <;> omega))
        refine ⟨(n' / p, m' * p, false), ⟨hIn, hFn, by simp only; omega⟩, by simp only; omega, ?_⟩
        simp only [hc2]
        (apply Or.inr; refine ⟨[2], ⟨by decide, fun x hx => Nat.lt_of_lt_of_le ((by decide : ∀ x ∈ ([2] : List Nat), x < 3) x hx) (Nat.le_of_ble_eq_true rfl)⟩, lee rfl ?_, ?_, rfl, rfl⟩; (focus ((repeat (first | exact le_nil | refine le_eq rfl rfl ?_)); done)); (focus ((repeat (first | exact lo_nil | refine lo_eq rfl ?_)); done)))
      | false =>
        have hd2 : p ∣ m' := by
          unfold Fst at hF
          rw [if_neg (by simp)] at hF
          exact hF.1
        rw [st1 hd2] at hsp
        repeat' (first | (apply AOps.nil; try simp only [List.nil_append, List.cons_append, List.set_cons_zero, List.set_cons_succ, List.length_cons, List.length_nil, Nat.reduceAdd, AV.sh, AV.sh1, AV.sh0, AO.sh, List.map_cons, List.map_nil, Nat.zero_add, Nat.add_zero, setAll]) | (apply w_move; exact rfl; exact rfl) | (apply w_assign; exact rfl; exact rfl) | apply AWp.seq | apply AWp.region | ((apply AWp.condP; exact rfl) <;> intro h) | (apply AWp.condF; exact rfl) | apply AWp.block | apply AWp.exit | apply AWp.skip | (apply w_callm (hsp); (focus ((repeat (first | exact im_nil | refine im_cons rfl (.val _) ?_ | refine im_cons rfl (.sli rfl) ?_)); done)); rintro r os0 ⟨rfl, rfl⟩; try simp only [List.nil_append, List.cons_append, List.set_cons_zero, List.set_cons_succ, List.length_cons, List.length_nil, Nat.reduceAdd, AV.sh, AV.sh1, AV.sh0, AO.sh, List.map_cons, List.map_nil, Nat.zero_add, Nat.add_zero, setAll]) | omega | ((apply w_eql); iterate 3 exact rfl) | (apply w_rem; exact rfl; exact rfl; exact rfl; (focus (omega; done)); (focus (omega; done))) | (apply w_quo; exact rfl; exact rfl; exact rfl; (focus (omega; done)); (focus (omega; done))) | (apply inI_of <;> omega))
        refine ⟨(n' / p, m' * p, false), ⟨hIn, hFn, by simp only; omega⟩, by simp only; omega, ?_⟩
        simp only [hc2]
        (apply Or.inr; refine ⟨[1], ⟨by decide, fun x hx => Nat.lt_of_lt_of_le ((by decide : ∀ x ∈ ([1] : List Nat), x < 2) x hx) (Nat.le_of_ble_eq_true rfl)⟩, lee rfl ?_, ?_, rfl, rfl⟩; (focus ((repeat (first | exact le_nil | refine le_eq rfl rfl ?_)); done)); (focus ((repeat (first | exact lo_nil | refine lo_eq rfl ?_)); done)))
    · have hIx : RcI n0 n' m' (p + 1) := ⟨hI'.pr, hn1', hm1', by omega, fun q hq hqd => by
        have := hI'.lo q hq hqd
        have : q ≠ p := fun e => hd (by subst e; exact Nat.mod_eq_zero_of_dvd hqd)
        omega⟩
      have hFx : ∀ q, prm q → q ∣ m' → q < p + 1 := fun q hq hqd => by
        unfold Fst at hF
        split at hF
        · have := hF q hq hqd; omega
        · have := hF.2 q hq hqd; omega
      repeat' (first | (apply AOps.nil; try simp only [List.nil_append, List.cons_append, List.set_cons_zero, List.set_cons_succ, List.length_cons, List.length_nil, Nat.reduceAdd, AV.sh, AV.sh1, AV.sh0, AO.sh, List.map_cons, List.map_nil, Nat.zero_add, Nat.add_zero, setAll]) | (apply w_move; exact rfl; exact rfl) | (apply w_assign; exact rfl; exact rfl) | apply AWp.seq | apply AWp.region | ((apply AWp.condP; exact rfl) <;> intro h) | apply AWp.block | apply AWp.exit | apply AWp.skip | omega | ((first | apply w_eql | apply w_add); iterate 3 exact rfl) | (apply w_rem; exact rfl; exact rfl; exact rfl; (focus (omega; done)); (focus (omega; done))) | (apply inI_of <;> omega))
      exact ⟨(n', m', p + 1), ⟨hIx, hFx⟩, by simp only; omega, ⟨lee rfl (by (repeat (first | exact le_nil | refine le_eq rfl rfl ?_))), by (repeat (first | exact lo_nil | refine lo_eq rfl ?_)), rfl, rfl⟩⟩
  · have e : n = 1 := by omega
    subst e
    have e2 : m = n0 := by have := hI.pr; omega
    subst e2
    repeat' (first | (apply AOps.nil; try simp only [List.nil_append, List.cons_append, List.set_cons_zero, List.set_cons_succ, List.length_cons, List.length_nil, Nat.reduceAdd, AV.sh, AV.sh1, AV.sh0, AO.sh, List.map_cons, List.map_nil, Nat.zero_add, Nat.add_zero, setAll]) | (apply w_move; exact rfl; exact rfl) | (apply w_assign; exact rfl; exact rfl) | apply AWp.seq | apply AWp.region | ((apply AWp.condP; exact rfl) <;> intro h) | apply AWp.block | apply AWp.ret | apply AWp.exit | apply AWp.skip | omega | ((apply w_gtr); iterate 3 exact rfl))
    exact ⟨_, _, _, .v1 Try.results31 rfl, .sli rfl, rfl, rfl⟩
end Go.Proofs.Ytdkociacaagcoaa
/-
  Products of polynomials that may wrap, in the program and in the reference; what a polynomial is. No condition but bounds.
-/
namespace Go.Proofs.Ytdkociacaagcoaa
open Go Go.RowKit
open Cy (Ser Pol)
attribute [local irreducible] AWp AOps ResIs Ret1 QOp LOp COp AFnV AFn Imms LeE LeO
set_option maxHeartbeats 1000000
set_option linter.unusedSimpArgs false
set_option linter.unusedVariables false

def ser (l : List Int) : Ser := fun k => geti l (k : Nat)
theorem ser_out {l : List Int} {k : Nat} (h : l.length ≤ k) : ser l k = 0 := by simp [ser, geti, List.getElem?_eq_none h]
def pmO (p q : List Int) (k : Nat) : List Int := tab (p.length + q.length - 1) fun c => wr (Cy.mul (trF (ser q) k) (ser p) c)
def pmI (p q : List Int) (k i : Nat) : List Int := tab (p.length + q.length - 1) fun c => if k ≤ c ∧ c < k + i then wr (Cy.mul (trF (ser q) (k + 1)) (ser p) c) else wr (Cy.mul (trF (ser q) k) (ser p) c)
/-- The product, as int64 holds it. -/
def pm (p q : List Int) : List Int := tab (p.length + q.length - 1) fun c => wr (Cy.mul (ser q) (ser p) c)
theorem pmO_zero (p q : List Int) : List.replicate (p.length + q.length - 1) (0 : Int) = pmO p q 0 := by
  rw [tab_rep]; exact tab_congr fun c _ => by rw [trF_zero, Cy.zero_mul]; exact wr_zero.symm
theorem pmO_all (p q : List Int) : pmO p q q.length = pm p q := tab_congr fun c _ => by
  have : trF (ser q) q.length = ser q := by
    funext n
    unfold trF
    by_cases h : n < q.length
    · rw [if_pos h]
    · rw [if_neg h, ser_out (by omega)]
  rw [this]
theorem pmI_none (p q : List Int) (k : Nat) : pmO p q k = pmI p q k 0 := tab_congr fun c _ => by rw [if_neg (by omega)]
theorem pmI_all (p q : List Int) (k : Nat) : pmI p q k p.length = pmO p q (k + 1) := tab_congr fun c _ => by
  by_cases h : k ≤ c ∧ c < k + p.length
  · rw [if_pos h]
  · rw [if_neg h, trF_mul]
    by_cases h2 : c < k
    · rw [if_pos h2]; simp
    · rw [if_neg h2, ser_out (l := p) (by omega)]; simp
theorem pmO_skip (p q : List Int) (k : Nat) (h : geti q (k : Nat) = 0) : pmO p q (k + 1) = pmO p q k := tab_congr fun c _ => by
  have : ser q k = 0 := h
  rw [trF_mul, this]; simp
theorem pmI_step (p q : List Int) (k i : Nat) : (pmI p q k i).set (k + i) (wr (Cy.mul (trF (ser q) (k + 1)) (ser p) (k + i))) = pmI p q k (i + 1) := by
  unfold pmI
  rw [tab_set]
  refine tab_congr fun c _ => ?_
  by_cases e : c = k + i
  · subst e; rw [if_pos rfl, if_pos (by omega)]
  · rw [if_neg e]
    by_cases h : k ≤ c ∧ c < k + i
    · rw [if_pos h, if_pos (by omega)]
    · rw [if_neg h, if_neg (by omega)]
theorem pm_val (p q : List Int) (k i : Nat) : wr (wr (Cy.mul (trF (ser q) k) (ser p) (k + i)) + wr (geti p (i : Nat) * geti q (k : Nat))) = wr (Cy.mul (trF (ser q) (k + 1)) (ser p) (k + i)) := by
  rw [wr_add, trF_mul, if_neg (by omega), show k + i - k = i by omega]
  congr 1
  rw [Int.mul_comm]
  rfl

set_option maxHeartbeats 8000000 in
theorem plainProduct_c (p q : List Int) (hp : 1 ≤ p.length ∧ p.length ≤ 10000000) (hq : 1 ≤ q.length ∧ q.length ≤ 10000000) : AFn Try.prog 36 [.ints p, .ints q] (IsInts 2 (pm p q)) := by
  have hz : List.replicate ((p.length : Int) + (q.length : Int) - 1).toNat (0 : Int) = pmO p q 0 := by rw [← pmO_zero]; congr 1; omega
  (refine AFn.start Try.func36 Try.ntmps36 rfl (by kernel_rfl) fun hk => ?_; simp only [Env.start, enumF, List.length_cons, List.length_nil, Nat.reduceAdd, Nat.reduceSub, List.cons_append, List.nil_append])
  repeat' (first | (apply AOps.nil; try simp only [List.nil_append, List.cons_append, List.set_cons_zero, List.set_cons_succ, List.length_cons, List.length_nil, Nat.reduceAdd, AV.sh, AV.sh1, AV.sh0, AO.sh, List.map_cons, List.map_nil, Nat.zero_add, Nat.add_zero, setAll]) | (apply w_move; exact rfl; exact rfl) | (apply w_assign; exact rfl; exact rfl) | apply AWp.seq | apply AWp.region | apply AWp.block | (apply w_len; exact rfl; exact rfl; first | exact .ints _ | exact .intss _ | exact .sli rfl | exact .sls rfl | exact .slr rfl | exact .orow rfl | exact .nil) | omega | ((first | apply w_add | apply w_sub); iterate 3 exact rfl) | (apply w_mki; exact rfl; exact rfl; rotate_left 3; exact rfl; rotate_left 1) | (apply inI_of <;> omega))
  refine AWp.loop (ι := Nat) (fun k => ⟨47, [(0, .ints p), (5, .own 0), (17, .ints q), (18, .i q.length), (19, .i k)]⟩) (fun k => [.sli 2 (pmO p q k)]) (fun k => k ≤ q.length) (fun k => q.length - k) 0 (by omega) ⟨lee rfl (by (repeat (first | exact le_nil | refine le_eq rfl rfl ?_))), by (repeat (first | exact lo_nil | refine lo_eq (congrArg (AO.sli _) (hz)) ?_)), rfl, rfl⟩ ?_
  rintro k k0
  by_cases hk : k < q.length
  · by_cases h0 : geti q (k : Nat) = 0
    · have hs := pmO_skip p q k h0
      repeat' (first | (apply AOps.nil; try simp only [List.nil_append, List.cons_append, List.set_cons_zero, List.set_cons_succ, List.length_cons, List.length_nil, Nat.reduceAdd, AV.sh, AV.sh1, AV.sh0, AO.sh, List.map_cons, List.map_nil, Nat.zero_add, Nat.add_zero, setAll]) | (apply w_move; exact rfl; exact rfl) | (apply w_assign; exact rfl; exact rfl) | apply AWp.seq | apply AWp.region | ((apply AWp.condP; exact rfl) <;> intro h) | apply AWp.block | apply AWp.ret | apply AWp.exit | apply AWp.skip | (apply w_len; exact rfl; exact rfl; first | exact .ints _ | exact .intss _ | exact .sli rfl | exact .sls rfl | exact .slr rfl | exact .orow rfl | exact .nil) | omega | ((first | apply w_lss | apply w_eql | apply w_add | apply w_idx | apply w_ld); iterate 3 exact rfl) | (apply inI_of <;> omega))
      exact ⟨k + 1, by omega, by omega, ⟨lee rfl (by (repeat (first | exact le_nil | refine le_eq rfl rfl ?_))), by (repeat (first | exact lo_nil | refine lo_eq (congrArg (AO.sli _) (hs.symm)) ?_)), rfl, rfl⟩⟩
    · repeat' (first | (apply AOps.nil; try simp only [List.nil_append, List.cons_append, List.set_cons_zero, List.set_cons_succ, List.length_cons, List.length_nil, Nat.reduceAdd, AV.sh, AV.sh1, AV.sh0, AO.sh, List.map_cons, List.map_nil, Nat.zero_add, Nat.add_zero, setAll]) | (apply w_move; exact rfl; exact rfl) | (apply w_assign; exact rfl; exact rfl) | apply AWp.seq | apply AWp.region | ((apply AWp.condP; exact rfl) <;> intro h) | apply AWp.block | apply AWp.ret | apply AWp.exit | apply AWp.skip | (apply w_len; exact rfl; exact rfl; first | exact .ints _ | exact .intss _ | exact .sli rfl | exact .sls rfl | exact .slr rfl | exact .orow rfl | exact .nil) | omega | ((first | apply w_lss | apply w_eql | apply w_idx | apply w_ld); iterate 3 exact rfl))
      refine AWp.loop (ι := Nat) (fun i => ⟨47, [(0, .ints p), (5, .own 0), (6, .i k), (7, .i (geti q (k : Nat))), (17, .ints q), (18, .i q.length), (19, .i k), (26, .ints p), (27, .i p.length), (28, .i i)]⟩) (fun i => [.sli 2 (pmI p q k i)]) (fun i => i ≤ p.length) (fun i => p.length - i) 0 (by omega) ⟨lee rfl (by (repeat (first | exact le_nil | refine le_eq rfl rfl ?_))), by (repeat (first | exact lo_nil | refine lo_eq (congrArg (AO.sli _) (pmI_none p q k)) ?_)), rfl, rfl⟩ ?_
      rintro i i0
      have hl : (pmI p q k i).length = p.length + q.length - 1 := tab_len _ _
      by_cases hi : i < p.length
      · have r1 : geti (pmI p q k i) ((((i : Int) + (k : Int)).toNat : Nat) : Int) = wr (Cy.mul (trF (ser q) k) (ser p) (k + i)) := by
          rw [show ((i : Int) + (k : Int)).toNat = k + i by omega]
          unfold pmI
          rw [tab_get _ (by omega), if_neg (by omega)]
        have hs : (pmI p q k i).set ((i : Int) + (k : Int)).toNat (wr (geti (pmI p q k i) ((((i : Int) + (k : Int)).toNat : Nat) : Int) + wr (geti p (i : Nat) * geti q (k : Nat)))) = pmI p q k (i + 1) := by
          rw [r1, pm_val, show ((i : Int) + (k : Int)).toNat = k + i by omega]
          exact pmI_step p q k i
        repeat' (first | (apply AOps.nil; try simp only [List.nil_append, List.cons_append, List.set_cons_zero, List.set_cons_succ, List.length_cons, List.length_nil, Nat.reduceAdd, AV.sh, AV.sh1, AV.sh0, AO.sh, List.map_cons, List.map_nil, Nat.zero_add, Nat.add_zero, setAll]) | (apply w_move; exact rfl; exact rfl) | (apply w_assign; exact rfl; exact rfl) | apply AWp.seq | apply AWp.region | ((apply AWp.condP; exact rfl) <;> intro h) | apply AWp.block | apply AWp.exit | apply AWp.skip | ((apply w_mulw (d := 41)); exact rfl; exact rfl; exact rfl) | ((apply w_addw (d := 42)); exact rfl; exact rfl; exact rfl) | exact wr_in _ | omega | ((first | apply w_lss | apply w_add | apply w_idx | apply w_ld); iterate 3 exact rfl) | (apply w_idxo; exact rfl; exact rfl; (exact .sli rfl); exact rfl) | (apply w_ldo; iterate 4 exact rfl) | (apply w_sti; exact rfl; exact rfl; rotate_left 1; exact rfl; rotate_left 2) | (apply inI_of <;> omega))
        exact ⟨i + 1, by omega, by omega, ⟨lee rfl (by (repeat (first | exact le_nil | refine le_eq rfl rfl ?_))), by (repeat (first | exact lo_nil | refine lo_eq (congrArg (AO.sli _) (hs)) ?_)), rfl, rfl⟩⟩
      · have e : i = p.length := by omega
        subst e
        have hs := pmI_all p q k
        repeat' (first | (apply AOps.nil; try simp only [List.nil_append, List.cons_append, List.set_cons_zero, List.set_cons_succ, List.length_cons, List.length_nil, Nat.reduceAdd, AV.sh, AV.sh1, AV.sh0, AO.sh, List.map_cons, List.map_nil, Nat.zero_add, Nat.add_zero, setAll]) | (apply w_move; exact rfl; exact rfl) | apply AWp.seq | apply AWp.region | ((apply AWp.condP; exact rfl) <;> intro h) | apply AWp.block | apply AWp.exit | apply AWp.skip | omega | ((first | apply w_lss | apply w_add); iterate 3 exact rfl) | (apply inI_of <;> omega))
        exact ⟨k + 1, by omega, by omega, ⟨lee rfl (by (repeat (first | exact le_nil | refine le_eq rfl rfl ?_))), by (repeat (first | exact lo_nil | refine lo_eq (congrArg (AO.sli _) (hs)) ?_)), rfl, rfl⟩⟩
  · have e : k = q.length := by omega
    subst e
    rw [pmO_all]
    repeat' (first | (apply AOps.nil; try simp only [List.nil_append, List.cons_append, List.set_cons_zero, List.set_cons_succ, List.length_cons, List.length_nil, Nat.reduceAdd, AV.sh, AV.sh1, AV.sh0, AO.sh, List.map_cons, List.map_nil, Nat.zero_add, Nat.add_zero, setAll]) | (apply w_move; exact rfl; exact rfl) | (apply w_assign; exact rfl; exact rfl) | apply AWp.seq | apply AWp.region | ((apply AWp.condP; exact rfl) <;> intro h) | apply AWp.block | apply AWp.ret | apply AWp.exit | apply AWp.skip | omega | ((apply w_lss); iterate 3 exact rfl))
    exact ⟨_, _, _, .v1 Try.results36 rfl, .sli rfl, rfl, rfl⟩

set_option maxHeartbeats 8000000 in
theorem l14Times_c (p q : List Int) (hp : 1 ≤ p.length ∧ p.length ≤ 10000000) (hq : 1 ≤ q.length ∧ q.length ≤ 10000000) : AFn Try.prog 30 [.ints p, .ints q] (IsInts 2 (pm p q)) := by
  have hz : List.replicate ((p.length : Int) + (q.length : Int) - 1).toNat (0 : Int) = pmO p q 0 := by rw [← pmO_zero]; congr 1; omega
  (refine AFn.start Try.func30 Try.ntmps30 rfl (by kernel_rfl) fun hk => ?_; simp only [Env.start, enumF, List.length_cons, List.length_nil, Nat.reduceAdd, Nat.reduceSub, List.cons_append, List.nil_append])
  repeat' (first | (apply AOps.nil; try simp only [List.nil_append, List.cons_append, List.set_cons_zero, List.set_cons_succ, List.length_cons, List.length_nil, Nat.reduceAdd, AV.sh, AV.sh1, AV.sh0, AO.sh, List.map_cons, List.map_nil, Nat.zero_add, Nat.add_zero, setAll]) | (apply w_move; exact rfl; exact rfl) | (apply w_assign; exact rfl; exact rfl) | apply AWp.seq | apply AWp.region | apply AWp.block | (apply w_len; exact rfl; exact rfl; first | exact .ints _ | exact .intss _ | exact .sli rfl | exact .sls rfl | exact .slr rfl | exact .orow rfl | exact .nil) | omega | ((first | apply w_add | apply w_sub); iterate 3 exact rfl) | (apply w_mki; exact rfl; exact rfl; rotate_left 3; exact rfl; rotate_left 1) | (apply inI_of <;> omega))
  refine AWp.loop (ι := Nat) (fun k => ⟨56, [(0, .ints p), (1, .ints q), (5, .own 0), (6, .i k)]⟩) (fun k => [.sli 2 (pmO p q k)]) (fun k => k ≤ q.length) (fun k => q.length - k) 0 (by omega) ⟨lee rfl (by (repeat (first | exact le_nil | refine le_eq rfl rfl ?_))), by (repeat (first | exact lo_nil | refine lo_eq (congrArg (AO.sli _) (hz)) ?_)), rfl, rfl⟩ ?_
  rintro k k0
  by_cases hk : k < q.length
  · repeat' (first | (apply AOps.nil; try simp only [List.nil_append, List.cons_append, List.set_cons_zero, List.set_cons_succ, List.length_cons, List.length_nil, Nat.reduceAdd, AV.sh, AV.sh1, AV.sh0, AO.sh, List.map_cons, List.map_nil, Nat.zero_add, Nat.add_zero, setAll]) | (apply w_move; exact rfl; exact rfl) | (apply w_assign; exact rfl; exact rfl) | apply AWp.seq | apply AWp.region | ((apply AWp.condP; exact rfl) <;> intro h) | apply AWp.block | apply AWp.ret | apply AWp.exit | apply AWp.skip | (apply w_len; exact rfl; exact rfl; first | exact .ints _ | exact .intss _ | exact .sli rfl | exact .sls rfl | exact .slr rfl | exact .orow rfl | exact .nil) | omega | ((apply w_lss); iterate 3 exact rfl))
    refine AWp.loop (ι := Nat) (fun i => ⟨56, [(0, .ints p), (1, .ints q), (5, .own 0), (6, .i k), (7, .i i)]⟩) (fun i => [.sli 2 (pmI p q k i)]) (fun i => i ≤ p.length ∧ (geti q (k : Nat) = 0 → i = 0)) (fun i => p.length - i) 0 ⟨by omega, fun _ => rfl⟩ ⟨lee rfl (by (repeat (first | exact le_nil | refine le_eq rfl rfl ?_))), by (repeat (first | exact lo_nil | refine lo_eq (congrArg (AO.sli _) (pmI_none p q k)) ?_)), rfl, rfl⟩ ?_
    rintro i ⟨i0, i1⟩
    have hl : (pmI p q k i).length = p.length + q.length - 1 := tab_len _ _
    by_cases h0 : geti q (k : Nat) = 0
    · have hi0 : i = 0 := i1 h0
      subst hi0
      have hs : pmI p q k 0 = pmO p q (k + 1) := by rw [pmO_skip p q k h0]; exact (pmI_none p q k).symm
      repeat' (first | (apply AOps.nil; try simp only [List.nil_append, List.cons_append, List.set_cons_zero, List.set_cons_succ, List.length_cons, List.length_nil, Nat.reduceAdd, AV.sh, AV.sh1, AV.sh0, AO.sh, List.map_cons, List.map_nil, Nat.zero_add, Nat.add_zero, setAll]) | ((apply AOps.splitP; exact rfl; exact rfl) <;> intro h) | (apply w_move; exact rfl; exact rfl) | (apply w_assign; exact rfl; exact rfl) | apply AWp.seq | apply AWp.region | ((apply AWp.condP; exact rfl) <;> intro h) | (apply AWp.condF; exact rfl) | apply AWp.block | apply AWp.exit | apply AWp.skip | (apply w_skip; exact rfl) | (apply w_pickT; exact rfl; exact rfl; exact rfl) | (apply w_pickF; exact rfl; exact rfl; exact rfl) | (apply w_len; exact rfl; exact rfl; first | exact .ints _ | exact .intss _ | exact .sli rfl | exact .sls rfl | exact .slr rfl | exact .orow rfl | exact .nil) | omega | ((first | apply w_lss | apply w_neq | apply w_add | apply w_idx | apply w_ld); iterate 3 exact rfl) | (apply inI_of <;> omega))
      all_goals exact ⟨k + 1, by omega, by omega, ⟨lee rfl (by (repeat (first | exact le_nil | refine le_eq rfl rfl ?_))), by (repeat (first | exact lo_nil | refine lo_eq (congrArg (AO.sli _) (hs)) ?_)), rfl, rfl⟩⟩
    · by_cases hi : i < p.length
      · have r1 : geti (pmI p q k i) ((((k : Int) + (i : Int)).toNat : Nat) : Int) = wr (Cy.mul (trF (ser q) k) (ser p) (k + i)) := by
          rw [show ((k : Int) + (i : Int)).toNat = k + i by omega]
          unfold pmI
          rw [tab_get _ (by omega), if_neg (by omega)]
        have hs : (pmI p q k i).set ((k : Int) + (i : Int)).toNat (wr (geti (pmI p q k i) ((((k : Int) + (i : Int)).toNat : Nat) : Int) + wr (geti p (i : Nat) * geti q (k : Nat)))) = pmI p q k (i + 1) := by
          rw [r1, pm_val, show ((k : Int) + (i : Int)).toNat = k + i by omega]
          exact pmI_step p q k i
        repeat' (first | (apply AOps.nil; try simp only [List.nil_append, List.cons_append, List.set_cons_zero, List.set_cons_succ, List.length_cons, List.length_nil, Nat.reduceAdd, AV.sh, AV.sh1, AV.sh0, AO.sh, List.map_cons, List.map_nil, Nat.zero_add, Nat.add_zero, setAll]) | ((apply AOps.splitP; exact rfl; exact rfl) <;> intro h) | (apply w_move; exact rfl; exact rfl) | apply AWp.seq | apply AWp.region | ((apply AWp.condP; exact rfl) <;> intro h) | (apply AWp.condF; exact rfl) | apply AWp.block | apply AWp.exit | apply AWp.skip | (apply w_skip; exact rfl) | (apply w_pickT; exact rfl; exact rfl; exact rfl) | (apply w_pickF; exact rfl; exact rfl; exact rfl) | (apply w_len; exact rfl; exact rfl; first | exact .ints _ | exact .intss _ | exact .sli rfl | exact .sls rfl | exact .slr rfl | exact .orow rfl | exact .nil) | omega | ((first | apply w_lss | apply w_neq | apply w_idx | apply w_ld); iterate 3 exact rfl))
        refine AWp.regionA (by kernel_rfl) (envC := ⟨56, [(0, .ints p), (1, .ints q), (5, .own 0), (6, .i k), (7, .i i)]⟩) (osC := [.sli 2 (pmI p q k (i + 1))]) rfl rfl ?_ ?_
        · rw [← hs]
          repeat' (first | (apply AOps.nil; try simp only [List.nil_append, List.cons_append, List.set_cons_zero, List.set_cons_succ, List.length_cons, List.length_nil, Nat.reduceAdd, AV.sh, AV.sh1, AV.sh0, AO.sh, List.map_cons, List.map_nil, Nat.zero_add, Nat.add_zero, setAll]) | (apply w_move; exact rfl; exact rfl) | ((apply w_mulw (d := 52)); exact rfl; exact rfl; exact rfl) | ((apply w_addw (d := 53)); exact rfl; exact rfl; exact rfl) | exact wr_in _ | omega | ((first | apply w_add | apply w_idx | apply w_ld); iterate 3 exact rfl) | (apply w_idxo; exact rfl; exact rfl; (exact .sli rfl); exact rfl) | (apply w_ldo; iterate 4 exact rfl) | (apply w_sti; exact rfl; exact rfl; rotate_left 1; exact rfl; rotate_left 2) | apply AllOf.nil | (apply AllOf.cons; exact rfl) | (apply AAny.take; exact rfl; exact rfl; kernel_rfl; kernel_rfl) | (apply AAny.all; exact rfl) | (apply AAny.done; exact rfl) | (apply inI_of <;> omega))
          all_goals (apply Or.inl; refine ⟨lee rfl ?_, ?_, rfl, rfl⟩; (focus ((repeat (first | exact le_nil | refine le_eq rfl rfl ?_)); done)); (focus ((repeat (first | exact lo_nil | refine lo_eq rfl ?_)); done)))
        repeat' (first | (apply AOps.nil; try simp only [List.nil_append, List.cons_append, List.set_cons_zero, List.set_cons_succ, List.length_cons, List.length_nil, Nat.reduceAdd, AV.sh, AV.sh1, AV.sh0, AO.sh, List.map_cons, List.map_nil, Nat.zero_add, Nat.add_zero, setAll]) | (apply w_move; exact rfl; exact rfl) | (apply w_assign; exact rfl; exact rfl) | apply AWp.region | ((apply w_add); iterate 3 exact rfl) | (apply inI_of <;> omega))
        exact ⟨i + 1, ⟨by omega, fun h => absurd h h0⟩, by omega, ⟨lee rfl (by (repeat (first | exact le_nil | refine le_eq rfl rfl ?_))), by (repeat (first | exact lo_nil | refine lo_eq rfl ?_)), rfl, rfl⟩⟩
      · have e : i = p.length := by omega
        subst e
        have hs := pmI_all p q k
        repeat' (first | (apply AOps.nil; try simp only [List.nil_append, List.cons_append, List.set_cons_zero, List.set_cons_succ, List.length_cons, List.length_nil, Nat.reduceAdd, AV.sh, AV.sh1, AV.sh0, AO.sh, List.map_cons, List.map_nil, Nat.zero_add, Nat.add_zero, setAll]) | ((apply AOps.splitP; exact rfl; exact rfl) <;> intro h) | (apply w_move; exact rfl; exact rfl) | (apply w_assign; exact rfl; exact rfl) | apply AWp.seq | apply AWp.region | (apply AWp.condF; exact rfl) | apply AWp.exit | (apply w_skip; exact rfl) | (apply w_pickF; exact rfl; exact rfl; exact rfl) | (apply w_len; exact rfl; exact rfl; first | exact .ints _ | exact .intss _ | exact .sli rfl | exact .sls rfl | exact .slr rfl | exact .orow rfl | exact .nil) | omega | ((first | apply w_lss | apply w_add); iterate 3 exact rfl) | (apply inI_of <;> omega))
        exact ⟨k + 1, by omega, by omega, ⟨lee rfl (by (repeat (first | exact le_nil | refine le_eq rfl rfl ?_))), by (repeat (first | exact lo_nil | refine lo_eq (congrArg (AO.sli _) (hs)) ?_)), rfl, rfl⟩⟩
  · have e : k = q.length := by omega
    subst e
    rw [pmO_all]
    repeat' (first | (apply AOps.nil; try simp only [List.nil_append, List.cons_append, List.set_cons_zero, List.set_cons_succ, List.length_cons, List.length_nil, Nat.reduceAdd, AV.sh, AV.sh1, AV.sh0, AO.sh, List.map_cons, List.map_nil, Nat.zero_add, Nat.add_zero, setAll]) | (apply w_move; exact rfl; exact rfl) | (apply w_assign; exact rfl; exact rfl) | apply AWp.seq | apply AWp.region | ((apply AWp.condP; exact rfl) <;> intro h) | apply AWp.block | apply AWp.ret | apply AWp.exit | apply AWp.skip | (apply w_len; exact rfl; exact rfl; first | exact .ints _ | exact .intss _ | exact .sli rfl | exact .sls rfl | exact .slr rfl | exact .orow rfl | exact .nil) | omega | ((apply w_lss); iterate 3 exact rfl))
    exact ⟨_, _, _, .v1 Try.results30 rfl, .sli rfl, rfl, rfl⟩
end Go.Proofs.Ytdkociacaagcoaa
/-
  A nil check, a shift by one, a conversion back from uint. No condition.
-/
namespace Go.Proofs.Ytdkociacaagcoaa
open Go Go.RowKit
set_option linter.unusedSimpArgs false
section
variable {P : Program} {wl : Bool} {env : Env} {os : List AO} {d : Option Tmp} {ty : TypeId} {pos : String} {af : Array Edge} {g : Option (Nat × Bool)}
theorem q_nilck {x : Operand} {h i : Nat} (hx : AV.ev env x = .optr h i) : QOp P wl ⟨d, .nilCheck x, ty, pos, af, g⟩ env os (.optr h i) :=
  .of_run fun _ w gs tm hr => by
    have hh := hr.ev x
    rw [hx] at hh
    generalize hv : Act.eval ⟨tm, []⟩ x = v at hh
    cases hh with
    | optr hg => exact ⟨_, .optr hg, fun w' _ => by simp [execOp, hv]⟩
theorem q_convu {src dst : TypeId} [hs : TKind P src .i64] [hd : TKind P dst .u64] {x : Operand} {a : Int} (ha : AV.ev env x = .i a) (h0 : 0 ≤ a) (h1 : a ≤ 9223372036854775807) :
    QOp P wl ⟨d, .convert src dst x, ty, pos, af, g⟩ env os (.val (.int .u64 a)) :=
  .of_run fun _ _ _ tm hr => ⟨_, .val _, fun w' _ => by
    have e : IntKind.u64.wrap a = a := by simp [IntKind.wrap, IntKind.bits, IntKind.signed]; omega
    simp [execOp, hr.evv ha, convert, run_underlying hs.und, run_underlying hd.und, Conv.intToInt, e]⟩
theorem q_convi {src dst : TypeId} [hs : TKind P src .u64] [hd : TKind P dst .i64] {x : Operand} {a : Int} (ha : AV.ev env x = .val (.int .u64 a)) (h0 : 0 ≤ a) (h1 : a ≤ 9223372036854775807) :
    QOp P wl ⟨d, .convert src dst x, ty, pos, af, g⟩ env os (.i a) :=
  .of_run fun _ _ _ tm hr => ⟨_, .val _, fun w' _ => by
    have e : IntKind.i64.wrap a = a := by rw [IntKind.wrap_i64]; omega
    simp [execOp, hr.evv ha, convert, run_underlying hs.und, run_underlying hd.und, Conv.intToInt, e]⟩
theorem q_shr1 {xt yt : TypeId} {x y : Operand} {a : Int} (ha : AV.ev env x = .val (.int .u64 a)) (hb : AV.ev env y = .val (.int .u64 1)) (h0 : 0 ≤ a) (h1 : a ≤ 9223372036854775807) :
    QOp P wl ⟨d, .binOp .shr xt x y yt, ty, pos, af, g⟩ env os (.val (.int .u64 (a / 2))) :=
  q_bin ha hb (by simp [go_sem]) fun w => by
    have e : IntKind.u64.wrap (a / 2) = a / 2 := by simp [IntKind.wrap, IntKind.bits, IntKind.signed]; omega
    simp [go_sem, e]
end
section
variable {P : Program} {env : Env} {os : List AO} {d : Tmp} {ty : TypeId} {pos : String} {af : Array Edge} {g : Option (Nat × Bool)} {l rest : List Oper} {K : APost} {q : Md}
theorem w_nilck {x : Operand} {h i : Nat} (hw : wantedA l env ⟨some d, .nilCheck x, ty, pos, af, g⟩ = some true) (hx : evo env x = some (.optr h i)) (h' : AOps P q l rest K (env.up d (.optr h i)) os) : AOps P q l (⟨some d, .nilCheck x, ty, pos, af, g⟩ :: rest) K env os := AOps.qo hw (q_nilck (ev_of hx)) h'
theorem w_convu {src dst : TypeId} [TKind P src .i64] [TKind P dst .u64] {x : Operand} {a : Int} (hw : wantedA l env ⟨some d, .convert src dst x, ty, pos, af, g⟩ = some true) (ha : evo env x = some (.i a)) (h0 : 0 ≤ a) (h1 : a ≤ 9223372036854775807) (h' : AOps P q l rest K (env.up d (.val (.int .u64 a))) os) :
    AOps P q l (⟨some d, .convert src dst x, ty, pos, af, g⟩ :: rest) K env os := AOps.qo hw (q_convu (ev_of ha) h0 h1) h'
theorem w_convi {src dst : TypeId} [TKind P src .u64] [TKind P dst .i64] {x : Operand} {a : Int} (hw : wantedA l env ⟨some d, .convert src dst x, ty, pos, af, g⟩ = some true) (ha : evo env x = some (.val (.int .u64 a))) (h0 : 0 ≤ a) (h1 : a ≤ 9223372036854775807) (h' : AOps P q l rest K (env.up d (.i a)) os) :
    AOps P q l (⟨some d, .convert src dst x, ty, pos, af, g⟩ :: rest) K env os := AOps.qo hw (q_convi (ev_of ha) h0 h1) h'
theorem w_shr1 {xt yt : TypeId} {x y : Operand} {a : Int} (hw : wantedA l env ⟨some d, .binOp .shr xt x y yt, ty, pos, af, g⟩ = some true) (ha : evo env x = some (.val (.int .u64 a))) (hb : evo env y = some (.val (.int .u64 1))) (h0 : 0 ≤ a) (h1 : a ≤ 9223372036854775807) (h' : AOps P q l rest K (env.up d (.val (.int .u64 (a / 2)))) os) :
    AOps P q l (⟨some d, .binOp .shr xt x y yt, ty, pos, af, g⟩ :: rest) K env os := AOps.qo hw (q_shr1 (ev_of ha) (ev_of hb) h0 h1) h'
end
end Go.Proofs.Ytdkociacaagcoaa
/-
  Counters: the search. No condition but that the rows are in order.
-/
namespace Go.Proofs.Ytdkociacaagcoaa
open Go Go.RowKit
attribute [local irreducible] AWp AOps ResIs Ret1 QOp LOp COp AFnV AFn Imms LeE LeO
set_option maxHeartbeats 1000000
set_option linter.unusedSimpArgs false
set_option linter.unusedVariables false

def cmp3 (a b : Int) : Int := if a < b then -1 else if b < a then 1 else 0
theorem comparedZ_c (a b : Int) : AFnV Try.prog 85 [.i a, .i b] (.int .i64 (cmp3 a b)) := by
  unfold cmp3
  (refine AFnV.start Try.func85 Try.ntmps85 rfl (by kernel_rfl) fun hk => ?_; simp only [Env.start, enumF, List.length_cons, List.length_nil, Nat.reduceAdd, Nat.reduceSub, List.cons_append, List.nil_append])
  repeat' (first | (apply AOps.nil; try simp only [List.nil_append, List.cons_append, List.set_cons_zero, List.set_cons_succ, List.length_cons, List.length_nil, Nat.reduceAdd, AV.sh, AV.sh1, AV.sh0, AO.sh, List.map_cons, List.map_nil, Nat.zero_add, Nat.add_zero, setAll]) | (apply w_move; exact rfl; exact rfl) | (apply w_assign; exact rfl; exact rfl) | apply AWp.seq | apply AWp.region | ((apply AWp.condP; exact rfl) <;> intro h) | apply AWp.block | apply AWp.ret | apply AWp.skip | ((first | apply w_lss | apply w_gtr); iterate 3 exact rfl))
  all_goals exact .int Try.results85 rfl (by repeat' split <;> omega)
theorem addCmp_c (l : List Int) (hl : 0 < l.length) (m : Int) : AFnV Try.prog 84 [.ints l, .i m] (.int .i64 (cmp3 (geti l 0) m)) := by
  (refine AFnV.start Try.func84 Try.ntmps84 rfl (by kernel_rfl) fun hk => ?_; simp only [Env.start, enumF, List.length_cons, List.length_nil, Nat.reduceAdd, Nat.reduceSub, List.cons_append, List.nil_append])
  repeat' (first | (apply AOps.nil; try simp only [List.nil_append, List.cons_append, List.set_cons_zero, List.set_cons_succ, List.length_cons, List.length_nil, Nat.reduceAdd, AV.sh, AV.sh1, AV.sh0, AO.sh, List.map_cons, List.map_nil, Nat.zero_add, Nat.add_zero, setAll]) | (apply w_move; exact rfl; exact rfl) | (apply w_assign; exact rfl; exact rfl) | apply AWp.seq | apply AWp.region | apply AWp.ret | (apply w_call (comparedZ_c _ _); exact rfl; exact rfl; focus ((repeat (first | exact im_nil | refine im_cons rfl (.val _) ?_)); done)) | omega | ((first | apply w_idx | apply w_ld); iterate 3 exact rfl))
  all_goals exact .int Try.results84 rfl rfl
theorem cmp3_lt {a b : Int} : cmp3 a b < 0 ↔ a < b := by unfold cmp3; repeat' split <;> omega
theorem cmp3_eq {a b : Int} : cmp3 a b = 0 ↔ a = b := by unfold cmp3; repeat' split <;> omega
theorem ResIs.intbool {P : Program} {env : Env} {os : List AO} {fn : Func} {t u : Tmp} (h : fn.results = #[.tmp t, .tmp u]) {a a' : Int} {b b' : Bool} (ht : env.fd t = some (.i a)) (hu : env.fd u = some (.b b)) (e1 : a = a') (e2 : b = b') : ResIs P fn env os (.val (.tuple #[.int .i64 a', .bool b'])) := e1 ▸ e2 ▸ .vv2 h ht hu
/-- The place of a number. -/
structure ZAt (L : List (List Int)) (m : Int) (k : Nat) : Prop where
  le : k ≤ L.length
  lt : ∀ j : Nat, j < k → geti (gets L (j : Nat)) 0 < m
  ge : ∀ j : Nat, k ≤ j → j < L.length → m ≤ geti (gets L (j : Nat)) 0
def zFd (L : List (List Int)) (m : Int) (k : Nat) : Bool := decide (k < L.length ∧ geti (gets L (k : Nat)) 0 = m)

/-- The function that compares. -/
def addF : Value := .func (.func 84) #[] #[]
set_option maxHeartbeats 4000000 in
theorem bsearch_c (L : List (List Int)) (m : Int) (k : Nat) (hk : ZAt L m k) (hn : L.length ≤ 1000000) (hr : ∀ r ∈ L, r.length = 2) :
    AFnV Try.prog 83 [.intss L, .i m, .val (.func (.func 84) #[] #[])] (.tuple #[.int .i64 k, .bool (zFd L m k)]) := by
  obtain ⟨k1, k2, k3⟩ := hk
  have hrow : ∀ i : Nat, i < L.length → (gets L (i : Nat)).length = 2 := fun i hi => hr _ (gets_mem (by omega) (by omega))
  (refine AFnV.start Try.func83 Try.ntmps83 rfl (by kernel_rfl) fun hk => ?_; simp only [Env.start, enumF, List.length_cons, List.length_nil, Nat.reduceAdd, Nat.reduceSub, List.cons_append, List.nil_append])
  repeat' (first | (apply AOps.nil; try simp only [List.nil_append, List.cons_append, List.set_cons_zero, List.set_cons_succ, List.length_cons, List.length_nil, Nat.reduceAdd, AV.sh, AV.sh1, AV.sh0, AO.sh, List.map_cons, List.map_nil, Nat.zero_add, Nat.add_zero, setAll]) | (apply w_move; exact rfl; exact rfl) | (apply w_assign; exact rfl; exact rfl) | apply AWp.seq | apply AWp.region | apply AWp.block | (apply w_len; exact rfl; exact rfl; first | exact .ints _ | exact .intss _ | exact .sli rfl | exact .sls rfl | exact .slr rfl | exact .orow rfl | exact .nil))
  refine AWp.loop (ι := Nat × Nat) (fun s => ⟨49, [(0, .intss L), (1, .i m), (2, .val addF), (8, .i L.length), (9, .i s.1), (10, .i s.2)]⟩) (fun s => []) (fun s => s.1 ≤ k ∧ k ≤ s.2 ∧ s.2 ≤ L.length) (fun s => s.2 - s.1) (0, L.length) ⟨by simp, k1, Nat.le_refl _⟩ ⟨lee rfl (by (repeat (first | exact le_nil | refine le_eq rfl rfl ?_))), by (repeat (exact lo_nil)), rfl, rfl⟩ ?_
  rintro ⟨i, j⟩ ⟨h1, h2, h3⟩
  simp only at h1 h2 h3
  by_cases hij : i < j
  · have hh : ∃ md : Nat, md = (i + j) / 2 := ⟨_, rfl⟩
    obtain ⟨md, hh⟩ := hh
    have ehz : ((i : Int) + (j : Int)) / 2 = (md : Int) := by omega
    have hl := hrow md (by omega)
    have hc := addCmp_c (gets L (md : Nat)) (by omega) m
    by_cases hlt : geti (gets L (md : Nat)) 0 < m
    · have hlt' := cmp3_lt.2 hlt
      have hhk : md < k := by
        apply Classical.byContradiction
        intro hn
        have := k3 md (by omega) (by omega)
        omega
      repeat' (first | (apply AOps.nil; try simp only [List.nil_append, List.cons_append, List.set_cons_zero, List.set_cons_succ, List.length_cons, List.length_nil, Nat.reduceAdd, AV.sh, AV.sh1, AV.sh0, AO.sh, List.map_cons, List.map_nil, Nat.zero_add, Nat.add_zero, setAll]) | ((apply AOps.splitP; exact rfl; exact rfl) <;> intro h) | (apply w_move; exact rfl; exact rfl) | (apply w_assign; exact rfl; exact rfl) | apply AWp.seq | apply AWp.region | ((apply AWp.condP; exact rfl) <;> intro h) | apply AWp.block | apply AWp.ret | apply AWp.exit | apply AWp.skip | (apply w_skip; exact rfl) | (apply w_pickF; exact rfl; exact rfl; exact rfl) | ((first | apply w_convu | apply w_convi); iterate 2 exact rfl) | ((first | apply w_shr1 | apply w_lss | apply w_add | apply w_idx | apply w_ld); iterate 3 exact rfl) | (rw [ehz]) | (apply w_callv (hc); exact rfl; exact rfl; exact rfl; focus ((repeat (first | exact im_nil | refine im_cons rfl (.val _) ?_ | refine im_cons rfl (.ints _) ?_)); done)) | omega | ((first | apply w_idxs | apply w_lds); iterate 3 exact rfl) | (apply inI_of <;> omega))
      exact ⟨(md + 1, j), ⟨hhk, h2, h3⟩, by simp only; omega, ⟨lee rfl (by (repeat (first | exact le_nil | refine le_eq rfl rfl ?_))), by (repeat (exact lo_nil)), rfl, rfl⟩⟩
    · have hlt' : ¬ cmp3 (geti (gets L (md : Nat)) 0) m < 0 := fun e => hlt (cmp3_lt.1 e)
      have hhk : k ≤ md := by
        apply Classical.byContradiction
        intro hn
        exact hlt (k2 md (by omega))
      repeat' (first | (apply AOps.nil; try simp only [List.nil_append, List.cons_append, List.set_cons_zero, List.set_cons_succ, List.length_cons, List.length_nil, Nat.reduceAdd, AV.sh, AV.sh1, AV.sh0, AO.sh, List.map_cons, List.map_nil, Nat.zero_add, Nat.add_zero, setAll]) | ((apply AOps.splitP; exact rfl; exact rfl) <;> intro h) | (apply w_move; exact rfl; exact rfl) | (apply w_assign; exact rfl; exact rfl) | apply AWp.seq | apply AWp.region | ((apply AWp.condP; exact rfl) <;> intro h) | apply AWp.block | apply AWp.ret | apply AWp.exit | apply AWp.skip | (apply w_skip; exact rfl) | (apply w_pickF; exact rfl; exact rfl; exact rfl) | ((first | apply w_convu | apply w_convi); iterate 2 exact rfl) | ((first | apply w_shr1 | apply w_lss | apply w_add | apply w_idx | apply w_ld); iterate 3 exact rfl) | (rw [ehz]) | (apply w_callv (hc); exact rfl; exact rfl; exact rfl; focus ((repeat (first | exact im_nil | refine im_cons rfl (.val _) ?_ | refine im_cons rfl (.ints _) ?_)); done)) | omega | ((first | apply w_idxs | apply w_lds); iterate 3 exact rfl) | (apply inI_of <;> omega))
      exact ⟨(i, md), ⟨h1, hhk, by simp only; omega⟩, by simp only; omega, ⟨lee rfl (by (repeat (first | exact le_nil | refine le_eq rfl rfl ?_))), by (repeat (exact lo_nil)), rfl, rfl⟩⟩
  · have ei : i = k := by omega
    subst ei
    by_cases hlen : i < L.length
    · have hl := hrow i hlen
      have hc := addCmp_c (gets L (i : Nat)) (by omega) m
      have he : decide (cmp3 (geti (gets L (i : Nat)) 0) m = 0) = zFd L m i := by
        unfold zFd
        apply decide_eq_decide.2
        rw [cmp3_eq]
        exact ⟨fun e => ⟨hlen, e⟩, fun e => e.2⟩
      repeat' (first | (apply AOps.nil; try simp only [List.nil_append, List.cons_append, List.set_cons_zero, List.set_cons_succ, List.length_cons, List.length_nil, Nat.reduceAdd, AV.sh, AV.sh1, AV.sh0, AO.sh, List.map_cons, List.map_nil, Nat.zero_add, Nat.add_zero, setAll]) | ((apply AOps.splitP; exact rfl; exact rfl) <;> intro h) | (apply w_move; exact rfl; exact rfl) | (apply w_assign; exact rfl; exact rfl) | apply AWp.seq | apply AWp.region | ((apply AWp.condP; exact rfl) <;> intro h) | apply AWp.block | apply AWp.ret | apply AWp.exit | apply AWp.skip | (apply w_skip; exact rfl) | (apply w_pickT; exact rfl; exact rfl; exact rfl) | (apply w_pickF; exact rfl; exact rfl; exact rfl) | ((first | apply w_convu | apply w_convi); iterate 2 exact rfl) | ((first | apply w_shr1 | apply w_lss | apply w_eql | apply w_add | apply w_idx | apply w_ld); iterate 3 exact rfl) | (apply w_callv (hc); exact rfl; exact rfl; exact rfl; focus ((repeat (first | exact im_nil | refine im_cons rfl (.val _) ?_ | refine im_cons rfl (.ints _) ?_)); done)) | omega | ((first | apply w_idxs | apply w_lds); iterate 3 exact rfl))
      all_goals exact .intbool Try.results83 rfl rfl rfl he
    · have he : false = zFd L m i := by
        unfold zFd
        exact (decide_eq_false fun e => hlen e.1).symm
      repeat' (first | (apply AOps.nil; try simp only [List.nil_append, List.cons_append, List.set_cons_zero, List.set_cons_succ, List.length_cons, List.length_nil, Nat.reduceAdd, AV.sh, AV.sh1, AV.sh0, AO.sh, List.map_cons, List.map_nil, Nat.zero_add, Nat.add_zero, setAll]) | ((apply AOps.splitP; exact rfl; exact rfl) <;> intro h) | (apply w_move; exact rfl; exact rfl) | (apply w_assign; exact rfl; exact rfl) | apply AWp.seq | apply AWp.region | ((apply AWp.condP; exact rfl) <;> intro h) | apply AWp.block | apply AWp.ret | apply AWp.exit | apply AWp.skip | (apply w_skip; exact rfl) | (apply w_pickF; exact rfl; exact rfl; exact rfl) | ((first | apply w_convu | apply w_convi); iterate 2 exact rfl) | ((first | apply w_shr1 | apply w_lss | apply w_add | apply w_idx); iterate 3 exact rfl) | omega)
      all_goals exact .intbool Try.results83 rfl rfl rfl he
end Go.Proofs.Ytdkociacaagcoaa
/-
  Regions that draw their order: a load is taken first where nothing that may come ahead of it writes. No condition.
-/
namespace Go.Proofs.Ytdkociacaagcoaa
open Go Go.RowKit

/-- Whatever order is picked; behind an operation of G what was there is there still. -/
def wpAnyG (P : Program) (ops : Array Oper) (Q : Exit → Act → World → Prop) (G : Nat → Bool) : Nat → Array Bool → Act → World → Prop
  | 0, listed, a, w => Region.ready .any ops listed = [] ∧ Q .normal a w
  | fuel + 1, listed, a, w =>
    (Region.ready .any ops listed = [] → Q .normal a w) ∧
    ∀ i ∈ Region.ready .any ops listed, wpOp P ops Q i (fun a' w' => (G i = true → Below w.heap.size w w') ∧ wpAnyG P ops Q G fuel (listed.setIfInBounds i true) a' w') a w

/-- What writes nothing: no world asked, a load, a call of one of these functions. -/
def gentB (qs : List Nat) (o : Oper) : Bool :=
  wlessB o || match o.op with
    | .load _ _ => true
    | .call c => match c.callee with
      | .value (.func f) => qs.contains f
      | _ => false
    | _ => false
def gentle (qs : List Nat) (l : List Oper) (j : Nat) : Bool := match l[j]? with | some o => gentB qs o | none => false

def AAnyG (P : Program) (qs : List Nat) (l : List Oper) (fuel : Nat) (listed : List Bool) (K : APost) (env : Env) (os : List AO) : Prop :=
  ∀ base w0 w gs tm, Rel base w gs env os tm → Below base w0 w → ∀ X Rt, wpAnyG P l.toArray (Post base w0 K X Rt) (gentle qs l) fuel listed.toArray ⟨tm, []⟩ w

/-- Each of these comes up next. -/
def AllOfG (P : Program) (qs : List Nat) (l : List Oper) (fuel : Nat) (listed : List Bool) (K : APost) (env : Env) (os : List AO) : List Nat → Prop
  | [] => True
  | i :: is => (∃ o, l[i]? = some o ∧ AOps P (cond (gentB qs o) .quiet .seq) l [o] (fun env os => AAnyG P qs l fuel (listed.set i true) K env os) env os) ∧ AllOfG P qs l fuel listed K env os is

section
variable {P : Program} {N : APost} {X : Nat → APost} {Rt : APost} {env : Env} {os : List AO} {l : List Oper} {K : APost} {fuel : Nat} {listed : List Bool} {qs : List Nat}

theorem AllOfG.get : ∀ {rs : List Nat}, AllOfG P qs l fuel listed K env os rs → ∀ i ∈ rs, ∃ o, l[i]? = some o ∧ AOps P (cond (gentB qs o) .quiet .seq) l [o] (fun env os => AAnyG P qs l fuel (listed.set i true) K env os) env os
  | [], _, i, h => by cases h
  | j :: rs, h, i, hi => by
    rcases List.mem_cons.1 hi with rfl | hi
    · exact h.1
    · exact AllOfG.get h.2 i hi
theorem AllOfG.nil : AllOfG P qs l fuel listed K env os [] := trivial
theorem AAnyG.all {i : Nat} {is : List Nat} (hr : rdyGo listed 0 l = i :: is) (h : AllOfG P qs l fuel listed K env os (i :: is)) : AAnyG P qs l (fuel + 1) listed K env os := by
  intro base w0 w gs tm hrel hb X Rt
  refine ⟨fun h0 => ?_, fun j hj => ?_⟩
  · have : i ∈ Region.ready .any l.toArray listed.toArray := mem_rdy.2 (by rw [hr]; simp)
    rw [h0] at this; cases this
  · have hj' := mem_rdy.1 hj
    rw [hr] at hj'
    obtain ⟨o, ho, hop⟩ := h.get j hj'
    have ho' : l.toArray[j]? = some o := by simpa using ho
    have hgj : gentle qs l j = gentB qs o := by unfold gentle; rw [ho]
    have kk : ∀ a w', Post base w0 (fun env os => AAnyG P qs l fuel (listed.set j true) K env os) X Rt .normal a w' → wpAnyG P l.toArray (Post base w0 K X Rt) (gentle qs l) fuel (listed.toArray.setIfInBounds j true) a w' := by
      rintro a w' ⟨env', os', gs', h1, h2, h3, h4⟩
      have ea : a = ⟨a.tmps, []⟩ := by cases a; simp_all
      rw [ea]
      have := h4 base w0 w' gs' a.tmps h1 h3 X Rt
      rwa [show listed.toArray.setIfInBounds j true = (listed.set j true).toArray from by simp]
    cases hg : gentB qs o with
    | false =>
      rw [hg] at hop
      have := hop base w0 w gs tm hrel hb X Rt
      unfold wpOp
      rw [ho']
      unfold wpList at this
      simp only
      rw [hgj, hg]
      split
      · rename_i hw
        rw [if_pos hw] at this
        rcases this with this | ⟨h1, ⟨a, w', h2⟩⟩
        · exact .inl (Oper.wp_mono2 (fun a w' h => ⟨fun e => (by cases e), kk a w' h⟩) (fun _ _ _ h => (h : False).elim) (fun ⟨_, _, h⟩ => (h : False).elim) this)
        · exact (h2 : False).elim
      · rename_i hw
        rw [if_neg hw] at this
        exact ⟨fun e => (by cases e), kk _ _ this⟩
    | true =>
      rw [hg] at hop
      have := hop base w gs tm hrel
      unfold wpOp
      rw [ho']
      unfold wpQuiet at this
      simp only
      have kq : ∀ (a : Act) w', Below w.heap.size w w' → wpQuiet P l.toArray (fun w' => Below w.heap.size w w') (fun a' => ∃ env' os' gs', AAnyG P qs l fuel (listed.set j true) K env' os' ∧ a'.defers = [] ∧ ∀ w', Below w.heap.size w w' → Rel base w' gs' env' os' a'.tmps) [] a →
          (gentle qs l j = true → Below w.heap.size w w') ∧ wpAnyG P l.toArray (Post base w0 K X Rt) (gentle qs l) fuel (listed.toArray.setIfInBounds j true) a w' := by
        rintro a w' hbw ⟨env', os', gs', h1, h2, h3⟩
        exact ⟨fun _ => hbw, kk a w' ⟨env', os', gs', h3 w' hbw, h2, hb.trans (hbw.mono hrel.hb), h1⟩⟩
      split
      · rename_i hw
        rw [if_pos hw] at this
        obtain ⟨v, hv, hn⟩ := this
        refine .inl (Oper.wp_of_quiet (C := fun w' => Below w.heap.size w w') (K := fun a' => a' = Act.put ⟨tm, []⟩ o.dst v) (Below.refl _ _) ?_ ⟨v, hv, rfl⟩)
        intro a' w' hw' he
        subst he
        exact kq _ w' hw' hn
      · rename_i hw
        rw [if_neg hw] at this
        exact kq _ w (Below.refl _ _) this

theorem AAnyG.done (hr : rdyGo listed 0 l = []) (h : K env os) : AAnyG P qs l fuel listed K env os := by
  intro base w0 w gs tm hrel hb X Rt
  have hr' : Region.ready .any l.toArray listed.toArray = [] := by
    apply List.eq_nil_iff_forall_not_mem.2
    intro j hj
    have := mem_rdy.1 hj
    rw [hr] at this; cases this
  cases fuel with
  | zero => exact ⟨hr', env, os, gs, hrel, rfl, hb, h⟩
  | succ n => exact ⟨fun _ => ⟨env, os, gs, hrel, rfl, hb, h⟩, by rw [hr']; intro j hj; cases hj⟩

end
end Go.Proofs.Ytdkociacaagcoaa
/-
  A term put into terms in order: the reference's. No condition but a bound on the sizes.
-/
namespace Go.Proofs.Ytdkociacaagcoaa
open Go Go.RowKit
attribute [local irreducible] AWp AOps ResIs Ret1 QOp LOp COp AFnV AFn Imms LeE LeO
set_option maxHeartbeats 1000000
set_option linter.unusedSimpArgs false
set_option linter.unusedVariables false


theorem l01Own2_c (xss : List (List Int)) (hb : xss.length ≤ 1048576) (hr : ∀ xs ∈ xss, xs.length ≤ 1048576) : AFn Try.prog 87 [.intss xss] (IsIntss 22 2 xss) := by
  (refine AFn.start Try.func87 Try.ntmps87 rfl (by kernel_rfl) fun hk => ?_; simp only [Env.start, enumF, List.length_cons, List.length_nil, Nat.reduceAdd, Nat.reduceSub, List.cons_append, List.nil_append])
  repeat' (first | (apply AOps.nil; try simp only [List.nil_append, List.cons_append, List.set_cons_zero, List.set_cons_succ, List.length_cons, List.length_nil, Nat.reduceAdd, AV.sh, AV.sh1, AV.sh0, AO.sh, List.map_cons, List.map_nil, Nat.zero_add, Nat.add_zero, setAll]) | (apply w_assign; exact rfl; exact rfl) | apply AWp.seq | apply AWp.region | apply AWp.block | ((apply w_bsr0); iterate 1 exact rfl))
  refine AWp.loop (ι := Nat) (fun i => ⟨21, [(0, .intss xss), (3, .own 0), (4, .i i)]⟩) (fun i => [.sls 22 2 (xss.take i)]) (fun i => i ≤ xss.length) (fun i => xss.length - i) 0 (by omega) ⟨lee rfl (by (repeat (first | exact le_nil | refine le_eq rfl rfl ?_))), by (repeat (first | exact lo_nil | refine lo_eq rfl ?_)), rfl, rfl⟩ ?_
  rintro i h0
  have e1 : (xss.take i).length = i := by simp; omega
  by_cases hi : i < xss.length
  · have hb2 := hr (gets xss i) (gets_mem (by omega) (by omega))
    have e2 : xss.take i ++ [gets xss i] = xss.take (i + 1) := by rw [List.take_succ_eq_append_getElem hi]; simp [gets, hi]
    repeat' (first | (apply AOps.nil; try simp only [List.nil_append, List.cons_append, List.set_cons_zero, List.set_cons_succ, List.length_cons, List.length_nil, Nat.reduceAdd, AV.sh, AV.sh1, AV.sh0, AO.sh, List.map_cons, List.map_nil, Nat.zero_add, Nat.add_zero, setAll]) | (apply w_move; exact rfl; exact rfl) | (apply w_assign; exact rfl; exact rfl) | apply AWp.seq | apply AWp.region | ((apply AWp.condP; exact rfl) <;> intro h) | apply AWp.block | apply AWp.ret | apply AWp.exit | apply AWp.skip | (apply w_len; exact rfl; exact rfl; first | exact .ints _ | exact .intss _ | exact .sli rfl | exact .sls rfl | exact .slr rfl | exact .orow rfl | exact .nil) | ((first | apply w_bsr1 | apply w_lss | apply w_add | apply w_idx | apply w_ld); iterate 3 exact rfl) | (apply w_appr; exact rfl; exact rfl; exact rfl; exact rfl; exact rfl; exact rfl; exact rfl; rotate_left 1; simp only [Env.mp, List.map_cons, List.map_nil, List.set_cons_zero, List.set_cons_succ, AV.kill, AV.kill1, AO.kill, AV.rin, AV.rin1, AV.noRow, AV.noRow1, AO.via, reduceIte, Nat.reduceEqDiff, Nat.reduceLT, Env.up, Nat.zero_ne_one, Nat.one_ne_zero, Nat.reduceAdd, List.cons_append, List.nil_append]; rotate_left 1) | (apply w_callm (l01Own_c _ hb2); (focus ((repeat (first | exact im_nil | refine im_cons rfl (.ints _) ?_)); done)); rintro r os0 ⟨rfl, rfl⟩; try simp only [List.nil_append, List.cons_append, List.set_cons_zero, List.set_cons_succ, List.length_cons, List.length_nil, Nat.reduceAdd, AV.sh, AV.sh1, AV.sh0, AO.sh, List.map_cons, List.map_nil, Nat.zero_add, Nat.add_zero, setAll]) | omega | ((first | apply w_idxs | apply w_lds); iterate 3 exact rfl) | (apply inI_of <;> omega))
    all_goals exact ⟨i + 1, by omega, by omega, ⟨lee rfl (by (repeat (first | exact le_nil | refine le_eq rfl rfl ?_))), by (repeat (first | exact lo_nil | refine lo_eq (congrArg (AO.sls _ _) (e2)) ?_)), rfl, rfl⟩⟩
  · repeat' (first | (apply AOps.nil; try simp only [List.nil_append, List.cons_append, List.set_cons_zero, List.set_cons_succ, List.length_cons, List.length_nil, Nat.reduceAdd, AV.sh, AV.sh1, AV.sh0, AO.sh, List.map_cons, List.map_nil, Nat.zero_add, Nat.add_zero, setAll]) | (apply w_move; exact rfl; exact rfl) | (apply w_assign; exact rfl; exact rfl) | apply AWp.seq | apply AWp.region | ((apply AWp.condP; exact rfl) <;> intro h) | apply AWp.block | apply AWp.ret | apply AWp.exit | apply AWp.skip | (apply w_len; exact rfl; exact rfl; first | exact .ints _ | exact .intss _ | exact .sli rfl | exact .sls rfl | exact .slr rfl | exact .orow rfl | exact .nil) | omega | ((apply w_lss); iterate 3 exact rfl))
    have e : i = xss.length := by omega
    subst e
    exact ⟨_, _, _, .v1 Try.results87 rfl, .sls rfl, rfl, by simp⟩

/-- The term comes ahead of (i, j). -/
def bef (i j : Int) (t : List Int) : Prop := geti t 0 + geti t 1 < i + j ∨ (geti t 0 + geti t 1 = i + j ∧ geti t 0 < i)
instance (i j : Int) (t : List Int) : Decidable (bef i j t) := by unfold bef; infer_instance
theorem rows_take (ts : List (List Int)) (n : Nat) (h : n ≤ ts.length) : (List.range' 0 n).map (fun i => ts.getD i []) = ts.take n := by
  apply List.ext_getElem?
  intro k
  rw [List.getElem?_map, List.getElem?_take]
  by_cases hk : k < n
  · rw [if_pos hk, List.getElem?_range' (by omega)]
    simp [List.getD_eq_getElem?_getD, List.getElem?_eq_getElem (show k < ts.length by omega)]
  · rw [if_neg hk, List.getElem?_eq_none (by simp; omega)]; rfl
theorem rows_drop (ts : List (List Int)) (n : Nat) : (List.range' n (ts.length - n)).map (fun i => ts.getD i []) = ts.drop n := by
  apply List.ext_getElem?
  intro k
  rw [List.getElem?_map, List.getElem?_drop]
  by_cases hk : k < ts.length - n
  · rw [List.getElem?_range' (by omega)]
    simp [List.getD_eq_getElem?_getD, List.getElem?_eq_getElem (show n + k < ts.length by omega)]
  · rw [List.getElem?_eq_none (by simp; omega), List.getElem?_eq_none (by omega)]; rfl
theorem range_nodup {a n b m : Nat} (h : a + n ≤ b) : (List.range' a n ++ List.range' b m).Nodup := by
  rw [List.nodup_append]
  refine ⟨List.nodup_range', List.nodup_range', fun x hx y hy e => ?_⟩
  rw [List.mem_range'_1] at hx hy
  omega

end Go.Proofs.Ytdkociacaagcoaa
/-
  Counters in the reference. No condition but bounds.
-/
namespace Go.Proofs.Ytdkociacaagcoaa
open Go Go.RowKit
attribute [local irreducible] AWp AOps ResIs Ret1 QOp LOp COp AFnV AFn Imms LeE LeO
set_option maxHeartbeats 1000000
set_option linter.unusedSimpArgs false
set_option linter.unusedVariables false

def zIdx (L : List (List Int)) (m : Int) : Nat := L.findIdx fun r => !decide (geti r 0 < m)
/-- e is added to the count of m. -/
def putZ (L : List (List Int)) (m e : Int) : List (List Int) :=
  if zIdx L m < L.length ∧ geti (L.getD (zIdx L m) []) 0 = m then L.set (zIdx L m) ((L.getD (zIdx L m) []).set 1 (geti (L.getD (zIdx L m) []) 1 + e))
  else L.take (zIdx L m) ++ [m, e] :: L.drop (zIdx L m)
/-- A number and a count of moderate size. -/
def ZOk (B : Int) (r : List Int) : Prop := r.length = 2 ∧ (1 ≤ geti r 0 ∧ geti r 0 ≤ 1000000) ∧ (-B ≤ geti r 1 ∧ geti r 1 ≤ B)
theorem zIdx_eq {L : List (List Int)} {m : Int} {n : Nat} (hn : n ≤ L.length) (h1 : ∀ k, k < n → geti (L.getD k []) 0 < m) (h2 : n = L.length ∨ ¬ geti (L.getD n []) 0 < m) : zIdx L m = n := by
  unfold zIdx
  rcases Nat.lt_or_ge n L.length with h | h
  · rw [List.findIdx_eq h]
    refine ⟨?_, fun k hk => ?_⟩
    · have := h2.resolve_left (by omega)
      rw [List.getD_eq_getElem?_getD, List.getElem?_eq_getElem h] at this
      simpa using this
    · have := h1 k hk
      rw [List.getD_eq_getElem?_getD, List.getElem?_eq_getElem (by omega)] at this
      simpa using this
  · have e : n = L.length := by omega
    subst e
    rw [List.findIdx_eq_length]
    intro t ht
    obtain ⟨k, hk⟩ := List.getElem?_of_mem ht
    have hkl := (List.getElem?_eq_some_iff.1 hk).1
    have := h1 k hkl
    rw [List.getD_eq_getElem?_getD, hk] at this
    simpa using this

set_option maxHeartbeats 8000000 in
theorem l14Put_c (L : List (List Int)) (m e : Int) (hL : ∀ r ∈ L, ZOk 1000000000000 r) (hn : L.length ≤ 1000000) (hm : 1 ≤ m ∧ m ≤ 1000000) (he : -1000000000000 ≤ e ∧ e ≤ 1000000000000) :
    AFnT Try.prog 71 [.own 0, .i m, .i e] 22 2 L (fun r => r = putZ L m e) := by
  have hown := l01Own2_c L (by omega) (fun t ht => by have := (hL t ht).1; omega)
  have hat : ∀ n : Nat, n < L.length → (L.getD (n : Int).toNat []).length = 2 ∧ (1 ≤ geti (L.getD (n : Int).toNat []) ((Int.toNat 0 : Nat) : Int) ∧ geti (L.getD (n : Int).toNat []) ((Int.toNat 0 : Nat) : Int) ≤ 1000000) ∧ (-1000000000000 ≤ geti (L.getD (n : Int).toNat []) ((Int.toNat 1 : Nat) : Int) ∧ geti (L.getD (n : Int).toNat []) ((Int.toNat 1 : Nat) : Int) ≤ 1000000000000) := fun n hn => by
    have : L.getD n [] ∈ L := by rw [List.getD_eq_getElem?_getD, List.getElem?_eq_getElem hn]; exact List.getElem_mem hn
    exact hL _ this
  (refine AFnT.start Try.func71 Try.ntmps71 rfl (by kernel_rfl) fun K => ?_; simp only [Env.start, enumF, List.map_cons, List.map_nil, AV.sh, List.length_cons, List.length_nil, Nat.reduceAdd, Nat.reduceSub, List.cons_append, List.nil_append])
  repeat' (first | (apply AOps.nil; try simp only [List.nil_append, List.cons_append, List.set_cons_zero, List.set_cons_succ, List.length_cons, List.length_nil, Nat.reduceAdd, AV.sh, AV.sh1, AV.sh0, AO.sh, List.map_cons, List.map_nil, Nat.zero_add, Nat.add_zero, setAll]) | (apply w_assign; exact rfl; exact rfl) | apply AWp.seq | apply AWp.region | apply AWp.block)
  refine AWp.loop (ι := Nat) (fun n => ⟨71, [(0, .own 1), (1, .i m), (2, .i e), (7, .i n)]⟩) (fun _ => [.keep 1 K, .sls 22 2 L]) (fun n => n ≤ L.length ∧ ∀ k, k < n → geti (L.getD k []) 0 < m) (fun n => L.length - n) 0 ⟨by omega, fun k hk => by omega⟩ ⟨lee rfl (by (repeat (first | exact le_nil | refine le_eq rfl rfl ?_))), by (repeat (first | exact lo_nil | refine lo_eq rfl ?_)), rfl, rfl⟩ ?_
  rintro n ⟨n0, n1⟩
  by_cases hlt : n < L.length
  · obtain ⟨t1, t2, t3⟩ := hat n hlt
    by_cases hb : geti (L.getD (n : Int).toNat []) ((Int.toNat 0 : Nat) : Int) < m
    · repeat' (first | (apply AOps.nil; try simp only [List.nil_append, List.cons_append, List.set_cons_zero, List.set_cons_succ, List.length_cons, List.length_nil, Nat.reduceAdd, AV.sh, AV.sh1, AV.sh0, AO.sh, List.map_cons, List.map_nil, Nat.zero_add, Nat.add_zero, setAll]) | ((apply AOps.splitP; exact rfl; exact rfl) <;> intro h) | (apply w_move; exact rfl; exact rfl) | (apply w_assign; exact rfl; exact rfl) | apply AWp.seq | apply AWp.region | ((apply AWp.condP; exact rfl) <;> intro h) | (apply AWp.condF; exact rfl) | apply AWp.block | apply AWp.exit | apply AWp.skip | (apply w_skip; exact rfl) | (apply w_pickT; exact rfl; exact rfl; exact rfl) | (apply w_pickF; exact rfl; exact rfl; exact rfl) | (apply w_len; exact rfl; exact rfl; first | exact .ints _ | exact .intss _ | exact .sli rfl | exact .sls rfl | exact .slr rfl | exact .orow rfl | exact .nil) | omega | ((first | apply w_lss | apply w_add | apply w_idx | apply w_ld); iterate 3 exact rfl) | (apply w_idxo; exact rfl; exact rfl; (exact .sls rfl); exact rfl) | ((first | apply w_idxr | apply w_ldr); iterate 4 exact rfl) | (apply w_ldls; iterate 4 exact rfl) | (apply w_ldrp; iterate 4 exact rfl) | (apply inI_of <;> omega))
      refine ⟨n + 1, ⟨hlt, fun k hk => ?_⟩, by omega, ⟨lee rfl (by (repeat (first | exact le_nil | refine le_eq rfl rfl ?_))), by (repeat (first | exact lo_nil | refine lo_eq rfl ?_)), rfl, rfl⟩⟩
      by_cases ek : k = n
      · subst ek; exact hb
      · exact n1 k (by omega)
    · have ep : zIdx L m = n := zIdx_eq n0 n1 (.inr hb)
      by_cases hs : geti (L.getD (n : Int).toNat []) ((Int.toNat 0 : Nat) : Int) = m
      · have hput : putZ L m e = L.set n ((L.getD n []).set 1 (geti (L.getD n []) 1 + e)) := by
          unfold putZ
          rw [ep, if_pos ⟨hlt, hs⟩]
        repeat' (first | (apply AOps.nil; try simp only [List.nil_append, List.cons_append, List.set_cons_zero, List.set_cons_succ, List.length_cons, List.length_nil, Nat.reduceAdd, AV.sh, AV.sh1, AV.sh0, AO.sh, List.map_cons, List.map_nil, Nat.zero_add, Nat.add_zero, setAll]) | ((apply AOps.splitP; exact rfl; exact rfl) <;> intro h) | (apply w_move; exact rfl; exact rfl) | (apply w_assign; exact rfl; exact rfl) | apply AWp.seq | apply AWp.region | ((apply AWp.condP; exact rfl) <;> intro h) | (apply AWp.condF; exact rfl) | apply AWp.block | apply AWp.exit | apply AWp.skip | (apply w_skip; exact rfl) | (apply w_pickT; exact rfl; exact rfl; exact rfl) | (apply w_pickF; exact rfl; exact rfl; exact rfl) | (apply w_len; exact rfl; exact rfl; first | exact .ints _ | exact .intss _ | exact .sli rfl | exact .sls rfl | exact .slr rfl | exact .orow rfl | exact .nil) | (apply w_callm (hown); (focus ((repeat (first | exact im_nil | refine im_cons rfl (.sls rfl) ?_)); done)); rintro r os0 ⟨rfl, rfl⟩; try simp only [List.nil_append, List.cons_append, List.set_cons_zero, List.set_cons_succ, List.length_cons, List.length_nil, Nat.reduceAdd, AV.sh, AV.sh1, AV.sh0, AO.sh, List.map_cons, List.map_nil, Nat.zero_add, Nat.add_zero, setAll]) | omega | ((first | apply w_lss | apply w_eql | apply w_idx | apply w_ld); iterate 3 exact rfl) | (apply w_idxo; exact rfl; exact rfl; (exact .sls rfl); exact rfl) | ((first | apply w_idxr | apply w_ldr); iterate 4 exact rfl) | (apply w_ldls; iterate 4 exact rfl) | (apply w_ldrp; iterate 4 exact rfl))
        refine AWp.regionA (by kernel_rfl) (envC := ⟨71, [(8, .own 2)]⟩) (osC := [.keep 1 K, .sls 22 2 L, .sls 22 2 (L.set n ((L.getD n []).set 1 (geti (L.getD n []) 1 + e)))]) rfl rfl ?_ ?_
        · repeat' (first | (apply AOps.nil; try simp only [List.nil_append, List.cons_append, List.set_cons_zero, List.set_cons_succ, List.length_cons, List.length_nil, Nat.reduceAdd, AV.sh, AV.sh1, AV.sh0, AO.sh, List.map_cons, List.map_nil, Nat.zero_add, Nat.add_zero, setAll]) | (apply w_move; exact rfl; exact rfl) | (apply w_storp; exact rfl; exact rfl; rotate_left 2; exact rfl; rotate_left 2) | omega | ((first | apply w_add | apply w_idx | apply w_ld); iterate 3 exact rfl) | (apply w_idxo; exact rfl; exact rfl; (exact .sls rfl); exact rfl) | ((first | apply w_idxr | apply w_ldr); iterate 4 exact rfl) | (apply w_ldls; iterate 4 exact rfl) | (apply w_ldrp; iterate 4 exact rfl) | apply AllOf.nil | (apply AllOf.cons; exact rfl) | (apply AAny.take; exact rfl; exact rfl; kernel_rfl; kernel_rfl) | (apply AAny.all; exact rfl) | (apply AAny.done; exact rfl) | (apply inI_of <;> omega))
          all_goals (apply Or.inl; refine ⟨lee rfl ?_, ?_, rfl, rfl⟩; (focus ((repeat (first | exact le_nil | refine le_eq rfl rfl ?_)); done)); (focus ((repeat (first | exact lo_nil | refine lo_eq rfl ?_)); done)))
        repeat' (first | (apply AOps.nil; try simp only [List.nil_append, List.cons_append, List.set_cons_zero, List.set_cons_succ, List.length_cons, List.length_nil, Nat.reduceAdd, AV.sh, AV.sh1, AV.sh0, AO.sh, List.map_cons, List.map_nil, Nat.zero_add, Nat.add_zero, setAll]) | (apply w_move; exact rfl; exact rfl) | (apply w_assign; exact rfl; exact rfl) | apply AWp.seq | apply AWp.region | apply AWp.ret)
        exact ⟨_, _, 2, _, .refl, .v1 Try.results71 rfl, rfl, hput.symm, rfl⟩
      · have hput : putZ L m e = L.take n ++ [m, e] :: L.drop n := by
          unfold putZ
          rw [ep, if_neg (fun h => hs h.2)]
        repeat' (first | (apply AOps.nil; try simp only [List.nil_append, List.cons_append, List.set_cons_zero, List.set_cons_succ, List.length_cons, List.length_nil, Nat.reduceAdd, AV.sh, AV.sh1, AV.sh0, AO.sh, List.map_cons, List.map_nil, Nat.zero_add, Nat.add_zero, setAll]) | ((apply AOps.splitP; exact rfl; exact rfl) <;> intro h) | (apply w_move; exact rfl; exact rfl) | (apply w_assign; exact rfl; exact rfl) | apply AWp.seq | apply AWp.region | ((apply AWp.condP; exact rfl) <;> intro h) | (apply AWp.condF; exact rfl) | apply AWp.block | apply AWp.ret | apply AWp.exit | apply AWp.skip | (apply w_skip; exact rfl) | (apply w_pickT; exact rfl; exact rfl; exact rfl) | (apply w_pickF; exact rfl; exact rfl; exact rfl) | (apply w_len; exact rfl; exact rfl; first | exact .ints _ | exact .intss _ | exact .sli rfl | exact .sls rfl | exact .slr rfl | exact .orow rfl | exact .nil) | (apply w_bslr0; exact rfl; try simp only [List.nil_append, List.cons_append, List.set_cons_zero, List.set_cons_succ, List.length_cons, List.length_nil, Nat.reduceAdd, AV.sh, AV.sh1, AV.sh0, AO.sh, List.map_cons, List.map_nil, Nat.zero_add, Nat.add_zero, setAll]) | (apply w_bslr1; exact rfl; exact rfl; exact rfl; try simp only [List.nil_append, List.cons_append, List.set_cons_zero, List.set_cons_succ, List.length_cons, List.length_nil, Nat.reduceAdd, AV.sh, AV.sh1, AV.sh0, AO.sh, List.map_cons, List.map_nil, Nat.zero_add, Nat.add_zero, setAll]) | (apply w_appsub; exact rfl; exact rfl; exact rfl; exact rfl; exact rfl; rotate_left 3; simp only [Env.mp, List.map_cons, List.map_nil, List.set_cons_zero, List.set_cons_succ, AV.kill, AV.kill1, AO.kill, AV.lose, AV.lose1, List.map_append, map_orow_kill, AV.noRow, AV.noRow1, AO.via, reduceIte, Nat.reduceEqDiff, Nat.reduceLT, Env.up, Nat.zero_ne_one, Nat.one_ne_zero, Nat.reduceAdd, List.cons_append, List.nil_append]; rotate_left 3; (focus (exact rfl); done)) | (apply w_appslr; exact rfl; exact rfl; exact rfl; exact rfl; exact rfl; (focus ((repeat (first | exact rowsOk_map rfl | refine rowsOk_cons rfl ?_)); done)); rotate_left 1; (focus (simp only [List.map_append, List.map_cons, List.map_nil, map_orow_kill, AV.kill, reduceIte, Nat.reduceEqDiff]; done); done); (focus (simp only [List.map_append, List.map_cons, List.map_nil, map_orow_kill, AV.kill, reduceIte, Nat.reduceEqDiff]; done); done); simp only [Env.mp, List.map_cons, List.map_nil, List.set_cons_zero, List.set_cons_succ, AV.kill, AV.kill1, AO.kill, AV.lose, AV.lose1, List.map_append, map_orow_kill, AV.noRow, AV.noRow1, AO.via, reduceIte, Nat.reduceEqDiff, Nat.reduceLT, Env.up, Nat.zero_ne_one, Nat.one_ne_zero, Nat.reduceAdd, List.cons_append, List.nil_append]; rotate_left 1) | ((first | apply w_slshi | apply w_slslo); iterate 4 exact rfl) | omega | ((first | apply w_lss | apply w_eql | apply w_idx | apply w_ld | apply w_bs2); iterate 3 exact rfl) | (apply w_idxo; exact rfl; exact rfl; (exact .sls rfl); exact rfl) | ((first | apply w_idxr | apply w_ldr); iterate 4 exact rfl) | (apply w_ldls; iterate 4 exact rfl) | (apply w_ldrp; iterate 4 exact rfl) | (apply inI_of <;> omega) | (simp <;> omega))
        all_goals
          refine ⟨_, _, 4, _, Turns.gather (p := 4) (k := 1) (m := 2) (i1 := List.range' 0 n) (i2 := List.range' n (L.length - n)) rfl rfl rfl rfl (range_nodup (by omega)), .v1 Try.results71 rfl, rfl, ?_, rfl⟩
          rw [hput, rows_take L n n0, rows_drop]
  · have en : n = L.length := by omega
    have ep : zIdx L m = n := zIdx_eq n0 n1 (.inl en)
    have hput : putZ L m e = L.take n ++ [m, e] :: L.drop n := by
      unfold putZ
      rw [ep, if_neg (fun h => hlt h.1)]
    repeat' (first | (apply AOps.nil; try simp only [List.nil_append, List.cons_append, List.set_cons_zero, List.set_cons_succ, List.length_cons, List.length_nil, Nat.reduceAdd, AV.sh, AV.sh1, AV.sh0, AO.sh, List.map_cons, List.map_nil, Nat.zero_add, Nat.add_zero, setAll]) | ((apply AOps.splitP; exact rfl; exact rfl) <;> intro h) | (apply w_move; exact rfl; exact rfl) | (apply w_assign; exact rfl; exact rfl) | apply AWp.seq | apply AWp.region | (apply AWp.condF; exact rfl) | apply AWp.ret | apply AWp.exit | apply AWp.skip | (apply w_skip; exact rfl) | (apply w_pickF; exact rfl; exact rfl; exact rfl) | (apply w_len; exact rfl; exact rfl; first | exact .ints _ | exact .intss _ | exact .sli rfl | exact .sls rfl | exact .slr rfl | exact .orow rfl | exact .nil) | (apply w_bslr0; exact rfl; try simp only [List.nil_append, List.cons_append, List.set_cons_zero, List.set_cons_succ, List.length_cons, List.length_nil, Nat.reduceAdd, AV.sh, AV.sh1, AV.sh0, AO.sh, List.map_cons, List.map_nil, Nat.zero_add, Nat.add_zero, setAll]) | (apply w_bslr1; exact rfl; exact rfl; exact rfl; try simp only [List.nil_append, List.cons_append, List.set_cons_zero, List.set_cons_succ, List.length_cons, List.length_nil, Nat.reduceAdd, AV.sh, AV.sh1, AV.sh0, AO.sh, List.map_cons, List.map_nil, Nat.zero_add, Nat.add_zero, setAll]) | (apply w_appsub; exact rfl; exact rfl; exact rfl; exact rfl; exact rfl; rotate_left 3; simp only [Env.mp, List.map_cons, List.map_nil, List.set_cons_zero, List.set_cons_succ, AV.kill, AV.kill1, AO.kill, AV.lose, AV.lose1, List.map_append, map_orow_kill, AV.noRow, AV.noRow1, AO.via, reduceIte, Nat.reduceEqDiff, Nat.reduceLT, Env.up, Nat.zero_ne_one, Nat.one_ne_zero, Nat.reduceAdd, List.cons_append, List.nil_append]; rotate_left 3; (focus (exact rfl); done)) | (apply w_appslr; exact rfl; exact rfl; exact rfl; exact rfl; exact rfl; (focus ((repeat (first | exact rowsOk_map rfl | refine rowsOk_cons rfl ?_)); done)); rotate_left 1; (focus (simp only [List.map_append, List.map_cons, List.map_nil, map_orow_kill, AV.kill, reduceIte, Nat.reduceEqDiff]; done); done); (focus (simp only [List.map_append, List.map_cons, List.map_nil, map_orow_kill, AV.kill, reduceIte, Nat.reduceEqDiff]; done); done); simp only [Env.mp, List.map_cons, List.map_nil, List.set_cons_zero, List.set_cons_succ, AV.kill, AV.kill1, AO.kill, AV.lose, AV.lose1, List.map_append, map_orow_kill, AV.noRow, AV.noRow1, AO.via, reduceIte, Nat.reduceEqDiff, Nat.reduceLT, Env.up, Nat.zero_ne_one, Nat.one_ne_zero, Nat.reduceAdd, List.cons_append, List.nil_append]; rotate_left 1) | ((first | apply w_slshi | apply w_slslo); iterate 4 exact rfl) | omega | ((first | apply w_lss | apply w_bs2); iterate 3 exact rfl) | (apply inI_of <;> omega) | (simp <;> omega))
    all_goals
      refine ⟨_, _, 4, _, Turns.gather (p := 4) (k := 1) (m := 2) (i1 := List.range' 0 n) (i2 := List.range' n (L.length - n)) rfl rfl rfl rfl (range_nodup (by omega)), .v1 Try.results71 rfl, rfl, ?_, rfl⟩
      rw [hput, rows_take L n n0, rows_drop]
end Go.Proofs.Ytdkociacaagcoaa
/-
  Counters: the plain law. No condition.
-/
namespace Go.Proofs.Ytdkociacaagcoaa
open Go Go.RowKit

/-- Rows in order of their numbers, with counts that j changes can make. -/
structure ZI (j : Nat) (L : List (List Int)) : Prop where
  row : ∀ r ∈ L, ZOk (1 + 1000 * (j : Int)) r
  len : L.length ≤ 1 + j
  srt : L.Pairwise fun a b => geti a 0 < geti b 0
theorem zi_mono {j k : Nat} {L : List (List Int)} (h : ZI j L) (hjk : j ≤ k) : ZI k L :=
  ⟨fun r hr => by have := h.row r hr; unfold ZOk at *; omega, by have := h.len; omega, h.srt⟩
theorem zi_one : ZI 0 [[1, 1]] := ⟨fun r hr => by simp at hr; subst hr; exact ⟨rfl, by decide, by decide⟩, by simp, by simp⟩
theorem zi_nil : ZI 0 [] := ⟨fun r hr => by simp at hr, by simp, by simp⟩
theorem zIdx_le (L : List (List Int)) (m : Int) : zIdx L m ≤ L.length := List.findIdx_le_length
theorem zIdx_lt {L : List (List Int)} {m : Int} {k : Nat} (hk : k < zIdx L m) : geti (L.getD k []) 0 < m := by
  have hl := zIdx_le L m
  have := List.not_of_lt_findIdx (p := fun r => !decide (geti r 0 < m)) (xs := L) hk
  rw [List.getD_eq_getElem?_getD, List.getElem?_eq_getElem (by omega)]
  simpa using this
theorem zIdx_ge {L : List (List Int)} {m : Int} (h : zIdx L m < L.length) : m ≤ geti (L.getD (zIdx L m) []) 0 := by
  have := List.findIdx_getElem (p := fun r => !decide (geti r 0 < m)) (xs := L) (w := h)
  rw [List.getD_eq_getElem?_getD, List.getElem?_eq_getElem h]
  simp only [Option.getD_some]
  simp at this
  exact this
theorem srt_at {L : List (List Int)} (h : L.Pairwise fun a b => geti a 0 < geti b 0) {a b : Nat} (hab : a < b) (hb : b < L.length) : geti (L.getD a []) 0 < geti (L.getD b []) 0 := by
  have := (List.pairwise_iff_getElem.1 h) a b (by omega) hb hab
  rw [List.getD_eq_getElem?_getD, List.getElem?_eq_getElem (by omega), List.getD_eq_getElem?_getD, List.getElem?_eq_getElem hb]
  exact this
theorem zat {j : Nat} {L : List (List Int)} (h : ZI j L) (m : Int) : ZAt L m (zIdx L m) := by
  refine ⟨zIdx_le L m, fun k hk => ?_, fun k hk hl => ?_⟩
  · have := zIdx_lt hk
    unfold gets; rw [Int.toNat_natCast]; exact this
  · have hz := zIdx_ge (L := L) (m := m) (by omega)
    unfold gets; rw [Int.toNat_natCast]
    by_cases e : k = zIdx L m
    · rw [e]; exact hz
    · have := srt_at h.srt (a := zIdx L m) (b := k) (by omega) hl
      omega
theorem at_mem {L : List (List Int)} {k : Nat} (h : k < L.length) : L.getD k [] ∈ L := by
  rw [List.getD_eq_getElem?_getD, List.getElem?_eq_getElem h]; exact List.getElem_mem h
theorem zi_put {j : Nat} {L : List (List Int)} (h : ZI j L) {m e : Int} (hm : 1 ≤ m ∧ m ≤ 1000000) (he : -1000 ≤ e ∧ e ≤ 1000) : ZI (j + 1) (putZ L m e) := by
  have h' := zi_mono h (Nat.le_succ j)
  have hzl := zIdx_le L m
  unfold putZ
  split
  · rename_i hc
    obtain ⟨hc1, hc2⟩ := hc
    have hr := h.row _ (at_mem hc1)
    have hnew : ZOk (1 + 1000 * ((j + 1 : Nat) : Int)) ((L.getD (zIdx L m) []).set 1 (geti (L.getD (zIdx L m) []) 1 + e)) ∧ geti ((L.getD (zIdx L m) []).set 1 (geti (L.getD (zIdx L m) []) 1 + e)) 0 = geti (L.getD (zIdx L m) []) 0 := by
      generalize L.getD (zIdx L m) [] = r at hr ⊢
      obtain ⟨h1, h2, h3⟩ := hr
      match r, h1 with
      | [a, b], _ =>
        have h2' : 1 ≤ a ∧ a ≤ 1000000 := h2
        have h3' : -(1 + 1000 * (j : Int)) ≤ b ∧ b ≤ 1 + 1000 * (j : Int) := h3
        exact ⟨⟨rfl, h2', by show -(1 + 1000 * ((j + 1 : Nat) : Int)) ≤ b + e ∧ b + e ≤ 1 + 1000 * ((j + 1 : Nat) : Int); omega⟩, rfl⟩
    refine ⟨fun r hr => ?_, by rw [List.length_set]; exact h'.len, ?_⟩
    · rcases List.mem_or_eq_of_mem_set hr with hr | rfl
      · exact h'.row r hr
      · exact hnew.1
    · rw [List.pairwise_iff_getElem]
      intro a b ha hb hab
      rw [List.length_set] at ha hb
      have hs := srt_at h.srt hab hb
      rw [List.getD_eq_getElem?_getD, List.getElem?_eq_getElem ha, List.getD_eq_getElem?_getD, List.getElem?_eq_getElem hb] at hs
      simp only [Option.getD_some] at hs
      have key : ∀ (k : Nat) (hk : k < (L.set (zIdx L m) ((L.getD (zIdx L m) []).set 1 (geti (L.getD (zIdx L m) []) 1 + e))).length) (hk' : k < L.length), geti ((L.set (zIdx L m) ((L.getD (zIdx L m) []).set 1 (geti (L.getD (zIdx L m) []) 1 + e)))[k]) 0 = geti L[k] 0 := by
        intro k hk hk'
        rw [List.getElem_set]
        split
        · rename_i e1
          subst e1
          rw [hnew.2, List.getD_eq_getElem?_getD, List.getElem?_eq_getElem hc1]
          rfl
        · rfl
      rw [key a _ ha, key b _ hb]
      exact hs
  · rename_i hc
    have hgt : zIdx L m < L.length → m < geti (L.getD (zIdx L m) []) 0 := fun hl => by
      have := zIdx_ge hl
      have : geti (L.getD (zIdx L m) []) 0 ≠ m := fun e => hc ⟨hl, e⟩
      omega
    refine ⟨fun r hr => ?_, ?_, ?_⟩
    · rcases List.mem_append.1 hr with hr | hr
      · exact h'.row r (List.mem_of_mem_take hr)
      · rcases List.mem_cons.1 hr with rfl | hr
        · exact ⟨rfl, hm, by show -(1 + 1000 * ((j + 1 : Nat) : Int)) ≤ e ∧ e ≤ 1 + 1000 * ((j + 1 : Nat) : Int); omega⟩
        · exact h'.row r (List.mem_of_mem_drop hr)
    · have := h.len
      simp
      omega
    · rw [List.pairwise_append]
      refine ⟨h.srt.sublist (List.take_sublist _ _), ?_, fun a ha b hb => ?_⟩
      · rw [List.pairwise_cons]
        refine ⟨fun b hb => ?_, h.srt.sublist (List.drop_sublist _ _)⟩
        obtain ⟨k, hk, rfl⟩ := List.getElem_of_mem hb
        rw [List.length_drop] at hk
        rw [List.getElem_drop]
        have h1 := hgt (by omega)
        have e0 : geti [m, e] 0 = m := rfl
        rw [e0]
        by_cases ek : k = 0
        · subst ek
          rw [List.getD_eq_getElem?_getD, List.getElem?_eq_getElem (by omega)] at h1
          exact h1
        · have := srt_at h.srt (a := zIdx L m) (b := zIdx L m + k) (by omega) (by omega)
          rw [List.getD_eq_getElem?_getD (i := zIdx L m + k), List.getElem?_eq_getElem (by omega)] at this
          simp only [Option.getD_some] at this
          omega
      · obtain ⟨k, hk, rfl⟩ := List.getElem_of_mem ha
        have hk' : k < zIdx L m := by rw [List.length_take] at hk; omega
        have h1 := zIdx_lt hk'
        rw [List.getD_eq_getElem?_getD, List.getElem?_eq_getElem (by omega)] at h1
        rw [List.getElem_take]
        rcases List.mem_cons.1 hb with rfl | hb
        · exact h1
        · obtain ⟨k2, hk2, rfl⟩ := List.getElem_of_mem hb
          rw [List.length_drop] at hk2
          rw [List.getElem_drop]
          have := (List.pairwise_iff_getElem.1 h.srt) k (zIdx L m + k2) (by omega) (by omega) (by omega)
          exact this
end Go.Proofs.Ytdkociacaagcoaa
/-
  slices.Insert at slices of rows: one row more. No condition but a bound on the size.
-/
namespace Go.Proofs.Ytdkociacaagcoaa
open Go Go.RowKit Go.Lib
set_option linter.unusedVariables false
set_option linter.unusedSimpArgs false

set_option maxHeartbeats 4000000 in
set_option maxRecDepth 100000 in
/-- At the end. -/
theorem ins_end_k (base b n c vb vc : Nat) (cs : List Value) (rv : Value) (w : World) (hown : w.ownsRow base 22 1 (.slice (some ⟨b, 0, none⟩) n c) n cs) (hv : w.cell? ⟨vb, 0, none⟩ = some rv) (h1 : rv.oneCell' = true)
    (hn : n ≤ 1000000) (hbase : base ≤ w.heap.size) :
    Calls Try.prog 86 #[.slice (some ⟨b, 0, none⟩) n c, .int .i64 n, .slice (some ⟨vb, 0, none⟩) 1 vc] w fun ev w' =>
      ∃ s', ev = .returned s' ∧ w'.ownsRow base 22 1 s' (n + 1) (cs ++ [rv]) ∧ w.grownBy w' (some b) ∧ (s'.ownBlock = some b ∨ s'.ownBlock = some w.heap.size) := by
  have hc : n ≤ c ∧ c ≤ 9223372036854775807 := by
    rcases hown.2 with ⟨h, _⟩ | ⟨g, cap, cur, h, _, _, h4, h5, _⟩
    · cases h
    · cases h; unfold maxLen at h5; omega
  obtain ⟨ii, hi, hs, hz, hby⟩ := (inferInstance : TElem Try.prog 22 (.slice none 0 0) 24).info
  have ht : Try.prog.underlying 28 = some (.slice 22) := (inferInstance : TSlice Try.prog 28 22).und
  have hnews : ∀ j u, [rv][j]? = some u → w.cell? ((⟨vb, 0, none⟩ : Addr).add j) = some u := fun j u hj => by
    match j, hj with
    | 0, hj => simp at hj; subst hj; rw [Addr.add_zero']; exact hv
  have hones : ∀ u ∈ [rv], u.oneCell' = true := fun u hu => by simp at hu; subst hu; exact h1
  have h63 : n + 1 ≤ maxLen := by unfold maxLen; omega
  have hb24 : (n + 1) * 24 ≤ 140737488355328 := by omega
  obtain ⟨v', w1, r1, r2, r3, r4, r5⟩ := run_append_own_at (P := Try.prog) w base 28 28 22 ii _ 1 24 ht hi hz hs hby rfl (by omega) (.slice (some ⟨b, 0, none⟩) n c) n cs hown ⟨vb, 0, none⟩ 1 vc [rv] (by simp) hnews hones h63 hb24 hbase
  by_cases hcn : c = n
  · subst hcn
    go_enter Try.func86, Try.ntmps86
    go_wp2_with (at_builtin; refine Lib.wpList_append_run _ rfl _ _ _ _ rfl _ _ rfl rfl _ _ r1 ?_)
    go_ret
    exact ⟨_, rfl, r2, r3, r5⟩
  · go_enter Try.func86, Try.ntmps86
    go_wp2_with (at_builtin; refine Lib.wpList_append_run _ rfl _ _ _ _ rfl _ _ rfl rfl _ _ r1 ?_)
    go_ret
    exact ⟨_, rfl, r2, r3, r5⟩
set_option maxHeartbeats 4000000 in
set_option maxRecDepth 100000 in
/-- To no slice. -/
theorem ins_nil_k (base vb vc : Nat) (rv : Value) (w : World) (hv : w.cell? ⟨vb, 0, none⟩ = some rv) (h1 : rv.oneCell' = true) (hbase : base ≤ w.heap.size) :
    Calls Try.prog 86 #[.slice none 0 0, .int .i64 0, .slice (some ⟨vb, 0, none⟩) 1 vc] w fun ev w' =>
      ∃ s', ev = .returned s' ∧ w'.ownsRow base 22 1 s' 1 [rv] ∧ w.grownBy w' none ∧ (s'.ownBlock = none ∨ s'.ownBlock = some w.heap.size) := by
  obtain ⟨ii, hi, hs, hz, hby⟩ := (inferInstance : TElem Try.prog 22 (.slice none 0 0) 24).info
  have ht : Try.prog.underlying 28 = some (.slice 22) := (inferInstance : TSlice Try.prog 28 22).und
  have hnews : ∀ j u, [rv][j]? = some u → w.cell? ((⟨vb, 0, none⟩ : Addr).add j) = some u := fun j u hj => by
    match j, hj with
    | 0, hj => simp at hj; subst hj; rw [Addr.add_zero']; exact hv
  have hones : ∀ u ∈ [rv], u.oneCell' = true := fun u hu => by simp at hu; subst hu; exact h1
  obtain ⟨v', w1, r1, r2, r3, r4, r5⟩ := run_append_own_at (P := Try.prog) w base 28 28 22 ii _ 1 24 ht hi hz hs hby rfl (by omega) (.slice none 0 0) 0 [] (World.ownsRow_nil _ _ _ _) ⟨vb, 0, none⟩ 1 vc [rv] (by simp) hnews hones (by simp [maxLen]) (by omega) hbase
  go_enter Try.func86, Try.ntmps86
  go_wp2_with (at_builtin; refine Lib.wpList_append_run _ rfl _ _ _ _ rfl _ _ rfl rfl _ _ r1 ?_)
  go_ret
  exact ⟨_, rfl, by simpa using r2, r3, r5⟩
end Go.Proofs.Ytdkociacaagcoaa
/-
  slices.Insert at slices of rows: one row more, ahead of others, where there is room. No condition but a bound on the size.
-/
namespace Go.Proofs.Ytdkociacaagcoaa
open Go Go.RowKit Go.Lib

theorem owns_setCells {base b n c : Nat} {e : TypeId} : ∀ (vs : List Value) (o : Nat) (w : World) (xs : List Value), w.ownsRow base e 1 (.slice (some ⟨b, 0, none⟩) n c) n xs → o + vs.length ≤ n →
    (w.setCells b o vs).ownsRow base e 1 (.slice (some ⟨b, 0, none⟩) n c) n (xs.take o ++ vs ++ xs.drop (o + vs.length))
  | [], o, w, xs, h, _ => by simpa [World.setCells] using h
  | v :: r, o, w, xs, h, hl => by
    have hn : xs.length = n := by have := h.1; omega
    have h1 := (h.stored o v).1
    have ih := owns_setCells r (o + 1) _ _ h1 (by simp at hl; omega)
    rw [World.setCells]
    simp only [List.length_cons] at hl ⊢
    have e1 : (xs.set o v).take (o + 1) ++ r ++ (xs.set o v).drop (o + 1 + r.length) = xs.take o ++ v :: r ++ xs.drop (o + (r.length + 1)) := by
      rw [List.take_succ_eq_append_getElem (by rw [List.length_set]; omega), List.getElem_set_self, List.take_set_of_le (Nat.le_refl _), List.drop_set_of_lt (by omega), show o + 1 + r.length = o + (r.length + 1) by omega]
      simp
    rw [← e1]
    exact ih
end Go.Proofs.Ytdkociacaagcoaa
/-
  slices.Insert at slices of rows: one row more, ahead of others, where there is room. No condition but a bound on the size.
-/
namespace Go.Proofs.Ytdkociacaagcoaa
open Go Go.RowKit Go.Lib
set_option linter.unusedVariables false
set_option linter.unusedSimpArgs false

theorem owns_more {base b n c : Nat} {e : TypeId} {w : World} {cs : List Value} (h : w.ownsRow base e 1 (.slice (some ⟨b, 0, none⟩) n c) n cs) (hn : n + 1 ≤ c) : ∃ u, w.ownsRow base e 1 (.slice (some ⟨b, 0, none⟩) (n + 1) c) (n + 1) (cs ++ [u]) := by
  rcases h.2 with ⟨h', _⟩ | ⟨g, cap, cur, h', hb, hg, hnc, hcm, hcs, ht⟩
  · cases h'
  · cases h'
    have hlen : n < cur.toList.length := by simp; omega
    refine ⟨cur.toList[n], ⟨by have := h.1; simp; omega, .inr ⟨b, c, cur, rfl, hb, hg, hn, hcm, hcs, ?_⟩⟩⟩
    rw [Nat.mul_one] at ht ⊢
    rw [List.take_succ_eq_append_getElem hlen, ht]

set_option maxHeartbeats 8000000 in
set_option maxRecDepth 100000 in
theorem ins_shift_k (base b n c i vb vc : Nat) (cs : List Value) (rv : Value) (w : World) (hown : w.ownsRow base 22 1 (.slice (some ⟨b, 0, none⟩) n c) n cs) (hvown : w.ownsRow base 22 1 (.slice (some ⟨vb, 0, none⟩) 1 vc) 1 [rv])
    (h1 : rv.oneCell' = true) (h1c : ∀ v ∈ cs, v.oneCell' = true) (hi : i < n) (hroom : n + 1 ≤ c) (hvb : vb ≠ b) (hn : n ≤ 1000000) (hbase : base ≤ w.heap.size) :
    Calls Try.prog 86 #[.slice (some ⟨b, 0, none⟩) n c, .int .i64 i, .slice (some ⟨vb, 0, none⟩) 1 vc] w fun ev w' =>
      ev = .returned (.slice (some ⟨b, 0, none⟩) (n + 1) c) ∧ w' = (w.drew.setCells b (i + 1) (cs.drop i)).setCells b i [rv] := by
  obtain ⟨ii, hii, hs, hz, hby⟩ := (inferInstance : TElem Try.prog 22 (.slice none 0 0) 24).info
  have ht : Try.prog.underlying 28 = some (.slice 22) := (inferInstance : TSlice Try.prog 28 22).und
  have hcl : cs.length = n := by have := hown.1; omega
  obtain ⟨u, hown1⟩ := owns_more hown hroom
  have hsz : (Try.prog.info? 22).map (·.size) = some 1 := by rw [hii]; simp [hs]
  have hsize : ∀ w, (Go.sizeOf 22).run Try.prog w = .ok 1 w := fun w => by simp [Go.sizeOf, typeInfo, hii, hs]
  have hc63 : c ≤ 9223372036854775807 := by
    rcases hown.2 with ⟨h, _⟩ | ⟨g, cap, cur, h, _, _, h4, h5, _⟩
    · cases h
    · cases h; unfold maxLen at h5; omega
  have hshape : ∃ k, k ≠ 0 ∧ w.shape? b = some (22, k) := by
    rcases hown.2 with ⟨h, _⟩ | ⟨g, cap, cur, h, _, hg, h4, h5, h6, _⟩
    · cases h
    · cases h; exact ⟨cur.size, by omega, by simp [World.shape?, hg]⟩
  obtain ⟨kB, hkB, hsb⟩ := hshape
  have hshapev : ∃ k, w.shape? vb = some (22, k) := by
    rcases hvown.2 with ⟨h, _⟩ | ⟨g, cap, cur, h, _, hg, _⟩
    · cases h
    · cases h; exact ⟨cur.size, by simp [World.shape?, hg]⟩
  obtain ⟨kA, hsa⟩ := hshapev
  have hcs : ∀ j v, cs[j]? = some v → w.cell? ⟨b, j, none⟩ = some v := fun j v hj => by
    have hjl := (List.getElem?_eq_some_iff.1 hj).1
    rw [hown.cellAt j (by omega)]; exact hj
  have hsp : ∀ j, j < n + 1 → (w.cell? ⟨b, j, none⟩).isSome = true := fun j hj => by
    have hl1 := hown1.1
    rw [hown1.cellAt j (by omega), List.getElem?_eq_getElem (by omega)]; rfl
  have hfz : ∀ j, w.frozen? ⟨b, j, none⟩ = false := fun j => hown.frozenAt j
  have hv0 : w.cell? ⟨vb, 0, none⟩ = some rv := by rw [hvown.cellAt 0 (by omega)]; rfl
  have hov : ∀ lb cb, (callFunc 88 #[.slice (some ⟨vb, 0, none⟩) 1 vc, .slice (some ⟨b, i + 1, none⟩) lb cb]).run Try.prog w = .ok (.value (.bool false)) w := fun lb cb => by
    rw [run_callFunc_extern Try.func88 (by kernel_rfl) (by kernel_rfl) (by kernel_rfl) (e := Extern.SlicesOverlaps.overlaps #[28, 28] #[4]) (by kernel_rfl),
      Lib.run_overlaps_apart w 28 4 22 ht 1 hsize ⟨vb, 0, none⟩ ⟨b, i + 1, none⟩ 1 vc lb cb hvb _ _ kA kB hsa hsb hkB (hvown.frozenAt 0) (hvown.frozenAt kA)]
    rfl
  have hdl : (cs.drop i).length = n - i := by rw [List.length_drop, hcl]
  have hin : i ≤ n := by omega
  have htn : ((i : Int) + 1).toNat = i + 1 := by omega
  have hcp1 : ∀ ty dc sc, (Builtin.copy_ #[28, 28] ty #[.slice (some ⟨b, i + 1, none⟩) (n - i) dc, .slice (some ⟨b, i, none⟩) (n + 1 - i) sc]).run Try.prog w.drew = .ok (goInt (cs.drop i).length) (w.drew.setCells b (i + 1) (cs.drop i)) := fun ty dc sc =>
    run_copy_cells w.drew _ _ ty 22 b (i + 1) (n - i) dc ⟨b, i, none⟩ (n + 1 - i) sc (cs.drop i) ht hsz (by rw [hdl]; simp only [Nat.min_def]; split <;> omega)
      (fun j v hj => by rw [Addr.add_lit]; exact hcs (i + j) v (by rwa [List.getElem?_drop] at hj))
      (fun j hj => hsp _ (by omega)) (fun j hj => hfz _) (fun v hv => h1c v (List.mem_of_mem_drop hv))
  obtain ⟨W1, hW1⟩ : ∃ W1, W1 = w.drew.setCells b (i + 1) (cs.drop i) := ⟨_, rfl⟩
  have hsp1 : ∀ k, k < n + 1 → (W1.cell? ⟨b, k, none⟩).isSome = true := fun k hk => by
    rw [hW1]
    exact isSome_setCells b (cs.drop i) (i + 1) w.drew (fun j hj => hsp _ (by rw [hdl] at hj; omega)) k (hsp k hk)
  have hcp2 : ∀ (W : World), (∀ x, W.cell? x = W1.cell? x) → (∀ x, W.frozen? x = W1.frozen? x) → ∀ ty dc, (Builtin.copy_ #[28, 28] ty #[.slice (some ⟨b, i, none⟩) (n + 1 - i) dc, .slice (some ⟨vb, 0, none⟩) 1 vc]).run Try.prog W = .ok (goInt 1) (W.setCells b i [rv]) := fun W hWc hWf ty dc =>
    run_copy_cells W _ _ ty 22 b i (n + 1 - i) dc ⟨vb, 0, none⟩ 1 vc [rv] ht hsz (by simp only [List.length_cons, List.length_nil, Nat.min_def]; split <;> omega)
      (fun j v hj => by
        match j, hj with
        | 0, hj =>
          simp at hj; subst hj
          rw [Addr.add_zero', hWc, hW1, World.cell?_setCells_out b _ _ _ _ (fun h _ => absurd h hvb)]
          exact hv0)
      (fun j hj => by rw [hWc]; exact hsp1 _ (by simp at hj; omega)) (fun j hj => by rw [hWf, hW1, World.frozen?_setCells]; exact hfz _) (fun v hv => by simp at hv; subst hv; exact h1)
  rw [← hW1] at hcp1
  have hz2 : ¬ ((i : Int) = (n : Int)) := by omega
  have mixed : Try.prog.follows Departure.mixedOrders = true := by kernel_rfl
  have hb2 : ¬ (c = i + 1) := by omega
  have hb4 : ¬ (c = i) := by omega
  have hw1 : IntKind.i64.wrap ((i : Int) + 1) = (i : Int) + 1 := by rw [IntKind.wrap_i64]; omega
  have hb1 : (0 : Int) ≤ (i : Int) + 1 := by omega
  have hb3 : (i : Int) ≤ (n : Int) + 1 := by omega
  go_enter Try.func86, Try.ntmps86
  go_wp2_with (simp only [hov])
  go_region_law_o (refine step_copy_runI rfl _ _ 28 28 rfl _ _ (by simp [Act.eval, Act.put]) (by simp [Act.eval, Act.put]) (hcp1 _ _ _) ?_)
  go_wp2_with (at_builtin; refine wpList_copy_runI _ rfl _ _ 28 28 rfl _ _ rfl rfl (hcp2 _ (fun _ => rfl) (fun _ => rfl) _ _) ?_)
  go_ret
  first | exact ⟨rfl, rfl⟩ | exact ⟨rfl, by rw [hW1]⟩
end Go.Proofs.Ytdkociacaagcoaa
/-
  slices.Insert at slices of rows: one row more, ahead of others, where there is no room. No condition but a bound on the size.
-/
namespace Go.Proofs.Ytdkociacaagcoaa
open Go Go.RowKit Go.Lib
set_option linter.unusedVariables false
set_option linter.unusedSimpArgs false

set_option maxHeartbeats 8000000 in
set_option maxRecDepth 100000 in
theorem ins_grow_k (base b n c i vb vc : Nat) (cs : List Value) (rv : Value) (w : World) (hown : w.ownsRow base 22 1 (.slice (some ⟨b, 0, none⟩) n c) n cs) (hvown : w.ownsRow base 22 1 (.slice (some ⟨vb, 0, none⟩) 1 vc) 1 [rv])
    (h1 : rv.oneCell' = true) (h1c : ∀ v ∈ cs, v.oneCell' = true) (hi : i < n) (hroom : c < n + 1) (hn : n ≤ 1000000) (hbase : base ≤ w.heap.size) :
    Calls Try.prog 86 #[.slice (some ⟨b, 0, none⟩) n c, .int .i64 i, .slice (some ⟨vb, 0, none⟩) 1 vc] w fun ev w' =>
      ∃ (G : Nat) (ROW : Array Value), n + 1 ≤ G ∧ G ≤ maxLen ∧ ROW.size = G ∧ ev = .returned (.slice (some ⟨w.heap.size, 0, none⟩) (n + 1) G) ∧
        w' = (((w.alloc (.cells ROW 22)).drew.setCells w.heap.size i [rv]).drew).setCells w.heap.size (i + 1) (cs.drop i) ∧ ROW.toList.take i = cs.take i := by
  obtain ⟨ii, hii, hs, hz, hby⟩ := (inferInstance : TElem Try.prog 22 (.slice none 0 0) 24).info
  have ht : Try.prog.underlying 28 = some (.slice 22) := (inferInstance : TSlice Try.prog 28 22).und
  have ht3 : Try.prog.underlying 3 = some (.int .i64) := (inferInstance : TKind Try.prog 3 .i64).und
  have hcl : cs.length = n := by have := hown.1; omega
  have hsz : (Try.prog.info? 22).map (·.size) = some 1 := by rw [hii]; simp [hs]
  have hnc : n ≤ c := by
    rcases hown.2 with ⟨h, _⟩ | ⟨g, cap, cur, h, _, _, h4, h5, _⟩
    · cases h
    · cases h; exact h4
  have hcs : ∀ j v, cs[j]? = some v → w.cell? ⟨b, j, none⟩ = some v := fun j v hj => by
    have hjl := (List.getElem?_eq_some_iff.1 hj).1
    rw [hown.cellAt j (by omega)]; exact hj
  have hv0 : w.cell? ⟨vb, 0, none⟩ = some rv := by rw [hvown.cellAt 0 (by omega)]; rfl
  have hbw : b < w.heap.size := World.block_lt_of_cell? w _ (hcs 0 _ (List.getElem?_eq_getElem (by omega)))
  have hvw : vb < w.heap.size := World.block_lt_of_cell? w _ hv0
  have hkk : (n : Int) + 1 - (i : Int) = ((n + 1 - i : Nat) : Int) := by omega
  have hik : i + (n + 1 - i) = n + 1 := by omega
  have hold : (Builtin.firstCells ii.size i (.slice (some ⟨b, 0, none⟩) i c)).run Try.prog w.drew = .ok (cs.take i).toArray w.drew := by
    rw [hs]
    exact run_firstCells_some w.drew 1 i ⟨b, 0, none⟩ i c (cs.take i) (by rw [List.length_take]; omega) (fun j v hj => by
      rw [Addr.add_lit, Nat.zero_add]
      rw [List.getElem?_take] at hj
      split at hj
      · exact hcs j v hj
      · cases hj)
  have hrz : ∀ ty, (Builtin.append_ #[28, 3] ty #[.slice (some ⟨b, 0, none⟩) i c, .int .i64 ((n : Int) + 1 - (i : Int))]).run Try.prog w =
      .ok (.slice (some ⟨w.heap.size, 0, none⟩) (n + 1) (grownCap w (n + 1) c 22)) (w.drew.alloc (.cells ((cs.take i).toArray ++ Builtin.zeroCells (Value.slice none 0 0).cells (n + 1 - i) ++ Builtin.zeroCells (Value.slice none 0 0).cells (grownCap w (n + 1) c 22 - (n + 1))) 22)) := fun ty => by
    have h := Lib.run_append_grow_zeros w 28 3 ty 22 ii _ .i64 .i64 ht ht3 hii hz (some ⟨b, 0, none⟩) i c (cs.take i) hold (n + 1 - i) (by omega) (by omega) (by omega) (by omega) (by rw [hby]; omega) (by rw [hby, hik]; exact growslice_fits hroom (by omega))
    rw [hik] at h
    rw [hkk]
    exact h
  have hGn : n + 1 ≤ grownCap w (n + 1) c 22 := grownCap_ge w _ _ _
  have hGm : grownCap w (n + 1) c 22 ≤ maxLen := grownCap_le_maxLen w (n + 1) c 22 (by unfold maxLen; omega)
  generalize grownCap w (n + 1) c 22 = G at hrz hGn hGm
  obtain ⟨ROW, hROW⟩ : ∃ ROW : Array Value, ROW = (cs.take i).toArray ++ Builtin.zeroCells (Value.slice none 0 0).cells (n + 1 - i) ++ Builtin.zeroCells (Value.slice none 0 0).cells (G - (n + 1)) := ⟨_, rfl⟩
  rw [← hROW] at hrz
  have hRs : ROW.size = G := by
    rw [hROW]
    simp [Builtin.zeroCells, Value.cells]
    omega
  have hRt : ROW.toList.take i = cs.take i := by
    rw [hROW]
    simp only [Array.toList_append, List.append_assoc]
    rw [List.take_append_of_le_length (by simp; omega), List.take_of_length_le (by simp; omega)]
  have hG63 : G ≤ 9223372036854775807 := by unfold maxLen at hGm; omega
  have hRl : n + 1 ≤ ROW.size := by omega
  obtain ⟨W1, hW1⟩ : ∃ W1, W1 = w.drew.alloc (.cells ROW 22) := ⟨_, rfl⟩
  rw [← hW1] at hrz
  have hN : ∀ j, j < n + 1 → (W1.cell? ⟨w.heap.size, j, none⟩).isSome = true := fun j hj => by
    rw [hW1, World.cell?_alloc_at (w := w.drew) ROW _ w.heap.size j rfl, Array.getElem?_eq_getElem (by omega)]; rfl
  have hNf : ∀ j, W1.frozen? ⟨w.heap.size, j, none⟩ = false := fun j => by rw [hW1]; exact World.frozen?_alloc_at (w := w.drew) ROW _ w.heap.size j rfl
  have hOb : ∀ j v, w.cell? ⟨b, j, none⟩ = some v → W1.cell? ⟨b, j, none⟩ = some v := fun j v h => by rw [hW1, World.cell?_alloc_past (w := w.drew) _ b j hbw]; exact h
  have hOv : ∀ j v, w.cell? ⟨vb, j, none⟩ = some v → W1.cell? ⟨vb, j, none⟩ = some v := fun j v h => by rw [hW1, World.cell?_alloc_past (w := w.drew) _ vb j hvw]; exact h
  have hcpA : ∀ (W : World), (∀ x, W.cell? x = W1.cell? x) → (∀ x, W.frozen? x = W1.frozen? x) → ∀ ty dc, (Builtin.copy_ #[28, 28] ty #[.slice (some ⟨w.heap.size, i, none⟩) (n + 1 - i) dc, .slice (some ⟨vb, 0, none⟩) 1 vc]).run Try.prog W = .ok (goInt 1) (W.setCells w.heap.size i [rv]) := fun W hWc hWf ty dc =>
    run_copy_cells W _ _ ty 22 w.heap.size i (n + 1 - i) dc ⟨vb, 0, none⟩ 1 vc [rv] ht hsz (by simp only [List.length_cons, List.length_nil, Nat.min_def]; split <;> omega)
      (fun j v hj => by
        match j, hj with
        | 0, hj =>
          simp at hj; subst hj
          rw [Addr.add_zero', hWc]
          exact hOv _ _ hv0)
      (fun j hj => by rw [hWc]; exact hN _ (by simp at hj; omega)) (fun j hj => by rw [hWf]; exact hNf _) (fun v hv => by simp at hv; subst hv; exact h1)
  have hGi : ¬ (G = i) := by omega
  have hGim : ¬ (G = i + 1) := by omega
  have hci : ¬ (c = i) := by omega
  have hbN : b ≠ w.heap.size := by omega
  have hdl : (cs.drop i).length = n - i := by rw [List.length_drop, hcl]
  have hcpB : ∀ (W : World), (∀ x, W.cell? x = (W1.setCells w.heap.size i [rv]).cell? x) → (∀ x, W.frozen? x = (W1.setCells w.heap.size i [rv]).frozen? x) → ∀ ty dc sc, (Builtin.copy_ #[28, 28] ty #[.slice (some ⟨w.heap.size, i + 1, none⟩) (n - i) dc, .slice (some ⟨b, i, none⟩) (n - i) sc]).run Try.prog W = .ok (goInt (cs.drop i).length) (W.setCells w.heap.size (i + 1) (cs.drop i)) := fun W hWc hWf ty dc sc =>
    run_copy_cells W _ _ ty 22 w.heap.size (i + 1) (n - i) dc ⟨b, i, none⟩ (n - i) sc (cs.drop i) ht hsz (by rw [hdl]; simp only [Nat.min_def]; split <;> omega)
      (fun j v hj => by
        rw [Addr.add_lit, hWc, World.cell?_setCells_out _ _ _ _ _ (fun h _ => absurd h hbN)]
        exact hOb _ v (hcs (i + j) v (by rwa [List.getElem?_drop] at hj)))
      (fun j hj => by rw [hWc]; exact isSome_setCells _ _ _ _ (fun t ht => hN _ (by simp at ht; omega)) _ (hN _ (by omega)))
      (fun j hj => by rw [hWf, World.frozen?_setCells]; exact hNf _) (fun v hv => h1c v (List.mem_of_mem_drop hv))
  subst hW1
  have hE1 : ∀ x, ((w.alloc (.cells ROW 22)).drew).cell? x = (w.drew.alloc (.cells ROW 22)).cell? x := fun x => rfl
  have hE2 : ∀ x, ((w.alloc (.cells ROW 22)).drew).frozen? x = (w.drew.alloc (.cells ROW 22)).frozen? x := fun x => rfl
  have hF1 : ∀ x, (((w.alloc (.cells ROW 22)).drew.setCells w.heap.size i [rv]).drew).cell? x = ((w.drew.alloc (.cells ROW 22)).setCells w.heap.size i [rv]).cell? x := fun x => rfl
  have hF2 : ∀ x, (((w.alloc (.cells ROW 22)).drew.setCells w.heap.size i [rv]).drew).frozen? x = ((w.drew.alloc (.cells ROW 22)).setCells w.heap.size i [rv]).frozen? x := fun x => rfl
  have mixed : Try.prog.follows Departure.mixedOrders = true := by kernel_rfl
  have hz2 : ¬ ((i : Int) = (n : Int)) := by omega
  have hz3 : (c : Int) < (n : Int) + 1 := by omega
  have hw1 : IntKind.i64.wrap ((i : Int) + 1) = (i : Int) + 1 := by rw [IntKind.wrap_i64]; omega
  have hb1 : (0 : Int) ≤ (i : Int) + 1 := by omega
  have hin : i ≤ n := by omega
  have htn : ((i : Int) + 1).toNat = i + 1 := by omega
  have hb3 : (i : Int) ≤ (n : Int) := by omega
  have hb4 : (i : Int) ≤ (n : Int) + 1 := by omega
  refine Calls.mono (R := fun ev w' => ev = .returned (.slice (some ⟨w.heap.size, 0, none⟩) (n + 1) G) ∧ w' = (((w.alloc (.cells ROW 22)).drew.setCells w.heap.size i [rv]).drew).setCells w.heap.size (i + 1) (cs.drop i)) ?_ (fun ev w' ⟨q1, q2⟩ => ⟨G, ROW, hGn, hGm, hRs, q1, q2, hRt⟩)
  clear hkk hik hold hRl hRs hRt hROW
  go_enter Try.func86, Try.ntmps86
  go_wp2_with (first
    | (at_builtin; refine Lib.wpList_append_run _ rfl _ _ _ _ rfl _ _ rfl rfl _ _ (hrz _) ?_)
    | (at_builtin; refine wpList_copy_runI _ rfl _ _ 28 28 rfl _ _ rfl rfl (hcpA _ hE1 hE2 _ _) ?_)
    | (at_builtin; refine wpList_copy_runI _ rfl _ _ 28 28 rfl _ _ rfl rfl (hcpB _ (fun _ => rfl) (fun _ => rfl) _ _ _) ?_))
  go_region_law_o (refine step_copy_runI rfl _ _ 28 28 rfl (.slice (some ⟨w.heap.size, i + 1, none⟩) (n - i) (G - (i + 1))) (.slice (some ⟨b, i, none⟩) (n - i) (c - i)) (by simp [Act.eval, Act.put]) (by simp [Act.eval, Act.put]) (hcpB _ hF1 hF2 3 (G - (i + 1)) (c - i)) ?_)
  go_wp2
  go_ret
  exact ⟨rfl, rfl⟩
end Go.Proofs.Ytdkociacaagcoaa
/-
  slices.Insert at slices of rows: one row more. No condition but a bound on the size.
-/
namespace Go.Proofs.Ytdkociacaagcoaa
open Go Go.RowKit Go.Lib
set_option linter.unusedVariables false
set_option linter.unusedSimpArgs false

theorem ins_list {cs A : List Value} {rv : Value} {i n : Nat} (hn : cs.length = n) (hi : i < n) (hA : A.take i = cs.take i) (hl : A.length = n + 1) :
    ((A.take i ++ [rv] ++ A.drop (i + 1)).take (i + 1) ++ cs.drop i ++ (A.take i ++ [rv] ++ A.drop (i + 1)).drop (i + 1 + (cs.drop i).length)) = cs.take i ++ rv :: cs.drop i := by
  have e1 : (A.take i ++ [rv]).length = i + 1 := by simp; omega
  have e2 : (A.take i ++ [rv] ++ A.drop (i + 1)).drop (i + 1 + (cs.drop i).length) = [] := List.drop_of_length_le (by rw [List.length_append, e1, List.length_drop, List.length_drop]; omega)
  have e3 : (A.take i ++ [rv] ++ A.drop (i + 1)).take (i + 1) = A.take i ++ [rv] := by rw [List.take_append_of_le_length (by omega), List.take_of_length_le (by omega)]
  rw [e2, e3, List.append_nil, hA, List.append_assoc]
  rfl
theorem ins_list2 {cs : List Value} {u rv : Value} {i n : Nat} (hn : cs.length = n) (hi : i < n) :
    (((cs ++ [u]).take (i + 1) ++ cs.drop i ++ (cs ++ [u]).drop (i + 1 + (cs.drop i).length)).take i ++ [rv] ++ ((cs ++ [u]).take (i + 1) ++ cs.drop i ++ (cs ++ [u]).drop (i + 1 + (cs.drop i).length)).drop (i + [rv].length)) = cs.take i ++ rv :: cs.drop i := by
  have hl : ((cs ++ [u]).take (i + 1)).length = i + 1 := by simp; omega
  have e1 : (cs ++ [u]).drop (i + 1 + (cs.drop i).length) = [] := List.drop_of_length_le (by simp; omega)
  rw [e1, List.append_nil, List.length_singleton, List.take_append_of_le_length (by omega), List.take_take, Nat.min_eq_left (by omega), List.take_append_of_le_length (by omega), List.drop_append_of_le_length (by omega), List.drop_of_length_le (by omega)]
  simp
theorem ins_k (base vb vc i : Nat) (s : Value) (cs : List Value) (rv : Value) (w : World) (hown : w.ownsRow base 22 1 s cs.length cs) (hvown : w.ownsRow base 22 1 (.slice (some ⟨vb, 0, none⟩) 1 vc) 1 [rv])
    (h1 : rv.oneCell' = true) (h1c : ∀ v ∈ cs, v.oneCell' = true) (hi : i ≤ cs.length) (hap : s.ownBlock ≠ some vb) (hn : cs.length ≤ 1000000) (hbase : base ≤ w.heap.size) :
    Calls Try.prog 86 #[s, .int .i64 i, .slice (some ⟨vb, 0, none⟩) 1 vc] w fun ev w' =>
      ∃ s', ev = .returned s' ∧ w'.ownsRow base 22 1 s' (cs.length + 1) (cs.take i ++ rv :: cs.drop i) ∧ Below base w w' ∧ (∀ k, k < w.heap.size → some k ≠ s.ownBlock → w'.heap[k]? = w.heap[k]?) ∧ (s'.ownBlock = s.ownBlock ∨ s'.ownBlock = some w.heap.size) := by
  have hv0 : w.cell? ⟨vb, 0, none⟩ = some rv := by rw [hvown.cellAt 0 (by omega)]; rfl
  rcases hown.2 with ⟨rfl, h0⟩ | ⟨b, c, cur, rfl, hb, hg, hnc, hcm, hcs, htk⟩
  · obtain rfl : cs = [] := List.length_eq_zero_iff.1 h0
    obtain rfl : i = 0 := by simpa using hi
    refine (ins_nil_k base vb vc rv w hv0 h1 hbase).mono ?_
    rintro ev w' ⟨s', e1, e2, e3, e4⟩
    exact ⟨s', e1, by simpa using e2, (Below.refl _ _).grown e3 hbase (fun k hk => by cases hk), e3.block, e4⟩
  · rcases Nat.lt_or_ge i cs.length with hlt | hge
    · rcases Nat.lt_or_ge c (cs.length + 1) with hr | hr
      · refine (ins_grow_k base b cs.length c i vb vc cs rv w hown hvown h1 h1c hlt hr hn hbase).mono ?_
        rintro ev w' ⟨G, ROW, g1, g2, g3, e1, e2, e3⟩
        have o1 : (w.alloc (.cells ROW 22)).drew.ownsRow base 22 1 (.slice (some ⟨w.heap.size, 0, none⟩) (cs.length + 1) G) (cs.length + 1) (ROW.toList.take (cs.length + 1)) := by
          refine ⟨by simp; omega, .inr ⟨w.heap.size, G, ROW, rfl, hbase, heap_alloc_new w _, g1, g2, by omega, by rw [Nat.mul_one]⟩⟩
        have o2 := owns_setCells [rv] i _ _ o1 (by simp; omega)
        have o3 : ((w.alloc (.cells ROW 22)).drew.setCells w.heap.size i [rv]).drew.ownsRow base 22 1 (.slice (some ⟨w.heap.size, 0, none⟩) (cs.length + 1) G) (cs.length + 1) ((ROW.toList.take (cs.length + 1)).take i ++ [rv] ++ (ROW.toList.take (cs.length + 1)).drop (i + [rv].length)) := o2
        have o4 := owns_setCells (cs.drop i) (i + 1) _ _ o3 (by simp; omega)
        have hl : (ROW.toList.take (cs.length + 1)).length = cs.length + 1 := by simp; omega
        have ht : (ROW.toList.take (cs.length + 1)).take i = cs.take i := by rw [List.take_take, Nat.min_eq_left (by omega), e3]
        rw [List.length_singleton, ins_list rfl hlt ht hl] at o4
        have bl : Below base w ((((w.alloc (.cells ROW 22)).drew.setCells w.heap.size i [rv]).drew).setCells w.heap.size (i + 1) (cs.drop i)) :=
          below_setCells hbase _ _ _ (Below.drew (below_setCells hbase _ _ _ (Below.drew ((below_alloc w _).mono hbase))))
        have bl2 : Below w.heap.size w ((((w.alloc (.cells ROW 22)).drew.setCells w.heap.size i [rv]).drew).setCells w.heap.size (i + 1) (cs.drop i)) :=
          below_setCells (Nat.le_refl _) _ _ _ (Below.drew (below_setCells (Nat.le_refl _) _ _ _ (Below.drew (below_alloc w _))))
        subst e2
        exact ⟨_, e1, o4, bl, fun k hk _ => bl2.block k hk, .inr rfl⟩
      · refine (ins_shift_k base b cs.length c i vb vc cs rv w hown hvown h1 h1c hlt hr (fun e => hap (by rw [← e]; rfl)) hn hbase).mono ?_
        rintro ev w' ⟨e1, e2⟩
        obtain ⟨u, o1⟩ := owns_more hown hr
        have o1' : w.drew.ownsRow base 22 1 (.slice (some ⟨b, 0, none⟩) (cs.length + 1) c) (cs.length + 1) (cs ++ [u]) := o1
        have o2 := owns_setCells (cs.drop i) (i + 1) _ _ o1' (by simp; omega)
        have o3 := owns_setCells [rv] i _ _ o2 (by simp; omega)
        rw [ins_list2 rfl hlt] at o3
        subst e2
        refine ⟨_, e1, o3, below_setCells hb _ _ _ (below_setCells hb _ _ _ (Below.drew (Below.refl _ _))), fun k hk hne => ?_, .inl rfl⟩
        have hkb : k ≠ b := fun e => hne (by rw [e]; rfl)
        have sz := (below_setCells (Nat.zero_le b) (cs.drop i) (i + 1) w.drew (Below.drew (Below.refl 0 w))).size
        have hk1 : k < w.drew.heap.size := hk
        rw [World.heap_setCells_other _ _ _ _ (Nat.lt_of_lt_of_le hk sz) hkb, World.heap_setCells_other _ _ _ _ hk1 hkb]
        rfl
    · obtain rfl : i = cs.length := by omega
      refine (ins_end_k base b cs.length c vb vc cs rv w hown hv0 h1 hn hbase).mono ?_
      rintro ev w' ⟨s', e1, e2, e3, e4⟩
      refine ⟨s', e1, by simpa using e2, (Below.refl _ _).grown e3 hbase (fun k hk => by cases hk; exact hb), e3.block, e4⟩
end Go.Proofs.Ytdkociacaagcoaa
/-
  slices.Insert as an operation of the engine: one row more. No condition but a bound on the size.
-/
namespace Go.Proofs.Ytdkociacaagcoaa
open Go Go.RowKit
set_option linter.unusedVariables false
set_option linter.unusedSimpArgs false

theorem ins_get {α : Type} (l : List α) (x : α) {i : Nat} (hi : i ≤ l.length) (j : Nat) : (l.take i ++ x :: l.drop i)[j]? = if j < i then l[j]? else if j = i then some x else l[j - 1]? := by
  have hl : (l.take i).length = i := by simp; omega
  by_cases h1 : j < i
  · rw [if_pos h1, List.getElem?_append_left (by omega), List.getElem?_take_of_lt h1]
  · rw [if_neg h1, List.getElem?_append_right (by omega), hl]
    by_cases h2 : j = i
    · rw [if_pos h2, h2, Nat.sub_self]; rfl
    · rw [if_neg h2]
      obtain ⟨k, hk⟩ : ∃ k, j - i = k + 1 := ⟨j - i - 1, by omega⟩
      rw [hk, List.getElem?_cons_succ, List.getElem?_drop]
      congr 1
      omega
theorem ins_getD {α : Type} (l : List α) (x d : α) {i : Nat} (hi : i ≤ l.length) (j : Nat) : (l.take i ++ x :: l.drop i).getD j d = if j < i then l.getD j d else if j = i then x else l.getD (j - 1) d := by
  simp only [List.getD_eq_getElem?_getD, ins_get l x hi]
  by_cases h1 : j < i
  · rw [if_pos h1, if_pos h1]
  · rw [if_neg h1, if_neg h1]
    by_cases h2 : j = i
    · rw [if_pos h2, if_pos h2]; rfl
    · rw [if_neg h2, if_neg h2]
theorem ins_flat (bs : List (List Nat)) (c : List Nat) (i : Nat) : (bs.take i ++ c :: bs.drop i).flatten.Perm (c ++ bs.flatten) := by
  have e : bs.flatten = (bs.take i).flatten ++ (bs.drop i).flatten := by rw [← List.flatten_append, List.take_append_drop]
  rw [List.flatten_append, List.flatten_cons, e, ← List.append_assoc, ← List.append_assoc]
  exact List.Perm.append_right _ List.perm_append_comm

section
variable {env : Env} {os : List AO} {d : Option Tmp} {ty : TypeId} {pos : String} {af : Array Edge} {g : Option (Nat × Bool)}
set_option maxHeartbeats 2000000 in
theorem c_insert {x y z : Operand} {ats : Array TypeId} {h m i : Nat} {e2 : TypeId} {L : List (List Int)} {row : List Int} (hx : AV.ev env x = .own h) (hs : os[h]? = some (.sls 22 e2 L)) (hy : AV.ev env y = .i i) (hi : i ≤ L.length) (hz : AV.ev env z = .own m) (hm : os[m]? = some (.sls 22 e2 [row])) (hhm : (h == m) = false) (hn : L.length ≤ 1000000) :
    COp Try.prog ⟨d, .call { callee := .value (.func 86), args := #[x, y, z], argTypes := ats }, ty, pos, af, g⟩ env os
      (fun r en o => r = .own h ∧ en = env.mp (AV.lose h) ∧ o = ((os.map (AO.via (AV.lose h) h)).set h (.sls 22 e2 (L.take i ++ row :: L.drop i))).set m .dead) := by
  have hne : h ≠ m := by simpa using hhm
  have hbd : HasBody Try.prog 86 := ⟨_, _, Try.func86, by kernel_rfl, rfl⟩
  intro base w gs tm hr
  have hxv := hr.ev x
  have hzv := hr.ev z
  have hyv := hr.evv hy
  rw [hx] at hxv
  rw [hz] at hzv
  generalize hv : Act.eval ⟨tm, []⟩ x = v at hxv
  generalize hu : Act.eval ⟨tm, []⟩ z = u at hzv
  cases hxv with
  | @own _ gh hg =>
  cases hzv with
  | @own _ gm hgm =>
    obtain ⟨vs, bs, mb, a1, a2, a3, a4, a5, a6, a7, a8⟩ := hr.ho _ _ _ hg hs
    obtain ⟨vs1, bs1, mb1, b1, b2, b3, b4, b5, b6, b7, b8⟩ := hr.ho _ _ _ hgm hm
    match vs1, b2 with
    | [rv], _ =>
    match bs1, b3 with
    | [bm], _ =>
    obtain ⟨q1, q2, q3⟩ := b5 0 rv rfl
    simp only [List.getD_cons_zero] at q1 q2 q3
    obtain ⟨vb, vc, ev, eo, _, _⟩ := own_slice b1 (i := 0) (by simp)
    have b1' := b1
    rw [ev] at b1'
    have hgh : ∀ b, gh.v.ownBlock = some b → b ∈ gh.bl := fun b hb => main_sub a7 a6 hb
    have hgv : vb ∈ gm.bl := main_sub b7 b6 eo
    have hdis : ∀ c, c ∈ gm.bl → c ∉ gh.bl := hr.hd m h gm gh _ _ (fun e => hne e.symm) hgm hg hm hs (by simp) (by simp)
    have hbl0 : ∀ b, b ∈ gh.bl → b < w.heap.size := fun b hb => (hr.hn _ _ _ hg hs (by simp) b hb).2
    have hblm : ∀ b, b ∈ gm.bl → b < w.heap.size := fun b hb => (hr.hn _ _ _ hgm hm (by simp) b hb).2
    have one1 : rv.oneCell' = true := by obtain ⟨a, c, e⟩ := ownsRow_slice q1; rw [e]; rfl
    have oneC : ∀ v ∈ vs, v.oneCell' = true := fun v hvm => by
      obtain ⟨j, hj⟩ := List.getElem?_of_mem hvm
      obtain ⟨a, c, e⟩ := ownsRow_slice (a5 j v hj).1
      rw [e]; rfl
    have hk := ins_k base vb vc i gh.v vs rv w a1 b1' one1 oneC (by omega) (fun e => hdis vb hgv (hgh vb e)) (by omega) hr.hb
    refine ⟨_, _, run_call hbd [x, y, z] ats _ rfl w, ?_⟩
    have eargs : ([x, y, z].map (Act.eval ⟨tm, []⟩)).toArray = #[gh.v, .int .i64 i, .slice (some ⟨vb, 0, none⟩) 1 vc] := by
      simp [hv, hu, hyv, ev]
    rw [eargs]
    refine hk.mono ?_
    rintro en w' ⟨s', rfl, r2, rb, rf, r5⟩
    have hhg : h < gs.length := (List.getElem?_eq_some_iff.1 hg).1
    let g' : Gh := ⟨s', s'.ownBlock.getD 0, s'.ownBlock.toList ++ (bs.take i ++ bm :: bs.drop i).flatten, vs.take i ++ rv :: vs.drop i⟩
    have hpm := ins_flat bs bm i
    have hmemf : ∀ b, b ∈ (bs.take i ++ bm :: bs.drop i).flatten → b ∈ bm ∨ b ∈ bs.flatten := fun b hb => List.mem_append.1 (hpm.mem_iff.1 hb)
    have subr : ∀ b, b ∈ bs.flatten → b ∈ gh.bl := fun b hb => by rw [a7]; exact List.mem_append.2 (.inr hb)
    have subm : ∀ b, b ∈ bm → b ∈ gm.bl := fun b hb => by rw [b7]; exact List.mem_append.2 (.inr (by simpa using hb))
    have a8' : (mb ++ bs.flatten).Nodup := by rw [← a7]; exact a8
    have b8' : (mb1 ++ bm).Nodup := by have := b8; rw [b7] at this; simpa using this
    have emb : ∀ b, gh.v.ownBlock = some b → b ∈ mb := fun b hb => by
      rcases a6 with ⟨c1, _⟩ | ⟨c1, c2⟩
      · rw [c1] at hb; cases hb
      · rw [c1] at hb; cases hb; rw [c2]; simp
    have mbfl : ∀ b, b ∈ mb → b ∉ bs.flatten := fun b hb hb2 => (List.nodup_append.1 a8').2.2 b hb b hb2 rfl
    have keepR : ∀ c, c ∈ bs.flatten → w'.heap[c]? = w.heap[c]? := fun c hc => rf c (hbl0 c (subr c hc)) fun e => mbfl c (emb c e.symm) hc
    have keepM : ∀ c, c ∈ gm.bl → w'.heap[c]? = w.heap[c]? := fun c hc => rf c (hblm c hc) fun e => hdis c hc (hgh c e.symm)
    have hlt : ∀ b, s'.ownBlock = some b → b < w'.heap.size := by
      intro b hb
      rcases r2.2 with ⟨e1, _⟩ | ⟨gg, cc, cur, e1, _, hgg, _⟩
      · rw [e1] at hb; cases hb
      · rw [e1] at hb; cases hb; exact (Array.getElem?_eq_some_iff.1 hgg).1
    have hs'b : ∀ b, b ∈ s'.ownBlock.toList → s'.ownBlock = some b := fun b hb => by
      cases hvb : s'.ownBlock with
      | none => rw [hvb] at hb; simp at hb
      | some c => rw [hvb] at hb; simp at hb; rw [hb]
    have hmain : ∀ b, s'.ownBlock = some b → b ∈ gh.bl ∨ w.heap.size ≤ b := fun b hb => by
      rcases r5 with r5 | r5
      · left; rw [hb] at r5; exact hgh b r5.symm
      · right; rw [hb] at r5; cases r5; exact Nat.le_refl _
    have rowblk : ∀ (j : Nat) u, vs[j]? = some u → ∀ c, u.ownBlock = some c → c ∈ bs.flatten := by
      intro j u hj c hc
      have hjb : j < bs.length := by
        have := (List.getElem?_eq_some_iff.1 hj).1
        omega
      exact List.mem_flatten.2 ⟨bs.getD j [], by rw [List.getD_eq_getElem?_getD, List.getElem?_eq_getElem hjb]; simp, by rw [← (a5 j u hj).2.2, hc]; simp⟩
    refine ⟨s', .own h, _, _, gs.set h g', rfl, ⟨rfl, rfl, rfl⟩, hr.absorb hg hs trivial hgm hm trivial hne g' _ (AV.lose h) rfl (fun b hb hnb => rf b hb fun e => hnb (hgh b e.symm)) rb.size ?_ (fun kp hv => hv.lose kp) ?_, .own (by rw [List.getElem?_set_self hhg]), rb⟩
    · intro b hb
      rcases List.mem_append.1 hb with hb | hb
      · have hb' := hs'b b hb
        refine ⟨?_, hlt b hb'⟩
        rcases hmain b hb' with h1 | h1
        · exact .inl h1
        · exact .inr (.inr h1)
      · rcases hmemf b hb with hb | hb
        · exact ⟨.inr (.inl (subm b hb)), Nat.lt_of_lt_of_le (hblm b (subm b hb)) rb.size⟩
        · exact ⟨.inl (subr b hb), Nat.lt_of_lt_of_le (hbl0 b (subr b hb)) rb.size⟩
    · intro kp
      have hlen : (vs.take i ++ rv :: vs.drop i).length = vs.length + 1 := by simp; omega
      refine ⟨vs.take i ++ rv :: vs.drop i, bs.take i ++ bm :: bs.drop i, s'.ownBlock.toList, by rw [hlen]; exact r2, by rw [hlen]; simp; omega, by simp; omega, rfl, fun j u hj => ?_, ?_, rfl, ?_⟩
      · rw [ins_get vs rv (by omega)] at hj
        rw [ins_getD L row [] hi, ins_getD bs bm [] (by omega)]
        split at hj
        · rename_i h1
          obtain ⟨p1, p2, p3⟩ := a5 j u hj
          rw [if_pos h1, if_pos h1]
          exact ⟨ownsRow_of_block p1 fun c hc => keepR c (rowblk j u hj c hc), p2, p3⟩
        · rename_i h1
          rw [if_neg h1, if_neg h1]
          split at hj
          · rename_i h2
            cases hj
            rw [if_pos h2, if_pos h2]
            exact ⟨ownsRow_of_block q1 fun c hc => keepM c (subm c (by rw [← q3, hc]; simp)), q2, q3⟩
          · rename_i h2
            rw [if_neg h2, if_neg h2]
            obtain ⟨p1, p2, p3⟩ := a5 (j - 1) u hj
            exact ⟨ownsRow_of_block p1 fun c hc => keepR c (rowblk (j - 1) u hj c hc), p2, p3⟩
      · show (s'.ownBlock = none ∧ s'.ownBlock.toList = []) ∨ (s'.ownBlock = some (s'.ownBlock.getD 0) ∧ s'.ownBlock.toList = [s'.ownBlock.getD 0])
        cases s'.ownBlock with
        | none => exact .inl ⟨rfl, rfl⟩
        | some b => exact .inr ⟨rfl, rfl⟩
      · show (s'.ownBlock.toList ++ (bs.take i ++ bm :: bs.drop i).flatten).Nodup
        have nd : (bm ++ bs.flatten).Nodup := by
          rw [List.nodup_append]
          exact ⟨(List.nodup_append.1 b8').2.1, (List.nodup_append.1 a8').2.1, fun x hx y hy e => hdis x (subm x hx) (subr x (by rw [e]; exact hy))⟩
        rw [List.nodup_append]
        refine ⟨by cases s'.ownBlock <;> simp, hpm.nodup_iff.2 nd, fun x hx y hy e => ?_⟩
        subst e
        have hx' := hs'b x hx
        rcases hmemf x hy with h1 | h1
        · rcases r5 with r5 | r5
          · rw [hx'] at r5; exact hdis x (subm x h1) (hgh x r5.symm)
          · rw [hx'] at r5; cases r5; exact absurd (hblm _ (subm _ h1)) (Nat.lt_irrefl _)
        · rcases r5 with r5 | r5
          · rw [hx'] at r5; exact mbfl x (emb x r5.symm) h1
          · rw [hx'] at r5; cases r5; exact absurd (hbl0 _ (subr _ h1)) (Nat.lt_irrefl _)
end
section
variable {env : Env} {os : List AO} {d : Tmp} {ty : TypeId} {pos : String} {af : Array Edge} {l rest : List Oper} {K : APost}
theorem w_insrow {x y z : Operand} {ats : Array TypeId} {h m i : Nat} {e2 : TypeId} {L : List (List Int)} {row : List Int} (hx : evo env x = some (.own h)) (hs : os[h]? = some (.sls 22 e2 L)) (hy : evo env y = some (.i i)) (hz : evo env z = some (.own m)) (hm : os[m]? = some (.sls 22 e2 [row])) (hhm : (h == m) = false) (hi : i ≤ L.length) (hn : L.length ≤ 1000000)
    (h' : AOps Try.prog .seq l rest K (Env.up (env.mp (AV.lose h)) d (.own h)) (((os.map (AO.via (AV.lose h) h)).set h (.sls 22 e2 (L.take i ++ row :: L.drop i))).set m .dead)) :
    AOps Try.prog .seq l (⟨some d, .call { callee := .value (.func 86), args := #[x, y, z], argTypes := ats }, ty, pos, af, none⟩ :: rest) K env os :=
  AOps.ca (c_insert (ev_of hx) hs (ev_of hy) hi (ev_of hz) hm hhm hn) fun r en o ⟨h1, h2, h3⟩ => by subst h1; subst h2; subst h3; exact h'
end
end Go.Proofs.Ytdkociacaagcoaa
/-
  Functions without results that write to what they are handed. No condition.
-/
namespace Go.Proofs.Ytdkociacaagcoaa
open Go Go.RowKit
theorem AFnUN.of {P : Program} {f : FuncId} {fn : Func} {c : Code} {args : List AV} {os : List AO} {Q : Value → List AO → Prop} {n : Nat} (hf : P.funcs[f]? = some fn) (hb : fn.body = some c) (hnm : (fn.name == "runtime.NumGoroutine") = false) (hn : fn.ntmps - args.length = n)
    (h : ∀ K, AWp P c (fun env os1 => ∃ v os', ResIs P fn env os1 (.val v) ∧ Q v os' ∧ os1.take os.length = os' ∧ os1[os.length]? = some (.keep (os.length + 1) K) ∧ ∀ o ∈ os', o.plain) (fun _ _ _ => False) (fun env os1 => ∃ v os', ResIs P fn env os1 (.val v) ∧ Q v os' ∧ os1.take os.length = os' ∧ os1[os.length]? = some (.keep (os.length + 1) K) ∧ ∀ o ∈ os', o.plain) (Env.start args n) (os ++ [.keep (os.length + 1) K])) :
    AFnU P f args os Q := by
  refine ⟨⟨fn, c, hf, hnm, hb⟩, fun base w gs vs hbase hO hsz hvs => calls_of_wp hf hb ?_⟩
  rw [show fn.ntmps - vs.size = n by rw [hsz]; exact hn]
  let bl : List Nat := (List.range w.heap.size).filter fun b => decide (base ≤ b) && gs.all fun g => !g.bl.contains b
  let gk : Gh := ⟨undef, 0, bl, []⟩
  let K : Kp := ⟨fun b => w.heap[b]?, gs ++ [gk]⟩
  have hbl : ∀ b, b ∈ bl ↔ b < w.heap.size ∧ base ≤ b ∧ ∀ (h : Nat) g, gs[h]? = some g → b ∉ g.bl := by
    intro b
    simp only [bl, List.mem_filter, List.mem_range, Bool.and_eq_true, decide_eq_true_eq, List.all_eq_true, Bool.not_eq_true', List.contains_eq_mem, decide_eq_false_iff_not]
    constructor
    · rintro ⟨h1, h2, h3⟩
      exact ⟨h1, h2, fun h g hg => h3 g (List.mem_of_getElem? hg)⟩
    · rintro ⟨h1, h2, h3⟩
      exact ⟨h1, h2, fun g hg => by obtain ⟨i, hi⟩ := List.getElem?_of_mem hg; exact h3 i g hi⟩
  have hl := hO.hl
  have part : ∀ {i : Nat} {x : Gh} {y : AO}, (gs ++ [gk])[i]? = some x → (os ++ [.keep (os.length + 1) K])[i]? = some y → (gs[i]? = some x ∧ os[i]? = some y) ∨ (i = os.length ∧ x = gk ∧ y = .keep (os.length + 1) K) := by
    intro i x y hx hy
    rcases append_one hx with ⟨h1, h2⟩ | ⟨h1, rfl⟩
    · rcases append_one hy with ⟨h3, h4⟩ | ⟨h3, rfl⟩
      · exact .inl ⟨h2, h4⟩
      · omega
    · rcases append_one hy with ⟨h3, h4⟩ | ⟨h3, rfl⟩
      · omega
      · exact .inr ⟨h3, rfl, rfl⟩
  have gl : ∀ (i : Nat) x, gs[i]? = some x → (gs ++ [gk])[i]? = some x := fun i x e => by
    rw [List.getElem?_append_left (List.getElem?_eq_some_iff.1 e).1]; exact e
  have kp : Keeps (okOf gs os) (okOf (gs ++ [gk]) (os ++ [.keep (os.length + 1) K])) w w := by
    intro b hbk _
    refine ⟨fun i x y hx hy hny hm => ?_, rfl⟩
    rcases part hx hy with ⟨h1, h2⟩ | ⟨_, _, rfl⟩
    · exact hbk i x y h1 h2 hny hm
    · exact hny.elim
  have hrel : Rel base w (gs ++ [gk]) (Env.start args n) (os ++ [.keep (os.length + 1) K]) (vs ++ Array.replicate n undef) := by
    refine ⟨hbase, by simp [hl], by simp [Env.start, hsz], fun i => ?_, ?_, ?_, ?_⟩
    · exact start_rv args n vs (fun i => (hvs i).mono kp gl) i
    · intro i x y hx hy
      rcases part hx hy with ⟨h1, h2⟩ | ⟨_, rfl, rfl⟩
      · exact (hO.hp y (List.mem_of_getElem? h2)).ro (hO.ho i x y h1 h2)
      · exact ⟨fun b _ => rfl, by simp [K, hl], fun i x h => h⟩
    · intro i j g1 g2 o1 o2 hij hg1 hg2 ho1 ho2 _ _ b hb1 hb2
      rcases part hg1 ho1 with ⟨a1, a2⟩ | ⟨a1, rfl, _⟩
      · rcases part hg2 ho2 with ⟨b1, b2⟩ | ⟨_, rfl, _⟩
        · exact hO.hd i j g1 g2 hij a1 b1 b hb1 hb2
        · exact ((hbl b).1 hb2).2.2 i g1 a1 hb1
      · rcases part hg2 ho2 with ⟨b1, b2⟩ | ⟨b1, _, _⟩
        · exact ((hbl b).1 hb1).2.2 j g2 b1 hb2
        · omega
    · intro i x y hx hy _ b hb
      rcases part hx hy with ⟨h1, h2⟩ | ⟨_, rfl, _⟩
      · exact hO.hn i x h1 b hb
      · exact ⟨((hbl b).1 hb).2.1, ((hbl b).1 hb).1⟩
  refine wp_mono (h K base w w _ _ hrel (Below.refl _ _)) ?_
  intro e a w' hq
  cases e with
  | normal =>
    obtain ⟨env, os1, gs1, hr, hd, hbel, v, os', h1, h2, h3, h4, h5⟩ := hq
    obtain ⟨u, hu, hv⟩ := h1 _ _ _ _ hr
    cases hv
    have hlt : os.length < os1.length := (List.getElem?_eq_some_iff.1 h4).1
    have hltg : os.length < gs1.length := by have := hr.hl; omega
    obtain ⟨g1, hg1⟩ : ∃ g1, gs1[os.length]? = some g1 := ⟨_, List.getElem?_eq_getElem hltg⟩
    obtain ⟨r1, r2, r3⟩ := hr.ho _ _ _ hg1 h4
    have pin : ∀ (i : Nat) x, gs[i]? = some x → gs1[i]? = some x := fun i x e => r3 i x (gl i x e)
    have egk : g1 = gk := by
      have := r3 os.length gk (by show (gs ++ [gk])[os.length]? = some gk; rw [← hl]; simp)
      rw [hg1] at this
      exact Option.some.inj this
    rw [egk] at r1
    have get' : ∀ {i : Nat} {y : AO}, os'[i]? = some y → os1[i]? = some y ∧ i < os.length := by
      intro i y hy
      rw [← h3, List.getElem?_take] at hy
      split at hy
      · exact ⟨hy, ‹_›⟩
      · cases hy
    refine ⟨hd, v, hu, v, os', rfl, h2, ⟨?_, h5, ?_, hO.hd, ?_⟩, hbel, ?_⟩
    · rw [← h3, List.length_take]; omega
    · intro i x y hx hy
      obtain ⟨h6, h7⟩ := get' hy
      exact (h5 y (List.mem_of_getElem? hy)).ro (hr.ho i x y (pin i x hx) h6)
    · intro i x hx b hb
      have := hO.hn i x hx b hb
      exact ⟨this.1, Nat.lt_of_lt_of_le this.2 hbel.size⟩
    · intro b hb hnot
      rcases Nat.lt_or_ge b base with h6 | h6
      · exact hbel.block b h6
      · exact r1 b ((hbl b).2 ⟨hb, h6, hnot⟩)
  | exit j => obtain ⟨_, _, _, _, _, _, hx⟩ := hq; exact hx.elim
  | ret =>
    obtain ⟨env, os1, gs1, hr, hd, hbel, v, os', h1, h2, h3, h4, h5⟩ := hq
    obtain ⟨u, hu, hv⟩ := h1 _ _ _ _ hr
    cases hv
    have hlt : os.length < os1.length := (List.getElem?_eq_some_iff.1 h4).1
    have hltg : os.length < gs1.length := by have := hr.hl; omega
    obtain ⟨g1, hg1⟩ : ∃ g1, gs1[os.length]? = some g1 := ⟨_, List.getElem?_eq_getElem hltg⟩
    obtain ⟨r1, r2, r3⟩ := hr.ho _ _ _ hg1 h4
    have pin : ∀ (i : Nat) x, gs[i]? = some x → gs1[i]? = some x := fun i x e => r3 i x (gl i x e)
    have egk : g1 = gk := by
      have := r3 os.length gk (by show (gs ++ [gk])[os.length]? = some gk; rw [← hl]; simp)
      rw [hg1] at this
      exact Option.some.inj this
    rw [egk] at r1
    have get' : ∀ {i : Nat} {y : AO}, os'[i]? = some y → os1[i]? = some y ∧ i < os.length := by
      intro i y hy
      rw [← h3, List.getElem?_take] at hy
      split at hy
      · exact ⟨hy, ‹_›⟩
      · cases hy
    refine ⟨hd, v, hu, v, os', rfl, h2, ⟨?_, h5, ?_, hO.hd, ?_⟩, hbel, ?_⟩
    · rw [← h3, List.length_take]; omega
    · intro i x y hx hy
      obtain ⟨h6, h7⟩ := get' hy
      exact (h5 y (List.mem_of_getElem? hy)).ro (hr.ho i x y (pin i x hx) h6)
    · intro i x hx b hb
      have := hO.hn i x hx b hb
      exact ⟨this.1, Nat.lt_of_lt_of_le this.2 hbel.size⟩
    · intro b hb hnot
      rcases Nat.lt_or_ge b base with h6 | h6
      · exact hbel.block b h6
      · exact r1 b ((hbl b).2 ⟨hb, h6, hnot⟩)
  | goto l => exact (hq : False).elim
  | panic ch => exact (hq : False).elim
  | outgrown => exact (hq : False).elim


theorem AFnUN.start {P : Program} {f : FuncId} {fn : Func} {c : Code} {args : List AV} {objs : List AO} {Q : Value → List AO → Prop} {m : Nat} (hf : P.funcs[f]? = some fn) (hn : fn.ntmps = m) (hb : fn.body = some c) (hnm : (fn.name == "runtime.NumGoroutine") = false)
    (h : ∀ K, AWp P c (fun env os1 => ∃ v os', ResIs P fn env os1 (.val v) ∧ Q v os' ∧ os1.take objs.length = os' ∧ os1[objs.length]? = some (.keep (objs.length + 1) K) ∧ ∀ o ∈ os', o.plain) (fun _ _ _ => False) (fun env os1 => ∃ v os', ResIs P fn env os1 (.val v) ∧ Q v os' ∧ os1.take objs.length = os' ∧ os1[objs.length]? = some (.keep (objs.length + 1) K) ∧ ∀ o ∈ os', o.plain) (Env.start args (m - args.length)) (objs ++ [.keep (objs.length + 1) K])) :
    AFnU P f args objs Q := AFnUN.of hf hb hnm (by rw [hn]) h
theorem ResIs.unit {P : Program} {fn : Func} {env : Env} {os : List AO} (h : fn.results = #[]) : ResIs P fn env os (.val (.tuple #[])) :=
  fun _ _ _ tm hr => ⟨.tuple #[], by unfold results; rw [h]; simp, .val _⟩
end Go.Proofs.Ytdkociacaagcoaa
/-
  Counters: a count is added. No condition but bounds.
-/
namespace Go.Proofs.Ytdkociacaagcoaa
open Go Go.RowKit
attribute [local irreducible] AWp AOps ResIs Ret1 QOp LOp COp AFnV AFn Imms LeE LeO
set_option maxHeartbeats 1000000
set_option linter.unusedSimpArgs false
set_option linter.unusedVariables false

set_option maxHeartbeats 4000000 in
theorem add_c (j : Nat) (L : List (List Int)) (hZ : ZI j L) (hj : j ≤ 900000) (m e : Int) (hm : 1 ≤ m ∧ m ≤ 1000000) (he : -1000 ≤ e ∧ e ≤ 1000) :
    AFnP Try.prog 67 [.int .i64 m, .int .i64 e] 76 22 2 L (putZ L m e) (.tuple #[]) := by
  have hlen := hZ.len
  have hb := bsearch_c L m (zIdx L m) (zat hZ m) (by omega) (fun r hr => (hZ.row r hr).1)
  have hzl := zIdx_le L m
  (refine AFnP.start Try.func67 Try.ntmps67 rfl (by kernel_rfl) fun K => ?_; simp only [Env.start, enumF, List.length_cons, List.length_nil, Nat.reduceAdd, Nat.reduceSub, List.cons_append, List.nil_append])
  cases hf : zFd L m (zIdx L m) with
  | true =>
    rw [hf] at hb
    have hc := of_decide_eq_true hf
    have hrow := hZ.row _ (at_mem hc.1)
    have hput : putZ L m e = L.set (zIdx L m) ((L.getD (zIdx L m) []).set 1 (geti (L.getD (zIdx L m) []) 1 + e)) := by
      unfold putZ
      exact if_pos hc
    obtain ⟨z1, z2, z3⟩ := hrow
    have z0 := hc.1
    generalize zIdx L m = k at *
    have z1' : (L.getD (k : Int).toNat []).length = 2 := z1
    have z3' : -(1 + 1000 * (j : Int)) ≤ geti (L.getD (k : Int).toNat []) ((Int.toNat 1 : Nat) : Int) ∧ geti (L.getD (k : Int).toNat []) ((Int.toNat 1 : Nat) : Int) ≤ 1 + 1000 * (j : Int) := z3
    repeat' (first | (apply AOps.nil; try simp only [List.nil_append, List.cons_append, List.set_cons_zero, List.set_cons_succ, List.length_cons, List.length_nil, Nat.reduceAdd, AV.sh, AV.sh1, AV.sh0, AO.sh, List.map_cons, List.map_nil, Nat.zero_add, Nat.add_zero, setAll]) | (apply w_move; exact rfl; exact rfl) | (apply w_assign; exact rfl; exact rfl) | apply AWp.seq | apply AWp.region | (apply AWp.condF; exact rfl) | apply AWp.skip | (apply w_storp; exact rfl; exact rfl; rotate_left 2; exact rfl; rotate_left 2) | ((first | apply w_nilck | apply w_not); iterate 2 exact rfl) | ((first | apply w_add | apply w_idx | apply w_ld | apply w_fa | apply w_extv); iterate 3 exact rfl) | (apply w_call (hb); exact rfl; exact rfl; focus ((repeat (first | exact im_nil | refine im_cons rfl (.val _) ?_ | refine im_cons rfl (.sls rfl) ?_)); done)) | omega | (apply w_idxo; exact rfl; exact rfl; (exact .sls rfl); exact rfl) | ((first | apply w_idxr | apply w_ldr); iterate 4 exact rfl) | (apply w_ldls; iterate 4 exact rfl) | (apply w_ldrp; iterate 4 exact rfl) | (apply w_ldb; iterate 5 exact rfl) | (apply inI_of <;> omega))
    exact ⟨2, .unit Try.results67, rfl, by rw [hput]; rfl, rfl, rfl⟩
  | false =>
    rw [hf] at hb
    have hnc : ¬ (zIdx L m < L.length ∧ geti (L.getD (zIdx L m) []) 0 = m) := of_decide_eq_false hf
    have hput : putZ L m e = L.take (zIdx L m) ++ [m, e] :: L.drop (zIdx L m) := by
      unfold putZ
      exact if_neg hnc
    generalize zIdx L m = k at *
    have hkl : (L.take k).length = k := by simp; omega
    have w0 : (L.take k ++ [m, 0] :: L.drop k).length = L.length + 1 := by simp; omega
    have wg : (L.take k ++ [m, 0] :: L.drop k).getD (k : Int).toNat [] = [m, 0] := by
      rw [ins_getD L [m, 0] [] hzl, Int.toNat_natCast, if_neg (by omega), if_pos rfl]
    have w1 : ((L.take k ++ [m, 0] :: L.drop k).getD (k : Int).toNat []).length = 2 := by rw [wg]; rfl
    have w2 : geti ((L.take k ++ [m, 0] :: L.drop k).getD (k : Int).toNat []) ((Int.toNat 1 : Nat) : Int) = 0 := by rw [wg]; rfl
    have wset : (L.take k ++ [m, 0] :: L.drop k).set (k : Int).toNat (((L.take k ++ [m, 0] :: L.drop k).getD (k : Int).toNat []).set (Int.toNat 1) (geti ((L.take k ++ [m, 0] :: L.drop k).getD (k : Int).toNat []) ((Int.toNat 1 : Nat) : Int) + e)) = L.take k ++ [m, e] :: L.drop k := by
      rw [w2, wg, Int.toNat_natCast, List.set_append_right _ _ (by omega), hkl, Nat.sub_self, Int.zero_add]
      rfl
    repeat' (first | (apply AOps.nil; try simp only [List.nil_append, List.cons_append, List.set_cons_zero, List.set_cons_succ, List.length_cons, List.length_nil, Nat.reduceAdd, AV.sh, AV.sh1, AV.sh0, AO.sh, List.map_cons, List.map_nil, Nat.zero_add, Nat.add_zero, setAll]) | (apply w_move; exact rfl; exact rfl) | (apply w_assign; exact rfl; exact rfl) | apply AWp.seq | apply AWp.region | (apply AWp.condT; exact rfl) | (apply w_bsr1s; exact rfl; exact rfl; exact rfl; exact rfl; simp only [Env.mp, List.map_cons, List.map_nil, List.set_cons_zero, List.set_cons_succ, AV.kill, AV.kill1, AO.kill, AV.rin, AV.rin1, AV.noRow, AV.noRow1, AO.via, reduceIte, Nat.reduceEqDiff, Nat.reduceLT, Env.up, Nat.zero_ne_one, Nat.one_ne_zero, Nat.reduceAdd, List.cons_append, List.nil_append]) | (apply w_storp; exact rfl; exact rfl; rotate_left 2; exact rfl; rotate_left 2) | ((first | apply w_nilck | apply w_not); iterate 2 exact rfl) | ((first | apply w_add | apply w_idx | apply w_ld | apply w_fa | apply w_extv | apply w_bs2); iterate 3 exact rfl) | (apply w_insrow; exact rfl; exact rfl; exact rfl; exact rfl; exact rfl; exact rfl; rotate_left 2; simp only [Env.mp, List.map_cons, List.map_nil, List.set_cons_zero, List.set_cons_succ, AV.kill, AV.kill1, AO.kill, AV.lose, AV.lose1, List.map_append, map_orow_kill, AV.noRow, AV.noRow1, AO.via, reduceIte, Nat.reduceEqDiff, Nat.reduceLT, Env.up, Nat.zero_ne_one, Nat.one_ne_zero, Nat.reduceAdd, List.cons_append, List.nil_append]; rotate_left 1) | (apply w_call (hb); exact rfl; exact rfl; focus ((repeat (first | exact im_nil | refine im_cons rfl (.val _) ?_ | refine im_cons rfl (.sls rfl) ?_)); done)) | omega | (apply w_idxo; exact rfl; exact rfl; (exact .sls rfl); exact rfl) | ((first | apply w_idxr | apply w_ldr); iterate 4 exact rfl) | (apply w_ldls; iterate 4 exact rfl) | (apply w_ldrp; iterate 4 exact rfl) | (apply w_ldb; iterate 5 exact rfl) | (apply w_stbo; exact rfl; exact rfl; exact rfl; exact rfl; exact rfl; exact True.intro) | (apply inI_of <;> omega))
    exact ⟨2, .unit Try.results67, rfl, by rw [hput, ← wset]; rfl, rfl, rfl⟩
end Go.Proofs.Ytdkociacaagcoaa
/-
  Counters in the reference: what is not 0. No condition but bounds.
-/
namespace Go.Proofs.Ytdkociacaagcoaa
open Go Go.RowKit
attribute [local irreducible] AWp AOps ResIs Ret1 QOp LOp COp AFnV AFn Imms LeE LeO
set_option maxHeartbeats 1000000
set_option linter.unusedSimpArgs false
set_option linter.unusedVariables false

/-- The rows among the first n whose count is not 0. -/
def nzL (L : List (List Int)) (n : Nat) : List (List Int) := (L.take n).filter fun r => decide (geti r 1 ≠ 0)
theorem nzL_succ {L : List (List Int)} {n : Nat} (h : n < L.length) : nzL L (n + 1) = if geti (gets L (n : Nat)) 1 ≠ 0 then nzL L n ++ [gets L (n : Nat)] else nzL L n := by
  have e : gets L (n : Nat) = L[n] := by simp [gets, h]
  unfold nzL
  rw [List.take_succ_eq_append_getElem h, List.filter_append, e]
  split
  · rename_i h1; simp [h1]
  · rename_i h1; simp at h1; simp [h1]
theorem nzL_len (L : List (List Int)) (n : Nat) : (nzL L n).length ≤ L.length := by
  unfold nzL
  have h1 := List.length_filter_le (fun r => decide (geti r 1 ≠ 0)) (L.take n)
  have h2 : (L.take n).length ≤ L.length := by rw [List.length_take]; omega
  omega
set_option maxHeartbeats 4000000 in
theorem l14Some_c (L : List (List Int)) (hr : ∀ r ∈ L, r.length = 2) (hn : L.length ≤ 1000000) : AFn Try.prog 72 [.intss L] (IsIntss 22 2 (nzL L L.length)) := by
  (refine AFn.start Try.func72 Try.ntmps72 rfl (by kernel_rfl) fun hk => ?_; simp only [Env.start, enumF, List.length_cons, List.length_nil, Nat.reduceAdd, Nat.reduceSub, List.cons_append, List.nil_append])
  repeat' (first | (apply AOps.nil; try simp only [List.nil_append, List.cons_append, List.set_cons_zero, List.set_cons_succ, List.length_cons, List.length_nil, Nat.reduceAdd, AV.sh, AV.sh1, AV.sh0, AO.sh, List.map_cons, List.map_nil, Nat.zero_add, Nat.add_zero, setAll]) | (apply w_assign; exact rfl; exact rfl) | apply AWp.seq | apply AWp.region | apply AWp.block | ((apply w_bsr0); iterate 1 exact rfl))
  refine AWp.loop (ι := Nat) (fun n => ⟨28, [(0, .intss L), (3, .own 0), (4, .i n)]⟩) (fun n => [.sls 22 2 (nzL L n)]) (fun n => n ≤ L.length) (fun n => L.length - n) 0 (by omega) ⟨lee rfl (by (repeat (first | exact le_nil | refine le_eq rfl rfl ?_))), by (repeat (first | exact lo_nil | refine lo_eq rfl ?_)), rfl, rfl⟩ ?_
  rintro n n0
  have hnl := nzL_len L n
  by_cases hlt : n < L.length
  · have hrow := hr _ (gets_mem (xss := L) (i := (n : Nat)) (by omega) (by omega))
    have hs := nzL_succ hlt
    have hown := l01Own_c (gets L (n : Nat)) (by omega)
    by_cases h0 : geti (gets L (n : Nat)) 1 ≠ 0
    · rw [if_pos h0] at hs
      repeat' (first | (apply AOps.nil; try simp only [List.nil_append, List.cons_append, List.set_cons_zero, List.set_cons_succ, List.length_cons, List.length_nil, Nat.reduceAdd, AV.sh, AV.sh1, AV.sh0, AO.sh, List.map_cons, List.map_nil, Nat.zero_add, Nat.add_zero, setAll]) | (apply w_move; exact rfl; exact rfl) | (apply w_assign; exact rfl; exact rfl) | apply AWp.seq | apply AWp.region | ((apply AWp.condP; exact rfl) <;> intro h) | apply AWp.block | apply AWp.ret | apply AWp.exit | apply AWp.skip | (apply w_len; exact rfl; exact rfl; first | exact .ints _ | exact .intss _ | exact .sli rfl | exact .sls rfl | exact .slr rfl | exact .orow rfl | exact .nil) | ((first | apply w_bsr1 | apply w_lss | apply w_neq | apply w_add | apply w_idx | apply w_ld); iterate 3 exact rfl) | (apply w_appr; exact rfl; exact rfl; exact rfl; exact rfl; exact rfl; exact rfl; exact rfl; rotate_left 1; simp only [Env.mp, List.map_cons, List.map_nil, List.set_cons_zero, List.set_cons_succ, AV.kill, AV.kill1, AO.kill, AV.rin, AV.rin1, AV.noRow, AV.noRow1, AO.via, reduceIte, Nat.reduceEqDiff, Nat.reduceLT, Env.up, Nat.zero_ne_one, Nat.one_ne_zero, Nat.reduceAdd, List.cons_append, List.nil_append]; rotate_left 1) | (apply w_callm (hown); (focus ((repeat (first | exact im_nil | refine im_cons rfl (.ints _) ?_)); done)); rintro r os0 ⟨rfl, rfl⟩; try simp only [List.nil_append, List.cons_append, List.set_cons_zero, List.set_cons_succ, List.length_cons, List.length_nil, Nat.reduceAdd, AV.sh, AV.sh1, AV.sh0, AO.sh, List.map_cons, List.map_nil, Nat.zero_add, Nat.add_zero, setAll]) | omega | ((first | apply w_idxs | apply w_lds); iterate 3 exact rfl) | (apply inI_of <;> omega))
      all_goals exact ⟨n + 1, hlt, by omega, ⟨lee rfl (by (repeat (first | exact le_nil | refine le_eq rfl rfl ?_))), by (repeat (first | exact lo_nil | refine lo_eq (congrArg (AO.sls _ _) (hs.symm)) ?_)), rfl, rfl⟩⟩
    · rw [if_neg h0] at hs
      repeat' (first | (apply AOps.nil; try simp only [List.nil_append, List.cons_append, List.set_cons_zero, List.set_cons_succ, List.length_cons, List.length_nil, Nat.reduceAdd, AV.sh, AV.sh1, AV.sh0, AO.sh, List.map_cons, List.map_nil, Nat.zero_add, Nat.add_zero, setAll]) | (apply w_move; exact rfl; exact rfl) | (apply w_assign; exact rfl; exact rfl) | apply AWp.seq | apply AWp.region | ((apply AWp.condP; exact rfl) <;> intro h) | apply AWp.block | apply AWp.ret | apply AWp.exit | apply AWp.skip | (apply w_len; exact rfl; exact rfl; first | exact .ints _ | exact .intss _ | exact .sli rfl | exact .sls rfl | exact .slr rfl | exact .orow rfl | exact .nil) | ((first | apply w_lss | apply w_neq | apply w_add | apply w_idx | apply w_ld); iterate 3 exact rfl) | omega | ((first | apply w_idxs | apply w_lds); iterate 3 exact rfl) | (apply inI_of <;> omega))
      all_goals exact ⟨n + 1, hlt, by omega, ⟨lee rfl (by (repeat (first | exact le_nil | refine le_eq rfl rfl ?_))), by (repeat (first | exact lo_nil | refine lo_eq (congrArg (AO.sls _ _) (hs.symm)) ?_)), rfl, rfl⟩⟩
  · repeat' (first | (apply AOps.nil; try simp only [List.nil_append, List.cons_append, List.set_cons_zero, List.set_cons_succ, List.length_cons, List.length_nil, Nat.reduceAdd, AV.sh, AV.sh1, AV.sh0, AO.sh, List.map_cons, List.map_nil, Nat.zero_add, Nat.add_zero, setAll]) | (apply w_move; exact rfl; exact rfl) | (apply w_assign; exact rfl; exact rfl) | apply AWp.seq | apply AWp.region | ((apply AWp.condP; exact rfl) <;> intro h) | apply AWp.block | apply AWp.ret | apply AWp.exit | apply AWp.skip | (apply w_len; exact rfl; exact rfl; first | exact .ints _ | exact .intss _ | exact .sli rfl | exact .sls rfl | exact .slr rfl | exact .orow rfl | exact .nil) | omega | ((apply w_lss); iterate 3 exact rfl))
    have e : n = L.length := by omega
    subst e
    exact ⟨_, _, _, .v1 Try.results72 rfl, .sls rfl, rfl, rfl⟩
end Go.Proofs.Ytdkociacaagcoaa
/-
  Eigenvalue numbers: what both sides compute; the reference. No condition but bounds.
-/
namespace Go.Proofs.Ytdkociacaagcoaa
open Go Go.RowKit
attribute [local irreducible] AWp AOps ResIs Ret1 QOp LOp COp AFnV AFn Imms LeE LeO
set_option maxHeartbeats 1000000
set_option linter.unusedSimpArgs false
set_option linter.unusedVariables false

/-- What one number d does. -/
def stZ (L : List (List Int)) (m c : Int) (d : Nat) : List (List Int) :=
  if m % (d : Int) = 0 then (if (d : Int) * d = m then putZ L d (-c) else putZ (putZ L d (-c)) (m / (d : Int)) (-c)) else L
def rowZ (L : List (List Int)) (m c : Int) : Nat → List (List Int)
  | 0 => L
  | k + 1 => stZ (rowZ L m c k) m c (k + 1)
def isqN (m : Int) : Nat → Nat
  | 0 => 0
  | k + 1 => if ((k + 1 : Nat) : Int) * (k + 1 : Nat) ≤ m then k + 1 else isqN m k
def isq (m : Int) : Nat := isqN m 1000
theorem isqN_eq {m : Int} {k : Nat} (h1 : (k : Int) * k ≤ m) (h2 : m < ((k + 1 : Nat) : Int) * (k + 1 : Nat)) : ∀ F, k ≤ F → isqN m F = k
  | 0, h => by have : k = 0 := by omega
               subst this; rfl
  | F + 1, h => by
    rw [isqN]
    by_cases e : k = F + 1
    · subst e; rw [if_pos h1]
    · have hle : ((k + 1 : Nat) : Int) * (k + 1 : Nat) ≤ ((F + 1 : Nat) : Int) * (F + 1 : Nat) := Int.mul_le_mul (by omega) (by omega) (by omega) (by omega)
      rw [if_neg (by omega)]
      exact isqN_eq h1 h2 F (by omega)
def numZ (Z : List (List Int)) : Nat → List (List Int)
  | 0 => [[1, 1]]
  | i + 1 => rowZ (numZ Z i) (geti (gets Z (i : Nat)) 0) (geti (gets Z (i : Nat)) 1) (isq (geti (gets Z (i : Nat)) 0))
theorem zi_st {j : Nat} {L : List (List Int)} (h : ZI j L) {m c : Int} (hm : 1 ≤ m ∧ m ≤ 1000000) (hc : -1000 ≤ c ∧ c ≤ 1000) {d : Nat} (hd : 1 ≤ d ∧ d ≤ 1000) : ZI (j + 2) (stZ L m c d) := by
  have hq : 1 ≤ m / (d : Int) ∨ m / (d : Int) < 1 := by omega
  unfold stZ
  split
  · rename_i h0
    have h1 := zi_put h (m := (d : Int)) (e := -c) (by omega) (by omega)
    split
    · exact zi_mono h1 (by omega)
    · have hdm : (d : Int) * (m / (d : Int)) = m := by have := Int.mul_ediv_add_emod m (d : Int); omega
      have hq1 : 1 ≤ m / (d : Int) := by
        rcases Int.lt_or_le (m / (d : Int)) 1 with hq | hq
        · have := Int.mul_le_mul_of_nonneg_left (show m / (d : Int) ≤ 0 by omega) (show (0 : Int) ≤ (d : Int) by omega)
          omega
        · exact hq
      have hq2 : m / (d : Int) ≤ m := Int.ediv_le_self _ (by omega)
      exact zi_put h1 ⟨hq1, by omega⟩ (by omega)
  · exact zi_mono h (by omega)
theorem zi_row {j : Nat} {L : List (List Int)} (h : ZI j L) {m c : Int} (hm : 1 ≤ m ∧ m ≤ 1000000) (hc : -1000 ≤ c ∧ c ≤ 1000) : ∀ k, k ≤ 1000 → ZI (j + 2 * k) (rowZ L m c k)
  | 0, _ => h
  | k + 1, hk => by
    have := zi_st (zi_row h hm hc k (by omega)) hm hc (d := k + 1) (by omega)
    rw [rowZ]
    exact zi_mono this (by omega)
theorem isqN_le (m : Int) : ∀ F, isqN m F ≤ F
  | 0 => Nat.le_refl _
  | F + 1 => by have := isqN_le m F; rw [isqN]; split <;> omega
/-- The rows of a zeta list. -/
def ZtOk (Z : List (List Int)) : Prop := Z.length ≤ 40 ∧ ∀ i : Nat, i < Z.length → (gets Z (i : Nat)).length = 2 ∧ (1 ≤ geti (gets Z (i : Nat)) 0 ∧ geti (gets Z (i : Nat)) 0 ≤ 1000000) ∧ (-1000 ≤ geti (gets Z (i : Nat)) 1 ∧ geti (gets Z (i : Nat)) 1 ≤ 1000)
theorem zi_num {Z : List (List Int)} (hZ : ZtOk Z) : ∀ i, i ≤ Z.length → ZI (2000 * i) (numZ Z i)
  | 0, _ => zi_one
  | i + 1, hi => by
    obtain ⟨_, h2, h3⟩ := hZ.2 i (by omega)
    have hq := isqN_le (geti (gets Z (i : Nat)) 0) 1000
    have := zi_row (zi_num hZ i (by omega)) h2 h3 (isq (geti (gets Z (i : Nat)) 0)) hq
    rw [numZ]
    exact zi_mono this (by unfold isq; omega)
end Go.Proofs.Ytdkociacaagcoaa
/-
  Eigenvalue numbers: the closure that counts, and the walk over all divisors. No condition but bounds.
-/
namespace Go.Proofs.Ytdkociacaagcoaa
open Go Go.RowKit
attribute [local irreducible] AWp AOps ResIs Ret1 QOp LOp COp AFnV AFn Imms LeE LeO
set_option maxHeartbeats 1000000
set_option linter.unusedSimpArgs false
set_option linter.unusedVariables false
attribute [local irreducible] cloRo

set_option maxHeartbeats 4000000 in
theorem clo_c (j : Nat) (L : List (List Int)) (hZ : ZI j L) (hj : j ≤ 900000) (rx : List Int) (hl : (gets [rx] 0).length = 2) (d : Int) (hd : 1 ≤ d ∧ d ≤ 1000000) (hc : -1000 ≤ geti (gets [rx] 0) 1 ∧ geti (gets [rx] 0) 1 ≤ 1000) :
    AFnO Try.prog 77 [.i d, .optr 0 0, .iiptr [rx] 0] (cntOb 76 22 2 L) (cntOb 76 22 2 (putZ L d (0 - geti (gets [rx] 0) 1))) (.tuple #[]) := by
  have ha := (AFnO.ofP (add_c j L hZ hj d (0 - geti (gets [rx] 0) 1) hd (by omega)))
  (refine AFnO.start Try.func77 Try.ntmps77 rfl (by kernel_rfl) fun K B V => ?_; simp only [Env.start, enumF, List.map_cons, List.map_nil, AV.sh, AV.sh0, List.length_cons, List.length_nil, Nat.reduceAdd, Nat.zero_add, Nat.reduceSub, List.cons_append, List.nil_append])
  have ha := ha.pin B V
  simp only [List.map_cons, List.map_nil] at ha
  repeat' (first | (apply AOps.nil; try simp only [List.nil_append, List.cons_append, List.set_cons_zero, List.set_cons_succ, List.length_cons, List.length_nil, Nat.reduceAdd, AV.sh, AV.sh1, AV.sh0, AO.sh, List.map_cons, List.map_nil, Nat.zero_add, Nat.add_zero, setAll]) | (apply w_move; exact rfl; exact rfl) | apply AWp.region | (apply w_callo 1 2 (ha); exact rfl; exact rfl; (focus ((repeat (first | exact imo_nil | refine imo_ptr rfl ?_ | refine imo_cons rfl (.val _) ?_)); done)); simp only [Env.mp, List.map_cons, List.map_nil, List.set_cons_zero, List.set_cons_succ, AV.kill, AV.kill1, AO.kill, AV.noRow, AV.noRow1, AO.via, reduceIte, Nat.reduceEqDiff, Nat.reduceLT, Env.up, Nat.zero_ne_one, Nat.one_ne_zero, Nat.reduceAdd, List.cons_append, List.nil_append]) | omega | ((first | apply w_idx | apply w_ld); iterate 3 exact rfl) | ((apply w_lds); iterate 3 exact rfl) | ((apply w_neg); iterate 2 exact rfl) | (apply inI_of <;> omega))
  exact ⟨1, .unit Try.results77, rfl, rfl⟩
abbrev cloF : FuncId := 77
/-- The closure's contract with its pinned object. -/
theorem clo_k (j : Nat) (L : List (List Int)) (hZ : ZI j L) (hj : j ≤ 900000) (rx : List Int) (hl : (gets [rx] 0).length = 2) (d : Int) (hd : 1 ≤ d ∧ d ≤ 1000000) (hc : -1000 ≤ geti (gets [rx] 0) 1 ∧ geti (gets [rx] 0) 1 ≤ 1000) (B B2 : Nat) (V V2 : Value) :
    AFnO Try.prog 77 ([.i d] ++ [.optr 0 0, .iiptr [rx] 0]) (pinOb (pinOb (cntOb 76 22 2 L) B V) B2 V2) (pinOb (pinOb (cntOb 76 22 2 (putZ L d (-geti (gets [rx] 0) 1))) B V) B2 V2) (.tuple #[]) := by
  have := ((clo_c j L hZ hj rx hl d hd hc).pin B V).pin B2 V2
  rw [Int.zero_sub] at this
  exact this
set_option maxHeartbeats 8000000 in
theorem allDiv_c (j : Nat) (L : List (List Int)) (hZ : ZI j L) (hj : j ≤ 800000) (rx : List Int) (hl : (gets [rx] 0).length = 2) (m : Int) (hm : 1 ≤ m ∧ m ≤ 1000000) (hc : -1000 ≤ geti (gets [rx] 0) 1 ∧ geti (gets [rx] 0) 1 ≤ 1000) (B : Nat) (V : Value) (hV : V = .pointer (some ⟨B, 0, none⟩)) :
    AFnO Try.prog 76 [.i m, .ro (cloRo cloF V rx)] (pinOb (cntOb 76 22 2 L) B V) (pinOb (cntOb 76 22 2 (rowZ L m (geti (gets [rx] 0) 1) (isq m))) B V) (.tuple #[]) := by
  (refine AFnO.start Try.func76 Try.ntmps76 rfl (by kernel_rfl) fun K B2 V2 => ?_; simp only [Env.start, enumF, List.map_cons, List.map_nil, AV.sh, AV.sh0, List.length_cons, List.length_nil, Nat.reduceAdd, Nat.zero_add, Nat.reduceSub, List.cons_append, List.nil_append])
  repeat' (first | (apply AOps.nil; try simp only [List.nil_append, List.cons_append, List.set_cons_zero, List.set_cons_succ, List.length_cons, List.length_nil, Nat.reduceAdd, AV.sh, AV.sh1, AV.sh0, AO.sh, List.map_cons, List.map_nil, Nat.zero_add, Nat.add_zero, setAll]) | (apply w_assign; exact rfl; exact rfl) | apply AWp.seq | apply AWp.region | apply AWp.block)
  refine AWp.loop (ι := Nat) (fun k => ⟨29, [(0, .i m), (1, .ro (cloRo cloF V rx)), (4, .i ((k : Int) + 1))]⟩) (fun k => [.keep 1 K, .ob (pinOb (pinOb (cntOb 76 22 2 (rowZ L m (geti (gets [rx] 0) 1) k)) B V) B2 V2)]) (fun k => k ≤ 1000 ∧ (k : Int) * k ≤ m) (fun k => 1000 - k) 0 ⟨by omega, by simp; omega⟩ ⟨lee rfl (by (repeat (first | exact le_nil | refine le_eq rfl rfl ?_))), by (repeat (first | exact lo_nil | refine lo_eq rfl ?_)), rfl, rfl⟩ ?_
  rintro k ⟨k0, k1⟩
  have hp : Pinned (pinOb (pinOb (cntOb 76 22 2 (rowZ L m (geti (gets [rx] 0) 1) k)) B V) B2 V2) B V := pinned2 pinned1
  have hzk := zi_row hZ hm hc k k0
  have ek : (((k + 1 : Nat) : Nat) : Int) = (k : Int) + 1 := by omega
  have hstep : rowZ L m (geti (gets [rx] 0) 1) (k + 1) = stZ (rowZ L m (geti (gets [rx] 0) 1) k) m (geti (gets [rx] 0) 1) (k + 1) := rfl
  unfold stZ at hstep
  rw [ek] at hstep
  have hsq0 : 0 ≤ ((k : Int) + 1) * ((k : Int) + 1) ∧ ((k : Int) + 1) * ((k : Int) + 1) ≤ 1001 * 1001 := ⟨Int.mul_nonneg (by omega) (by omega), Int.mul_le_mul (by omega) (by omega) (by omega) (by omega)⟩
  by_cases hd : ((k : Int) + 1) * ((k : Int) + 1) ≤ m
  · have hk1 : k + 1 ≤ 1000 := by
      apply Classical.byContradiction
      intro hn
      have := Int.mul_le_mul (show (1001 : Int) ≤ (k : Int) + 1 by omega) (show (1001 : Int) ≤ (k : Int) + 1 by omega) (by omega) (by omega)
      omega
    have hinv : (((k + 1 : Nat) : Nat) : Int) * ((k + 1 : Nat) : Int) ≤ m := by rw [ek]; exact hd
    by_cases hmd : m % ((k : Int) + 1) = 0
    · rw [if_pos hmd] at hstep
      have hz1 := zi_put hzk (m := (k : Int) + 1) (e := -geti (gets [rx] 0) 1) (by omega) (by omega)
      have hk1c := clo_k _ _ hzk (by omega) rx hl ((k : Int) + 1) (by omega) hc B B2 V V2
      by_cases he : ((k : Int) + 1) * ((k : Int) + 1) = m
      · rw [if_pos he] at hstep
        repeat' (first | (apply AOps.nil; try simp only [List.nil_append, List.cons_append, List.set_cons_zero, List.set_cons_succ, List.length_cons, List.length_nil, Nat.reduceAdd, AV.sh, AV.sh1, AV.sh0, AO.sh, List.map_cons, List.map_nil, Nat.zero_add, Nat.add_zero, setAll]) | (apply w_move; exact rfl; exact rfl) | (apply w_assign; exact rfl; exact rfl) | apply AWp.seq | apply AWp.region | ((apply AWp.condP; exact rfl) <;> intro h) | apply AWp.block | apply AWp.exit | apply AWp.skip | (apply if_pos'; exact rfl) | (apply w_callk 1 2 hV hp hk1c; exact rfl; exact rfl; exact rfl; (focus ((repeat (first | exact imo_nil | refine imo_cons rfl (.val _) ?_)); done)); simp only [Env.mp, List.map_cons, List.map_nil, List.set_cons_zero, List.set_cons_succ, AV.kill, AV.kill1, AO.kill, AV.noRow, AV.noRow1, AO.via, reduceIte, Nat.reduceEqDiff, Nat.reduceLT, Env.up, Nat.zero_ne_one, Nat.one_ne_zero, Nat.reduceAdd, List.cons_append, List.nil_append]) | omega | ((first | apply w_lss | apply w_leq | apply w_eql | apply w_add | apply w_mul); iterate 3 exact rfl) | (apply w_rem; exact rfl; exact rfl; exact rfl; (focus (omega; done)); (focus (omega; done))) | (apply inI_of <;> omega))
        exact ⟨k + 1, ⟨hk1, hinv⟩, by omega, ⟨lee rfl (by (repeat (first | exact le_nil | refine le_eq rfl rfl ?_))), by (repeat (first | exact lo_nil | refine lo_eq rfl ?_ | refine lo_eq (congrArg (fun z => AO.ob (pinOb (pinOb (cntOb 76 22 2 z) B V) B2 V2)) hstep.symm) ?_)), rfl, rfl⟩⟩
      · rw [if_neg he] at hstep
        have hdm : ((k : Int) + 1) * (m / ((k : Int) + 1)) = m := by have := Int.mul_ediv_add_emod m ((k : Int) + 1); omega
        have hq1 : 1 ≤ m / ((k : Int) + 1) := by
          rcases Int.lt_or_le (m / ((k : Int) + 1)) 1 with hq | hq
          · have := Int.mul_le_mul_of_nonneg_left (show m / ((k : Int) + 1) ≤ 0 by omega) (show (0 : Int) ≤ (k : Int) + 1 by omega)
            omega
          · exact hq
        have hq2 : m / ((k : Int) + 1) ≤ m := Int.ediv_le_self _ (by omega)
        have hk2c := clo_k _ _ hz1 (by omega) rx hl (m / ((k : Int) + 1)) (by omega) hc B B2 V V2
        have hp2 : Pinned (pinOb (pinOb (cntOb 76 22 2 (putZ (rowZ L m (geti (gets [rx] 0) 1) k) ((k : Int) + 1) (-geti (gets [rx] 0) 1))) B V) B2 V2) B V := pinned2 pinned1
        repeat' (first | (apply AOps.nil; try simp only [List.nil_append, List.cons_append, List.set_cons_zero, List.set_cons_succ, List.length_cons, List.length_nil, Nat.reduceAdd, AV.sh, AV.sh1, AV.sh0, AO.sh, List.map_cons, List.map_nil, Nat.zero_add, Nat.add_zero, setAll]) | (apply w_move; exact rfl; exact rfl) | (apply w_assign; exact rfl; exact rfl) | apply AWp.seq | apply AWp.region | ((apply AWp.condP; exact rfl) <;> intro h) | apply AWp.block | apply AWp.exit | apply AWp.skip | (apply if_pos'; exact rfl) | (apply w_callk 1 2 hV hp hk1c; exact rfl; exact rfl; exact rfl; (focus ((repeat (first | exact imo_nil | refine imo_cons rfl (.val _) ?_)); done)); simp only [Env.mp, List.map_cons, List.map_nil, List.set_cons_zero, List.set_cons_succ, AV.kill, AV.kill1, AO.kill, AV.noRow, AV.noRow1, AO.via, reduceIte, Nat.reduceEqDiff, Nat.reduceLT, Env.up, Nat.zero_ne_one, Nat.one_ne_zero, Nat.reduceAdd, List.cons_append, List.nil_append]) | (apply w_callk 1 2 hV hp2 hk2c; exact rfl; exact rfl; exact rfl; (focus ((repeat (first | exact imo_nil | refine imo_cons rfl (.val _) ?_)); done)); simp only [Env.mp, List.map_cons, List.map_nil, List.set_cons_zero, List.set_cons_succ, AV.kill, AV.kill1, AO.kill, AV.noRow, AV.noRow1, AO.via, reduceIte, Nat.reduceEqDiff, Nat.reduceLT, Env.up, Nat.zero_ne_one, Nat.one_ne_zero, Nat.reduceAdd, List.cons_append, List.nil_append]) | omega | ((first | apply w_lss | apply w_leq | apply w_eql | apply w_add | apply w_mul); iterate 3 exact rfl) | (apply w_rem; exact rfl; exact rfl; exact rfl; (focus (omega; done)); (focus (omega; done))) | (apply w_quo; exact rfl; exact rfl; exact rfl; (focus (omega; done)); (focus (omega; done))) | (apply inI_of <;> omega))
        exact ⟨k + 1, ⟨hk1, hinv⟩, by omega, ⟨lee rfl (by (repeat (first | exact le_nil | refine le_eq rfl rfl ?_))), by (repeat (first | exact lo_nil | refine lo_eq rfl ?_ | refine lo_eq (congrArg (fun z => AO.ob (pinOb (pinOb (cntOb 76 22 2 z) B V) B2 V2)) hstep.symm) ?_)), rfl, rfl⟩⟩
    · rw [if_neg hmd] at hstep
      repeat' (first | (apply AOps.nil; try simp only [List.nil_append, List.cons_append, List.set_cons_zero, List.set_cons_succ, List.length_cons, List.length_nil, Nat.reduceAdd, AV.sh, AV.sh1, AV.sh0, AO.sh, List.map_cons, List.map_nil, Nat.zero_add, Nat.add_zero, setAll]) | (apply w_move; exact rfl; exact rfl) | (apply w_assign; exact rfl; exact rfl) | apply AWp.seq | apply AWp.region | ((apply AWp.condP; exact rfl) <;> intro h) | apply AWp.block | apply AWp.exit | apply AWp.skip | (apply if_pos'; exact rfl) | omega | ((first | apply w_leq | apply w_eql | apply w_add | apply w_mul); iterate 3 exact rfl) | (apply w_rem; exact rfl; exact rfl; exact rfl; (focus (omega; done)); (focus (omega; done))) | (apply inI_of <;> omega))
      exact ⟨k + 1, ⟨hk1, hinv⟩, by omega, ⟨lee rfl (by (repeat (first | exact le_nil | refine le_eq rfl rfl ?_))), by (repeat (first | exact lo_nil | refine lo_eq rfl ?_ | refine lo_eq (congrArg (fun z => AO.ob (pinOb (pinOb (cntOb 76 22 2 z) B V) B2 V2)) hstep.symm) ?_)), rfl, rfl⟩⟩
  · have hi2 : isq m = k := isqN_eq k1 (by rw [ek]; omega) 1000 k0
    rw [hi2]
    repeat' (first | (apply AOps.nil; try simp only [List.nil_append, List.cons_append, List.set_cons_zero, List.set_cons_succ, List.length_cons, List.length_nil, Nat.reduceAdd, AV.sh, AV.sh1, AV.sh0, AO.sh, List.map_cons, List.map_nil, Nat.zero_add, Nat.add_zero, setAll]) | (apply w_move; exact rfl; exact rfl) | apply AWp.seq | apply AWp.region | ((apply AWp.condP; exact rfl) <;> intro h) | apply AWp.block | apply AWp.exit | apply AWp.skip | (apply if_pos'; exact rfl) | omega | ((first | apply w_leq | apply w_mul); iterate 3 exact rfl) | (apply inI_of <;> omega))
    exact ⟨1, .unit Try.results76, rfl, rfl⟩
end Go.Proofs.Ytdkociacaagcoaa
/-
  Eigenvalue numbers: the reference. No condition but bounds.
-/
namespace Go.Proofs.Ytdkociacaagcoaa
open Go Go.RowKit
attribute [local irreducible] AWp AOps ResIs Ret1 QOp LOp COp AFnV AFn Imms LeE LeO
set_option maxHeartbeats 1000000
set_option linter.unusedSimpArgs false
set_option linter.unusedVariables false

theorem zok_of {j : Nat} {L : List (List Int)} (h : ZI j L) (hj : j ≤ 900000) : (∀ r ∈ L, ZOk 1000000000000 r) ∧ L.length ≤ 1000000 :=
  ⟨fun r hr => by have := h.row r hr; unfold ZOk at *; omega, by have := h.len; omega⟩
set_option maxHeartbeats 8000000 in
theorem l14Numbers_c (Z : List (List Int)) (hZ : ZtOk Z) : AFn Try.prog 75 [.intss Z] (IsIntss 22 2 (nzL (numZ Z Z.length) (numZ Z Z.length).length)) := by
  have hzl := hZ.1
  (refine AFn.start Try.func75 Try.ntmps75 rfl (by kernel_rfl) fun hk => ?_; simp only [Env.start, enumF, List.length_cons, List.length_nil, Nat.reduceAdd, Nat.reduceSub, List.cons_append, List.nil_append])
  repeat' (first | (apply AOps.nil; try simp only [List.nil_append, List.cons_append, List.set_cons_zero, List.set_cons_succ, List.length_cons, List.length_nil, Nat.reduceAdd, AV.sh, AV.sh1, AV.sh0, AO.sh, List.map_cons, List.map_nil, Nat.zero_add, Nat.add_zero, setAll]) | (apply w_assign; exact rfl; exact rfl) | apply AWp.seq | apply AWp.region | apply AWp.block | (apply w_bsr1s; exact rfl; exact rfl; exact rfl; exact rfl; simp only [Env.mp, List.map_cons, List.map_nil, List.set_cons_zero, List.set_cons_succ, AV.kill, AV.kill1, AO.kill, AV.rin, AV.rin1, AV.noRow, AV.noRow1, AO.via, reduceIte, Nat.reduceEqDiff, Nat.reduceLT, Env.up, Nat.zero_ne_one, Nat.one_ne_zero, Nat.reduceAdd, List.cons_append, List.nil_append]) | ((apply w_bs2); iterate 3 exact rfl) | (apply inI_of <;> omega))
  refine AWp.loop (ι := Nat) (fun i => ⟨61, [(0, .intss Z), (3, .own 1), (4, .i i)]⟩) (fun i => [.dead, .sls 22 2 (numZ Z i)]) (fun i => i ≤ Z.length) (fun i => Z.length - i) 0 (by omega) ⟨lee rfl (by (repeat (first | exact le_nil | refine le_eq rfl rfl ?_))), by (repeat (first | exact lo_nil | refine lo_dead ?_ | refine lo_eq rfl ?_)), rfl, rfl⟩ ?_
  rintro i i0
  have hzi := zi_num hZ i i0
  by_cases hlt : i < Z.length
  · obtain ⟨r1, r2, r3⟩ := hZ.2 i hlt
    repeat' (first | (apply AOps.nil; try simp only [List.nil_append, List.cons_append, List.set_cons_zero, List.set_cons_succ, List.length_cons, List.length_nil, Nat.reduceAdd, AV.sh, AV.sh1, AV.sh0, AO.sh, List.map_cons, List.map_nil, Nat.zero_add, Nat.add_zero, setAll]) | (apply w_move; exact rfl; exact rfl) | (apply w_assign; exact rfl; exact rfl) | apply AWp.seq | apply AWp.region | ((apply AWp.condP; exact rfl) <;> intro h) | apply AWp.block | apply AWp.exit | apply AWp.skip | (apply w_len; exact rfl; exact rfl; first | exact .ints _ | exact .intss _ | exact .sli rfl | exact .sls rfl | exact .slr rfl | exact .orow rfl | exact .nil) | omega | ((first | apply w_lss | apply w_idx | apply w_ld); iterate 3 exact rfl) | ((first | apply w_idxs | apply w_lds); iterate 3 exact rfl))
    refine AWp.loop (ι := Nat) (fun k => ⟨61, [(0, .intss Z), (3, .own 1), (4, .i i), (5, .i (geti (gets Z (i : Nat)) 0)), (6, .i ((k : Int) + 1))]⟩) (fun k => [.dead, .sls 22 2 (rowZ (numZ Z i) (geti (gets Z (i : Nat)) 0) (geti (gets Z (i : Nat)) 1) k)]) (fun k => k ≤ 1000 ∧ (k : Int) * k ≤ geti (gets Z (i : Nat)) 0) (fun k => 1000 - k) 0 ⟨by omega, by simp; omega⟩ ⟨lee rfl (by (repeat (first | exact le_nil | refine le_eq rfl rfl ?_))), by (repeat (first | exact lo_nil | refine lo_dead ?_ | refine lo_eq rfl ?_)), rfl, rfl⟩ ?_
    rintro k ⟨k0, k1⟩
    have hzk := zi_row hzi r2 r3 k k0
    have ek : (((k + 1 : Nat) : Nat) : Int) = (k : Int) + 1 := by omega
    obtain ⟨zo1, zo2⟩ := zok_of hzk (by omega)
    have hstep : rowZ (numZ Z i) (geti (gets Z (i : Nat)) 0) (geti (gets Z (i : Nat)) 1) (k + 1) = stZ (rowZ (numZ Z i) (geti (gets Z (i : Nat)) 0) (geti (gets Z (i : Nat)) 1) k) (geti (gets Z (i : Nat)) 0) (geti (gets Z (i : Nat)) 1) (k + 1) := rfl
    unfold stZ at hstep
    rw [ek, ← Int.zero_sub] at hstep
    have hsq0 : 0 ≤ ((k : Int) + 1) * ((k : Int) + 1) ∧ ((k : Int) + 1) * ((k : Int) + 1) ≤ 1001 * 1001 := ⟨Int.mul_nonneg (by omega) (by omega), Int.mul_le_mul (by omega) (by omega) (by omega) (by omega)⟩
    have hnum : numZ Z (i + 1) = rowZ (numZ Z i) (geti (gets Z (i : Nat)) 0) (geti (gets Z (i : Nat)) 1) (isq (geti (gets Z (i : Nat)) 0)) := rfl
    by_cases hd : ((k : Int) + 1) * ((k : Int) + 1) ≤ geti (gets Z (i : Nat)) 0
    · have hk1 : k + 1 ≤ 1000 := by
        apply Classical.byContradiction
        intro hn
        have := Int.mul_le_mul (show (1001 : Int) ≤ (k : Int) + 1 by omega) (show (1001 : Int) ≤ (k : Int) + 1 by omega) (by omega) (by omega)
        omega
      have hsq : 0 ≤ ((k : Int) + 1) * ((k : Int) + 1) := Int.mul_nonneg (by omega) (by omega)
      have hinv : (((k + 1 : Nat) : Nat) : Int) * ((k + 1 : Nat) : Int) ≤ geti (gets Z (i : Nat)) 0 := by rw [ek]; exact hd
      by_cases hm : geti (gets Z (i : Nat)) 0 % ((k : Int) + 1) = 0
      · rw [if_pos hm] at hstep
        have hp1 := l14Put_c _ ((k : Int) + 1) (0 - geti (gets Z (i : Nat)) 1) zo1 zo2 (by omega) (by omega)
        have hz1 := zi_put hzk (m := (k : Int) + 1) (e := 0 - geti (gets Z (i : Nat)) 1) (by omega) (by omega)
        obtain ⟨zo3, zo4⟩ := zok_of hz1 (by omega)
        by_cases he : ((k : Int) + 1) * ((k : Int) + 1) = geti (gets Z (i : Nat)) 0
        · rw [if_pos he] at hstep
          repeat' (first | (apply AOps.nil; try simp only [List.nil_append, List.cons_append, List.set_cons_zero, List.set_cons_succ, List.length_cons, List.length_nil, Nat.reduceAdd, AV.sh, AV.sh1, AV.sh0, AO.sh, List.map_cons, List.map_nil, Nat.zero_add, Nat.add_zero, setAll]) | (apply w_move; exact rfl; exact rfl) | (apply w_assign; exact rfl; exact rfl) | apply AWp.seq | apply AWp.region | ((apply AWp.condP; exact rfl) <;> intro h) | apply AWp.block | apply AWp.exit | apply AWp.skip | (apply w_callt 1 (hp1); exact rfl; exact rfl; (focus ((repeat (first | exact imu_nil | refine imu_cons rfl (.val _) ?_ | refine imu_cons rfl (.own rfl) ?_)); done)); rintro xss0 rfl; simp only [Env.mp, List.map_cons, List.map_nil, List.set_cons_zero, List.set_cons_succ, AV.kill, AV.kill1, AO.kill, AV.lose, AV.lose1, List.map_append, map_orow_kill, AV.noRow, AV.noRow1, AO.via, reduceIte, Nat.reduceEqDiff, Nat.reduceLT, Env.up, Nat.zero_ne_one, Nat.one_ne_zero, Nat.reduceAdd, List.cons_append, List.nil_append]) | omega | ((first | apply w_leq | apply w_neq | apply w_add | apply w_mul | apply w_idx | apply w_ld); iterate 3 exact rfl) | ((first | apply w_idxs | apply w_lds); iterate 3 exact rfl) | (apply w_rem; exact rfl; exact rfl; exact rfl; (focus (omega; done)); (focus (omega; done))) | ((apply w_neg); iterate 2 exact rfl) | (apply inI_of <;> omega))
          exact ⟨k + 1, ⟨hk1, hinv⟩, by omega, ⟨lee rfl (by (repeat (first | exact le_nil | refine le_eq rfl rfl ?_))), by (repeat (first | exact lo_nil | refine lo_dead ?_ | refine lo_eq (congrArg (AO.sls _ _) (hstep.symm)) ?_)), rfl, rfl⟩⟩
        · rw [if_neg he] at hstep
          have hdm : ((k : Int) + 1) * (geti (gets Z (i : Nat)) 0 / ((k : Int) + 1)) = geti (gets Z (i : Nat)) 0 := by have := Int.mul_ediv_add_emod (geti (gets Z (i : Nat)) 0) ((k : Int) + 1); omega
          have hq1 : 1 ≤ geti (gets Z (i : Nat)) 0 / ((k : Int) + 1) := by
            rcases Int.lt_or_le (geti (gets Z (i : Nat)) 0 / ((k : Int) + 1)) 1 with hq | hq
            · have := Int.mul_le_mul_of_nonneg_left (show geti (gets Z (i : Nat)) 0 / ((k : Int) + 1) ≤ 0 by omega) (show (0 : Int) ≤ (k : Int) + 1 by omega)
              omega
            · exact hq
          have hq2 : geti (gets Z (i : Nat)) 0 / ((k : Int) + 1) ≤ geti (gets Z (i : Nat)) 0 := Int.ediv_le_self _ (by omega)
          have hp2 := l14Put_c _ (geti (gets Z (i : Nat)) 0 / ((k : Int) + 1)) (0 - geti (gets Z (i : Nat)) 1) zo3 zo4 (by omega) (by omega)
          repeat' (first | (apply AOps.nil; try simp only [List.nil_append, List.cons_append, List.set_cons_zero, List.set_cons_succ, List.length_cons, List.length_nil, Nat.reduceAdd, AV.sh, AV.sh1, AV.sh0, AO.sh, List.map_cons, List.map_nil, Nat.zero_add, Nat.add_zero, setAll]) | (apply w_move; exact rfl; exact rfl) | (apply w_assign; exact rfl; exact rfl) | apply AWp.seq | apply AWp.region | ((apply AWp.condP; exact rfl) <;> intro h) | apply AWp.block | apply AWp.exit | apply AWp.skip | (apply w_callt 1 (hp1); exact rfl; exact rfl; (focus ((repeat (first | exact imu_nil | refine imu_cons rfl (.val _) ?_ | refine imu_cons rfl (.own rfl) ?_)); done)); rintro xss0 rfl; simp only [Env.mp, List.map_cons, List.map_nil, List.set_cons_zero, List.set_cons_succ, AV.kill, AV.kill1, AO.kill, AV.lose, AV.lose1, List.map_append, map_orow_kill, AV.noRow, AV.noRow1, AO.via, reduceIte, Nat.reduceEqDiff, Nat.reduceLT, Env.up, Nat.zero_ne_one, Nat.one_ne_zero, Nat.reduceAdd, List.cons_append, List.nil_append]) | omega | ((first | apply w_leq | apply w_neq | apply w_mul | apply w_idx | apply w_ld); iterate 3 exact rfl) | ((first | apply w_idxs | apply w_lds); iterate 3 exact rfl) | (apply w_rem; exact rfl; exact rfl; exact rfl; (focus (omega; done)); (focus (omega; done))) | ((apply w_neg); iterate 2 exact rfl) | (apply inI_of <;> omega))
          refine AWp.regionA (by kernel_rfl) (envC := ⟨61, [(0, .intss Z), (3, .own 1), (4, .i i), (5, .i (geti (gets Z (i : Nat)) 0)), (6, .i ((k : Int) + 1))]⟩) (osC := [.dead, .sls 22 2 (putZ (putZ (rowZ (numZ Z i) (geti (gets Z (i : Nat)) 0) (geti (gets Z (i : Nat)) 1) k) ((k : Int) + 1) (0 - geti (gets Z (i : Nat)) 1)) (geti (gets Z (i : Nat)) 0 / ((k : Int) + 1)) (0 - geti (gets Z (i : Nat)) 1))]) rfl rfl ?_ ?_
          · repeat' (first | (apply AOps.nil; try simp only [List.nil_append, List.cons_append, List.set_cons_zero, List.set_cons_succ, List.length_cons, List.length_nil, Nat.reduceAdd, AV.sh, AV.sh1, AV.sh0, AO.sh, List.map_cons, List.map_nil, Nat.zero_add, Nat.add_zero, setAll]) | (apply w_move; exact rfl; exact rfl) | (apply w_assign; exact rfl; exact rfl) | (apply w_callt 1 (hp2); exact rfl; exact rfl; (focus ((repeat (first | exact imu_nil | refine imu_cons rfl (.val _) ?_ | refine imu_cons rfl (.own rfl) ?_)); done)); rintro xss0 rfl; simp only [Env.mp, List.map_cons, List.map_nil, List.set_cons_zero, List.set_cons_succ, AV.kill, AV.kill1, AO.kill, AV.lose, AV.lose1, List.map_append, map_orow_kill, AV.noRow, AV.noRow1, AO.via, reduceIte, Nat.reduceEqDiff, Nat.reduceLT, Env.up, Nat.zero_ne_one, Nat.one_ne_zero, Nat.reduceAdd, List.cons_append, List.nil_append]) | omega | ((first | apply w_idx | apply w_ld); iterate 3 exact rfl) | ((first | apply w_idxs | apply w_lds); iterate 3 exact rfl) | (apply w_quo; exact rfl; exact rfl; exact rfl; (focus (omega; done)); (focus (omega; done))) | ((apply w_neg); iterate 2 exact rfl) | apply AllOf.nil | (apply AllOf.cons; exact rfl) | (apply AAny.take; exact rfl; exact rfl; kernel_rfl; kernel_rfl) | (apply AAny.all; exact rfl) | (apply AAny.done; exact rfl) | (apply inI_of <;> omega))
            all_goals (apply Or.inl; refine ⟨lee rfl ?_, ?_, rfl, rfl⟩; (focus ((repeat (first | exact le_nil | refine le_eq rfl rfl ?_)); done)); (focus ((repeat (first | exact lo_nil | refine lo_dead ?_ | refine lo_eq rfl ?_)); done)))
          repeat' (first | (apply AOps.nil; try simp only [List.nil_append, List.cons_append, List.set_cons_zero, List.set_cons_succ, List.length_cons, List.length_nil, Nat.reduceAdd, AV.sh, AV.sh1, AV.sh0, AO.sh, List.map_cons, List.map_nil, Nat.zero_add, Nat.add_zero, setAll]) | (apply w_move; exact rfl; exact rfl) | (apply w_assign; exact rfl; exact rfl) | apply AWp.region | ((apply w_add); iterate 3 exact rfl) | (apply inI_of <;> omega))
          exact ⟨k + 1, ⟨hk1, hinv⟩, by omega, ⟨lee rfl (by (repeat (first | exact le_nil | refine le_eq rfl rfl ?_))), by (repeat (first | exact lo_nil | refine lo_dead ?_ | refine lo_eq (congrArg (AO.sls _ _) (hstep.symm)) ?_)), rfl, rfl⟩⟩
      · rw [if_neg hm] at hstep
        repeat' (first | (apply AOps.nil; try simp only [List.nil_append, List.cons_append, List.set_cons_zero, List.set_cons_succ, List.length_cons, List.length_nil, Nat.reduceAdd, AV.sh, AV.sh1, AV.sh0, AO.sh, List.map_cons, List.map_nil, Nat.zero_add, Nat.add_zero, setAll]) | (apply w_move; exact rfl; exact rfl) | (apply w_assign; exact rfl; exact rfl) | apply AWp.seq | apply AWp.region | ((apply AWp.condP; exact rfl) <;> intro h) | apply AWp.block | apply AWp.exit | apply AWp.skip | omega | ((first | apply w_leq | apply w_neq | apply w_add | apply w_mul); iterate 3 exact rfl) | (apply w_rem; exact rfl; exact rfl; exact rfl; (focus (omega; done)); (focus (omega; done))) | (apply inI_of <;> omega))
        exact ⟨k + 1, ⟨hk1, hinv⟩, by omega, ⟨lee rfl (by (repeat (first | exact le_nil | refine le_eq rfl rfl ?_))), by (repeat (first | exact lo_nil | refine lo_dead ?_ | refine lo_eq (congrArg (AO.sls _ _) (hstep.symm)) ?_)), rfl, rfl⟩⟩
    · have hi2 : isq (geti (gets Z (i : Nat)) 0) = k := isqN_eq k1 (by rw [ek]; omega) 1000 k0
      rw [hi2] at hnum
      repeat' (first | (apply AOps.nil; try simp only [List.nil_append, List.cons_append, List.set_cons_zero, List.set_cons_succ, List.length_cons, List.length_nil, Nat.reduceAdd, AV.sh, AV.sh1, AV.sh0, AO.sh, List.map_cons, List.map_nil, Nat.zero_add, Nat.add_zero, setAll]) | (apply w_move; exact rfl; exact rfl) | (apply w_assign; exact rfl; exact rfl) | apply AWp.seq | apply AWp.region | ((apply AWp.condP; exact rfl) <;> intro h) | apply AWp.block | apply AWp.exit | apply AWp.skip | omega | ((first | apply w_leq | apply w_add | apply w_mul); iterate 3 exact rfl) | (apply inI_of <;> omega))
      exact ⟨i + 1, hlt, by omega, ⟨lee rfl (by (repeat (first | exact le_nil | refine le_eq rfl rfl ?_))), by (repeat (first | exact lo_nil | refine lo_dead ?_ | refine lo_eq (congrArg (AO.sls _ _) (hnum.symm)) ?_)), rfl, rfl⟩⟩
  · have e : i = Z.length := by omega
    subst e
    have hsm := l14Some_c (numZ Z Z.length) (fun r hr => (hzi.row r hr).1) (zok_of hzi (by omega)).2
    repeat' (first | (apply AOps.nil; try simp only [List.nil_append, List.cons_append, List.set_cons_zero, List.set_cons_succ, List.length_cons, List.length_nil, Nat.reduceAdd, AV.sh, AV.sh1, AV.sh0, AO.sh, List.map_cons, List.map_nil, Nat.zero_add, Nat.add_zero, setAll]) | (apply w_move; exact rfl; exact rfl) | (apply w_assign; exact rfl; exact rfl) | apply AWp.seq | apply AWp.region | ((apply AWp.condP; exact rfl) <;> intro h) | apply AWp.block | apply AWp.ret | apply AWp.exit | apply AWp.skip | (apply w_len; exact rfl; exact rfl; first | exact .ints _ | exact .intss _ | exact .sli rfl | exact .sls rfl | exact .slr rfl | exact .orow rfl | exact .nil) | (apply w_callm (hsm); (focus ((repeat (first | exact im_nil | refine im_cons rfl (.sls rfl) ?_)); done)); rintro r os0 ⟨rfl, rfl⟩; try simp only [List.nil_append, List.cons_append, List.set_cons_zero, List.set_cons_succ, List.length_cons, List.length_nil, Nat.reduceAdd, AV.sh, AV.sh1, AV.sh0, AO.sh, List.map_cons, List.map_nil, Nat.zero_add, Nat.add_zero, setAll]) | omega | ((apply w_lss); iterate 3 exact rfl))
    exact ⟨_, _, _, .v1 Try.results75 rfl, .sls rfl, rfl, rfl⟩
end Go.Proofs.Ytdkociacaagcoaa
/-
  Eigenvalue numbers: the program's. No condition but bounds.
-/
namespace Go.Proofs.Ytdkociacaagcoaa
open Go Go.RowKit
attribute [local irreducible] AWp AOps ResIs Ret1 QOp LOp COp AFnV AFn Imms LeE LeO
set_option maxHeartbeats 1000000
set_option linter.unusedSimpArgs false
set_option linter.unusedVariables false
attribute [local irreducible] cloRo

/-- The places of the rows among the first n whose count is not 0. -/
def nzI (L : List (List Int)) : Nat → List Nat
  | 0 => []
  | n + 1 => if geti (gets L (n : Nat)) 1 ≠ 0 then nzI L n ++ [n] else nzI L n
theorem nzI_lt (L : List (List Int)) : ∀ (n i : Nat), i ∈ nzI L n → i < n
  | 0, i, h => by cases h
  | n + 1, i, h => by
    rw [nzI] at h
    split at h
    · rcases List.mem_append.1 h with h | h
      · have := nzI_lt L n i h; omega
      · simp at h; omega
    · have := nzI_lt L n i h; omega
theorem nzI_nodup (L : List (List Int)) : ∀ n : Nat, (nzI L n).Nodup
  | 0 => List.nodup_nil
  | n + 1 => by
    rw [nzI]
    split
    · rw [List.nodup_append]
      exact ⟨nzI_nodup L n, by simp, fun a ha b hb e => by have := nzI_lt L n a ha; simp at hb; omega⟩
    · exact nzI_nodup L n
theorem nzI_len (L : List (List Int)) : ∀ n : Nat, (nzI L n).length ≤ n
  | 0 => Nat.le_refl _
  | n + 1 => by
    have := nzI_len L n
    rw [nzI]
    split
    · simp; omega
    · omega
theorem nzI_rows (L : List (List Int)) : ∀ n : Nat, n ≤ L.length → (nzI L n).map (fun i => L.getD i []) = nzL L n
  | 0, _ => rfl
  | n + 1, h => by
    have ih := nzI_rows L n (by omega)
    rw [nzL_succ (by omega), nzI]
    split
    · rw [List.map_append, ih]
      simp [gets]
    · exact ih
theorem putZ_nil (m e : Int) : putZ [] m e = [[m, e]] := rfl

theorem lim9 {T e e2 e3 : TypeId} {ys : List (List Int)} (st : List Nat) : [AO.bx T [.own 1], AO.sls e e2 ys, .slr e3 (st.map (AV.orow 1))].map (AO.lim 3) = [AO.bx T [.own 1], AO.sls e e2 ys, .slr e3 (st.map (AV.orow 1))] := by
  have : (st.map (AV.orow 1)).map (AV.lim 3) = st.map (AV.orow 1) := by rw [List.map_map]; rfl
  simp only [List.map_cons, List.map_nil, AO.lim, this]
  rfl
set_option maxHeartbeats 8000000 in
theorem eigen_c (Z : List (List Int)) (hZ : ZtOk Z) : AFn Try.prog 59 [.intss Z] (IsIntss 22 2 (nzL (numZ Z Z.length) (numZ Z Z.length).length)) := by
  have hzl := hZ.1
  have ha0 := AFnO.ofP (add_c 0 [] zi_nil (by omega) 1 1 (by omega) (by omega))
  rw [putZ_nil] at ha0
  simp only [List.map_cons, List.map_nil] at ha0
  (refine AFn.start Try.func59 Try.ntmps59 rfl (by kernel_rfl) fun hk => ?_; simp only [Env.start, enumF, List.length_cons, List.length_nil, Nat.reduceAdd, Nat.reduceSub, List.cons_append, List.nil_append])
  repeat' (first | (apply AOps.nil; try simp only [List.nil_append, List.cons_append, List.set_cons_zero, List.set_cons_succ, List.length_cons, List.length_nil, Nat.reduceAdd, AV.sh, AV.sh1, AV.sh0, AO.sh, List.map_cons, List.map_nil, Nat.zero_add, Nat.add_zero, setAll]) | (apply w_assign; exact rfl; exact rfl) | apply AWp.seq | apply AWp.region | ((apply w_build0); iterate 2 exact rfl) | (apply w_alst; iterate 2 exact rfl) | (apply w_stst; iterate 5 exact rfl))
  refine AOps.turns (Turns.joinNil (h := 0) 22 2 rfl) ?_
  try simp only [List.nil_append, List.cons_append, List.set_cons_zero, List.set_cons_succ, List.length_cons, List.length_nil, Nat.reduceAdd, AV.sh, AV.sh1, AV.sh0, AO.sh, List.map_cons, List.map_nil, Nat.zero_add, Nat.add_zero, setAll]
  repeat' (first | (apply AOps.nil; try simp only [List.nil_append, List.cons_append, List.set_cons_zero, List.set_cons_succ, List.length_cons, List.length_nil, Nat.reduceAdd, AV.sh, AV.sh1, AV.sh0, AO.sh, List.map_cons, List.map_nil, Nat.zero_add, Nat.add_zero, setAll]) | (apply w_move; exact rfl; exact rfl) | apply AWp.seq | apply AWp.region | apply AWp.block | (apply w_len; exact rfl; exact rfl; first | exact .ints _ | exact .intss _ | exact .sli rfl | exact .sls rfl | exact .slr rfl | exact .orow rfl | exact .nil) | (apply w_callo 0 2 (ha0); exact rfl; exact rfl; (focus ((repeat (first | exact imo_nil | refine imo_ptr rfl ?_ | refine imo_cons rfl (.val _) ?_)); done)); simp only [Env.mp, List.map_cons, List.map_nil, List.set_cons_zero, List.set_cons_succ, AV.kill, AV.kill1, AO.kill, AV.noRow, AV.noRow1, AO.via, reduceIte, Nat.reduceEqDiff, Nat.reduceLT, Env.up, Nat.zero_ne_one, Nat.one_ne_zero, Nat.reduceAdd, List.cons_append, List.nil_append]))
  refine AWp.loop (ι := Nat) (fun i => ⟨41, [(0, .intss Z), (3, .optr 0 0), (11, .intss Z), (12, .i Z.length), (13, .i i)]⟩) (fun i => [.ob (cntOb 76 22 2 (numZ Z i))]) (fun i => i ≤ Z.length) (fun i => Z.length - i) 0 (by omega) ⟨lee rfl (by (repeat (first | exact le_nil | refine le_eq rfl rfl ?_))), by (repeat (first | exact lo_nil | refine lo_eq rfl ?_)), rfl, rfl⟩ ?_
  rintro i i0
  have hzi := zi_num hZ i i0
  by_cases hlt : i < Z.length
  · obtain ⟨r1, r2, r3⟩ := hZ.2 i hlt
    repeat' (first | (apply AOps.nil; try simp only [List.nil_append, List.cons_append, List.set_cons_zero, List.set_cons_succ, List.length_cons, List.length_nil, Nat.reduceAdd, AV.sh, AV.sh1, AV.sh0, AO.sh, List.map_cons, List.map_nil, Nat.zero_add, Nat.add_zero, setAll]) | apply AWp.seq | apply AWp.region | ((apply AWp.condP; exact rfl) <;> intro h) | apply AWp.block | apply AWp.exit | apply AWp.skip | omega | ((first | apply w_lss | apply w_idx | apply w_ld); iterate 3 exact rfl) | ((first | apply w_idxs | apply w_lds); iterate 3 exact rfl) | (apply w_ldb; iterate 5 exact rfl) | ((apply w_stbi); iterate 4 exact rfl) | (apply w_alone; iterate 3 exact rfl))
    refine AOps.freeze 5 1 rfl rfl ?_
    refine AOps.pin 0 rfl cnt_ptr fun B V hV => ?_
    try simp only [List.nil_append, List.cons_append, List.set_cons_zero, List.set_cons_succ, List.length_cons, List.length_nil, Nat.reduceAdd, AV.sh, AV.sh1, AV.sh0, AO.sh, List.map_cons, List.map_nil, Nat.zero_add, Nat.add_zero, setAll]
    have hd := (allDiv_c _ _ hzi (by omega) (gets Z (i : Nat)) r1 (geti (gets Z (i : Nat)) 0) r2 r3 B V hV).drop
    repeat' (first | (apply AOps.nil; try simp only [List.nil_append, List.cons_append, List.set_cons_zero, List.set_cons_succ, List.length_cons, List.length_nil, Nat.reduceAdd, AV.sh, AV.sh1, AV.sh0, AO.sh, List.map_cons, List.map_nil, Nat.zero_add, Nat.add_zero, setAll]) | (apply w_move; exact rfl; exact rfl) | apply AWp.region | (apply w_makef hV pinned1; exact rfl; exact rfl; exact rfl; exact rfl) | (apply w_callo 0 2 (hd); exact rfl; exact rfl; (focus ((repeat (first | exact imo_nil | refine imo_cons rfl (.val _) ?_ | refine imo_cons rfl (.ro _) ?_)); done)); simp only [Env.mp, List.map_cons, List.map_nil, List.set_cons_zero, List.set_cons_succ, AV.kill, AV.kill1, AO.kill, AV.noRow, AV.noRow1, AO.via, reduceIte, Nat.reduceEqDiff, Nat.reduceLT, Env.up, Nat.zero_ne_one, Nat.one_ne_zero, Nat.reduceAdd, List.cons_append, List.nil_append]) | ((apply w_add); iterate 3 exact rfl) | (apply inI_of <;> omega))
    exact ⟨i + 1, hlt, by omega, ⟨lee rfl (by (repeat (first | exact le_nil | refine le_eq rfl rfl ?_))), by (repeat (first | exact lo_nil | refine lo_eq rfl ?_)), rfl, rfl⟩⟩
  · repeat' (first | (apply AOps.nil; try simp only [List.nil_append, List.cons_append, List.set_cons_zero, List.set_cons_succ, List.length_cons, List.length_nil, Nat.reduceAdd, AV.sh, AV.sh1, AV.sh0, AO.sh, List.map_cons, List.map_nil, Nat.zero_add, Nat.add_zero, setAll]) | apply AWp.seq | apply AWp.region | ((apply AWp.condP; exact rfl) <;> intro h) | apply AWp.block | apply AWp.exit | apply AWp.skip | omega | ((apply w_lss); iterate 3 exact rfl))
    have e : i = Z.length := by omega
    subst e
    refine AOps.turns (Turns.split (h := 0) rfl rfl) ?_
    simp only [Env.mp, List.map_cons, List.map_nil, List.set_cons_zero, List.set_cons_succ, AV.kill, AV.kill1, AO.kill, AV.noRow, AV.noRow1, AO.via, reduceIte, Nat.reduceEqDiff, Nat.reduceLT, Env.up, Nat.zero_ne_one, Nat.one_ne_zero, Nat.reduceAdd, List.cons_append, List.nil_append]
    refine w_bsx0 1 rfl ?_
    try simp only [List.nil_append, List.cons_append, List.set_cons_zero, List.set_cons_succ, List.length_cons, List.length_nil, Nat.reduceAdd, AV.sh, AV.sh1, AV.sh0, AO.sh, List.map_cons, List.map_nil, Nat.zero_add, Nat.add_zero, setAll]
    repeat' (first | (apply AOps.nil; try simp only [List.nil_append, List.cons_append, List.set_cons_zero, List.set_cons_succ, List.length_cons, List.length_nil, Nat.reduceAdd, AV.sh, AV.sh1, AV.sh0, AO.sh, List.map_cons, List.map_nil, Nat.zero_add, Nat.add_zero, setAll]) | (apply w_move; exact rfl; exact rfl) | (apply w_assign; exact rfl; exact rfl) | apply AWp.seq | apply AWp.region | apply AWp.block | (apply w_len; exact rfl; exact rfl; first | exact .ints _ | exact .intss _ | exact .sli rfl | exact .sls rfl | exact .slr rfl | exact .orow rfl | exact .nil) | ((first | apply w_ld | apply w_fa); iterate 3 exact rfl) | (apply w_ldb; iterate 5 exact rfl))
    have hzl2 := (zok_of hzi (by omega)).2
    have hrl : ∀ n : Nat, n < (numZ Z Z.length).length → ((numZ Z Z.length).getD (n : Int).toNat []).length = 2 := fun n hn => by
      have := (hzi.row _ (at_mem hn)).1
      rw [Int.toNat_natCast]; exact this
    generalize numZ Z Z.length = L at *
    refine AWp.loop (ι := Nat) (fun n => ⟨41, [(6, .own 2), (25, .own 1), (26, .i L.length), (27, .i n)]⟩) (fun n => [.bx 76 [.own 1], .sls 22 2 L, .slr 22 ((nzI L n).map (AV.orow 1))]) (fun n => n ≤ L.length) (fun n => L.length - n) 0 (by omega) ⟨lee rfl (by (repeat (first | exact le_nil | refine le_eq rfl rfl ?_))), by (repeat (first | exact lo_nil | refine lo_eq rfl ?_)), rfl, by first | exact rfl | exact lim9 _⟩ ?_
    rintro n n0
    have hnl := nzI_len L n
    by_cases hn : n < L.length
    · have hr := hrl n hn
      have hs : nzI L (n + 1) = if geti (L.getD (n : Int).toNat []) ((Int.toNat 1 : Nat) : Int) ≠ 0 then nzI L n ++ [n] else nzI L n := rfl
      by_cases h0 : geti (L.getD (n : Int).toNat []) ((Int.toNat 1 : Nat) : Int) ≠ 0
      · rw [if_pos h0] at hs
        repeat' (first | (apply AOps.nil; try simp only [List.nil_append, List.cons_append, List.set_cons_zero, List.set_cons_succ, List.length_cons, List.length_nil, Nat.reduceAdd, AV.sh, AV.sh1, AV.sh0, AO.sh, List.map_cons, List.map_nil, Nat.zero_add, Nat.add_zero, setAll]) | (apply w_move; exact rfl; exact rfl) | (apply w_assign; exact rfl; exact rfl) | apply AWp.seq | apply AWp.region | ((apply AWp.condP; exact rfl) <;> intro h) | apply AWp.block | apply AWp.ret | apply AWp.exit | apply AWp.skip | ((first | apply w_bsx1 | apply w_lss | apply w_neq | apply w_add | apply w_idx | apply w_ld); iterate 3 exact rfl) | (apply w_appx; exact rfl; exact rfl; exact rfl; exact rfl; exact rfl; rotate_left 1; simp only [Env.mp, List.map_cons, List.map_nil, List.set_cons_zero, List.set_cons_succ, AV.kill, AV.kill1, AO.kill, AV.rin, AV.rin1, AV.noRow, AV.noRow1, AO.via, reduceIte, Nat.reduceEqDiff, Nat.reduceLT, Env.up, Nat.zero_ne_one, Nat.one_ne_zero, Nat.reduceAdd, List.cons_append, List.nil_append]; rotate_left 1) | omega | (apply w_idxo; exact rfl; exact rfl; (exact .sls rfl); exact rfl) | ((first | apply w_idxr | apply w_ldr); iterate 4 exact rfl) | (apply w_ldls; iterate 4 exact rfl) | (apply w_ldrp; iterate 4 exact rfl) | (apply inI_of <;> omega))
        have hs' : nzI L (n + 1) = nzI L n ++ [(n : Int).toNat] := hs
        exact ⟨n + 1, hn, by omega, by rw [hs']; exact ⟨lee rfl (by (repeat (first | exact le_nil | refine le_eq rfl rfl ?_))), by (repeat (first | exact lo_nil | refine lo_eq rfl ?_)), rfl, by first | exact rfl | exact lim9 _⟩⟩
      · rw [if_neg h0] at hs
        repeat' (first | (apply AOps.nil; try simp only [List.nil_append, List.cons_append, List.set_cons_zero, List.set_cons_succ, List.length_cons, List.length_nil, Nat.reduceAdd, AV.sh, AV.sh1, AV.sh0, AO.sh, List.map_cons, List.map_nil, Nat.zero_add, Nat.add_zero, setAll]) | (apply w_move; exact rfl; exact rfl) | (apply w_assign; exact rfl; exact rfl) | apply AWp.seq | apply AWp.region | ((apply AWp.condP; exact rfl) <;> intro h) | apply AWp.block | apply AWp.ret | apply AWp.exit | apply AWp.skip | ((first | apply w_bsx1 | apply w_lss | apply w_neq | apply w_add | apply w_idx | apply w_ld); iterate 3 exact rfl) | (apply w_appx; exact rfl; exact rfl; exact rfl; exact rfl; exact rfl; rotate_left 1; simp only [Env.mp, List.map_cons, List.map_nil, List.set_cons_zero, List.set_cons_succ, AV.kill, AV.kill1, AO.kill, AV.rin, AV.rin1, AV.noRow, AV.noRow1, AO.via, reduceIte, Nat.reduceEqDiff, Nat.reduceLT, Env.up, Nat.zero_ne_one, Nat.one_ne_zero, Nat.reduceAdd, List.cons_append, List.nil_append]; rotate_left 1) | omega | (apply w_idxo; exact rfl; exact rfl; (exact .sls rfl); exact rfl) | ((first | apply w_idxr | apply w_ldr); iterate 4 exact rfl) | (apply w_ldls; iterate 4 exact rfl) | (apply w_ldrp; iterate 4 exact rfl) | (apply inI_of <;> omega))
        exact ⟨n + 1, hn, by omega, by rw [hs]; exact ⟨lee rfl (by (repeat (first | exact le_nil | refine le_eq rfl rfl ?_))), by (repeat (first | exact lo_nil | refine lo_eq rfl ?_)), rfl, by first | exact rfl | exact lim9 _⟩⟩
    · have e : n = L.length := by omega
      subst e
      refine AWp.merge (p := 2) (k := 1) rfl rfl (nzI_nodup L _) ?_
      simp only [Env.mp, List.map_cons, List.map_nil, List.set_cons_zero, List.set_cons_succ, AV.kill, AV.kill1, AO.kill, AV.noRow, AV.noRow1, AO.via, reduceIte, Nat.reduceEqDiff, Nat.reduceLT, Env.up, Nat.zero_ne_one, Nat.one_ne_zero, Nat.reduceAdd, List.cons_append, List.nil_append]
      rw [nzI_rows L _ (Nat.le_refl _)]
      repeat' (first | (apply AOps.nil; try simp only [List.nil_append, List.cons_append, List.set_cons_zero, List.set_cons_succ, List.length_cons, List.length_nil, Nat.reduceAdd, AV.sh, AV.sh1, AV.sh0, AO.sh, List.map_cons, List.map_nil, Nat.zero_add, Nat.add_zero, setAll]) | (apply w_move; exact rfl; exact rfl) | (apply w_assign; exact rfl; exact rfl) | apply AWp.seq | apply AWp.region | ((apply AWp.condP; exact rfl) <;> intro h) | apply AWp.block | apply AWp.ret | apply AWp.exit | apply AWp.skip | omega | ((apply w_lss); iterate 3 exact rfl))
      exact ⟨_, _, _, .v1 Try.results59 rfl, .sls rfl, rfl, rfl⟩
end Go.Proofs.Ytdkociacaagcoaa
/-
  Zeta lists: whether a list is one. No condition.
-/
namespace Go.Proofs.Ytdkociacaagcoaa
open Go Go.RowKit
attribute [local irreducible] AWp AOps ResIs Ret1 QOp LOp COp AFnV AFn Imms LeE LeO
set_option maxHeartbeats 1000000
set_option linter.unusedSimpArgs false
set_option linter.unusedVariables false

/-- The i-th row of a zeta list. -/
def ZR (xss : List (List Int)) (i : Nat) : Prop :=
  (gets xss i).length = 2 ∧ (1 ≤ geti (gets xss i) 0 ∧ geti (gets xss i) 0 ≤ 1000000) ∧ (-1000 ≤ geti (gets xss i) 1 ∧ geti (gets xss i) 1 ≤ 1000) ∧ geti (gets xss i) 1 ≠ 0 ∧
    (0 < i → geti (gets xss ((i : Int) - 1)) 0 < geti (gets xss i) 0)
def IsZ (xss : List (List Int)) : Prop := xss.length ≤ 40 ∧ ∀ j, j < xss.length → ZR xss j
noncomputable instance (xss : List (List Int)) : Decidable (IsZ xss) := Classical.propDecidable _
noncomputable def isZ (xss : List (List Int)) : Bool := decide (IsZ xss)

theorem isZ_false {xss : List (List Int)} {i : Nat} (hi : i < xss.length) (h : ¬ ZR xss i) : false = isZ xss := (decide_eq_false fun hz => h (hz.2 i hi)).symm
theorem isZ_long {xss : List (List Int)} (h : ¬ xss.length ≤ 40) : false = isZ xss := (decide_eq_false fun hz => h hz.1).symm
theorem isZ_all {xss : List (List Int)} (h : ∀ j, j < xss.length → ZR xss j) : isZ xss = decide (xss.length ≤ 40) := by
  unfold isZ
  by_cases h2 : xss.length ≤ 40
  · rw [decide_eq_true ⟨h2, h⟩, decide_eq_true h2]
  · rw [decide_eq_false (fun hz => h2 hz.1), decide_eq_false h2]

theorem l14Is_c (xss : List (List Int)) : AFnV Try.prog 74 [.intss xss] (.bool (isZ xss)) := by
  (refine AFnV.start Try.func74 Try.ntmps74 rfl (by kernel_rfl) fun hk0 => ?_; simp only [Env.start, enumF, List.length_cons, List.length_nil, Nat.reduceAdd, Nat.reduceSub, List.cons_append, List.nil_append])
  obtain ⟨hk, hl⟩ : ArgOk (.intss xss) := hk0 _ (by simp)
  repeat' (first | (apply AOps.nil; try simp only [List.nil_append, List.cons_append, List.set_cons_zero, List.set_cons_succ, List.length_cons, List.length_nil, Nat.reduceAdd, AV.sh, AV.sh1, AV.sh0, AO.sh, List.map_cons, List.map_nil, Nat.zero_add, Nat.add_zero, setAll]) | (apply w_assign; exact rfl; exact rfl) | apply AWp.seq | apply AWp.region | apply AWp.block)
  refine AWp.loop (ι := Nat) (fun i => ⟨68, [(0, .intss xss), (3, .i i)]⟩) (fun _ => []) (fun i => i ≤ xss.length ∧ ∀ j, j < i → ZR xss j) (fun i => xss.length - i) 0 ⟨by omega, fun j hj => by omega⟩ ⟨lee rfl (by (repeat (first | exact le_nil | refine le_eq rfl rfl ?_))), by (repeat (exact lo_nil)), rfl, rfl⟩ ?_
  rintro i ⟨h0, h1⟩
  have hprev : 0 < i → (gets xss ((i : Int) - 1)).length = 2 := by
    intro h
    have := (h1 (i - 1) (by omega)).1
    rwa [show ((i : Int) - 1) = ((i - 1 : Nat) : Int) by omega]
  have hz : (i : Int) = 0 ∨ 0 < i := by omega
  by_cases hi0 : 0 < i
  · have hprev' := hprev hi0
    repeat' (first | (apply AOps.nil; try simp only [List.nil_append, List.cons_append, List.set_cons_zero, List.set_cons_succ, List.length_cons, List.length_nil, Nat.reduceAdd, AV.sh, AV.sh1, AV.sh0, AO.sh, List.map_cons, List.map_nil, Nat.zero_add, Nat.add_zero, setAll]) | ((apply AOps.splitP; exact rfl; exact rfl) <;> intro h) | ((apply AOps.splitN; exact rfl; exact rfl) <;> intro h) | (apply w_move; exact rfl; exact rfl) | (apply w_assign; exact rfl; exact rfl) | apply AWp.seq | apply AWp.region | ((apply AWp.condP; exact rfl) <;> intro h) | (apply AWp.condT; exact rfl) | (apply AWp.condF; exact rfl) | apply AWp.block | apply AWp.ret | apply AWp.exit | apply AWp.skip | (apply AWp.regionQ; kernel_rfl; kernel_rfl) | (apply w_skip; exact rfl) | (apply w_pickT; exact rfl; exact rfl; exact rfl) | (apply w_pickF; exact rfl; exact rfl; exact rfl) | (apply w_len; exact rfl; exact rfl; first | exact .ints _ | exact .intss _ | exact .sli rfl | exact .sls rfl | exact .slr rfl | exact .orow rfl | exact .nil) | (apply w_call (l01In_c _ _ _); exact rfl; exact rfl; focus ((repeat (first | exact im_nil | refine im_cons rfl (.val _) ?_)); done)) | ((first | apply w_lss | apply w_leq | apply w_gtr | apply w_eql | apply w_neq | apply w_add | apply w_sub | apply w_idx | apply w_ld); iterate 3 exact rfl) | ((first | apply w_idxs | apply w_lds); iterate 3 exact rfl) | ((apply w_not); iterate 2 exact rfl) | (apply inI_of <;> omega) | omega)
    all_goals first
      | exact .bool Try.results74 rfl (isZ_false (i := i) (by omega) (fun hz => by unfold ZR at hz; omega))
      | (refine ⟨i + 1, ⟨by omega, fun j hj => ?_⟩, by omega, ⟨lee rfl (by (repeat (first | exact le_nil | refine le_eq rfl rfl ?_))), by (repeat (exact lo_nil)), rfl, rfl⟩⟩
         by_cases e : j = i
         · subst e
           unfold ZR
           omega
         · exact h1 j (by omega))
      | (have e : i = xss.length := by omega
         subst e
         exact .bool Try.results74 rfl (by rw [isZ_all h1]; simp; try omega))
  · obtain rfl : i = 0 := by omega
    simp only [Int.natCast_zero] at *
    repeat' (first | (apply AOps.nil; try simp only [List.nil_append, List.cons_append, List.set_cons_zero, List.set_cons_succ, List.length_cons, List.length_nil, Nat.reduceAdd, AV.sh, AV.sh1, AV.sh0, AO.sh, List.map_cons, List.map_nil, Nat.zero_add, Nat.add_zero, setAll]) | ((apply AOps.splitP; exact rfl; exact rfl) <;> intro h) | ((apply AOps.splitN; exact rfl; exact rfl) <;> intro h) | (apply w_move; exact rfl; exact rfl) | (apply w_assign; exact rfl; exact rfl) | apply AWp.seq | apply AWp.region | ((apply AWp.condP; exact rfl) <;> intro h) | (apply AWp.condT; exact rfl) | (apply AWp.condF; exact rfl) | apply AWp.block | apply AWp.ret | apply AWp.exit | apply AWp.skip | (apply AWp.regionQ; kernel_rfl; kernel_rfl) | (apply w_skip; exact rfl) | (apply w_pickT; exact rfl; exact rfl; exact rfl) | (apply w_pickF; exact rfl; exact rfl; exact rfl) | (apply w_len; exact rfl; exact rfl; first | exact .ints _ | exact .intss _ | exact .sli rfl | exact .sls rfl | exact .slr rfl | exact .orow rfl | exact .nil) | (apply w_call (l01In_c _ _ _); exact rfl; exact rfl; focus ((repeat (first | exact im_nil | refine im_cons rfl (.val _) ?_)); done)) | ((first | apply w_lss | apply w_leq | apply w_gtr | apply w_eql | apply w_neq | apply w_add | apply w_sub | apply w_idx | apply w_ld); iterate 3 exact rfl) | ((first | apply w_idxs | apply w_lds); iterate 3 exact rfl) | ((apply w_not); iterate 2 exact rfl) | (apply inI_of <;> omega) | omega)
    all_goals first
      | exact .bool Try.results74 rfl (isZ_false (i := 0) (by omega) (fun hz => by unfold ZR at hz; simp only [Int.natCast_zero] at hz; omega))
      | (refine ⟨0 + 1, ⟨by omega, fun j hj => ?_⟩, by omega, ⟨lee rfl (by (repeat (first | exact le_nil | refine le_eq rfl rfl ?_))), by (repeat (exact lo_nil)), rfl, rfl⟩⟩
         obtain rfl : j = 0 := by omega
         unfold ZR
         simp only [Int.natCast_zero]
         omega)
      | (exact .bool Try.results74 rfl (by rw [isZ_all fun j hj => by omega]; simp; try omega))

theorem implIsZetaList_c (xss : List (List Int)) : AFnV Try.prog 58 [.intss xss] (.bool (isZ xss)) := by
  (refine AFnV.start Try.func58 Try.ntmps58 rfl (by kernel_rfl) fun hk0 => ?_; simp only [Env.start, enumF, List.length_cons, List.length_nil, Nat.reduceAdd, Nat.reduceSub, List.cons_append, List.nil_append])
  obtain ⟨hk, hl⟩ : ArgOk (.intss xss) := hk0 _ (by simp)
  repeat' (first | (apply AOps.nil; try simp only [List.nil_append, List.cons_append, List.set_cons_zero, List.set_cons_succ, List.length_cons, List.length_nil, Nat.reduceAdd, AV.sh, AV.sh1, AV.sh0, AO.sh, List.map_cons, List.map_nil, Nat.zero_add, Nat.add_zero, setAll]) | (apply w_move; exact rfl; exact rfl) | (apply w_assign; exact rfl; exact rfl) | apply AWp.seq | apply AWp.region | ((apply AWp.condP; exact rfl) <;> intro h) | apply AWp.block | apply AWp.ret | apply AWp.skip | (apply w_len; exact rfl; exact rfl; first | exact .ints _ | exact .intss _ | exact .sli rfl | exact .sls rfl | exact .slr rfl | exact .orow rfl | exact .nil) | ((apply w_gtr); iterate 3 exact rfl))
  · exact .bool Try.results58 rfl (isZ_long (by omega))
  refine AWp.loop (ι := Nat) (fun i => ⟨54, [(0, .intss xss), (8, .intss xss), (9, .i xss.length), (10, .i i)]⟩) (fun _ => []) (fun i => i ≤ xss.length ∧ ∀ j, j < i → ZR xss j) (fun i => xss.length - i) 0 ⟨by omega, fun j hj => by omega⟩ ⟨lee rfl (by (repeat (first | exact le_nil | refine le_eq rfl rfl ?_))), by (repeat (exact lo_nil)), rfl, rfl⟩ ?_
  rintro i ⟨h0, h1⟩
  have hprev : 0 < i → (gets xss ((i : Int) - 1)).length = 2 := by
    intro h
    have := (h1 (i - 1) (by omega)).1
    rwa [show ((i : Int) - 1) = ((i - 1 : Nat) : Int) by omega]
  by_cases hi0 : 0 < i
  · have hprev' := hprev hi0
    repeat' (first | (apply AOps.nil; try simp only [List.nil_append, List.cons_append, List.set_cons_zero, List.set_cons_succ, List.length_cons, List.length_nil, Nat.reduceAdd, AV.sh, AV.sh1, AV.sh0, AO.sh, List.map_cons, List.map_nil, Nat.zero_add, Nat.add_zero, setAll]) | ((apply AOps.splitP; exact rfl; exact rfl) <;> intro h) | ((apply AOps.splitN; exact rfl; exact rfl) <;> intro h) | (apply w_move; exact rfl; exact rfl) | (apply w_assign; exact rfl; exact rfl) | apply AWp.seq | apply AWp.region | ((apply AWp.condP; exact rfl) <;> intro h) | ((apply AWp.condN; exact rfl) <;> intro h) | (apply AWp.condT; exact rfl) | (apply AWp.condF; exact rfl) | apply AWp.block | apply AWp.ret | apply AWp.exit | apply AWp.skip | (apply AWp.regionQ; kernel_rfl; kernel_rfl) | (apply w_skip; exact rfl) | (apply w_pickT; exact rfl; exact rfl; exact rfl) | (apply w_pickF; exact rfl; exact rfl; exact rfl) | (apply w_len; exact rfl; exact rfl; first | exact .ints _ | exact .intss _ | exact .sli rfl | exact .sls rfl | exact .slr rfl | exact .orow rfl | exact .nil) | (apply w_call (inRange_c _ _ _); exact rfl; exact rfl; focus ((repeat (first | exact im_nil | refine im_cons rfl (.val _) ?_)); done)) | ((first | apply w_lss | apply w_gtr | apply w_geq | apply w_eql | apply w_neq | apply w_add | apply w_sub | apply w_idx | apply w_ld); iterate 3 exact rfl) | ((first | apply w_idxs | apply w_lds); iterate 3 exact rfl) | ((apply w_not); iterate 2 exact rfl) | (apply inI_of <;> omega) | omega)
    all_goals first
      | exact .bool Try.results58 rfl (isZ_false (i := i) (by omega) (fun hz => by unfold ZR at hz; omega))
      | (refine ⟨i + 1, ⟨by omega, fun j hj => ?_⟩, by omega, ⟨lee rfl (by (repeat (first | exact le_nil | refine le_eq rfl rfl ?_))), by (repeat (exact lo_nil)), rfl, rfl⟩⟩
         by_cases e : j = i
         · subst e
           unfold ZR
           omega
         · exact h1 j (by omega))
      | (have e : i = xss.length := by omega
         subst e
         exact .bool Try.results58 rfl (by rw [isZ_all h1]; simp; try omega))
  · obtain rfl : i = 0 := by omega
    simp only [Int.natCast_zero] at *
    repeat' (first | (apply AOps.nil; try simp only [List.nil_append, List.cons_append, List.set_cons_zero, List.set_cons_succ, List.length_cons, List.length_nil, Nat.reduceAdd, AV.sh, AV.sh1, AV.sh0, AO.sh, List.map_cons, List.map_nil, Nat.zero_add, Nat.add_zero, setAll]) | ((apply AOps.splitP; exact rfl; exact rfl) <;> intro h) | ((apply AOps.splitN; exact rfl; exact rfl) <;> intro h) | (apply w_move; exact rfl; exact rfl) | (apply w_assign; exact rfl; exact rfl) | apply AWp.seq | apply AWp.region | ((apply AWp.condP; exact rfl) <;> intro h) | ((apply AWp.condN; exact rfl) <;> intro h) | (apply AWp.condT; exact rfl) | (apply AWp.condF; exact rfl) | apply AWp.block | apply AWp.ret | apply AWp.exit | apply AWp.skip | (apply AWp.regionQ; kernel_rfl; kernel_rfl) | (apply w_skip; exact rfl) | (apply w_pickT; exact rfl; exact rfl; exact rfl) | (apply w_pickF; exact rfl; exact rfl; exact rfl) | (apply w_len; exact rfl; exact rfl; first | exact .ints _ | exact .intss _ | exact .sli rfl | exact .sls rfl | exact .slr rfl | exact .orow rfl | exact .nil) | (apply w_call (inRange_c _ _ _); exact rfl; exact rfl; focus ((repeat (first | exact im_nil | refine im_cons rfl (.val _) ?_)); done)) | ((first | apply w_lss | apply w_gtr | apply w_geq | apply w_eql | apply w_neq | apply w_add | apply w_sub | apply w_idx | apply w_ld); iterate 3 exact rfl) | ((first | apply w_idxs | apply w_lds); iterate 3 exact rfl) | ((apply w_not); iterate 2 exact rfl) | (apply inI_of <;> omega) | omega)
    all_goals first
      | exact .bool Try.results58 rfl (isZ_false (i := 0) (by omega) (fun hz => by unfold ZR at hz; simp only [Int.natCast_zero] at hz; omega))
      | (refine ⟨0 + 1, ⟨by omega, fun j hj => ?_⟩, by omega, ⟨lee rfl (by (repeat (first | exact le_nil | refine le_eq rfl rfl ?_))), by (repeat (exact lo_nil)), rfl, rfl⟩⟩
         obtain rfl : j = 0 := by omega
         unfold ZR
         simp only [Int.natCast_zero]
         omega)
      | (exact .bool Try.results58 rfl (by rw [isZ_all fun j hj => by omega]; simp; try omega))

end Go.Proofs.Ytdkociacaagcoaa
/-
  The laws' helpers that write marks into a result and look for them. No condition but a bound on the sizes.
-/
namespace Go.Proofs.Ytdkociacaagcoaa
open Go Go.RowKit
attribute [local irreducible] AWp AOps ResIs Ret1 QOp LOp COp AFnV AFn Imms LeE LeO
set_option maxHeartbeats 1000000
set_option linter.unusedSimpArgs false
set_option linter.unusedVariables false

/-- k, k + 1, .. -/
def iota (k : Int) (n : Nat) : List Int := (List.range n).map fun i => k + (i : Nat)
theorem iota_len (k : Int) (n : Nat) : (iota k n).length = n := by simp [iota]
theorem iota_get (k : Int) (n i : Nat) (h : i < n) : geti (iota k n) i = k + i := by simp [geti, iota, h]

theorem mark_step (k : Int) (xs : List Int) (i : Nat) (h : i < xs.length) : (iota k i ++ xs.drop i).set i (k + i) = iota k (i + 1) ++ xs.drop (i + 1) := by
  rw [List.set_append_right _ _ (by rw [iota_len]; exact Nat.le_refl _), iota_len, Nat.sub_self, List.drop_eq_getElem_cons h, List.set_cons_zero]
  simp [iota, List.range_succ]

theorem markInt64S_c (T : TypeId) (xs : List Int) (k : Int) (hq : 0 ≤ k ∧ k ≤ 9007199254740992) (hl : xs.length ≤ 9007199254740992) : AFnU Try.prog 10 [.own 0, .i k] [.sli T xs] (fun v os => v = .int .i64 (k + xs.length) ∧ os = [.sli T (iota k xs.length)]) := by
  (refine AFnU.start Try.func10 Try.ntmps10 rfl (by kernel_rfl) fun K => ?_; simp only [Env.start, enumF, List.length_cons, List.length_nil, Nat.reduceAdd, Nat.reduceSub, List.cons_append, List.nil_append])
  repeat' (first | (apply AOps.nil; try simp only [List.nil_append, List.cons_append, List.set_cons_zero, List.set_cons_succ, List.length_cons, List.length_nil, Nat.reduceAdd, AV.sh, AV.sh1, AV.sh0, AO.sh, List.map_cons, List.map_nil, Nat.zero_add, Nat.add_zero, setAll]) | (apply w_assign; exact rfl; exact rfl) | apply AWp.seq | apply AWp.region | apply AWp.block)
  refine AWp.loop (ι := Nat) (fun i => ⟨19, [(0, .own 0), (1, .i (k + i)), (5, .i i)]⟩) (fun i => [.sli T (iota k i ++ xs.drop i), .keep 2 K]) (fun i => i ≤ xs.length) (fun i => xs.length - i) 0 (by omega) ⟨lee rfl (le_eq rfl rfl (le_eq rfl (congrArg AV.i (by omega)) (le_eq rfl rfl le_nil))), lo_eq (by simp [iota]) (lo_eq rfl lo_nil), rfl, rfl⟩ ?_
  rintro i h0
  have e1 : (iota k i ++ xs.drop i).length = xs.length := by simp [iota_len]; omega
  repeat' (first | (apply AOps.nil; try simp only [List.nil_append, List.cons_append, List.set_cons_zero, List.set_cons_succ, List.length_cons, List.length_nil, Nat.reduceAdd, AV.sh, AV.sh1, AV.sh0, AO.sh, List.map_cons, List.map_nil, Nat.zero_add, Nat.add_zero, setAll]) | (apply w_move; exact rfl; exact rfl) | (apply w_assign; exact rfl; exact rfl) | apply AWp.seq | apply AWp.region | ((apply AWp.condP; exact rfl) <;> intro h) | apply AWp.block | apply AWp.ret | apply AWp.exit | apply AWp.skip | (apply w_len; exact rfl; exact rfl; first | exact .ints _ | exact .intss _ | exact .sli rfl | exact .sls rfl | exact .slr rfl | exact .orow rfl | exact .nil) | ((first | apply w_lss | apply w_add | apply w_idx); iterate 3 exact rfl) | (apply w_idxo; exact rfl; exact rfl; (exact .sli rfl); exact rfl) | (apply w_sti; exact rfl; exact rfl; rotate_left 1; exact rfl; rotate_left 2) | (apply inI_of <;> omega) | omega)
  · have e2 : (iota k i ++ xs.drop i).set ((i : Int)).toNat (k + i) = iota k (i + 1) ++ xs.drop (i + 1) := mark_step k xs i (by omega)
    exact ⟨i + 1, by omega, by omega, ⟨lee rfl (by (repeat (first | exact le_nil | refine le_eq rfl rfl ?_ | refine le_eq rfl (congrArg AV.i (by omega)) ?_))), by (repeat (first | exact lo_nil | refine lo_eq rfl ?_ | refine lo_eq (congrArg (AO.sli _) (e2)) ?_)), rfl, rfl⟩⟩
  · have e : i = xs.length := by omega
    subst e
    exact ⟨_, _, .int Try.results10 rfl rfl, ⟨rfl, rfl⟩, by simp, rfl, by simp [AO.plain]⟩

theorem heldInt64S_c (n : Nat) (k : Int) (hq : 0 ≤ k ∧ k ≤ 9007199254740992) (hl : n ≤ 9007199254740992) : AFnV Try.prog 11 [.ints (iota k n), .i k] (.int .i64 (k + n)) := by
  (refine AFnV.start Try.func11 Try.ntmps11 rfl (by kernel_rfl) fun hk => ?_; simp only [Env.start, enumF, List.length_cons, List.length_nil, Nat.reduceAdd, Nat.reduceSub, List.cons_append, List.nil_append])
  repeat' (first | (apply AOps.nil; try simp only [List.nil_append, List.cons_append, List.set_cons_zero, List.set_cons_succ, List.length_cons, List.length_nil, Nat.reduceAdd, AV.sh, AV.sh1, AV.sh0, AO.sh, List.map_cons, List.map_nil, Nat.zero_add, Nat.add_zero, setAll]) | (apply w_assign; exact rfl; exact rfl) | apply AWp.seq | apply AWp.region | apply AWp.block)
  refine AWp.loop (ι := Nat) (fun i => ⟨21, [(0, .ints (iota k n)), (1, .i (k + i)), (5, .i i)]⟩) (fun i => []) (fun i => i ≤ n) (fun i => n - i) 0 (by omega) ⟨lee rfl (by (repeat (first | exact le_nil | refine le_eq rfl rfl ?_ | refine le_eq rfl (congrArg AV.i (by omega)) ?_))), by (repeat (exact lo_nil)), rfl, rfl⟩ ?_
  rintro i h0
  have e1 := iota_len k n
  repeat' (first | (apply AOps.nil; try simp only [List.nil_append, List.cons_append, List.set_cons_zero, List.set_cons_succ, List.length_cons, List.length_nil, Nat.reduceAdd, AV.sh, AV.sh1, AV.sh0, AO.sh, List.map_cons, List.map_nil, Nat.zero_add, Nat.add_zero, setAll]) | (apply w_move; exact rfl; exact rfl) | (apply w_assign; exact rfl; exact rfl) | apply AWp.seq | apply AWp.region | ((apply AWp.condP; exact rfl) <;> intro h) | apply AWp.block | apply AWp.ret | apply AWp.exit | apply AWp.skip | (apply w_len; exact rfl; exact rfl; first | exact .ints _ | exact .intss _ | exact .sli rfl | exact .sls rfl | exact .slr rfl | exact .orow rfl | exact .nil) | ((first | apply w_lss | apply w_neq | apply w_add | apply w_idx | apply w_ld); iterate 3 exact rfl) | (apply inI_of <;> omega) | omega)
  · exact absurd (iota_get k n i (by omega)) (by assumption)
  · exact ⟨i + 1, by omega, by omega, ⟨lee rfl (by (repeat (first | exact le_nil | refine le_eq rfl rfl ?_ | refine le_eq rfl (congrArg AV.i (by omega)) ?_))), by (repeat (exact lo_nil)), rfl, rfl⟩⟩
  · have e : i = n := by omega
    subst e
    exact .int Try.results11 rfl rfl

end Go.Proofs.Ytdkociacaagcoaa
/-
  Marks written into lists of lists. No condition but a bound on the sizes.
-/
namespace Go.Proofs.Ytdkociacaagcoaa
open Go Go.RowKit
attribute [local irreducible] AWp AOps ResIs Ret1 QOp LOp COp AFnV AFn Imms LeE LeO
set_option maxHeartbeats 1000000
set_option linter.unusedSimpArgs false
set_option linter.unusedVariables false

/-! ### Marks -/
/-- A new slice of rows, and a code. -/
def IsSSC (T T2 : TypeId) (xss : List (List Int)) (e : Int) (r : AV) (os : List AO) : Prop := r = .tup [.own 0, .i e] ∧ os = [.sls T T2 xss]
end Go.Proofs.Ytdkociacaagcoaa
/-
  Eigenvalue numbers: the law. No condition.
-/
namespace Go.Proofs.Ytdkociacaagcoaa
open Go Go.RowKit
attribute [local irreducible] AWp AOps ResIs Ret1 QOp LOp COp AFnV AFn Imms LeE LeO
set_option maxHeartbeats 1000000
set_option linter.unusedSimpArgs false
set_option linter.unusedVariables false

noncomputable def ezL (Z : List (List Int)) : List (List Int) := if isZ Z = true then nzL (numZ Z Z.length) (numZ Z Z.length).length else []
theorem z_ok {Z : List (List Int)} (h : isZ Z = true) : ZtOk Z := by
  have h := of_decide_eq_true h
  exact ⟨h.1, fun i hi => ⟨(h.2 i hi).1, (h.2 i hi).2.1, (h.2 i hi).2.2.1⟩⟩
theorem nz_ok {Z : List (List Int)} (h : ZtOk Z) : (nzL (numZ Z Z.length) (numZ Z Z.length).length).length ≤ 100000 ∧ ∀ r ∈ nzL (numZ Z Z.length) (numZ Z Z.length).length, ZOk 100000000 r := by
  have hz := zi_num h Z.length (Nat.le_refl _)
  have h40 := h.1
  have h1 := nzL_len (numZ Z Z.length) (numZ Z Z.length).length
  have h2 := hz.len
  refine ⟨by omega, fun r hr => ?_⟩
  unfold nzL at hr
  have := hz.row r (List.mem_of_mem_take ((List.mem_filter.1 hr).1))
  unfold ZOk at *
  omega
theorem ezL_ok (Z : List (List Int)) : (ezL Z).length ≤ 100000 ∧ ∀ r ∈ ezL Z, r.length = 2 := by
  unfold ezL
  split
  · rename_i h
    exact ⟨(nz_ok (z_ok h)).1, fun r hr => ((nz_ok (z_ok h)).2 r hr).1⟩
  · simp

end Go.Proofs.Ytdkociacaagcoaa
/-
  The greatest common divisor, in the program and in the model. No condition but that both numbers are no greater than 2^62.
-/
namespace Go.Proofs.Ytdkociacaagcoaa
open Go Go.RowKit
attribute [local irreducible] AWp AOps ResIs Ret1 QOp LOp COp AFnV AFn Imms LeE LeO
set_option maxHeartbeats 1000000
set_option linter.unusedSimpArgs false
set_option linter.unusedVariables false

theorem gcd_step (a b : Int) (h0 : 0 ≤ a) (h : 0 < b) : Int.gcd b (a % b) = Int.gcd a b := by
  obtain ⟨x, rfl⟩ := Int.eq_ofNat_of_zero_le h0
  obtain ⟨y, rfl⟩ := Int.eq_ofNat_of_zero_le (Int.le_of_lt h)
  rw [← Int.natCast_emod]
  simp only [Int.gcd_natCast_natCast]
  rw [Nat.gcd_comm x y, Nat.gcd_comm y]
  exact (Nat.gcd_rec y x).symm

def mid (a : Int) : Prop := -4611686018427387904 ≤ a ∧ a ≤ 4611686018427387904

theorem abs_c (a : Int) (ha : mid a) : AFnV Try.prog 51 [.i a] (.int .i64 a.natAbs) := by
  unfold mid at ha
  (refine AFnV.start Try.func51 Try.ntmps51 rfl (by kernel_rfl) fun hk => ?_; simp only [Env.start, enumF, List.length_cons, List.length_nil, Nat.reduceAdd, Nat.reduceSub, List.cons_append, List.nil_append])
  repeat' (first | (apply AOps.nil; try simp only [List.nil_append, List.cons_append, List.set_cons_zero, List.set_cons_succ, List.length_cons, List.length_nil, Nat.reduceAdd, AV.sh, AV.sh1, AV.sh0, AO.sh, List.map_cons, List.map_nil, Nat.zero_add, Nat.add_zero, setAll]) | (apply w_move; exact rfl; exact rfl) | (apply w_assign; exact rfl; exact rfl) | apply AWp.seq | apply AWp.region | ((apply AWp.condP; exact rfl) <;> intro h) | apply AWp.ret | apply AWp.skip | ((apply w_lss); iterate 3 exact rfl) | ((apply w_neg); iterate 2 exact rfl) | (apply inI_of <;> omega))
  all_goals exact .int Try.results51 rfl (by omega)

theorem divisor_c (a b : Int) (ha : mid a) (hb : mid b) : AFnV Try.prog 33 [.i a, .i b] (.int .i64 (Int.gcd a b)) := by
  (refine AFnV.start Try.func33 Try.ntmps33 rfl (by kernel_rfl) fun hk => ?_; simp only [Env.start, enumF, List.length_cons, List.length_nil, Nat.reduceAdd, Nat.reduceSub, List.cons_append, List.nil_append])
  repeat' (first | (apply AOps.nil; try simp only [List.nil_append, List.cons_append, List.set_cons_zero, List.set_cons_succ, List.length_cons, List.length_nil, Nat.reduceAdd, AV.sh, AV.sh1, AV.sh0, AO.sh, List.map_cons, List.map_nil, Nat.zero_add, Nat.add_zero, setAll]) | (apply w_move; exact rfl; exact rfl) | (apply w_assign; exact rfl; exact rfl) | apply AWp.seq | apply AWp.region | apply AWp.block | (apply w_call (abs_c _ ha); exact rfl; exact rfl; focus ((repeat (first | exact im_nil | refine im_cons rfl (.val _) ?_)); done)) | (apply w_call (abs_c _ hb); exact rfl; exact rfl; focus ((repeat (first | exact im_nil | refine im_cons rfl (.val _) ?_)); done)))
  unfold mid at ha hb
  refine AWp.loop (ι := Int × Int) (fun s => ⟨16, [(0, .i s.1), (1, .i s.2)]⟩) (fun _ => []) (fun s => 0 ≤ s.1 ∧ 0 ≤ s.2 ∧ s.1 ≤ 4611686018427387904 ∧ s.2 ≤ 4611686018427387904 ∧ Int.gcd s.1 s.2 = Int.gcd a b) (fun s => s.2.toNat) (a.natAbs, b.natAbs) ⟨by simp, by simp, by simp; omega, by simp; omega, by simp [Int.gcd]⟩ ⟨lee rfl (by (repeat (first | exact le_nil | refine le_eq rfl rfl ?_))), by (repeat (exact lo_nil)), rfl, rfl⟩ ?_
  rintro ⟨x, y⟩ ⟨h0, h1, h2, h3, h4⟩
  simp only at h0 h1 h2 h3 h4
  repeat' (first | (apply AOps.nil; try simp only [List.nil_append, List.cons_append, List.set_cons_zero, List.set_cons_succ, List.length_cons, List.length_nil, Nat.reduceAdd, AV.sh, AV.sh1, AV.sh0, AO.sh, List.map_cons, List.map_nil, Nat.zero_add, Nat.add_zero, setAll]) | (apply w_move; exact rfl; exact rfl) | (apply w_assign; exact rfl; exact rfl) | apply AWp.seq | apply AWp.region | ((apply AWp.condP; exact rfl) <;> intro h) | apply AWp.block | apply AWp.ret | apply AWp.exit | apply AWp.skip | (apply AWp.regionQ; kernel_rfl; kernel_rfl) | ((apply w_gtr); iterate 3 exact rfl) | (apply w_rem; exact rfl; exact rfl; exact rfl; (focus (omega; done)); (focus (omega; done))))
  · have hlt := Int.emod_lt_of_pos x h
    have hge := Int.emod_nonneg x (show y ≠ 0 by omega)
    exact ⟨(y, x % y), ⟨h1, hge, h3, by simp only; omega, by simp only; rw [gcd_step x y h0 h, h4]⟩, by simp only; omega, ⟨lee rfl (by (repeat (first | exact le_nil | refine le_eq rfl rfl ?_))), by (repeat (exact lo_nil)), rfl, rfl⟩⟩
  · have e : y = 0 := by omega
    subst e
    exact .int Try.results33 rfl (by rw [← h4]; simp; omega)

theorem l01Gcd_c (a b : Int) (ha : mid a) (hb : mid b) : AFnV Try.prog 29 [.i a, .i b] (.int .i64 (Int.gcd a b)) := by
  unfold mid at ha hb
  (refine AFnV.start Try.func29 Try.ntmps29 rfl (by kernel_rfl) fun hk => ?_; simp only [Env.start, enumF, List.length_cons, List.length_nil, Nat.reduceAdd, Nat.reduceSub, List.cons_append, List.nil_append])
  repeat' (first | (apply AOps.nil; try simp only [List.nil_append, List.cons_append, List.set_cons_zero, List.set_cons_succ, List.length_cons, List.length_nil, Nat.reduceAdd, AV.sh, AV.sh1, AV.sh0, AO.sh, List.map_cons, List.map_nil, Nat.zero_add, Nat.add_zero, setAll]) | (apply w_move; exact rfl; exact rfl) | (apply w_assign; exact rfl; exact rfl) | apply AWp.seq | apply AWp.region | ((apply AWp.condP; exact rfl) <;> intro h) | apply AWp.block | apply AWp.skip | ((apply w_lss); iterate 3 exact rfl) | ((apply w_neg); iterate 2 exact rfl) | (apply inI_of <;> omega))
  all_goals refine AWp.loop (ι := Int × Int) (fun s => ⟨22, [(0, .i s.1), (1, .i s.2)]⟩) (fun _ => []) (fun s => 0 ≤ s.1 ∧ 0 ≤ s.2 ∧ s.1 ≤ 4611686018427387904 ∧ s.2 ≤ 4611686018427387904 ∧ Int.gcd s.1 s.2 = Int.gcd a b) (fun s => s.2.toNat) (a.natAbs, b.natAbs) ⟨by simp, by simp, by simp; omega, by simp; omega, by simp [Int.gcd]⟩ ⟨lee rfl (by (repeat (first | exact le_nil | refine le_eq rfl (congrArg AV.i (by omega)) ?_))), by (repeat (exact lo_nil)), rfl, rfl⟩ ?_
  all_goals rintro ⟨x, y⟩ ⟨h0, h1, h2, h3, h4⟩
  all_goals simp only at h0 h1 h2 h3 h4
  all_goals repeat' (first | (apply AOps.nil; try simp only [List.nil_append, List.cons_append, List.set_cons_zero, List.set_cons_succ, List.length_cons, List.length_nil, Nat.reduceAdd, AV.sh, AV.sh1, AV.sh0, AO.sh, List.map_cons, List.map_nil, Nat.zero_add, Nat.add_zero, setAll]) | (apply w_move; exact rfl; exact rfl) | (apply w_assign; exact rfl; exact rfl) | apply AWp.seq | apply AWp.region | ((apply AWp.condP; exact rfl) <;> intro h) | apply AWp.block | apply AWp.ret | apply AWp.exit | apply AWp.skip | ((apply w_gtr); iterate 3 exact rfl) | (apply w_rem; exact rfl; exact rfl; exact rfl; (focus (omega; done)); (focus (omega; done))))
  all_goals first
    | (have hlt := Int.emod_lt_of_pos x h
       have hge := Int.emod_nonneg x (show y ≠ 0 by omega)
       exact ⟨(y, x % y), ⟨h1, hge, h3, by simp only; omega, by simp only; rw [gcd_step x y h0 h, h4]⟩, by simp only; omega, ⟨lee rfl (by (repeat (first | exact le_nil | refine le_eq rfl rfl ?_))), by (repeat (exact lo_nil)), rfl, rfl⟩⟩)
    | (have e : y = 0 := by omega
       subst e
       exact .int Try.results29 rfl (by rw [← h4]; simp; omega))
end Go.Proofs.Ytdkociacaagcoaa
/-
  Complete zeta lists, and their periods: the law. No condition.
-/
namespace Go.Proofs.Ytdkociacaagcoaa
open Go Go.RowKit
attribute [local irreducible] AWp AOps ResIs Ret1 QOp LOp COp AFnV AFn Imms LeE LeO
set_option maxHeartbeats 1000000
set_option linter.unusedSimpArgs false
set_option linter.unusedVariables false

def NonNeg (L : List (List Int)) : Prop := ∀ k : Nat, k < L.length → 0 ≤ geti (L.getD k []) 1
noncomputable instance (L : List (List Int)) : Decidable (NonNeg L) := Classical.propDecidable _
noncomputable def cpE (Z : List (List Int)) : Int := if isZ Z = true then (if NonNeg (ezL Z) then 0 else 5) else 1
noncomputable def cpL (Z : List (List Int)) : List (List Int) := if cpE Z = 0 then ezL Z else []
theorem ezL_eq {Z : List (List Int)} (h : isZ Z = true) : ezL Z = nzL (numZ Z Z.length) (numZ Z Z.length).length := by unfold ezL; rw [if_pos h]
theorem ezL_zok (Z : List (List Int)) : ∀ r ∈ ezL Z, ZOk 100000000 r := by
  unfold ezL
  split
  · rename_i h; exact (nz_ok (z_ok h)).2
  · simp
theorem cpL_of {Z : List (List Int)} (h : cpE Z = 0) : cpL Z = ezL Z := by unfold cpL; rw [if_pos h]
theorem cpL_zok (Z : List (List Int)) : (cpL Z).length ≤ 100000 ∧ ∀ r ∈ cpL Z, ZOk 100000000 r := by
  unfold cpL
  split
  · exact ⟨(ezL_ok Z).1, ezL_zok Z⟩
  · simp
set_option maxHeartbeats 4000000 in
theorem l14Complete_c (Z : List (List Int)) : AFn Try.prog 55 [.intss Z] (IsSSC 22 2 (cpL Z) (cpE Z)) := by
  (refine AFn.start Try.func55 Try.ntmps55 rfl (by kernel_rfl) fun hk => ?_; simp only [Env.start, enumF, List.length_cons, List.length_nil, Nat.reduceAdd, Nat.reduceSub, List.cons_append, List.nil_append])
  have c1 := l14Is_c Z
  cases h1 : isZ Z with
  | false =>
    rw [h1] at c1
    have hE : cpE Z = 1 := by simp [cpE, h1]
    repeat' (first | (apply AOps.nil; try simp only [List.nil_append, List.cons_append, List.set_cons_zero, List.set_cons_succ, List.length_cons, List.length_nil, Nat.reduceAdd, AV.sh, AV.sh1, AV.sh0, AO.sh, List.map_cons, List.map_nil, Nat.zero_add, Nat.add_zero, setAll]) | (apply w_move; exact rfl; exact rfl) | (apply w_assign; exact rfl; exact rfl) | apply AWp.seq | apply AWp.region | (apply AWp.condT; exact rfl) | apply AWp.ret | (apply w_call (c1); exact rfl; exact rfl; focus ((repeat (first | exact im_nil | refine im_cons rfl (.intss _) ?_)); done)) | ((apply w_not); iterate 2 exact rfl))
    all_goals exact ⟨_, _, _, .a2 Try.results55 rfl rfl, .tup2 (.nils 22 2), by rw [hE], by rw [cpL, hE]; rfl⟩
  | true =>
    rw [h1] at c1
    have c2 := l14Numbers_c Z (z_ok h1)
    rw [← ezL_eq h1] at c2
    have hlen := (ezL_ok Z).1
    have hrow : ∀ n : Nat, n < (ezL Z).length → ((ezL Z).getD (n : Int).toNat []).length = 2 := fun n hn => by
      rw [Int.toNat_natCast]; exact (ezL_ok Z).2 _ (at_mem hn)
    have hE : cpE Z = if NonNeg (ezL Z) then 0 else 5 := by unfold cpE; rw [if_pos h1]
    have hL : cpE Z = 0 → cpL Z = ezL Z := cpL_of
    repeat' (first | (apply AOps.nil; try simp only [List.nil_append, List.cons_append, List.set_cons_zero, List.set_cons_succ, List.length_cons, List.length_nil, Nat.reduceAdd, AV.sh, AV.sh1, AV.sh0, AO.sh, List.map_cons, List.map_nil, Nat.zero_add, Nat.add_zero, setAll]) | (apply w_move; exact rfl; exact rfl) | (apply w_assign; exact rfl; exact rfl) | apply AWp.seq | apply AWp.region | (apply AWp.condF; exact rfl) | apply AWp.block | apply AWp.skip | (apply w_call (c1); exact rfl; exact rfl; focus ((repeat (first | exact im_nil | refine im_cons rfl (.intss _) ?_)); done)) | (apply w_callm (c2); (focus ((repeat (first | exact im_nil | refine im_cons rfl (.intss _) ?_)); done)); rintro r os0 ⟨rfl, rfl⟩; try simp only [List.nil_append, List.cons_append, List.set_cons_zero, List.set_cons_succ, List.length_cons, List.length_nil, Nat.reduceAdd, AV.sh, AV.sh1, AV.sh0, AO.sh, List.map_cons, List.map_nil, Nat.zero_add, Nat.add_zero, setAll]) | ((apply w_not); iterate 2 exact rfl))
    generalize ezL Z = L at *
    refine AWp.loop (ι := Nat) (fun n => ⟨25, [(0, .intss Z), (4, .own 0), (5, .i n)]⟩) (fun n => [.sls 22 2 L]) (fun n => n ≤ L.length ∧ ∀ k : Nat, k < n → 0 ≤ geti (L.getD k []) 1) (fun n => L.length - n) 0 ⟨by omega, fun k hk => by omega⟩ ⟨lee rfl (by (repeat (first | exact le_nil | refine le_eq rfl rfl ?_))), by (repeat (first | exact lo_nil | refine lo_eq rfl ?_)), rfl, rfl⟩ ?_
    rintro n ⟨n0, n1⟩
    by_cases hn : n < L.length
    · have hr := hrow n hn
      by_cases hneg : geti (L.getD (n : Int).toNat []) ((Int.toNat 1 : Nat) : Int) < 0
      · have hno : ¬ NonNeg L := fun h => by have : 0 ≤ geti (L.getD (n : Int).toNat []) ((Int.toNat 1 : Nat) : Int) := h n hn; omega
        rw [if_neg hno] at hE
        repeat' (first | (apply AOps.nil; try simp only [List.nil_append, List.cons_append, List.set_cons_zero, List.set_cons_succ, List.length_cons, List.length_nil, Nat.reduceAdd, AV.sh, AV.sh1, AV.sh0, AO.sh, List.map_cons, List.map_nil, Nat.zero_add, Nat.add_zero, setAll]) | (apply w_move; exact rfl; exact rfl) | (apply w_assign; exact rfl; exact rfl) | apply AWp.seq | apply AWp.region | ((apply AWp.condP; exact rfl) <;> intro h) | apply AWp.block | apply AWp.ret | apply AWp.exit | apply AWp.skip | (apply w_len; exact rfl; exact rfl; first | exact .ints _ | exact .intss _ | exact .sli rfl | exact .sls rfl | exact .slr rfl | exact .orow rfl | exact .nil) | omega | ((first | apply w_lss | apply w_idx | apply w_ld); iterate 3 exact rfl) | (apply w_idxo; exact rfl; exact rfl; (exact .sls rfl); exact rfl) | ((first | apply w_idxr | apply w_ldr); iterate 4 exact rfl) | (apply w_ldls; iterate 4 exact rfl) | (apply w_ldrp; iterate 4 exact rfl))
        exact ⟨_, _, _, .a2 Try.results55 rfl rfl, .tup2 (.nils 22 2), by rw [hE], by rw [cpL, hE]; rfl⟩
      · repeat' (first | (apply AOps.nil; try simp only [List.nil_append, List.cons_append, List.set_cons_zero, List.set_cons_succ, List.length_cons, List.length_nil, Nat.reduceAdd, AV.sh, AV.sh1, AV.sh0, AO.sh, List.map_cons, List.map_nil, Nat.zero_add, Nat.add_zero, setAll]) | (apply w_move; exact rfl; exact rfl) | (apply w_assign; exact rfl; exact rfl) | apply AWp.seq | apply AWp.region | ((apply AWp.condP; exact rfl) <;> intro h) | apply AWp.block | apply AWp.ret | apply AWp.exit | apply AWp.skip | (apply w_len; exact rfl; exact rfl; first | exact .ints _ | exact .intss _ | exact .sli rfl | exact .sls rfl | exact .slr rfl | exact .orow rfl | exact .nil) | omega | ((first | apply w_lss | apply w_add | apply w_idx | apply w_ld); iterate 3 exact rfl) | (apply w_idxo; exact rfl; exact rfl; (exact .sls rfl); exact rfl) | ((first | apply w_idxr | apply w_ldr); iterate 4 exact rfl) | (apply w_ldls; iterate 4 exact rfl) | (apply w_ldrp; iterate 4 exact rfl) | (apply inI_of <;> omega))
        refine ⟨n + 1, ⟨hn, fun k hk => ?_⟩, by omega, ⟨lee rfl (by (repeat (first | exact le_nil | refine le_eq rfl rfl ?_))), by (repeat (first | exact lo_nil | refine lo_eq rfl ?_)), rfl, rfl⟩⟩
        by_cases ek : k = n
        · subst ek
          have : 0 ≤ geti (L.getD (k : Int).toNat []) ((Int.toNat 1 : Nat) : Int) := by omega
          exact this
        · exact n1 k (by omega)
    · have e : n = L.length := by omega
      subst e
      rw [if_pos (show NonNeg L from n1)] at hE
      repeat' (first | (apply AOps.nil; try simp only [List.nil_append, List.cons_append, List.set_cons_zero, List.set_cons_succ, List.length_cons, List.length_nil, Nat.reduceAdd, AV.sh, AV.sh1, AV.sh0, AO.sh, List.map_cons, List.map_nil, Nat.zero_add, Nat.add_zero, setAll]) | (apply w_move; exact rfl; exact rfl) | (apply w_assign; exact rfl; exact rfl) | apply AWp.seq | apply AWp.region | ((apply AWp.condP; exact rfl) <;> intro h) | apply AWp.block | apply AWp.ret | apply AWp.exit | apply AWp.skip | (apply w_len; exact rfl; exact rfl; first | exact .ints _ | exact .intss _ | exact .sli rfl | exact .sls rfl | exact .slr rfl | exact .orow rfl | exact .nil) | omega | ((apply w_lss); iterate 3 exact rfl))
      exact ⟨_, _, _, .a2 Try.results55 rfl rfl, .tup2 (.sls rfl), by rw [hE], by rw [hL hE]⟩
set_option maxHeartbeats 4000000 in
theorem completeNumbers_c (Z : List (List Int)) : AFn Try.prog 40 [.intss Z] (IsSSC 22 2 (cpL Z) (cpE Z)) := by
  (refine AFn.start Try.func40 Try.ntmps40 rfl (by kernel_rfl) fun hk => ?_; simp only [Env.start, enumF, List.length_cons, List.length_nil, Nat.reduceAdd, Nat.reduceSub, List.cons_append, List.nil_append])
  have c1 := implIsZetaList_c Z
  cases h1 : isZ Z with
  | false =>
    rw [h1] at c1
    have hE : cpE Z = 1 := by simp [cpE, h1]
    repeat' (first | (apply AOps.nil; try simp only [List.nil_append, List.cons_append, List.set_cons_zero, List.set_cons_succ, List.length_cons, List.length_nil, Nat.reduceAdd, AV.sh, AV.sh1, AV.sh0, AO.sh, List.map_cons, List.map_nil, Nat.zero_add, Nat.add_zero, setAll]) | (apply w_move; exact rfl; exact rfl) | (apply w_assign; exact rfl; exact rfl) | apply AWp.seq | apply AWp.region | (apply AWp.condT; exact rfl) | apply AWp.ret | (apply w_call (c1); exact rfl; exact rfl; focus ((repeat (first | exact im_nil | refine im_cons rfl (.intss _) ?_)); done)) | ((apply w_not); iterate 2 exact rfl))
    all_goals exact ⟨_, _, _, .a2 Try.results40 rfl rfl, .tup2 (.nils 22 2), by rw [hE], by rw [cpL, hE]; rfl⟩
  | true =>
    rw [h1] at c1
    have c2 := eigen_c Z (z_ok h1)
    rw [← ezL_eq h1] at c2
    have hlen := (ezL_ok Z).1
    have hrow : ∀ n : Nat, n < (ezL Z).length → ((ezL Z).getD (n : Int).toNat []).length = 2 := fun n hn => by
      rw [Int.toNat_natCast]; exact (ezL_ok Z).2 _ (at_mem hn)
    have hE : cpE Z = if NonNeg (ezL Z) then 0 else 5 := by unfold cpE; rw [if_pos h1]
    have hL : cpE Z = 0 → cpL Z = ezL Z := cpL_of
    repeat' (first | (apply AOps.nil; try simp only [List.nil_append, List.cons_append, List.set_cons_zero, List.set_cons_succ, List.length_cons, List.length_nil, Nat.reduceAdd, AV.sh, AV.sh1, AV.sh0, AO.sh, List.map_cons, List.map_nil, Nat.zero_add, Nat.add_zero, setAll]) | (apply w_move; exact rfl; exact rfl) | (apply w_assign; exact rfl; exact rfl) | apply AWp.seq | apply AWp.region | (apply AWp.condF; exact rfl) | apply AWp.block | apply AWp.skip | (apply w_len; exact rfl; exact rfl; first | exact .ints _ | exact .intss _ | exact .sli rfl | exact .sls rfl | exact .slr rfl | exact .orow rfl | exact .nil) | (apply w_call (c1); exact rfl; exact rfl; focus ((repeat (first | exact im_nil | refine im_cons rfl (.intss _) ?_)); done)) | (apply w_callm (c2); (focus ((repeat (first | exact im_nil | refine im_cons rfl (.intss _) ?_)); done)); rintro r os0 ⟨rfl, rfl⟩; try simp only [List.nil_append, List.cons_append, List.set_cons_zero, List.set_cons_succ, List.length_cons, List.length_nil, Nat.reduceAdd, AV.sh, AV.sh1, AV.sh0, AO.sh, List.map_cons, List.map_nil, Nat.zero_add, Nat.add_zero, setAll]) | ((apply w_not); iterate 2 exact rfl))
    generalize ezL Z = L at *
    refine AWp.loop (ι := Nat) (fun n => ⟨24, [(0, .intss Z), (4, .own 0), (12, .own 0), (13, .i L.length), (14, .i n)]⟩) (fun n => [.sls 22 2 L]) (fun n => n ≤ L.length ∧ ∀ k : Nat, k < n → 0 ≤ geti (L.getD k []) 1) (fun n => L.length - n) 0 ⟨by omega, fun k hk => by omega⟩ ⟨lee rfl (by (repeat (first | exact le_nil | refine le_eq rfl rfl ?_))), by (repeat (first | exact lo_nil | refine lo_eq rfl ?_)), rfl, rfl⟩ ?_
    rintro n ⟨n0, n1⟩
    by_cases hn : n < L.length
    · have hr := hrow n hn
      by_cases hneg : geti (L.getD (n : Int).toNat []) ((Int.toNat 1 : Nat) : Int) < 0
      · have hno : ¬ NonNeg L := fun h => by have : 0 ≤ geti (L.getD (n : Int).toNat []) ((Int.toNat 1 : Nat) : Int) := h n hn; omega
        rw [if_neg hno] at hE
        repeat' (first | (apply AOps.nil; try simp only [List.nil_append, List.cons_append, List.set_cons_zero, List.set_cons_succ, List.length_cons, List.length_nil, Nat.reduceAdd, AV.sh, AV.sh1, AV.sh0, AO.sh, List.map_cons, List.map_nil, Nat.zero_add, Nat.add_zero, setAll]) | (apply w_move; exact rfl; exact rfl) | (apply w_assign; exact rfl; exact rfl) | apply AWp.seq | apply AWp.region | ((apply AWp.condP; exact rfl) <;> intro h) | apply AWp.block | apply AWp.ret | apply AWp.exit | apply AWp.skip | omega | ((first | apply w_lss | apply w_idx | apply w_ld); iterate 3 exact rfl) | (apply w_idxo; exact rfl; exact rfl; (exact .sls rfl); exact rfl) | ((first | apply w_idxr | apply w_ldr); iterate 4 exact rfl) | (apply w_ldls; iterate 4 exact rfl) | (apply w_ldrp; iterate 4 exact rfl))
        exact ⟨_, _, _, .a2 Try.results40 rfl rfl, .tup2 (.nils 22 2), by rw [hE], by rw [cpL, hE]; rfl⟩
      · repeat' (first | (apply AOps.nil; try simp only [List.nil_append, List.cons_append, List.set_cons_zero, List.set_cons_succ, List.length_cons, List.length_nil, Nat.reduceAdd, AV.sh, AV.sh1, AV.sh0, AO.sh, List.map_cons, List.map_nil, Nat.zero_add, Nat.add_zero, setAll]) | (apply w_move; exact rfl; exact rfl) | (apply w_assign; exact rfl; exact rfl) | apply AWp.seq | apply AWp.region | ((apply AWp.condP; exact rfl) <;> intro h) | apply AWp.block | apply AWp.ret | apply AWp.exit | apply AWp.skip | omega | ((first | apply w_lss | apply w_add | apply w_idx | apply w_ld); iterate 3 exact rfl) | (apply w_idxo; exact rfl; exact rfl; (exact .sls rfl); exact rfl) | ((first | apply w_idxr | apply w_ldr); iterate 4 exact rfl) | (apply w_ldls; iterate 4 exact rfl) | (apply w_ldrp; iterate 4 exact rfl) | (apply inI_of <;> omega))
        refine ⟨n + 1, ⟨hn, fun k hk => ?_⟩, by omega, ⟨lee rfl (by (repeat (first | exact le_nil | refine le_eq rfl rfl ?_))), by (repeat (first | exact lo_nil | refine lo_eq rfl ?_)), rfl, rfl⟩⟩
        by_cases ek : k = n
        · subst ek
          have : 0 ≤ geti (L.getD (k : Int).toNat []) ((Int.toNat 1 : Nat) : Int) := by omega
          exact this
        · exact n1 k (by omega)
    · have e : n = L.length := by omega
      subst e
      rw [if_pos (show NonNeg L from n1)] at hE
      repeat' (first | (apply AOps.nil; try simp only [List.nil_append, List.cons_append, List.set_cons_zero, List.set_cons_succ, List.length_cons, List.length_nil, Nat.reduceAdd, AV.sh, AV.sh1, AV.sh0, AO.sh, List.map_cons, List.map_nil, Nat.zero_add, Nat.add_zero, setAll]) | (apply w_move; exact rfl; exact rfl) | (apply w_assign; exact rfl; exact rfl) | apply AWp.seq | apply AWp.region | ((apply AWp.condP; exact rfl) <;> intro h) | apply AWp.block | apply AWp.ret | apply AWp.exit | apply AWp.skip | omega | ((apply w_lss); iterate 3 exact rfl))
      exact ⟨_, _, _, .a2 Try.results40 rfl rfl, .tup2 (.sls rfl), by rw [hE], by rw [hL hE]⟩

/-! ### The period -/
def perF (L : List (List Int)) : Nat → Int
  | 0 => 1
  | k + 1 => perF L k / (Int.gcd (perF L k) (geti (L.getD k []) 0) : Int) * geti (L.getD k []) 0
def PerOk (L : List (List Int)) (n : Nat) : Prop := ∀ k : Nat, k ≤ n → perF L k ≤ 1000000000000
noncomputable instance (L : List (List Int)) (n : Nat) : Decidable (PerOk L n) := Classical.propDecidable _
end Go.Proofs.Ytdkociacaagcoaa
