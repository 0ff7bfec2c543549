/-
  Parts of the proof, one behind the other: contracts of functions and plain laws. No condition.
-/
import Derived.Test.YthlfdhooiekgjaaPt5FnPolygons
/-
  The program puts edges together. Condition: few edges with small numbers.
-/
namespace Go.Proofs.Ythlfdhooiekgjaa
open Go Go.RowKit
attribute [local irreducible] AWp AOps ResIs Ret1 QOp LOp COp AFnV AFn Imms LeE LeO
set_option maxHeartbeats 1000000
set_option linter.unusedSimpArgs false
set_option linter.unusedVariables false

def cmpJ (x y : List Int) : Int := cmp3 (geti y 1 * geti x 0) (geti x 1 * geti y 0)
theorem cmpJ_lt {x y : List Int} : cmpJ x y < 0 ↔ wS x y > 0 := by
  unfold cmpJ
  rw [cmp3_lt]
  unfold wS
  rw [Int.mul_comm (geti y 1)]
  omega
theorem mul60 {a b : Int} (ha : 1 ≤ a ∧ a ≤ 60) (hb : 1 ≤ b ∧ b ≤ 60) : 0 ≤ a * b ∧ a * b ≤ 3600 :=
  ⟨Int.mul_nonneg (by omega) (by omega), by have := Int.mul_le_mul ha.2 hb.2 (by omega) (by omega); omega⟩
theorem cmpJ_ok : CmpOk 75 cmpJ E60 := by
  refine ⟨⟨_, _, Try.func75, by kernel_rfl, rfl⟩, ?_, ?_, ?_, ?_⟩
  · intro w v1 v2 xs ys h1 h2 t1 t2
    obtain ⟨b1, o1, c1, rfl, p0, p1⟩ := pair_cells h1 t1.1
    obtain ⟨b2, o2, c2, rfl, q0, q1⟩ := pair_cells h2 t2.1
    have m1 := mul60 t2.2.2 t1.2.1
    have m2 := mul60 t1.2.2 t2.2.1
    refine (joined_k b1 o1 c1 b2 o2 c2 _ _ _ _ w p0 p1 q0 q1 (by rw [IntKind.wrap_i64]; omega) (by rw [IntKind.wrap_i64]; omega)).mono ?_
    rintro e w' ⟨rfl, q, rfl⟩
    exact ⟨rfl, q, #[], by rw [Go.Sort.grow_empty]⟩
  · intro x _; rw [cmpJ_lt, wS_self]; omega
  · intro x y z hx hy hz h1 h2; rw [cmpJ_lt] at *; exact wS_lt1 hx.2.2.1 hy.2.2.1 hz.2.2.1 h1 (by omega)
  · intro x y z hx hy hz h1 h2
    rw [cmpJ_lt] at *
    have a1 := wS_neg x y
    have a2 := wS_neg y z
    have a3 := wS_neg x z
    have := wS_le hz.2.2.1 hy.2.2.1 hx.2.2.1 (by omega : 0 ≤ wS z y) (by omega : 0 ≤ wS y x)
    omega
theorem sS_mem {F : List Int → Int} {A : List (List Int)} (h : ∀ e ∈ A, 0 ≤ F e) {l : List Int} (hl : l ∈ A) : F l ≤ sS F A := by
  obtain ⟨B, C, rfl⟩ := List.append_of_mem hl
  rw [sS_append, sS]
  have h1 := sS_nonneg (F := F) (A := B) fun e he => h e (by simp [he])
  have h2 := sS_nonneg (F := F) (A := C) fun e he => h e (by simp [he])
  omega
theorem sS_bd {F : List Int → Int} {B : Int} : ∀ {A : List (List Int)}, (∀ e ∈ A, F e ≤ B) → sS F A ≤ B * A.length
  | [], _ => by simp [sS]
  | a :: A, h => by
    have h1 := h a (by simp)
    have h2 := sS_bd (A := A) fun e he => h e (by simp [he])
    rw [sS, List.length_cons, Int.natCast_add, Int.mul_add]
    simp only [Int.natCast_one, Int.mul_one]
    omega
theorem JoinOf.bd {Y L : List (List Int)} (h : JoinOf Y L) (hY : ∀ y ∈ Y, E60 y) {n : Nat} (hn : Y.length ≤ n) {l : List Int} (hl : l ∈ L) : l.length = 2 ∧ (1 ≤ geti l 0 ∧ geti l 0 ≤ 60 * n) ∧ (1 ≤ geti l 1 ∧ geti l 1 ≤ 60 * n) := by
  have hp := h.pos l hl
  have a0 := sS_mem (F := E0) (A := L) (fun e he => by have := (h.pos e he).2.1; simp only [E0]; omega) hl
  have a1 := sS_mem (F := E1) (A := L) (fun e he => by have := (h.pos e he).2.2; simp only [E1]; omega) hl
  have b0 := sS_bd (F := E0) (B := 60) (A := Y) (fun e he => (hY e he).2.1.2)
  have b1 := sS_bd (F := E1) (B := 60) (A := Y) (fun e he => (hY e he).2.2.2)
  have ht := h.tot
  have : (Y.length : Int) ≤ n := by omega
  simp only [E0, E1] at a0 a1
  exact ⟨hp.1, ⟨hp.2.1, by omega⟩, ⟨hp.2.2, by omega⟩⟩
def rowsOf (R : List Nat) (zs : List (List Int)) : List (List Int) := R.map fun i => zs.getD i []
theorem take_getD (ys : List (List Int)) {k : Nat} (hk : k < ys.length) : ys.take (k + 1) = ys.take k ++ [ys.getD k []] := by
  rw [List.take_add_one, List.getElem?_eq_getElem hk, List.getD_eq_getElem?_getD, List.getElem?_eq_getElem hk]; rfl
theorem rowsOf_set {R : List Nat} {zs : List (List Int)} {t : Nat} {v : List Int} (h : t ∉ R) : rowsOf R (zs.set t v) = rowsOf R zs := by
  unfold rowsOf
  refine List.map_congr_left fun i hi => ?_
  have hne : t ≠ i := fun e => h (e ▸ hi)
  rw [List.getD_eq_getElem?_getD, List.getD_eq_getElem?_getD, List.getElem?_set, if_neg hne]
theorem gset_self {zs : List (List Int)} {t : Nat} {v : List Int} (h : t < zs.length) : (zs.set t v).getD t [] = v := by
  rw [List.getD_eq_getElem?_getD, List.getElem?_set, if_pos rfl, if_pos h]; rfl
theorem gset_ne {zs : List (List Int)} {t i : Nat} {v : List Int} (h : t ≠ i) : (zs.set t v).getD i [] = zs.getD i [] := by
  rw [List.getD_eq_getElem?_getD, List.getD_eq_getElem?_getD, List.getElem?_set, if_neg h]
theorem set_two {l : List Int} (h : l.length = 2) (a b : Int) : (l.set 0 a).set 1 b = [a, b] := by
  match l, h with
  | [x, y], _ => rfl

set_option maxHeartbeats 16000000 in
theorem joinedEdges_c (xss : List (List Int)) (h0 : 0 < xss.length) (h1 : xss.length ≤ 200) (hp : ∀ r ∈ xss, E60 r) : AFn Try.prog 54 [.intss xss] (fun r os => ∃ L, JoinOf xss L ∧ r = .own 0 ∧ os = [.sls 38 2 L]) := by
  have hcl := copyLists_c xss (by omega) (fun r hr => by have := (hp r hr).1; omega)
  (refine AFn.start Try.func54 Try.ntmps54 rfl (by kernel_rfl) fun hk => ?_; simp only [Env.start, enumF, List.length_cons, List.length_nil, Nat.reduceAdd, Nat.reduceSub, List.cons_append, List.nil_append])
  repeat' (first | (apply AOps.nil; try simp only [List.nil_append, List.cons_append, List.set_cons_zero, List.set_cons_succ, List.length_cons, List.length_nil, Nat.reduceAdd, AV.sh, AV.sh1, AV.sh0, AO.sh, List.map_cons, List.map_nil, Nat.zero_add, Nat.add_zero, setAll]) | (apply w_move; exact rfl; exact rfl) | (apply w_assign; exact rfl; exact rfl) | apply AWp.seq | apply AWp.region | (apply w_callm (hcl); (focus ((repeat (first | exact im_nil | refine im_cons rfl (.intss _) ?_)); done)); rintro r os0 ⟨rfl, rfl⟩; try simp only [List.nil_append, List.cons_append, List.set_cons_zero, List.set_cons_succ, List.length_cons, List.length_nil, Nat.reduceAdd, AV.sh, AV.sh1, AV.sh0, AO.sh, List.map_cons, List.map_nil, Nat.zero_add, Nat.add_zero, setAll]))
  refine w_sortst cmpJ_ok hp ⟨h0, by omega⟩ rfl rfl rfl fun idx hperm hsort => ?_
  simp only [Env.mp, List.map_cons, List.map_nil, List.set_cons_zero, List.set_cons_succ, AV.kill, AV.kill1, AO.kill, AV.noRow, AV.noRow1, AO.via, reduceIte, Nat.reduceEqDiff, Nat.reduceLT, Env.up, Nat.zero_ne_one, Nat.one_ne_zero, Nat.reduceAdd, List.cons_append, List.nil_append]
  have hil : idx.length = xss.length := by have := hperm.length_eq; simpa using this
  obtain ⟨ys, eys⟩ : ∃ ys, ys = idx.map fun i => xss.getD i [] := ⟨_, rfl⟩
  have hyl : ys.length = xss.length := by rw [eys]; simpa using hil
  have hpm : ys.Perm xss := by
    rw [eys]
    have := hperm.map fun i => xss.getD i []
    refine this.trans (List.Perm.of_eq ?_)
    apply List.ext_getElem?
    intro i
    rw [List.getElem?_map]
    by_cases hi : i < xss.length
    · rw [List.getElem?_range hi, List.getElem?_eq_getElem hi, Option.map_some, List.getD_eq_getElem?_getD, List.getElem?_eq_getElem hi]; rfl
    · rw [List.getElem?_eq_none (by simp; omega), List.getElem?_eq_none (by omega)]; rfl
  have hrow : ∀ i : Nat, i < ys.length → ys.getD i [] = xss.getD (idx.getD i 0) [] := by
    intro i hi
    rw [eys, List.getD_eq_getElem?_getD, List.getElem?_map, List.getD_eq_getElem?_getD (l := idx), List.getElem?_eq_getElem (by omega)]
    rfl
  have hs : ∀ j k : Nat, j < k → k < ys.length → 0 ≤ wS (ys.getD j []) (ys.getD k []) := by
    intro j k hj hk
    have := hsort j k hj (by omega)
    rw [cmpJ_lt] at this
    rw [hrow j (by omega), hrow k hk, wS_neg]
    omega
  have hY : ∀ y ∈ ys, E60 y := fun y hy => hp y (hpm.mem_iff.1 hy)
  rw [← eys]
  clear hrow hsort hperm hcl hil eys idx
  repeat' (first | (apply AOps.nil; try simp only [List.nil_append, List.cons_append, List.set_cons_zero, List.set_cons_succ, List.length_cons, List.length_nil, Nat.reduceAdd, AV.sh, AV.sh1, AV.sh0, AO.sh, List.map_cons, List.map_nil, Nat.zero_add, Nat.add_zero, setAll]) | apply AWp.seq | apply AWp.region)
  refine w_bsx0 0 rfl ?_
  try simp only [List.nil_append, List.cons_append, List.set_cons_zero, List.set_cons_succ, List.length_cons, List.length_nil, Nat.reduceAdd, AV.sh, AV.sh1, AV.sh0, AO.sh, List.map_cons, List.map_nil, Nat.zero_add, Nat.add_zero, setAll]
  repeat' (first | (apply AOps.nil; try simp only [List.nil_append, List.cons_append, List.set_cons_zero, List.set_cons_succ, List.length_cons, List.length_nil, Nat.reduceAdd, AV.sh, AV.sh1, AV.sh0, AO.sh, List.map_cons, List.map_nil, Nat.zero_add, Nat.add_zero, setAll]) | (apply w_move; exact rfl; exact rfl) | (apply w_assign; exact rfl; exact rfl) | apply AWp.seq | apply AWp.region | apply AWp.block | (apply w_len; exact rfl; exact rfl; first | exact .ints _ | exact .intss _ | exact .sli rfl | exact .sls rfl | exact .slr rfl | exact .orow rfl | exact .nil))
  refine AWp.loop (ι := Nat × List Nat × List (List Int)) (fun x => ⟨65, [(4, .own 2), (13, .own 0), (14, .i ys.length), (15, .i x.1)]⟩) (fun x => [.sls 38 2 x.2.2, .dead, .slr 38 (x.2.1.reverse.map (AV.orow 0))])
    (fun x => x.1 ≤ ys.length ∧ x.2.2.length = ys.length ∧ (∀ i, x.1 ≤ i → x.2.2.getD i [] = ys.getD i []) ∧ StkOk ys x.1 x.2.1 ∧ JI (ys.take x.1) (rowsOf x.2.1.reverse x.2.2)) (fun x => ys.length - x.1) (0, [], ys) ⟨Nat.zero_le _, rfl, fun _ _ => rfl, ⟨by simp, by simp, by simp⟩, by simpa [rowsOf] using JI.nil⟩ ⟨lee rfl (by (repeat (first | exact le_nil | refine le_eq rfl rfl ?_))), by (repeat (first | exact lo_nil | refine lo_dead ?_ | refine lo_eq rfl ?_)), rfl, (by first | exact rfl | exact lim3 _)⟩ ?_
  rintro ⟨k, R, zs⟩ ⟨k0, k1, k2, k3, k4⟩
  simp only at k0 k1 k2 k3 k4
  have rl := rev_len (R := R)
  have hn := hyl
  by_cases hk : k < ys.length
  · have hE : E60 (ys.getD k []) := hY _ (by rw [List.getD_eq_getElem?_getD, List.getElem?_eq_getElem hk]; exact List.getElem_mem hk)
    have hzk : zs.getD k [] = ys.getD k [] := k2 k (Nat.le_refl _)
    have hk3 : (zs.getD (k : Int).toNat []).length = 2 := by rw [Int.toNat_natCast, hzk]; exact hE.1
    have hpre : ∀ y ∈ ys.take k, 0 ≤ wS y (ys.getD k []) := fun y hy => by
      obtain ⟨j, hj⟩ := List.getElem?_of_mem hy
      rw [List.getElem?_take] at hj
      split at hj
      · rename_i hjk
        have := hs j k hjk hk
        rw [List.getD_eq_getElem?_getD (i := j), hj] at this
        exact this
      · cases hj
    have hYk : ∀ y ∈ ys.take k, E60 y := fun y hy => hY y (List.mem_of_mem_take hy)
    have etk := take_getD ys hk
    have k30 := k3.2.2
    have push : (∀ A l, rowsOf R.reverse zs = A ++ [l] → wS l (ys.getD k []) ≠ 0) → JI (ys.take (k + 1)) (rowsOf (k :: R).reverse zs) := fun hz => by
      rw [etk, List.reverse_cons]
      have : rowsOf (R.reverse ++ [k]) zs = rowsOf R.reverse zs ++ [ys.getD k []] := by
        unfold rowsOf
        rw [List.map_append, List.map_cons, List.map_nil, hzk]
      rw [this]
      exact k4.push (fun y hy => (hYk y hy).ep) hE.ep hpre hz
    cases R with
    | nil =>
      have rl0 : ((([] : List Nat).reverse).map (AV.orow 0)).length = 0 := rfl
      have rl1 : (([] : List Nat).reverse).length = 0 := rfl
      have rl2 : ([] : List Nat).reverse ++ [k] = [k].reverse := rfl
      have pk := push (fun A l h => by simp [rowsOf] at h)
      generalize est : ([] : List Nat).reverse = st at *
      repeat' (first | (apply AOps.nil; try simp only [List.nil_append, List.cons_append, List.set_cons_zero, List.set_cons_succ, List.length_cons, List.length_nil, Nat.reduceAdd, AV.sh, AV.sh1, AV.sh0, AO.sh, List.map_cons, List.map_nil, Nat.zero_add, Nat.add_zero, setAll]) | (apply w_move; exact rfl; exact rfl) | (apply w_assign; exact rfl; exact rfl) | apply AWp.seq | apply AWp.region | ((apply AWp.condP; exact rfl) <;> intro h) | apply AWp.block | apply AWp.ret | apply AWp.exit | apply AWp.skip | (apply w_len; exact rfl; exact rfl; first | exact .ints _ | exact .intss _ | exact .sli rfl | exact .sls rfl | exact .slr rfl | exact .orow rfl | exact .nil) | ((first | apply w_bsx1 | apply w_lss | apply w_gtr | apply w_add | apply w_sub | apply w_idx | apply w_ld); iterate 3 exact rfl) | (apply w_appx; exact rfl; exact rfl; exact rfl; exact rfl; exact rfl; rotate_left 1; simp only [Env.mp, List.map_cons, List.map_nil, List.set_cons_zero, List.set_cons_succ, AV.kill, AV.kill1, AO.kill, AV.rin, AV.rin1, AV.noRow, AV.noRow1, AO.via, reduceIte, Nat.reduceEqDiff, Nat.reduceLT, Env.up, Nat.zero_ne_one, Nat.one_ne_zero, Nat.reduceAdd, List.cons_append, List.nil_append]; rotate_left 1) | omega | (apply w_idxo; exact rfl; exact rfl; (exact .sls rfl); exact rfl) | (apply w_ldls; iterate 4 exact rfl) | (apply inI_of <;> omega))
      refine ⟨(k + 1, [k], zs), ⟨by simp only; omega, k1, fun i hi => k2 i (by simp only at hi; omega), k3.push, pk⟩, by simp only; omega, by simp only [← rl2]; exact ⟨lee rfl (by (repeat (first | exact le_nil | refine le_eq rfl rfl ?_))), by (repeat (first | exact lo_nil | refine lo_dead ?_ | refine lo_eq rfl ?_)), rfl, (by first | exact rfl | exact lim3 _)⟩⟩
    | cons t r =>
      have htk : t < k := k3.2.1 t (by simp)
      have e1 : (t :: r).reverse.getD (((((t :: r).reverse.map (AV.orow 0)).length : Nat) : Int) - 1).toNat 0 = t := rev_top (by rw [rl]; simp)
      have rl' : ((t :: r).reverse.map (AV.orow 0)).length = r.length + 1 := by rw [rl]; rfl
      have hl1 : ((t :: r).reverse).length = r.length + 1 := by simp
      have er : rowsOf (t :: r).reverse zs = rowsOf r.reverse zs ++ [zs.getD t []] := by simp [rowsOf]
      rw [List.length_cons] at k30
      have hlm := k4.join.bd hYk (n := 200) (by rw [List.length_take]; omega) (l := zs.getD t []) (by rw [er]; simp)
      have hl2 : (zs.getD t []).length = 2 := hlm.1
      have hb1 : 0 ≤ geti (zs.getD t []) ((Int.toNat 1 : Nat) : Int) * geti (zs.getD (k : Int).toNat []) ((Int.toNat 0 : Nat) : Int) ∧ geti (zs.getD t []) ((Int.toNat 1 : Nat) : Int) * geti (zs.getD (k : Int).toNat []) ((Int.toNat 0 : Nat) : Int) ≤ 720000 := by
        rw [Int.toNat_natCast, hzk]
        exact ⟨Int.mul_nonneg (by have := hlm.2.2.1; exact Int.le_trans (by decide) this) (by have := hE.2.1.1; exact Int.le_trans (by decide) this), Int.mul_le_mul (c := 12000) (d := 60) (by have := hlm.2.2.2; exact this) hE.2.1.2 (by have := hE.2.1.1; exact Int.le_trans (by decide) this) (by decide)⟩
      have hb2 : 0 ≤ geti (zs.getD (k : Int).toNat []) ((Int.toNat 1 : Nat) : Int) * geti (zs.getD t []) ((Int.toNat 0 : Nat) : Int) ∧ geti (zs.getD (k : Int).toNat []) ((Int.toNat 1 : Nat) : Int) * geti (zs.getD t []) ((Int.toNat 0 : Nat) : Int) ≤ 720000 := by
        rw [Int.toNat_natCast, hzk]
        exact ⟨Int.mul_nonneg (by have := hE.2.2.1; exact Int.le_trans (by decide) this) (by have := hlm.2.1.1; exact Int.le_trans (by decide) this), Int.mul_le_mul (c := 60) (d := 12000) hE.2.2.2 (by have := hlm.2.1.2; exact this) (by have := hlm.2.1.1; exact Int.le_trans (by decide) this) (by decide)⟩
      have hwz : wS (zs.getD t []) (ys.getD k []) = 0 ↔ geti (zs.getD t []) ((Int.toNat 1 : Nat) : Int) * geti (zs.getD (k : Int).toNat []) ((Int.toNat 0 : Nat) : Int) = geti (zs.getD (k : Int).toNat []) ((Int.toNat 1 : Nat) : Int) * geti (zs.getD t []) ((Int.toNat 0 : Nat) : Int) := by
        rw [Int.toNat_natCast, hzk]
        unfold wS
        show geti (zs.getD t []) 1 * geti (ys.getD k []) 0 - geti (zs.getD t []) 0 * geti (ys.getD k []) 1 = 0 ↔ geti (zs.getD t []) 1 * geti (ys.getD k []) 0 = geti (ys.getD k []) 1 * geti (zs.getD t []) 0
        rw [Int.mul_comm (geti (ys.getD k []) 1)]
        omega
      have hz0 : 1 ≤ geti (zs.getD (k : Int).toNat []) ((Int.toNat 0 : Nat) : Int) ∧ geti (zs.getD (k : Int).toNat []) ((Int.toNat 0 : Nat) : Int) ≤ 60 := by rw [Int.toNat_natCast, hzk]; exact hE.2.1
      have hz1 : 1 ≤ geti (zs.getD (k : Int).toNat []) ((Int.toNat 1 : Nat) : Int) ∧ geti (zs.getD (k : Int).toNat []) ((Int.toNat 1 : Nat) : Int) ≤ 60 := by rw [Int.toNat_natCast, hzk]; exact hE.2.2
      have ht0 : 1 ≤ geti (zs.getD t []) ((Int.toNat 0 : Nat) : Int) ∧ geti (zs.getD t []) ((Int.toNat 0 : Nat) : Int) ≤ 12000 := hlm.2.1
      have ht1 : 1 ≤ geti (zs.getD t []) ((Int.toNat 1 : Nat) : Int) ∧ geti (zs.getD t []) ((Int.toNat 1 : Nat) : Int) ≤ 12000 := hlm.2.2
      by_cases hq : wS (zs.getD t []) (ys.getD k []) = 0
      · have hq' := hwz.1 hq
        generalize est : (t :: r).reverse = st at *
        repeat' (first | (apply AOps.nil; try simp only [List.nil_append, List.cons_append, List.set_cons_zero, List.set_cons_succ, List.length_cons, List.length_nil, Nat.reduceAdd, AV.sh, AV.sh1, AV.sh0, AO.sh, List.map_cons, List.map_nil, Nat.zero_add, Nat.add_zero, setAll]) | (apply w_move; exact rfl; exact rfl) | (apply w_assign; exact rfl; exact rfl) | apply AWp.seq | apply AWp.region | ((apply AWp.condP; exact rfl) <;> intro h) | apply AWp.block | apply AWp.ret | apply AWp.exit | apply AWp.skip | (apply w_len; exact rfl; exact rfl; first | exact .ints _ | exact .intss _ | exact .sli rfl | exact .sls rfl | exact .slr rfl | exact .orow rfl | exact .nil) | ((first | apply w_bsx1 | apply w_lss | apply w_gtr | apply w_add | apply w_sub | apply w_idx | apply w_ld); iterate 3 exact rfl) | (apply w_appx; exact rfl; exact rfl; exact rfl; exact rfl; exact rfl; rotate_left 1; simp only [Env.mp, List.map_cons, List.map_nil, List.set_cons_zero, List.set_cons_succ, AV.kill, AV.kill1, AO.kill, AV.rin, AV.rin1, AV.noRow, AV.noRow1, AO.via, reduceIte, Nat.reduceEqDiff, Nat.reduceLT, Env.up, Nat.zero_ne_one, Nat.one_ne_zero, Nat.reduceAdd, List.cons_append, List.nil_append]; rotate_left 1) | omega | (apply w_idxo; exact rfl; exact rfl; (first | exact .sls rfl | exact .slr rfl); exact rfl) | ((apply w_ldr); iterate 4 exact rfl) | (apply w_ldls; iterate 4 exact rfl) | (apply inI_of <;> omega))
        rw [e1]
        apply AWp.regionQ
        · kernel_rfl
        · kernel_rfl
        repeat' (first | (apply AOps.nil; try simp only [List.nil_append, List.cons_append, List.set_cons_zero, List.set_cons_succ, List.length_cons, List.length_nil, Nat.reduceAdd, AV.sh, AV.sh1, AV.sh0, AO.sh, List.map_cons, List.map_nil, Nat.zero_add, Nat.add_zero, setAll]) | (apply w_move; exact rfl; exact rfl) | (apply w_assign; exact rfl; exact rfl) | apply AWp.seq | apply AWp.region | ((apply AWp.condP; exact rfl) <;> intro h) | apply AWp.skip | ((first | apply w_bsx1 | apply w_eql | apply w_add | apply w_mul | apply w_idx | apply w_ld); iterate 3 exact rfl) | (apply w_appx; exact rfl; exact rfl; exact rfl; exact rfl; exact rfl; rotate_left 1; simp only [Env.mp, List.map_cons, List.map_nil, List.set_cons_zero, List.set_cons_succ, AV.kill, AV.kill1, AO.kill, AV.rin, AV.rin1, AV.noRow, AV.noRow1, AO.via, reduceIte, Nat.reduceEqDiff, Nat.reduceLT, Env.up, Nat.zero_ne_one, Nat.one_ne_zero, Nat.reduceAdd, List.cons_append, List.nil_append]; rotate_left 1) | omega | ((first | apply w_idxr | apply w_ldr); iterate 4 exact rfl) | (apply w_ldrp; iterate 4 exact rfl) | (apply inI_of <;> omega))
        obtain ⟨z1, ez1⟩ : ∃ z1, z1 = zs.set t ((zs.getD t []).set (Int.toNat 0) (geti (zs.getD t []) ((Int.toNat 0 : Nat) : Int) + geti (zs.getD (k : Int).toNat []) ((Int.toNat 0 : Nat) : Int))) := ⟨_, rfl⟩
        refine AWp.regionA (by kernel_rfl) (envC := ⟨65, [(4, .own 2), (6, .orow 0 (k : Int).toNat), (7, .orow 0 t), (13, .own 0), (14, .i ys.length), (15, .i k)]⟩) (osC := [.sls 38 2 z1, .dead, .slr 38 (st.map (AV.orow 0))]) rfl rfl ?_ ?_
        · rw [ez1]
          repeat' (first | (apply AOps.nil; try simp only [List.nil_append, List.cons_append, List.set_cons_zero, List.set_cons_succ, List.length_cons, List.length_nil, Nat.reduceAdd, AV.sh, AV.sh1, AV.sh0, AO.sh, List.map_cons, List.map_nil, Nat.zero_add, Nat.add_zero, setAll]) | (apply w_move; exact rfl; exact rfl) | (apply w_storp; exact rfl; exact rfl; rotate_left 2; exact rfl; rotate_left 2) | omega | ((first | apply w_add | apply w_idx | apply w_ld); iterate 3 exact rfl) | ((first | apply w_idxr | apply w_ldr); iterate 4 exact rfl) | (apply w_ldrp; iterate 4 exact rfl) | apply AllOf.nil | (apply AllOf.cons; exact rfl) | (apply AAny.take; exact rfl; exact rfl; kernel_rfl; kernel_rfl) | (apply AAny.all; exact rfl) | (apply AAny.done; exact rfl) | (apply inI_of <;> omega))
          all_goals (apply Or.inl; refine ⟨lee rfl ?_, ?_, rfl, (lim3 _)⟩; (focus ((repeat (first | exact le_nil | refine le_eq rfl rfl ?_)); done)); (focus ((repeat (first | exact lo_nil | refine lo_dead ?_ | refine lo_eq rfl ?_)); done)))
        have z1t : z1.getD t [] = (zs.getD t []).set (Int.toNat 0) (geti (zs.getD t []) ((Int.toNat 0 : Nat) : Int) + geti (zs.getD (k : Int).toNat []) ((Int.toNat 0 : Nat) : Int)) := by rw [ez1]; exact gset_self (by omega)
        have z1k : z1.getD (k : Int).toNat [] = zs.getD (k : Int).toNat [] := by rw [ez1, Int.toNat_natCast]; exact gset_ne (by omega)
        have z1l : z1.length = ys.length := by rw [ez1, List.length_set]; exact k1
        have z1tl : (z1.getD t []).length = 2 := by rw [z1t, List.length_set]; exact hl2
        have z1kl : (z1.getD (k : Int).toNat []).length = 2 := by rw [z1k]; exact hk3
        have z1t1 : geti (z1.getD t []) ((Int.toNat 1 : Nat) : Int) = geti (zs.getD t []) ((Int.toNat 1 : Nat) : Int) := by
          rw [z1t]
          match zs.getD t [], hl2 with
          | [x, y], _ => rfl
        have z1k1 : geti (z1.getD (k : Int).toNat []) ((Int.toNat 1 : Nat) : Int) = geti (zs.getD (k : Int).toNat []) ((Int.toNat 1 : Nat) : Int) := by rw [z1k]
        obtain ⟨z2, ez2⟩ : ∃ z2, z2 = z1.set t ((z1.getD t []).set (Int.toNat 1) (geti (z1.getD t []) ((Int.toNat 1 : Nat) : Int) + geti (z1.getD (k : Int).toNat []) ((Int.toNat 1 : Nat) : Int))) := ⟨_, rfl⟩
        repeat' (apply AWp.seq)
        refine AWp.regionA (by kernel_rfl) (envC := ⟨65, [(4, .own 2), (13, .own 0), (14, .i ys.length), (15, .i k)]⟩) (osC := [.sls 38 2 z2, .dead, .slr 38 (st.map (AV.orow 0))]) rfl rfl ?_ ?_
        · rw [ez2]
          repeat' (first | (apply AOps.nil; try simp only [List.nil_append, List.cons_append, List.set_cons_zero, List.set_cons_succ, List.length_cons, List.length_nil, Nat.reduceAdd, AV.sh, AV.sh1, AV.sh0, AO.sh, List.map_cons, List.map_nil, Nat.zero_add, Nat.add_zero, setAll]) | (apply w_move; exact rfl; exact rfl) | (apply w_storp; exact rfl; exact rfl; rotate_left 2; exact rfl; rotate_left 2) | omega | ((first | apply w_add | apply w_idx | apply w_ld); iterate 3 exact rfl) | ((first | apply w_idxr | apply w_ldr); iterate 4 exact rfl) | (apply w_ldrp; iterate 4 exact rfl) | apply AllOf.nil | (apply AllOf.cons; exact rfl) | (apply AAny.take; exact rfl; exact rfl; kernel_rfl; kernel_rfl) | (apply AAny.all; exact rfl) | (apply AAny.done; exact rfl) | (apply inI_of <;> omega))
          all_goals (apply Or.inl; refine ⟨lee rfl ?_, ?_, rfl, (lim3 _)⟩; (focus ((repeat (first | exact le_nil | refine le_eq rfl rfl ?_)); done)); (focus ((repeat (first | exact lo_nil | refine lo_dead ?_ | refine lo_eq rfl ?_)); done)))
        have ez : z2 = zs.set t (plE (zs.getD t []) (ys.getD k [])) := by
          have e3 : (z1.getD t []).set (Int.toNat 1) (geti (z1.getD t []) ((Int.toNat 1 : Nat) : Int) + geti (z1.getD (k : Int).toNat []) ((Int.toNat 1 : Nat) : Int)) = plE (zs.getD t []) (ys.getD k []) := by
            rw [z1t1, z1k1, z1t, Int.toNat_natCast, hzk]
            exact set_two hl2 _ _
          rw [ez2, e3, ez1, List.set_set]
        have hnr : t ∉ r.reverse := fun h => by
          have := (List.pairwise_cons.1 k3.1).1 t (by simpa using h)
          omega
        have fin : JI (ys.take (k + 1)) (rowsOf st z2) := by
          rw [← est, etk, List.reverse_cons]
          have e4 : rowsOf (r.reverse ++ [t]) z2 = rowsOf r.reverse zs ++ [plE (zs.getD t []) (ys.getD k [])] := by
            have a1 : rowsOf (r.reverse ++ [t]) z2 = rowsOf r.reverse z2 ++ [z2.getD t []] := by simp [rowsOf]
            rw [a1, ez, rowsOf_set hnr, gset_self (by omega)]
          rw [e4]
          rw [er] at k4
          refine k4.same (fun h => ?_) hE.ep hpre hq
          have : (ys.take k).length = 0 := by rw [h]; rfl
          rw [List.length_take] at this
          omega
        repeat' (first | (apply AOps.nil; try simp only [List.nil_append, List.cons_append, List.set_cons_zero, List.set_cons_succ, List.length_cons, List.length_nil, Nat.reduceAdd, AV.sh, AV.sh1, AV.sh0, AO.sh, List.map_cons, List.map_nil, Nat.zero_add, Nat.add_zero, setAll]) | (apply w_move; exact rfl; exact rfl) | apply AWp.region | apply AWp.exit | ((apply w_add); iterate 3 exact rfl) | (apply inI_of <;> omega))
        refine ⟨(k + 1, t :: r, z2), ⟨by simp only; omega, by simp only; rw [ez2, List.length_set]; exact z1l, fun i hi => ?_, k3.up, by simp only [est]; exact fin⟩, by simp only; omega, by simp only [est]; exact ⟨lee rfl (by (repeat (first | exact le_nil | refine le_eq rfl rfl ?_))), by (repeat (first | exact lo_nil | refine lo_dead ?_ | refine lo_eq rfl ?_)), rfl, (by first | exact rfl | exact lim3 _)⟩⟩
        simp only at hi ⊢
        rw [ez, gset_ne (by omega)]
        exact k2 i (by omega)
      · have hq' := fun h => hq (hwz.2 h)
        have pk := push (fun A l h => by
          rw [er] at h
          have := List.append_inj' h rfl
          have : zs.getD t [] = l := by simpa using this.2
          rw [← this]; exact hq)
        generalize est : (t :: r).reverse = st at *
        repeat' (first | (apply AOps.nil; try simp only [List.nil_append, List.cons_append, List.set_cons_zero, List.set_cons_succ, List.length_cons, List.length_nil, Nat.reduceAdd, AV.sh, AV.sh1, AV.sh0, AO.sh, List.map_cons, List.map_nil, Nat.zero_add, Nat.add_zero, setAll]) | (apply w_move; exact rfl; exact rfl) | (apply w_assign; exact rfl; exact rfl) | apply AWp.seq | apply AWp.region | ((apply AWp.condP; exact rfl) <;> intro h) | apply AWp.block | apply AWp.ret | apply AWp.exit | apply AWp.skip | (apply w_len; exact rfl; exact rfl; first | exact .ints _ | exact .intss _ | exact .sli rfl | exact .sls rfl | exact .slr rfl | exact .orow rfl | exact .nil) | ((first | apply w_bsx1 | apply w_lss | apply w_gtr | apply w_add | apply w_sub | apply w_idx | apply w_ld); iterate 3 exact rfl) | (apply w_appx; exact rfl; exact rfl; exact rfl; exact rfl; exact rfl; rotate_left 1; simp only [Env.mp, List.map_cons, List.map_nil, List.set_cons_zero, List.set_cons_succ, AV.kill, AV.kill1, AO.kill, AV.rin, AV.rin1, AV.noRow, AV.noRow1, AO.via, reduceIte, Nat.reduceEqDiff, Nat.reduceLT, Env.up, Nat.zero_ne_one, Nat.one_ne_zero, Nat.reduceAdd, List.cons_append, List.nil_append]; rotate_left 1) | omega | (apply w_idxo; exact rfl; exact rfl; (first | exact .sls rfl | exact .slr rfl); exact rfl) | ((apply w_ldr); iterate 4 exact rfl) | (apply w_ldls; iterate 4 exact rfl) | (apply inI_of <;> omega))
        rw [e1]
        apply AWp.regionQ
        · kernel_rfl
        · kernel_rfl
        repeat' (first | (apply AOps.nil; try simp only [List.nil_append, List.cons_append, List.set_cons_zero, List.set_cons_succ, List.length_cons, List.length_nil, Nat.reduceAdd, AV.sh, AV.sh1, AV.sh0, AO.sh, List.map_cons, List.map_nil, Nat.zero_add, Nat.add_zero, setAll]) | (apply w_move; exact rfl; exact rfl) | (apply w_assign; exact rfl; exact rfl) | apply AWp.seq | apply AWp.region | ((apply AWp.condP; exact rfl) <;> intro h) | apply AWp.skip | ((first | apply w_bsx1 | apply w_eql | apply w_add | apply w_mul | apply w_idx | apply w_ld); iterate 3 exact rfl) | (apply w_appx; exact rfl; exact rfl; exact rfl; exact rfl; exact rfl; rotate_left 1; simp only [Env.mp, List.map_cons, List.map_nil, List.set_cons_zero, List.set_cons_succ, AV.kill, AV.kill1, AO.kill, AV.rin, AV.rin1, AV.noRow, AV.noRow1, AO.via, reduceIte, Nat.reduceEqDiff, Nat.reduceLT, Env.up, Nat.zero_ne_one, Nat.one_ne_zero, Nat.reduceAdd, List.cons_append, List.nil_append]; rotate_left 1) | omega | ((first | apply w_idxr | apply w_ldr); iterate 4 exact rfl) | (apply w_ldrp; iterate 4 exact rfl) | (apply inI_of <;> omega))
        have e5 : (k :: t :: r).reverse = st ++ [k] := by rw [← est]; simp
        refine ⟨(k + 1, k :: t :: r, zs), ⟨by simp only; omega, k1, fun i hi => k2 i (by simp only at hi; omega), k3.push, pk⟩, by simp only; omega, by simp only [e5]; exact ⟨lee rfl (by (repeat (first | exact le_nil | refine le_eq rfl rfl ?_))), by (repeat (first | exact lo_nil | refine lo_dead ?_ | refine lo_eq rfl ?_)), rfl, (by first | exact rfl | exact lim3 _)⟩⟩
  · have ek : k = ys.length := by omega
    subst ek
    rw [List.take_length] at k4
    refine AWp.merge (p := 2) (k := 0) rfl rfl k3.nodup ?_
    simp only [Env.mp, List.map_cons, List.map_nil, List.set_cons_zero, List.set_cons_succ, AV.kill, AV.kill1, AO.kill, AV.noRow, AV.noRow1, AO.via, reduceIte, Nat.reduceEqDiff, Nat.reduceLT, Env.up, Nat.zero_ne_one, Nat.one_ne_zero, Nat.reduceAdd, List.cons_append, List.nil_append]
    repeat' (first | (apply AOps.nil; try simp only [List.nil_append, List.cons_append, List.set_cons_zero, List.set_cons_succ, List.length_cons, List.length_nil, Nat.reduceAdd, AV.sh, AV.sh1, AV.sh0, AO.sh, List.map_cons, List.map_nil, Nat.zero_add, Nat.add_zero, setAll]) | (apply w_move; exact rfl; exact rfl) | (apply w_assign; exact rfl; exact rfl) | apply AWp.seq | apply AWp.region | ((apply AWp.condP; exact rfl) <;> intro h) | apply AWp.block | apply AWp.ret | apply AWp.exit | apply AWp.skip | omega | ((apply w_lss); iterate 3 exact rfl))
    exact ⟨_, _, _, .v1 Try.results54 rfl, .sls rfl, _, k4.join.perm hpm, rfl, rfl⟩
end Go.Proofs.Ythlfdhooiekgjaa
/-
  The stable sort of no rows; no edges put together; edges put together, in general; the points of a chain. Condition: few edges with small numbers.
-/
namespace Go.Proofs.Ythlfdhooiekgjaa
open Go Go.RowKit Go.Sort

theorem insertion_none_k (a : Option Addr) (cap : Nat) (fv : Fn) (b1 b2 : Array Value) (w : World) : Calls Try.prog 82 #[.slice a 0 cap, .int .i64 0, .int .i64 0, .func fv b1 b2] w fun e w' => e = .returned (.tuple #[]) ∧ w' = w := by
  go_enter Try.func82, Try.ntmps82
  go_wp2
  refine wp_loop_rounds 1 ?_
  rw [rounds_succ]
  go_wp2
  go_end0
  exact ⟨rfl, rfl⟩
theorem stable_none_k (a : Option Addr) (cap : Nat) (fv : Fn) (b1 b2 : Array Value) (w : World) : Calls Try.prog 81 #[.slice a 0 cap, .int .i64 0, .func fv b1 b2] w fun e w' => e = .returned (.tuple #[]) ∧ w' = w := by
  go_enter Try.func81, Try.ntmps81
  go_wp2
  refine wp_loop_rounds 1 ?_
  rw [rounds_succ]
  go_wp2_with (go_at_call 82; refine (insertion_none_k _ _ _ _ _ _).mono ?_; rintro e w' ⟨rfl, rfl⟩)
  refine wp_loop_rounds 1 ?_
  rw [rounds_succ]
  go_wp2
  go_end0
  exact ⟨rfl, rfl⟩
theorem sortst_none_k (a : Option Addr) (cap : Nat) (fv : Fn) (b1 b2 : Array Value) (w : World) : Calls Try.prog 74 #[.slice a 0 cap, .func fv b1 b2] w fun e w' => e = .returned (.tuple #[]) ∧ w' = w := by
  go_enter Try.func74, Try.ntmps74
  go_wp2_with (go_at_call 81; refine (stable_none_k _ _ _ _ _ _).mono ?_; rintro e w' ⟨rfl, rfl⟩)
  go_end0
  exact ⟨rfl, rfl⟩
section
variable {env : Env} {os : List AO} {d : Option Tmp} {ty : TypeId} {pos : String} {af : Array Edge} {g : Option (Nat × Bool)}
theorem c_sortst0 {G : FuncId} {x y : Operand} {ats : Array TypeId} {h : Nat} {e e2 : TypeId} (hx : AV.ev env x = .own h) (hs : os[h]? = some (.sls e e2 [])) (hy : AV.ev env y = .val (.func (.func G) #[] #[])) :
    COp Try.prog ⟨d, .call { callee := .value (.func 74), args := #[x, y], argTypes := ats }, ty, pos, af, g⟩ env os (fun r e' o => r = .any ∧ e' = env ∧ o = os) := by
  intro base w gs tm hr
  have hxv := hr.ev x
  rw [hx] at hxv
  have hyv := hr.evv hy
  generalize hv : Act.eval ⟨tm, []⟩ x = v at hxv
  cases hxv with
  | @own _ gh hg =>
  obtain ⟨us, bs, mb, b1, b2, b3, b4, b5, b6, b7, b8⟩ := hr.ho _ _ _ hg hs
  have hbd : HasBody Try.prog 74 := ⟨_, _, Try.func74, by kernel_rfl, rfl⟩
  have hu : us = [] := List.eq_nil_of_length_eq_zero (by simpa using b2)
  have hsl : ∃ a cap, gh.v = .slice a 0 cap := by
    rcases b1.2 with ⟨q1, q2⟩ | ⟨blk, cap, cur, c1, _⟩
    · exact ⟨none, 0, q1⟩
    · exact ⟨_, cap, by rw [c1, hu]; rfl⟩
  obtain ⟨a, cap, hgv⟩ := hsl
  refine ⟨_, _, run_call hbd [x, y] ats _ rfl w, ?_⟩
  have eargs : ([x, y].map (Act.eval ⟨tm, []⟩)).toArray = #[.slice a 0 cap, .func (.func G) #[] #[]] := by
    simp only [List.map_cons, List.map_nil, hv, hyv, hgv]
  rw [eargs]
  refine (sortst_none_k a cap _ _ _ w).mono ?_
  rintro e' w' ⟨rfl, rfl⟩
  exact ⟨.tuple #[], .any, env, os, gs, rfl, ⟨rfl, rfl, rfl⟩, hr, .any _, Below.refl _ _⟩
end
section
variable {env : Env} {os : List AO} {d : Tmp} {ty : TypeId} {pos : String} {af : Array Edge} {l rest : List Oper} {K : APost}
theorem w_sortst0 {G : FuncId} {x y : Operand} {ats : Array TypeId} {h : Nat} {e e2 : TypeId} (hx : evo env x = some (.own h)) (hs : os[h]? = some (.sls e e2 [])) (hy : evo env y = some (.val (.func (.func G) #[] #[])))
    (h' : AOps Try.prog .seq l rest K (Env.up env d .any) os) :
    AOps Try.prog .seq l (⟨some d, .call { callee := .value (.func 74), args := #[x, y], argTypes := ats }, ty, pos, af, none⟩ :: rest) K env os :=
  AOps.ca (c_sortst0 (ev_of hx) hs (ev_of hy)) fun r e o ⟨h3, h4, h5⟩ => by subst h3; subst h4; subst h5; exact h'
end
attribute [local irreducible] AWp AOps ResIs Ret1 QOp LOp COp AFnV AFn Imms LeE LeO
set_option maxHeartbeats 1000000
set_option linter.unusedSimpArgs false
set_option linter.unusedVariables false

theorem joinedEdges_all (xss : List (List Int)) (h1 : xss.length ≤ 200) (hp : ∀ r ∈ xss, E60 r) : AFn Try.prog 54 [.intss xss] (fun r os => ∃ L, JoinOf xss L ∧ r = .own 0 ∧ os = [.sls 38 2 L]) := by
  by_cases h0 : 0 < xss.length
  · exact joinedEdges_c xss h0 h1 hp
  · have e0 : xss = [] := List.eq_nil_of_length_eq_zero (by omega)
    subst e0
    have hcl := copyLists_c [] (by simp) (fun r hr => by simp at hr)
    (refine AFn.start Try.func54 Try.ntmps54 rfl (by kernel_rfl) fun hk => ?_; simp only [Env.start, enumF, List.length_cons, List.length_nil, Nat.reduceAdd, Nat.reduceSub, List.cons_append, List.nil_append])
    repeat' (first
  | (apply AOps.nil; try simp only [List.nil_append, List.cons_append, List.set_cons_zero, List.set_cons_succ, List.length_cons, List.length_nil, Nat.reduceAdd, AV.sh, AV.sh1, AV.sh0, AO.sh, List.map_cons, List.map_nil, Nat.zero_add, Nat.add_zero, setAll])
  | ((apply AOps.splitP; exact rfl; exact rfl) <;> intro h)
  | ((apply AOps.splitN; exact rfl; exact rfl) <;> intro h)
  | (apply w_move; exact rfl; exact rfl)
  | (apply w_assign; exact rfl; exact rfl)
  | apply AWp.seq
  | apply AWp.region
  | ((apply AWp.condP; exact rfl) <;> intro h)
  | ((apply AWp.condN; exact rfl) <;> intro h)
  | (apply AWp.condT; exact rfl)
  | (apply AWp.condF; exact rfl)
  | ((apply AWp.condB; exact rfl) <;> intro h)
  | apply AWp.block
  | apply AWp.ret
  | apply AWp.exit
  | apply AWp.skip
  | (apply AWp.regionQ; kernel_rfl; kernel_rfl)
  | (apply if_pos'; exact rfl)
  | (apply if_neg'; decide)
  | (apply w_skip; exact rfl)
  | (apply w_pickT; exact rfl; exact rfl; exact rfl)
  | (apply w_pickF; exact rfl; exact rfl; exact rfl)
  | (apply w_len; exact rfl; exact rfl; first | exact .ints _ | exact .intss _ | exact .sli rfl | exact .sls rfl | exact .slr rfl | exact .orow rfl | exact .nil)
  | (apply w_callm (hcl); (focus ((repeat (first | exact im_nil | refine im_cons rfl (.val _) ?_ | refine im_cons rfl (.ints _) ?_ | refine im_cons rfl (.intss _) ?_ | refine im_cons rfl (.sli rfl) ?_ | refine im_cons rfl (.sls rfl) ?_ | refine im_cons rfl (.orow rfl) ?_ | refine im_cons rfl (.osub rfl (by simp; omega)) ?_ | refine im_cons rfl (.nil) ?_ | refine im_cons rfl (.nils) ?_ | refine im_cons rfl (im_agg2 (.val _) (.ints _)) ?_ | refine im_cons rfl (im_agg2 (.val _) (.sli rfl)) ?_ | refine im_cons rfl (im_agg2 (.val _) (.nil)) ?_ | refine im_cons rfl (im_agg2 (.ints _) (.intss _)) ?_ | refine im_cons rfl (im_agg2 (.ints _) (.sls rfl)) ?_ | refine im_cons rfl (im_agg2 (.sli rfl) (.intss _)) ?_ | refine im_cons rfl (im_agg2 (.sli rfl) (.sls rfl)) ?_ | refine im_cons rfl (im_agg1 (.ints _)) ?_ | refine im_cons rfl (im_agg1 (.sli rfl)) ?_ | refine im_cons rfl (im_agg1 (.intss _)) ?_ | refine im_cons rfl (im_agg1 (.sls rfl)) ?_ | refine im_cons rfl (im_agg1 (.nil)) ?_ | refine im_cons rfl (im_agg1 (.nils)) ?_)); done)); rintro r os0 ⟨rfl, rfl⟩; try simp only [List.nil_append, List.cons_append, List.set_cons_zero, List.set_cons_succ, List.length_cons, List.length_nil, Nat.reduceAdd, AV.sh, AV.sh1, AV.sh0, AO.sh, List.map_cons, List.map_nil, Nat.zero_add, Nat.add_zero, setAll])
  | ((first | apply w_lss | apply w_leq | apply w_gtr | apply w_geq | apply w_eql | apply w_neq | apply w_add | apply w_sub | apply w_mul | apply w_idx | apply w_ld | apply w_fld | apply w_fa | apply w_extv | apply w_min | apply w_max | apply w_slhi | apply w_sllo | apply w_bs2); iterate 3 exact rfl)
  | ((first | apply w_eqlb | apply w_neqb | apply w_idxs | apply w_lds | apply w_ext); iterate 3 exact rfl)
  | (apply w_rem; exact rfl; exact rfl; exact rfl; (focus (omega; done)); (focus (omega; done)))
  | (apply w_quo; exact rfl; exact rfl; exact rfl; (focus (omega; done)); (focus (omega; done)))
  | (apply w_remT; exact rfl; exact rfl; exact rfl)
  | (apply w_quoT; exact rfl; exact rfl; exact rfl)
  | ((first | apply w_not | apply w_neg | apply w_conv | apply w_build0 | apply w_bs1 | apply w_boxa); iterate 2 exact rfl)
  | (apply w_idxo; exact rfl; exact rfl; (first | exact .sli rfl | exact .sls rfl | exact .slr rfl); exact rfl)
  | ((first | apply w_idxr | apply w_ldr); iterate 4 exact rfl)
  | (apply w_ldo; iterate 4 exact rfl)
  | (apply w_ldls; iterate 4 exact rfl)
  | (apply w_ldrp; iterate 4 exact rfl)
  | (apply w_ldb; iterate 5 exact rfl)
  | (apply w_ldst; iterate 5 exact rfl)
  | ((first | apply w_sllh | apply w_stbi); iterate 4 exact rfl)
  | ((first | apply w_oslo | apply w_oshi | apply w_stbii); iterate 4 exact rfl)
  | (apply w_build1; exact rfl; exact rfl; (first | exact one_val rfl rfl | exact one_ints | exact one_intss | exact one_own rfl True.intro))
  | (apply w_build2; exact rfl; exact rfl; exact rfl; (first | exact one_val rfl rfl | exact one_ints | exact one_intss | exact one_own rfl True.intro); (first | exact one_val rfl rfl | exact one_ints | exact one_intss | exact one_own rfl True.intro))
  | (apply w_bs0; iterate 1 exact rfl)
  | (apply w_appn; exact rfl; exact rfl; (first | exact .ints _ | exact .sli rfl | exact .orow rfl | exact .nil | exact .osub rfl (by simp; omega)); exact rfl)
  | (apply w_app; exact rfl; exact rfl; exact rfl; exact rfl; (first | exact .ints _ | exact .sli rfl | exact .orow rfl | exact .nil | exact .osub rfl (by simp; omega)); rotate_left 1; simp only [Env.mp, List.map_cons, List.map_nil, List.set_cons_zero, List.set_cons_succ, AV.kill, AV.kill1, AO.kill, AV.noRow, AV.noRow1, AO.via, reduceIte, Nat.reduceEqDiff, Nat.reduceLT, Env.up, Nat.zero_ne_one, Nat.one_ne_zero, Nat.reduceAdd, List.cons_append, List.nil_append]; rotate_left 1)
  | (apply w_alst; iterate 2 exact rfl)
  | (apply w_alone; iterate 3 exact rfl)
  | (apply w_sti; exact rfl; exact rfl; rotate_left 1; exact rfl; rotate_left 2)
  | (apply w_stst; iterate 5 exact rfl)
  | (apply w_stbv; iterate 6 exact rfl)
  | (apply w_stbo; exact rfl; exact rfl; exact rfl; exact rfl; exact rfl; exact True.intro)
  | ((apply AOps.splitB; exact rfl; exact rfl) <;> intro h)
  | apply AllOf.nil
  | (apply AllOf.cons; exact rfl)
  | (apply AAny.take; exact rfl; exact rfl; kernel_rfl; kernel_rfl)
  | (apply AAny.all; exact rfl)
  | (apply AAny.done; exact rfl)
  | (apply inI_of <;> omega)
  | omega
  | (simp <;> omega))
    refine w_sortst0 rfl rfl rfl ?_
    repeat' (first
  | (apply AOps.nil; try simp only [List.nil_append, List.cons_append, List.set_cons_zero, List.set_cons_succ, List.length_cons, List.length_nil, Nat.reduceAdd, AV.sh, AV.sh1, AV.sh0, AO.sh, List.map_cons, List.map_nil, Nat.zero_add, Nat.add_zero, setAll])
  | ((apply AOps.splitP; exact rfl; exact rfl) <;> intro h)
  | ((apply AOps.splitN; exact rfl; exact rfl) <;> intro h)
  | (apply w_move; exact rfl; exact rfl)
  | (apply w_assign; exact rfl; exact rfl)
  | apply AWp.seq
  | apply AWp.region
  | ((apply AWp.condP; exact rfl) <;> intro h)
  | ((apply AWp.condN; exact rfl) <;> intro h)
  | (apply AWp.condT; exact rfl)
  | (apply AWp.condF; exact rfl)
  | ((apply AWp.condB; exact rfl) <;> intro h)
  | apply AWp.block
  | apply AWp.ret
  | apply AWp.exit
  | apply AWp.skip
  | (apply AWp.regionQ; kernel_rfl; kernel_rfl)
  | (apply if_pos'; exact rfl)
  | (apply if_neg'; decide)
  | (apply w_skip; exact rfl)
  | (apply w_pickT; exact rfl; exact rfl; exact rfl)
  | (apply w_pickF; exact rfl; exact rfl; exact rfl)
  | (apply w_len; exact rfl; exact rfl; first | exact .ints _ | exact .intss _ | exact .sli rfl | exact .sls rfl | exact .slr rfl | exact .orow rfl | exact .nil)
  | ((first | apply w_lss | apply w_leq | apply w_gtr | apply w_geq | apply w_eql | apply w_neq | apply w_add | apply w_sub | apply w_mul | apply w_idx | apply w_ld | apply w_fld | apply w_fa | apply w_extv | apply w_min | apply w_max | apply w_slhi | apply w_sllo | apply w_bs2); iterate 3 exact rfl)
  | ((first | apply w_eqlb | apply w_neqb | apply w_idxs | apply w_lds | apply w_ext); iterate 3 exact rfl)
  | (apply w_rem; exact rfl; exact rfl; exact rfl; (focus (omega; done)); (focus (omega; done)))
  | (apply w_quo; exact rfl; exact rfl; exact rfl; (focus (omega; done)); (focus (omega; done)))
  | (apply w_remT; exact rfl; exact rfl; exact rfl)
  | (apply w_quoT; exact rfl; exact rfl; exact rfl)
  | ((first | apply w_not | apply w_neg | apply w_conv | apply w_build0 | apply w_bs1 | apply w_boxa); iterate 2 exact rfl)
  | (apply w_idxo; exact rfl; exact rfl; (first | exact .sli rfl | exact .sls rfl | exact .slr rfl); exact rfl)
  | ((first | apply w_idxr | apply w_ldr); iterate 4 exact rfl)
  | (apply w_ldo; iterate 4 exact rfl)
  | (apply w_ldls; iterate 4 exact rfl)
  | (apply w_ldrp; iterate 4 exact rfl)
  | (apply w_ldb; iterate 5 exact rfl)
  | (apply w_ldst; iterate 5 exact rfl)
  | ((first | apply w_sllh | apply w_stbi); iterate 4 exact rfl)
  | ((first | apply w_oslo | apply w_oshi | apply w_stbii); iterate 4 exact rfl)
  | (apply w_build1; exact rfl; exact rfl; (first | exact one_val rfl rfl | exact one_ints | exact one_intss | exact one_own rfl True.intro))
  | (apply w_build2; exact rfl; exact rfl; exact rfl; (first | exact one_val rfl rfl | exact one_ints | exact one_intss | exact one_own rfl True.intro); (first | exact one_val rfl rfl | exact one_ints | exact one_intss | exact one_own rfl True.intro))
  | (apply w_bs0; iterate 1 exact rfl)
  | (apply w_appn; exact rfl; exact rfl; (first | exact .ints _ | exact .sli rfl | exact .orow rfl | exact .nil | exact .osub rfl (by simp; omega)); exact rfl)
  | (apply w_app; exact rfl; exact rfl; exact rfl; exact rfl; (first | exact .ints _ | exact .sli rfl | exact .orow rfl | exact .nil | exact .osub rfl (by simp; omega)); rotate_left 1; simp only [Env.mp, List.map_cons, List.map_nil, List.set_cons_zero, List.set_cons_succ, AV.kill, AV.kill1, AO.kill, AV.noRow, AV.noRow1, AO.via, reduceIte, Nat.reduceEqDiff, Nat.reduceLT, Env.up, Nat.zero_ne_one, Nat.one_ne_zero, Nat.reduceAdd, List.cons_append, List.nil_append]; rotate_left 1)
  | (apply w_alst; iterate 2 exact rfl)
  | (apply w_alone; iterate 3 exact rfl)
  | (apply w_sti; exact rfl; exact rfl; rotate_left 1; exact rfl; rotate_left 2)
  | (apply w_stst; iterate 5 exact rfl)
  | (apply w_stbv; iterate 6 exact rfl)
  | (apply w_stbo; exact rfl; exact rfl; exact rfl; exact rfl; exact rfl; exact True.intro)
  | ((apply AOps.splitB; exact rfl; exact rfl) <;> intro h)
  | apply AllOf.nil
  | (apply AllOf.cons; exact rfl)
  | (apply AAny.take; exact rfl; exact rfl; kernel_rfl; kernel_rfl)
  | (apply AAny.all; exact rfl)
  | (apply AAny.done; exact rfl)
  | (apply inI_of <;> omega)
  | omega
  | (simp <;> omega))
    refine w_bsx0 0 rfl ?_
    try simp only [List.nil_append, List.cons_append, List.set_cons_zero, List.set_cons_succ, List.length_cons, List.length_nil, Nat.reduceAdd, AV.sh, AV.sh1, AV.sh0, AO.sh, List.map_cons, List.map_nil, Nat.zero_add, Nat.add_zero, setAll]
    repeat' (first
  | (apply AOps.nil; try simp only [List.nil_append, List.cons_append, List.set_cons_zero, List.set_cons_succ, List.length_cons, List.length_nil, Nat.reduceAdd, AV.sh, AV.sh1, AV.sh0, AO.sh, List.map_cons, List.map_nil, Nat.zero_add, Nat.add_zero, setAll])
  | ((apply AOps.splitP; exact rfl; exact rfl) <;> intro h)
  | ((apply AOps.splitN; exact rfl; exact rfl) <;> intro h)
  | (apply w_move; exact rfl; exact rfl)
  | (apply w_assign; exact rfl; exact rfl)
  | apply AWp.seq
  | apply AWp.region
  | ((apply AWp.condP; exact rfl) <;> intro h)
  | ((apply AWp.condN; exact rfl) <;> intro h)
  | (apply AWp.condT; exact rfl)
  | (apply AWp.condF; exact rfl)
  | ((apply AWp.condB; exact rfl) <;> intro h)
  | apply AWp.block
  | apply AWp.ret
  | apply AWp.exit
  | apply AWp.skip
  | (apply AWp.regionQ; kernel_rfl; kernel_rfl)
  | (apply if_pos'; exact rfl)
  | (apply if_neg'; decide)
  | (apply w_skip; exact rfl)
  | (apply w_pickT; exact rfl; exact rfl; exact rfl)
  | (apply w_pickF; exact rfl; exact rfl; exact rfl)
  | (apply w_len; exact rfl; exact rfl; first | exact .ints _ | exact .intss _ | exact .sli rfl | exact .sls rfl | exact .slr rfl | exact .orow rfl | exact .nil)
  | ((first | apply w_lss | apply w_leq | apply w_gtr | apply w_geq | apply w_eql | apply w_neq | apply w_add | apply w_sub | apply w_mul | apply w_idx | apply w_ld | apply w_fld | apply w_fa | apply w_extv | apply w_min | apply w_max | apply w_slhi | apply w_sllo | apply w_bs2); iterate 3 exact rfl)
  | ((first | apply w_eqlb | apply w_neqb | apply w_idxs | apply w_lds | apply w_ext); iterate 3 exact rfl)
  | (apply w_rem; exact rfl; exact rfl; exact rfl; (focus (omega; done)); (focus (omega; done)))
  | (apply w_quo; exact rfl; exact rfl; exact rfl; (focus (omega; done)); (focus (omega; done)))
  | (apply w_remT; exact rfl; exact rfl; exact rfl)
  | (apply w_quoT; exact rfl; exact rfl; exact rfl)
  | ((first | apply w_not | apply w_neg | apply w_conv | apply w_build0 | apply w_bs1 | apply w_boxa); iterate 2 exact rfl)
  | (apply w_idxo; exact rfl; exact rfl; (first | exact .sli rfl | exact .sls rfl | exact .slr rfl); exact rfl)
  | ((first | apply w_idxr | apply w_ldr); iterate 4 exact rfl)
  | (apply w_ldo; iterate 4 exact rfl)
  | (apply w_ldls; iterate 4 exact rfl)
  | (apply w_ldrp; iterate 4 exact rfl)
  | (apply w_ldb; iterate 5 exact rfl)
  | (apply w_ldst; iterate 5 exact rfl)
  | ((first | apply w_sllh | apply w_stbi); iterate 4 exact rfl)
  | ((first | apply w_oslo | apply w_oshi | apply w_stbii); iterate 4 exact rfl)
  | (apply w_build1; exact rfl; exact rfl; (first | exact one_val rfl rfl | exact one_ints | exact one_intss | exact one_own rfl True.intro))
  | (apply w_build2; exact rfl; exact rfl; exact rfl; (first | exact one_val rfl rfl | exact one_ints | exact one_intss | exact one_own rfl True.intro); (first | exact one_val rfl rfl | exact one_ints | exact one_intss | exact one_own rfl True.intro))
  | (apply w_bs0; iterate 1 exact rfl)
  | (apply w_appn; exact rfl; exact rfl; (first | exact .ints _ | exact .sli rfl | exact .orow rfl | exact .nil | exact .osub rfl (by simp; omega)); exact rfl)
  | (apply w_app; exact rfl; exact rfl; exact rfl; exact rfl; (first | exact .ints _ | exact .sli rfl | exact .orow rfl | exact .nil | exact .osub rfl (by simp; omega)); rotate_left 1; simp only [Env.mp, List.map_cons, List.map_nil, List.set_cons_zero, List.set_cons_succ, AV.kill, AV.kill1, AO.kill, AV.noRow, AV.noRow1, AO.via, reduceIte, Nat.reduceEqDiff, Nat.reduceLT, Env.up, Nat.zero_ne_one, Nat.one_ne_zero, Nat.reduceAdd, List.cons_append, List.nil_append]; rotate_left 1)
  | (apply w_alst; iterate 2 exact rfl)
  | (apply w_alone; iterate 3 exact rfl)
  | (apply w_sti; exact rfl; exact rfl; rotate_left 1; exact rfl; rotate_left 2)
  | (apply w_stst; iterate 5 exact rfl)
  | (apply w_stbv; iterate 6 exact rfl)
  | (apply w_stbo; exact rfl; exact rfl; exact rfl; exact rfl; exact rfl; exact True.intro)
  | ((apply AOps.splitB; exact rfl; exact rfl) <;> intro h)
  | apply AllOf.nil
  | (apply AllOf.cons; exact rfl)
  | (apply AAny.take; exact rfl; exact rfl; kernel_rfl; kernel_rfl)
  | (apply AAny.all; exact rfl)
  | (apply AAny.done; exact rfl)
  | (apply inI_of <;> omega)
  | omega
  | (simp <;> omega))
    refine AWp.loop (ι := Unit) (fun x => ⟨65, [(4, .own 1), (13, .own 0), (14, .i 0), (15, .i 0)]⟩) (fun x => [.sls 38 2 [], .slr 38 (([] : List Nat).map (AV.orow 0))]) (fun x => True) (fun x => 0) () trivial ⟨lee rfl (by (repeat (first | exact le_nil | refine le_eq rfl rfl ?_ | refine le_eq rfl (congrArg AV.i (by omega)) ?_))), by (repeat (first | exact lo_nil | refine lo_dead ?_ | refine lo_eq rfl ?_)), rfl, rfl⟩ ?_
    rintro _ _
    refine AWp.merge (p := 1) (k := 0) (idx := []) rfl rfl List.nodup_nil ?_
    simp only [Env.mp, List.map_cons, List.map_nil, List.set_cons_zero, List.set_cons_succ, AV.kill, AV.kill1, AO.kill, AV.noRow, AV.noRow1, AO.via, reduceIte, Nat.reduceEqDiff, Nat.reduceLT, Env.up, Nat.zero_ne_one, Nat.one_ne_zero, Nat.reduceAdd, List.cons_append, List.nil_append]
    repeat' (first
  | (apply AOps.nil; try simp only [List.nil_append, List.cons_append, List.set_cons_zero, List.set_cons_succ, List.length_cons, List.length_nil, Nat.reduceAdd, AV.sh, AV.sh1, AV.sh0, AO.sh, List.map_cons, List.map_nil, Nat.zero_add, Nat.add_zero, setAll])
  | ((apply AOps.splitP; exact rfl; exact rfl) <;> intro h)
  | ((apply AOps.splitN; exact rfl; exact rfl) <;> intro h)
  | (apply w_move; exact rfl; exact rfl)
  | (apply w_assign; exact rfl; exact rfl)
  | apply AWp.seq
  | apply AWp.region
  | ((apply AWp.condP; exact rfl) <;> intro h)
  | ((apply AWp.condN; exact rfl) <;> intro h)
  | (apply AWp.condT; exact rfl)
  | (apply AWp.condF; exact rfl)
  | ((apply AWp.condB; exact rfl) <;> intro h)
  | apply AWp.block
  | apply AWp.ret
  | apply AWp.exit
  | apply AWp.skip
  | (apply AWp.regionQ; kernel_rfl; kernel_rfl)
  | (apply if_pos'; exact rfl)
  | (apply if_neg'; decide)
  | (apply w_skip; exact rfl)
  | (apply w_pickT; exact rfl; exact rfl; exact rfl)
  | (apply w_pickF; exact rfl; exact rfl; exact rfl)
  | (apply w_len; exact rfl; exact rfl; first | exact .ints _ | exact .intss _ | exact .sli rfl | exact .sls rfl | exact .slr rfl | exact .orow rfl | exact .nil)
  | omega
  | ((first | apply w_lss | apply w_leq | apply w_gtr | apply w_geq | apply w_eql | apply w_neq | apply w_add | apply w_sub | apply w_mul | apply w_idx | apply w_ld | apply w_fld | apply w_fa | apply w_extv | apply w_min | apply w_max | apply w_slhi | apply w_sllo | apply w_bs2); iterate 3 exact rfl)
  | ((first | apply w_eqlb | apply w_neqb | apply w_idxs | apply w_lds | apply w_ext); iterate 3 exact rfl)
  | (apply w_rem; exact rfl; exact rfl; exact rfl; (focus (omega; done)); (focus (omega; done)))
  | (apply w_quo; exact rfl; exact rfl; exact rfl; (focus (omega; done)); (focus (omega; done)))
  | (apply w_remT; exact rfl; exact rfl; exact rfl)
  | (apply w_quoT; exact rfl; exact rfl; exact rfl)
  | ((first | apply w_not | apply w_neg | apply w_conv | apply w_build0 | apply w_bs1 | apply w_boxa); iterate 2 exact rfl)
  | (apply w_idxo; exact rfl; exact rfl; (first | exact .sli rfl | exact .sls rfl | exact .slr rfl); exact rfl)
  | ((first | apply w_idxr | apply w_ldr); iterate 4 exact rfl)
  | (apply w_ldo; iterate 4 exact rfl)
  | (apply w_ldls; iterate 4 exact rfl)
  | (apply w_ldrp; iterate 4 exact rfl)
  | (apply w_ldb; iterate 5 exact rfl)
  | (apply w_ldst; iterate 5 exact rfl)
  | ((first | apply w_sllh | apply w_stbi); iterate 4 exact rfl)
  | ((first | apply w_oslo | apply w_oshi | apply w_stbii); iterate 4 exact rfl)
  | (apply w_build1; exact rfl; exact rfl; (first | exact one_val rfl rfl | exact one_ints | exact one_intss | exact one_own rfl True.intro))
  | (apply w_build2; exact rfl; exact rfl; exact rfl; (first | exact one_val rfl rfl | exact one_ints | exact one_intss | exact one_own rfl True.intro); (first | exact one_val rfl rfl | exact one_ints | exact one_intss | exact one_own rfl True.intro))
  | (apply w_bs0; iterate 1 exact rfl)
  | (apply w_appn; exact rfl; exact rfl; (first | exact .ints _ | exact .sli rfl | exact .orow rfl | exact .nil | exact .osub rfl (by simp; omega)); exact rfl)
  | (apply w_app; exact rfl; exact rfl; exact rfl; exact rfl; (first | exact .ints _ | exact .sli rfl | exact .orow rfl | exact .nil | exact .osub rfl (by simp; omega)); rotate_left 1; simp only [Env.mp, List.map_cons, List.map_nil, List.set_cons_zero, List.set_cons_succ, AV.kill, AV.kill1, AO.kill, AV.noRow, AV.noRow1, AO.via, reduceIte, Nat.reduceEqDiff, Nat.reduceLT, Env.up, Nat.zero_ne_one, Nat.one_ne_zero, Nat.reduceAdd, List.cons_append, List.nil_append]; rotate_left 1)
  | (apply w_alst; iterate 2 exact rfl)
  | (apply w_alone; iterate 3 exact rfl)
  | (apply w_sti; exact rfl; exact rfl; rotate_left 1; exact rfl; rotate_left 2)
  | (apply w_stst; iterate 5 exact rfl)
  | (apply w_stbv; iterate 6 exact rfl)
  | (apply w_stbo; exact rfl; exact rfl; exact rfl; exact rfl; exact rfl; exact True.intro)
  | ((apply AOps.splitB; exact rfl; exact rfl) <;> intro h)
  | apply AllOf.nil
  | (apply AllOf.cons; exact rfl)
  | (apply AAny.take; exact rfl; exact rfl; kernel_rfl; kernel_rfl)
  | (apply AAny.all; exact rfl)
  | (apply AAny.done; exact rfl)
  | (apply inI_of <;> omega)
  | omega
  | (simp <;> omega))
    exact ⟨_, _, _, .v1 Try.results54 rfl, .sls rfl, [], JI.nil.join, rfl, rfl⟩
end Go.Proofs.Ythlfdhooiekgjaa
/-
  Own slices whose cells are rows that are only read. No condition.
-/
namespace Go.Proofs.Ythlfdhooiekgjaa
open Go Go.RowKit

section
variable {P : Program} {env : Env} {os : List AO} {d : Option Tmp} {ty : TypeId} {pos : String} {af : Array Edge} {g : Option (Nat × Bool)} {wl : Bool}

end

section
variable {P : Program} {env : Env} {os : List AO} {d : Tmp} {ty : TypeId} {pos : String} {af : Array Edge} {g : Option (Nat × Bool)} {l rest : List Oper} {K : APost} {q : Md}
end
end Go.Proofs.Ythlfdhooiekgjaa
/-
  The points of a chain, walked; limited points; the reference's polygon of edges. Condition: numbers of moderate size.
-/
namespace Go.Proofs.Ythlfdhooiekgjaa
open Go Go.RowKit
attribute [local irreducible] AWp AOps ResIs Ret1 QOp LOp COp AFnV AFn Imms LeE LeO
set_option maxHeartbeats 1000000
set_option linter.unusedSimpArgs false
set_option linter.unusedVariables false

theorem geti_p0 (a b : Int) : geti [a, b] 0 = a := rfl
theorem geti_p1 (a b : Int) : geti [a, b] 1 = b := rfl
set_option maxHeartbeats 4000000 in
theorem verticesFrom_c (p : List Int) (L : List (List Int)) (hp : p.length = 2) (hn : L.length ≤ 100000) (hL : ∀ l ∈ L, l.length = 2) (hb : ∀ q ∈ vfP p L, (0 ≤ geti q 0 ∧ geti q 0 ≤ 100000) ∧ (0 ≤ geti q 1 ∧ geti q 1 ≤ 100000)) :
    AFn Try.prog 53 [.ints p, .intss L] (IsIntss 38 2 (vfP p L)) := by
  have hcl := clone_c p (by omega) (by omega)
  have hlen := vfP_len L p
  have e0 : (vfP p L).take 1 = [p] := by
    obtain ⟨r, hr⟩ := vfP_ne p L
    rw [hr]; rfl
  (refine AFn.start Try.func53 Try.ntmps53 rfl (by kernel_rfl) fun hk => ?_; simp only [Env.start, enumF, List.length_cons, List.length_nil, Nat.reduceAdd, Nat.reduceSub, List.cons_append, List.nil_append])
  repeat' (first
  | (apply AOps.nil; try simp only [List.nil_append, List.cons_append, List.set_cons_zero, List.set_cons_succ, List.length_cons, List.length_nil, Nat.reduceAdd, AV.sh, AV.sh1, AV.sh0, AO.sh, List.map_cons, List.map_nil, Nat.zero_add, Nat.add_zero, setAll])
  | ((apply AOps.splitP; exact rfl; exact rfl) <;> intro h)
  | ((apply AOps.splitN; exact rfl; exact rfl) <;> intro h)
  | (apply w_move; exact rfl; exact rfl)
  | (apply w_assign; exact rfl; exact rfl)
  | apply AWp.seq
  | apply AWp.region
  | ((apply AWp.condP; exact rfl) <;> intro h)
  | ((apply AWp.condN; exact rfl) <;> intro h)
  | (apply AWp.condT; exact rfl)
  | (apply AWp.condF; exact rfl)
  | ((apply AWp.condB; exact rfl) <;> intro h)
  | apply AWp.block
  | apply AWp.ret
  | apply AWp.exit
  | apply AWp.skip
  | (apply if_pos'; exact rfl)
  | (apply if_neg'; decide)
  | (apply w_skip; exact rfl)
  | (apply w_pickT; exact rfl; exact rfl; exact rfl)
  | (apply w_pickF; exact rfl; exact rfl; exact rfl)
  | (apply w_len; exact rfl; exact rfl; first | exact .ints _ | exact .intss _ | exact .sli rfl | exact .sls rfl | exact .slr rfl | exact .orow rfl | exact .nil)
  | (apply w_bsr1s; exact rfl; exact rfl; exact rfl; exact rfl; simp only [Env.mp, List.map_cons, List.map_nil, List.set_cons_zero, List.set_cons_succ, AV.kill, AV.kill1, AO.kill, AV.rin, AV.rin1, AV.noRow, AV.noRow1, AO.via, reduceIte, Nat.reduceEqDiff, Nat.reduceLT, Env.up, Nat.zero_ne_one, Nat.one_ne_zero, Nat.reduceAdd, List.cons_append, List.nil_append])
  | (apply w_callm (hcl); (focus ((repeat (first | exact im_nil | refine im_cons rfl (.val _) ?_ | refine im_cons rfl (.ints _) ?_ | refine im_cons rfl (.intss _) ?_ | refine im_cons rfl (.sli rfl) ?_ | refine im_cons rfl (.sls rfl) ?_ | refine im_cons rfl (.orow rfl) ?_ | refine im_cons rfl (.osub rfl (by simp; omega)) ?_ | refine im_cons rfl (.nil) ?_ | refine im_cons rfl (.nils) ?_ | refine im_cons rfl (im_agg2 (.val _) (.ints _)) ?_ | refine im_cons rfl (im_agg2 (.val _) (.sli rfl)) ?_ | refine im_cons rfl (im_agg2 (.val _) (.nil)) ?_ | refine im_cons rfl (im_agg2 (.ints _) (.intss _)) ?_ | refine im_cons rfl (im_agg2 (.ints _) (.sls rfl)) ?_ | refine im_cons rfl (im_agg2 (.sli rfl) (.intss _)) ?_ | refine im_cons rfl (im_agg2 (.sli rfl) (.sls rfl)) ?_ | refine im_cons rfl (im_agg1 (.ints _)) ?_ | refine im_cons rfl (im_agg1 (.sli rfl)) ?_ | refine im_cons rfl (im_agg1 (.intss _)) ?_ | refine im_cons rfl (im_agg1 (.sls rfl)) ?_ | refine im_cons rfl (im_agg1 (.nil)) ?_ | refine im_cons rfl (im_agg1 (.nils)) ?_)); done)); rintro r os0 ⟨rfl, rfl⟩; try simp only [List.nil_append, List.cons_append, List.set_cons_zero, List.set_cons_succ, List.length_cons, List.length_nil, Nat.reduceAdd, AV.sh, AV.sh1, AV.sh0, AO.sh, List.map_cons, List.map_nil, Nat.zero_add, Nat.add_zero, setAll])
  | ((first | apply w_lss | apply w_leq | apply w_gtr | apply w_geq | apply w_eql | apply w_neq | apply w_add | apply w_sub | apply w_mul | apply w_idx | apply w_ld | apply w_fld | apply w_fa | apply w_extv | apply w_min | apply w_max | apply w_slhi | apply w_sllo | apply w_bs2); iterate 3 exact rfl)
  | ((first | apply w_eqlb | apply w_neqb | apply w_idxs | apply w_lds | apply w_ext); iterate 3 exact rfl)
  | (apply w_rem; exact rfl; exact rfl; exact rfl; (focus (omega; done)); (focus (omega; done)))
  | (apply w_quo; exact rfl; exact rfl; exact rfl; (focus (omega; done)); (focus (omega; done)))
  | (apply w_remT; exact rfl; exact rfl; exact rfl)
  | (apply w_quoT; exact rfl; exact rfl; exact rfl)
  | ((first | apply w_not | apply w_neg | apply w_conv | apply w_build0 | apply w_bs1 | apply w_boxa); iterate 2 exact rfl)
  | (apply w_idxo; exact rfl; exact rfl; (first | exact .sli rfl | exact .sls rfl | exact .slr rfl); exact rfl)
  | ((first | apply w_idxr | apply w_ldr); iterate 4 exact rfl)
  | (apply w_ldo; iterate 4 exact rfl)
  | (apply w_ldls; iterate 4 exact rfl)
  | (apply w_ldrp; iterate 4 exact rfl)
  | (apply w_ldb; iterate 5 exact rfl)
  | (apply w_ldst; iterate 5 exact rfl)
  | ((first | apply w_sllh | apply w_stbi); iterate 4 exact rfl)
  | ((first | apply w_oslo | apply w_oshi | apply w_stbii); iterate 4 exact rfl)
  | (apply w_build1; exact rfl; exact rfl; (first | exact one_val rfl rfl | exact one_ints | exact one_intss | exact one_own rfl True.intro))
  | (apply w_build2; exact rfl; exact rfl; exact rfl; (first | exact one_val rfl rfl | exact one_ints | exact one_intss | exact one_own rfl True.intro); (first | exact one_val rfl rfl | exact one_ints | exact one_intss | exact one_own rfl True.intro))
  | (apply w_bs0; iterate 1 exact rfl)
  | (apply w_appn; exact rfl; exact rfl; (first | exact .ints _ | exact .sli rfl | exact .orow rfl | exact .nil | exact .osub rfl (by simp; omega)); exact rfl)
  | (apply w_app; exact rfl; exact rfl; exact rfl; exact rfl; (first | exact .ints _ | exact .sli rfl | exact .orow rfl | exact .nil | exact .osub rfl (by simp; omega)); rotate_left 1; simp only [Env.mp, List.map_cons, List.map_nil, List.set_cons_zero, List.set_cons_succ, AV.kill, AV.kill1, AO.kill, AV.noRow, AV.noRow1, AO.via, reduceIte, Nat.reduceEqDiff, Nat.reduceLT, Env.up, Nat.zero_ne_one, Nat.one_ne_zero, Nat.reduceAdd, List.cons_append, List.nil_append]; rotate_left 1)
  | (apply w_alst; iterate 2 exact rfl)
  | (apply w_alone; iterate 3 exact rfl)
  | (apply w_sti; exact rfl; exact rfl; rotate_left 1; exact rfl; rotate_left 2)
  | (apply w_stst; iterate 5 exact rfl)
  | (apply w_stbv; iterate 6 exact rfl)
  | (apply w_stbo; exact rfl; exact rfl; exact rfl; exact rfl; exact rfl; exact True.intro)
  | ((apply AOps.splitB; exact rfl; exact rfl) <;> intro h)
  | apply AllOf.nil
  | (apply AllOf.cons; exact rfl)
  | (apply AAny.take; exact rfl; exact rfl; kernel_rfl; kernel_rfl)
  | (apply AAny.all; exact rfl)
  | (apply AAny.done; exact rfl)
  | (apply inI_of <;> omega)
  | omega
  | (simp <;> omega))
  refine AWp.loop (ι := Nat) (fun n => ⟨44, [(5, .own 1), (12, .intss L), (13, .i L.length), (14, .i n)]⟩) (fun n => [.dead, .sls 38 2 ((vfP p L).take (n + 1))]) (fun n => n ≤ L.length) (fun n => L.length - n) 0 (by omega) (by rw [e0]; exact ⟨lee rfl (by (repeat (first | exact le_nil | refine le_eq rfl rfl ?_ | refine le_eq rfl (congrArg AV.i (by omega)) ?_))), by (repeat (first | exact lo_nil | refine lo_dead ?_ | refine lo_eq rfl ?_)), rfl, rfl⟩) ?_
  rintro n n0
  have hk : ((vfP p L).take (n + 1)).length = n + 1 := by rw [List.length_take]; omega
  by_cases hlt : n < L.length
  · have hrow : (gets L (n : Nat)).length = 2 := hL _ (gets_mem (by omega) (by omega))
    have eg : gets L (n : Nat) = L.getD n [] := by simp [gets, List.getD_eq_getElem?_getD]
    have el : ((((n + 1 : Nat) : Int)) - 1).toNat = n := by omega
    have hq := hb ((vfP p L).getD n []) (by rw [List.getD_eq_getElem?_getD, List.getElem?_eq_getElem (by omega)]; exact List.getElem_mem _)
    have hq2 := hb ((vfP p L).getD (n + 1) []) (by rw [List.getD_eq_getElem?_getD, List.getElem?_eq_getElem (by omega)]; exact List.getElem_mem _)
    have hs := vfP_succ L p n hlt
    have hql : ((vfP p L).getD n []).length = 2 := vfP_row hp _ (by rw [List.getD_eq_getElem?_getD, List.getElem?_eq_getElem (by omega)]; exact List.getElem_mem _)
    have et : ((vfP p L).take (n + 1)).getD n [] = (vfP p L).getD n [] := take_gets _ _ _ (by omega)
    rw [hs] at hq2
    simp only [geti_p0, geti_p1] at hq2
    rw [← eg] at hq2 hs
    have e2 := vfP_take L p n hlt
    rw [← eg] at e2
    have hrl : (((vfP p L).take (n + 1)).getD ((((n + 1 : Nat) : Int)) - 1).toNat []).length = 2 := by rw [el, et]; exact hql
    have hkl : (((vfP p L).take (n + 1)).length : Int) = ((n + 1 : Nat) : Int) := by rw [hk]
    rw [← et] at hq hq2 e2 hql
    generalize eV : (vfP p L).take (n + 1) = V at *
    have el' : ((V.length : Int) - 1).toNat = n := by omega
    have hq' := hq
    have hql' := hql
    rw [← el'] at hq' hql'
    have hq3 : (0 ≤ geti (V.getD n []) ((Int.toNat 0 : Nat) : Int) + geti (gets L (n : Nat)) 0 ∧ geti (V.getD n []) ((Int.toNat 0 : Nat) : Int) + geti (gets L (n : Nat)) 0 ≤ 100000) ∧ (0 ≤ geti (V.getD n []) ((Int.toNat 1 : Nat) : Int) - geti (gets L (n : Nat)) 1 ∧ geti (V.getD n []) ((Int.toNat 1 : Nat) : Int) - geti (gets L (n : Nat)) 1 ≤ 100000) := hq2
    repeat' (first
  | (apply AOps.nil; try simp only [List.nil_append, List.cons_append, List.set_cons_zero, List.set_cons_succ, List.length_cons, List.length_nil, Nat.reduceAdd, AV.sh, AV.sh1, AV.sh0, AO.sh, List.map_cons, List.map_nil, Nat.zero_add, Nat.add_zero, setAll])
  | ((apply AOps.splitP; exact rfl; exact rfl) <;> intro h)
  | ((apply AOps.splitN; exact rfl; exact rfl) <;> intro h)
  | (apply w_move; exact rfl; exact rfl)
  | (apply w_assign; exact rfl; exact rfl)
  | apply AWp.seq
  | apply AWp.region
  | ((apply AWp.condP; exact rfl) <;> intro h)
  | ((apply AWp.condN; exact rfl) <;> intro h)
  | (apply AWp.condT; exact rfl)
  | (apply AWp.condF; exact rfl)
  | ((apply AWp.condB; exact rfl) <;> intro h)
  | apply AWp.block
  | apply AWp.ret
  | apply AWp.exit
  | apply AWp.skip
  | (apply if_pos'; exact rfl)
  | (apply if_neg'; decide)
  | (apply w_skip; exact rfl)
  | (apply w_pickT; exact rfl; exact rfl; exact rfl)
  | (apply w_pickF; exact rfl; exact rfl; exact rfl)
  | (apply w_len; exact rfl; exact rfl; first | exact .ints _ | exact .intss _ | exact .sli rfl | exact .sls rfl | exact .slr rfl | exact .orow rfl | exact .nil)
  | omega
  | ((first | apply w_lss | apply w_leq | apply w_gtr | apply w_geq | apply w_eql | apply w_neq | apply w_add | apply w_sub | apply w_mul | apply w_idx | apply w_ld | apply w_fld | apply w_fa | apply w_extv | apply w_min | apply w_max | apply w_slhi | apply w_sllo | apply w_bs2); iterate 3 exact rfl)
  | ((first | apply w_eqlb | apply w_neqb | apply w_idxs | apply w_lds | apply w_ext); iterate 3 exact rfl)
  | (apply w_rem; exact rfl; exact rfl; exact rfl; (focus (omega; done)); (focus (omega; done)))
  | (apply w_quo; exact rfl; exact rfl; exact rfl; (focus (omega; done)); (focus (omega; done)))
  | (apply w_remT; exact rfl; exact rfl; exact rfl)
  | (apply w_quoT; exact rfl; exact rfl; exact rfl)
  | ((first | apply w_not | apply w_neg | apply w_conv | apply w_build0 | apply w_bs1 | apply w_boxa); iterate 2 exact rfl)
  | (apply w_idxo; exact rfl; exact rfl; (first | exact .sli rfl | exact .sls rfl | exact .slr rfl); exact rfl)
  | ((first | apply w_idxr | apply w_ldr); iterate 4 exact rfl)
  | (apply w_ldo; iterate 4 exact rfl)
  | (apply w_ldls; iterate 4 exact rfl)
  | (apply w_ldrp; iterate 4 exact rfl)
  | (apply w_ldb; iterate 5 exact rfl)
  | (apply w_ldst; iterate 5 exact rfl)
  | ((first | apply w_sllh | apply w_stbi); iterate 4 exact rfl)
  | ((first | apply w_oslo | apply w_oshi | apply w_stbii); iterate 4 exact rfl)
  | (apply w_build1; exact rfl; exact rfl; (first | exact one_val rfl rfl | exact one_ints | exact one_intss | exact one_own rfl True.intro))
  | (apply w_build2; exact rfl; exact rfl; exact rfl; (first | exact one_val rfl rfl | exact one_ints | exact one_intss | exact one_own rfl True.intro); (first | exact one_val rfl rfl | exact one_ints | exact one_intss | exact one_own rfl True.intro))
  | (apply w_bs0; iterate 1 exact rfl)
  | (apply w_appn; exact rfl; exact rfl; (first | exact .ints _ | exact .sli rfl | exact .orow rfl | exact .nil | exact .osub rfl (by simp; omega)); exact rfl)
  | (apply w_app; exact rfl; exact rfl; exact rfl; exact rfl; (first | exact .ints _ | exact .sli rfl | exact .orow rfl | exact .nil | exact .osub rfl (by simp; omega)); rotate_left 1; simp only [Env.mp, List.map_cons, List.map_nil, List.set_cons_zero, List.set_cons_succ, AV.kill, AV.kill1, AO.kill, AV.noRow, AV.noRow1, AO.via, reduceIte, Nat.reduceEqDiff, Nat.reduceLT, Env.up, Nat.zero_ne_one, Nat.one_ne_zero, Nat.reduceAdd, List.cons_append, List.nil_append]; rotate_left 1)
  | (apply w_alst; iterate 2 exact rfl)
  | (apply w_alone; iterate 3 exact rfl)
  | (apply w_sti; exact rfl; exact rfl; rotate_left 1; exact rfl; rotate_left 2)
  | (apply w_stst; iterate 5 exact rfl)
  | (apply w_stbv; iterate 6 exact rfl)
  | (apply w_stbo; exact rfl; exact rfl; exact rfl; exact rfl; exact rfl; exact True.intro)
  | ((apply AOps.splitB; exact rfl; exact rfl) <;> intro h)
  | apply AllOf.nil
  | (apply AllOf.cons; exact rfl)
  | (apply AAny.take; exact rfl; exact rfl; kernel_rfl; kernel_rfl)
  | (apply AAny.all; exact rfl)
  | (apply AAny.done; exact rfl)
  | (apply inI_of <;> omega)
  | omega
  | (simp <;> omega))
    refine AWp.regionG [] (by kernel_rfl) (envC := ⟨44, [(5, .own 1), (12, .intss L), (13, .i L.length), (14, .i n)]⟩) (osC := [.dead, .sls 38 2 (V ++ [[geti (V.getD n []) 0 + geti (gets L (n : Nat)) 0, geti (V.getD n []) 1 - geti (gets L (n : Nat)) 1]])]) rfl rfl ?_ ?_
    · rw [el']
      repeat' (first
  | (apply AOps.nil; try simp only [List.nil_append, List.cons_append, List.set_cons_zero, List.set_cons_succ, List.length_cons, List.length_nil, Nat.reduceAdd, AV.sh, AV.sh1, AV.sh0, AO.sh, List.map_cons, List.map_nil, Nat.zero_add, Nat.add_zero, setAll])
  | ((apply AOps.splitP; exact rfl; exact rfl) <;> intro h)
  | ((apply AOps.splitN; exact rfl; exact rfl) <;> intro h)
  | (apply w_move; exact rfl; exact rfl)
  | (apply w_assign; exact rfl; exact rfl)
  | apply AWp.seq
  | apply AWp.region
  | ((apply AWp.condP; exact rfl) <;> intro h)
  | ((apply AWp.condN; exact rfl) <;> intro h)
  | (apply AWp.condT; exact rfl)
  | (apply AWp.condF; exact rfl)
  | ((apply AWp.condB; exact rfl) <;> intro h)
  | apply AWp.block
  | apply AWp.ret
  | apply AWp.exit
  | apply AWp.skip
  | (apply AWp.regionQ; kernel_rfl; kernel_rfl)
  | (apply if_pos'; exact rfl)
  | (apply if_neg'; decide)
  | (apply w_skip; exact rfl)
  | (apply w_pickT; exact rfl; exact rfl; exact rfl)
  | (apply w_pickF; exact rfl; exact rfl; exact rfl)
  | (apply w_len; exact rfl; exact rfl; first | exact .ints _ | exact .intss _ | exact .sli rfl | exact .sls rfl | exact .slr rfl | exact .orow rfl | exact .nil)
  | ((first | apply w_bsr0 | apply w_bs0); iterate 1 exact rfl)
  | ((first | apply w_bsr1 | apply w_lss | apply w_leq | apply w_gtr | apply w_geq | apply w_eql | apply w_neq | apply w_add | apply w_sub | apply w_mul | apply w_idx | apply w_ld | apply w_fld | apply w_fa | apply w_extv | apply w_min | apply w_max | apply w_slhi | apply w_sllo | apply w_bs2); iterate 3 exact rfl)
  | (apply w_appr; exact rfl; exact rfl; exact rfl; exact rfl; exact rfl; exact rfl; exact rfl; rotate_left 1; simp only [Env.mp, List.map_cons, List.map_nil, List.set_cons_zero, List.set_cons_succ, AV.kill, AV.kill1, AO.kill, AV.rin, AV.rin1, AV.noRow, AV.noRow1, AO.via, reduceIte, Nat.reduceEqDiff, Nat.reduceLT, Env.up, Nat.zero_ne_one, Nat.one_ne_zero, Nat.reduceAdd, List.cons_append, List.nil_append]; rotate_left 1)
  | apply AllOfG.nil
  | (apply AllOfG.consQ; exact rfl; exact rfl)
  | (apply AllOfG.consS; exact rfl; exact rfl)
  | (apply AAnyG.takeW; exact rfl; exact rfl; kernel_rfl; kernel_rfl)
  | (apply AAnyG.takeL; exact rfl; exact rfl; kernel_rfl)
  | (apply AAnyG.all; exact rfl)
  | (apply AAnyG.done; exact rfl)
  | omega
  | ((first | apply w_eqlb | apply w_neqb | apply w_idxs | apply w_lds | apply w_ext); iterate 3 exact rfl)
  | (apply w_rem; exact rfl; exact rfl; exact rfl; (focus (omega; done)); (focus (omega; done)))
  | (apply w_quo; exact rfl; exact rfl; exact rfl; (focus (omega; done)); (focus (omega; done)))
  | (apply w_remT; exact rfl; exact rfl; exact rfl)
  | (apply w_quoT; exact rfl; exact rfl; exact rfl)
  | ((first | apply w_not | apply w_neg | apply w_conv | apply w_build0 | apply w_bs1 | apply w_boxa); iterate 2 exact rfl)
  | (apply w_idxo; exact rfl; exact rfl; (first | exact .sli rfl | exact .sls rfl | exact .slr rfl); exact rfl)
  | ((first | apply w_idxr | apply w_ldr); iterate 4 exact rfl)
  | (apply w_ldo; iterate 4 exact rfl)
  | (apply w_ldls; iterate 4 exact rfl)
  | (apply w_ldrp; iterate 4 exact rfl)
  | (apply w_ldb; iterate 5 exact rfl)
  | (apply w_ldst; iterate 5 exact rfl)
  | ((first | apply w_sllh | apply w_stbi); iterate 4 exact rfl)
  | ((first | apply w_oslo | apply w_oshi | apply w_stbii); iterate 4 exact rfl)
  | (apply w_build1; exact rfl; exact rfl; (first | exact one_val rfl rfl | exact one_ints | exact one_intss | exact one_own rfl True.intro))
  | (apply w_build2; exact rfl; exact rfl; exact rfl; (first | exact one_val rfl rfl | exact one_ints | exact one_intss | exact one_own rfl True.intro); (first | exact one_val rfl rfl | exact one_ints | exact one_intss | exact one_own rfl True.intro))
  | (apply w_appn; exact rfl; exact rfl; (first | exact .ints _ | exact .sli rfl | exact .orow rfl | exact .nil | exact .osub rfl (by simp; omega)); exact rfl)
  | (apply w_app; exact rfl; exact rfl; exact rfl; exact rfl; (first | exact .ints _ | exact .sli rfl | exact .orow rfl | exact .nil | exact .osub rfl (by simp; omega)); rotate_left 1; simp only [Env.mp, List.map_cons, List.map_nil, List.set_cons_zero, List.set_cons_succ, AV.kill, AV.kill1, AO.kill, AV.noRow, AV.noRow1, AO.via, reduceIte, Nat.reduceEqDiff, Nat.reduceLT, Env.up, Nat.zero_ne_one, Nat.one_ne_zero, Nat.reduceAdd, List.cons_append, List.nil_append]; rotate_left 1)
  | (apply w_alst; iterate 2 exact rfl)
  | (apply w_alone; iterate 3 exact rfl)
  | (apply w_sti; exact rfl; exact rfl; rotate_left 1; exact rfl; rotate_left 2)
  | (apply w_stst; iterate 5 exact rfl)
  | (apply w_stbv; iterate 6 exact rfl)
  | (apply w_stbo; exact rfl; exact rfl; exact rfl; exact rfl; exact rfl; exact True.intro)
  | ((apply AOps.splitB; exact rfl; exact rfl) <;> intro h)
  | apply AllOf.nil
  | (apply AllOf.cons; exact rfl)
  | (apply AAny.take; exact rfl; exact rfl; kernel_rfl; kernel_rfl)
  | (apply AAny.all; exact rfl)
  | (apply AAny.done; exact rfl)
  | (apply inI_of <;> omega)
  | omega
  | (simp <;> omega))
      all_goals (first | (apply Or.inl; refine ⟨lee rfl ?_, ?_, rfl, rfl⟩; (focus ((repeat (first | exact le_nil | refine le_eq rfl rfl ?_ | (refine le_eq rfl (congrArg AV.i ?_) ?_; (focus (omega; done))))); done)); (focus ((repeat (first | exact lo_nil | refine lo_dead ?_ | refine lo_eq rfl ?_)); done))))
    repeat' (first
  | (apply AOps.nil; try simp only [List.nil_append, List.cons_append, List.set_cons_zero, List.set_cons_succ, List.length_cons, List.length_nil, Nat.reduceAdd, AV.sh, AV.sh1, AV.sh0, AO.sh, List.map_cons, List.map_nil, Nat.zero_add, Nat.add_zero, setAll])
  | ((apply AOps.splitP; exact rfl; exact rfl) <;> intro h)
  | ((apply AOps.splitN; exact rfl; exact rfl) <;> intro h)
  | (apply w_move; exact rfl; exact rfl)
  | (apply w_assign; exact rfl; exact rfl)
  | apply AWp.seq
  | apply AWp.region
  | ((apply AWp.condP; exact rfl) <;> intro h)
  | ((apply AWp.condN; exact rfl) <;> intro h)
  | (apply AWp.condT; exact rfl)
  | (apply AWp.condF; exact rfl)
  | ((apply AWp.condB; exact rfl) <;> intro h)
  | apply AWp.block
  | apply AWp.ret
  | apply AWp.exit
  | apply AWp.skip
  | (apply if_pos'; exact rfl)
  | (apply if_neg'; decide)
  | (apply w_skip; exact rfl)
  | (apply w_pickT; exact rfl; exact rfl; exact rfl)
  | (apply w_pickF; exact rfl; exact rfl; exact rfl)
  | (apply w_len; exact rfl; exact rfl; first | exact .ints _ | exact .intss _ | exact .sli rfl | exact .sls rfl | exact .slr rfl | exact .orow rfl | exact .nil)
  | ((first | apply w_lss | apply w_leq | apply w_gtr | apply w_geq | apply w_eql | apply w_neq | apply w_add | apply w_sub | apply w_mul | apply w_idx | apply w_ld | apply w_fld | apply w_fa | apply w_extv | apply w_min | apply w_max | apply w_slhi | apply w_sllo | apply w_bs2); iterate 3 exact rfl)
  | ((first | apply w_eqlb | apply w_neqb | apply w_idxs | apply w_lds | apply w_ext); iterate 3 exact rfl)
  | (apply w_rem; exact rfl; exact rfl; exact rfl; (focus (omega; done)); (focus (omega; done)))
  | (apply w_quo; exact rfl; exact rfl; exact rfl; (focus (omega; done)); (focus (omega; done)))
  | (apply w_remT; exact rfl; exact rfl; exact rfl)
  | (apply w_quoT; exact rfl; exact rfl; exact rfl)
  | ((first | apply w_not | apply w_neg | apply w_conv | apply w_build0 | apply w_bs1 | apply w_boxa); iterate 2 exact rfl)
  | (apply w_idxo; exact rfl; exact rfl; (first | exact .sli rfl | exact .sls rfl | exact .slr rfl); exact rfl)
  | ((first | apply w_idxr | apply w_ldr); iterate 4 exact rfl)
  | (apply w_ldo; iterate 4 exact rfl)
  | (apply w_ldls; iterate 4 exact rfl)
  | (apply w_ldrp; iterate 4 exact rfl)
  | (apply w_ldb; iterate 5 exact rfl)
  | (apply w_ldst; iterate 5 exact rfl)
  | ((first | apply w_sllh | apply w_stbi); iterate 4 exact rfl)
  | ((first | apply w_oslo | apply w_oshi | apply w_stbii); iterate 4 exact rfl)
  | (apply w_build1; exact rfl; exact rfl; (first | exact one_val rfl rfl | exact one_ints | exact one_intss | exact one_own rfl True.intro))
  | (apply w_build2; exact rfl; exact rfl; exact rfl; (first | exact one_val rfl rfl | exact one_ints | exact one_intss | exact one_own rfl True.intro); (first | exact one_val rfl rfl | exact one_ints | exact one_intss | exact one_own rfl True.intro))
  | (apply w_bs0; iterate 1 exact rfl)
  | (apply w_appn; exact rfl; exact rfl; (first | exact .ints _ | exact .sli rfl | exact .orow rfl | exact .nil | exact .osub rfl (by simp; omega)); exact rfl)
  | (apply w_app; exact rfl; exact rfl; exact rfl; exact rfl; (first | exact .ints _ | exact .sli rfl | exact .orow rfl | exact .nil | exact .osub rfl (by simp; omega)); rotate_left 1; simp only [Env.mp, List.map_cons, List.map_nil, List.set_cons_zero, List.set_cons_succ, AV.kill, AV.kill1, AO.kill, AV.noRow, AV.noRow1, AO.via, reduceIte, Nat.reduceEqDiff, Nat.reduceLT, Env.up, Nat.zero_ne_one, Nat.one_ne_zero, Nat.reduceAdd, List.cons_append, List.nil_append]; rotate_left 1)
  | (apply w_alst; iterate 2 exact rfl)
  | (apply w_alone; iterate 3 exact rfl)
  | (apply w_sti; exact rfl; exact rfl; rotate_left 1; exact rfl; rotate_left 2)
  | (apply w_stst; iterate 5 exact rfl)
  | (apply w_stbv; iterate 6 exact rfl)
  | (apply w_stbo; exact rfl; exact rfl; exact rfl; exact rfl; exact rfl; exact True.intro)
  | ((apply AOps.splitB; exact rfl; exact rfl) <;> intro h)
  | apply AllOf.nil
  | (apply AllOf.cons; exact rfl)
  | (apply AAny.take; exact rfl; exact rfl; kernel_rfl; kernel_rfl)
  | (apply AAny.all; exact rfl)
  | (apply AAny.done; exact rfl)
  | (apply inI_of <;> omega)
  | omega
  | (simp <;> omega))
    exact ⟨n + 1, by omega, by omega, ⟨lee rfl (by (repeat (first | exact le_nil | refine le_eq rfl rfl ?_ | refine le_eq rfl (congrArg AV.i (by omega)) ?_ | refine le_eq rfl (congrArg AV.i (e2)) ?_))), by (repeat (first | exact lo_nil | refine lo_dead ?_ | refine lo_eq rfl ?_ | refine lo_eq (congrArg (AO.sli _) (e2)) ?_ | refine lo_eq (congrArg (AO.sls _ _) (e2)) ?_)), rfl, rfl⟩⟩
  · repeat' (first
  | (apply AOps.nil; try simp only [List.nil_append, List.cons_append, List.set_cons_zero, List.set_cons_succ, List.length_cons, List.length_nil, Nat.reduceAdd, AV.sh, AV.sh1, AV.sh0, AO.sh, List.map_cons, List.map_nil, Nat.zero_add, Nat.add_zero, setAll])
  | ((apply AOps.splitP; exact rfl; exact rfl) <;> intro h)
  | ((apply AOps.splitN; exact rfl; exact rfl) <;> intro h)
  | (apply w_move; exact rfl; exact rfl)
  | (apply w_assign; exact rfl; exact rfl)
  | apply AWp.seq
  | apply AWp.region
  | ((apply AWp.condP; exact rfl) <;> intro h)
  | ((apply AWp.condN; exact rfl) <;> intro h)
  | (apply AWp.condT; exact rfl)
  | (apply AWp.condF; exact rfl)
  | ((apply AWp.condB; exact rfl) <;> intro h)
  | apply AWp.block
  | apply AWp.ret
  | apply AWp.exit
  | apply AWp.skip
  | (apply AWp.regionQ; kernel_rfl; kernel_rfl)
  | (apply if_pos'; exact rfl)
  | (apply if_neg'; decide)
  | (apply w_skip; exact rfl)
  | (apply w_pickT; exact rfl; exact rfl; exact rfl)
  | (apply w_pickF; exact rfl; exact rfl; exact rfl)
  | (apply w_len; exact rfl; exact rfl; first | exact .ints _ | exact .intss _ | exact .sli rfl | exact .sls rfl | exact .slr rfl | exact .orow rfl | exact .nil)
  | omega
  | ((first | apply w_lss | apply w_leq | apply w_gtr | apply w_geq | apply w_eql | apply w_neq | apply w_add | apply w_sub | apply w_mul | apply w_idx | apply w_ld | apply w_fld | apply w_fa | apply w_extv | apply w_min | apply w_max | apply w_slhi | apply w_sllo | apply w_bs2); iterate 3 exact rfl)
  | ((first | apply w_eqlb | apply w_neqb | apply w_idxs | apply w_lds | apply w_ext); iterate 3 exact rfl)
  | (apply w_rem; exact rfl; exact rfl; exact rfl; (focus (omega; done)); (focus (omega; done)))
  | (apply w_quo; exact rfl; exact rfl; exact rfl; (focus (omega; done)); (focus (omega; done)))
  | (apply w_remT; exact rfl; exact rfl; exact rfl)
  | (apply w_quoT; exact rfl; exact rfl; exact rfl)
  | ((first | apply w_not | apply w_neg | apply w_conv | apply w_build0 | apply w_bs1 | apply w_boxa); iterate 2 exact rfl)
  | (apply w_idxo; exact rfl; exact rfl; (first | exact .sli rfl | exact .sls rfl | exact .slr rfl); exact rfl)
  | ((first | apply w_idxr | apply w_ldr); iterate 4 exact rfl)
  | (apply w_ldo; iterate 4 exact rfl)
  | (apply w_ldls; iterate 4 exact rfl)
  | (apply w_ldrp; iterate 4 exact rfl)
  | (apply w_ldb; iterate 5 exact rfl)
  | (apply w_ldst; iterate 5 exact rfl)
  | ((first | apply w_sllh | apply w_stbi); iterate 4 exact rfl)
  | ((first | apply w_oslo | apply w_oshi | apply w_stbii); iterate 4 exact rfl)
  | (apply w_build1; exact rfl; exact rfl; (first | exact one_val rfl rfl | exact one_ints | exact one_intss | exact one_own rfl True.intro))
  | (apply w_build2; exact rfl; exact rfl; exact rfl; (first | exact one_val rfl rfl | exact one_ints | exact one_intss | exact one_own rfl True.intro); (first | exact one_val rfl rfl | exact one_ints | exact one_intss | exact one_own rfl True.intro))
  | (apply w_bs0; iterate 1 exact rfl)
  | (apply w_appn; exact rfl; exact rfl; (first | exact .ints _ | exact .sli rfl | exact .orow rfl | exact .nil | exact .osub rfl (by simp; omega)); exact rfl)
  | (apply w_app; exact rfl; exact rfl; exact rfl; exact rfl; (first | exact .ints _ | exact .sli rfl | exact .orow rfl | exact .nil | exact .osub rfl (by simp; omega)); rotate_left 1; simp only [Env.mp, List.map_cons, List.map_nil, List.set_cons_zero, List.set_cons_succ, AV.kill, AV.kill1, AO.kill, AV.noRow, AV.noRow1, AO.via, reduceIte, Nat.reduceEqDiff, Nat.reduceLT, Env.up, Nat.zero_ne_one, Nat.one_ne_zero, Nat.reduceAdd, List.cons_append, List.nil_append]; rotate_left 1)
  | (apply w_alst; iterate 2 exact rfl)
  | (apply w_alone; iterate 3 exact rfl)
  | (apply w_sti; exact rfl; exact rfl; rotate_left 1; exact rfl; rotate_left 2)
  | (apply w_stst; iterate 5 exact rfl)
  | (apply w_stbv; iterate 6 exact rfl)
  | (apply w_stbo; exact rfl; exact rfl; exact rfl; exact rfl; exact rfl; exact True.intro)
  | ((apply AOps.splitB; exact rfl; exact rfl) <;> intro h)
  | apply AllOf.nil
  | (apply AllOf.cons; exact rfl)
  | (apply AAny.take; exact rfl; exact rfl; kernel_rfl; kernel_rfl)
  | (apply AAny.all; exact rfl)
  | (apply AAny.done; exact rfl)
  | (apply inI_of <;> omega)
  | omega
  | (simp <;> omega))
    have e : n = L.length := by omega
    subst e
    have ea : (vfP p L).take (L.length + 1) = vfP p L := List.take_of_length_le (by omega)
    rw [ea]
    exact ⟨_, _, _, .v1 Try.results53 rfl, .sls rfl, rfl, rfl⟩
end Go.Proofs.Ythlfdhooiekgjaa
/-
  Limited points; the reference's polygon of edges. Condition: numbers of moderate size.
-/
namespace Go.Proofs.Ythlfdhooiekgjaa
open Go Go.RowKit
attribute [local irreducible] AWp AOps ResIs Ret1 QOp LOp COp AFnV AFn Imms LeE LeO
set_option maxHeartbeats 1000000
set_option linter.unusedSimpArgs false
set_option linter.unusedVariables false

/-- Both coordinates from 0 to 60. -/
def R60 (r : List Int) : Prop := (0 ≤ geti r 0 ∧ geti r 0 ≤ 60) ∧ (0 ≤ geti r 1 ∧ geti r 1 ≤ 60)
theorem limOk_c (V : List (List Int)) (hn : V.length ≤ 1000000) (hr : ∀ r ∈ V, r.length = 2 ∧ R60 r) :
    AFnC Try.prog 52 [.own 0] [.sls 38 2 V] (fun r os => r = .tup [.own 0, .i 0] ∧ os = [.sls 38 2 V]) := by
  have hrn : ∀ n : Nat, n < V.length → (V.getD (n : Int).toNat []).length = 2 ∧ R60 (V.getD (n : Int).toNat []) := fun n hn => hr _ (by
    rw [Int.toNat_natCast, List.getD_eq_getElem?_getD, List.getElem?_eq_getElem hn]; exact List.getElem_mem _)
  (refine AFnC.start Try.func52 Try.ntmps52 rfl (by kernel_rfl) fun K => ?_; simp only [Env.start, enumF, List.map_cons, List.map_nil, AV.sh, List.length_cons, List.length_nil, Nat.reduceAdd, Nat.reduceSub, List.cons_append, List.nil_append])
  repeat' (first
  | (apply AOps.nil; try simp only [List.nil_append, List.cons_append, List.set_cons_zero, List.set_cons_succ, List.length_cons, List.length_nil, Nat.reduceAdd, AV.sh, AV.sh1, AV.sh0, AO.sh, List.map_cons, List.map_nil, Nat.zero_add, Nat.add_zero, setAll])
  | ((apply AOps.splitP; exact rfl; exact rfl) <;> intro h)
  | ((apply AOps.splitN; exact rfl; exact rfl) <;> intro h)
  | (apply w_move; exact rfl; exact rfl)
  | (apply w_assign; exact rfl; exact rfl)
  | apply AWp.seq
  | apply AWp.region
  | ((apply AWp.condP; exact rfl) <;> intro h)
  | ((apply AWp.condN; exact rfl) <;> intro h)
  | (apply AWp.condT; exact rfl)
  | (apply AWp.condF; exact rfl)
  | ((apply AWp.condB; exact rfl) <;> intro h)
  | apply AWp.block
  | apply AWp.ret
  | apply AWp.exit
  | apply AWp.skip
  | (apply if_pos'; exact rfl)
  | (apply if_neg'; decide)
  | (apply w_skip; exact rfl)
  | (apply w_pickT; exact rfl; exact rfl; exact rfl)
  | (apply w_pickF; exact rfl; exact rfl; exact rfl)
  | (apply w_len; exact rfl; exact rfl; first | exact .ints _ | exact .intss _ | exact .sli rfl | exact .sls rfl | exact .slr rfl | exact .orow rfl | exact .nil)
  | ((first | apply w_lss | apply w_leq | apply w_gtr | apply w_geq | apply w_eql | apply w_neq | apply w_add | apply w_sub | apply w_mul | apply w_idx | apply w_ld | apply w_fld | apply w_fa | apply w_extv | apply w_min | apply w_max | apply w_slhi | apply w_sllo | apply w_bs2); iterate 3 exact rfl)
  | ((first | apply w_eqlb | apply w_neqb | apply w_idxs | apply w_lds | apply w_ext); iterate 3 exact rfl)
  | (apply w_rem; exact rfl; exact rfl; exact rfl; (focus (omega; done)); (focus (omega; done)))
  | (apply w_quo; exact rfl; exact rfl; exact rfl; (focus (omega; done)); (focus (omega; done)))
  | (apply w_remT; exact rfl; exact rfl; exact rfl)
  | (apply w_quoT; exact rfl; exact rfl; exact rfl)
  | ((first | apply w_not | apply w_neg | apply w_conv | apply w_build0 | apply w_bs1 | apply w_boxa); iterate 2 exact rfl)
  | (apply w_idxo; exact rfl; exact rfl; (first | exact .sli rfl | exact .sls rfl | exact .slr rfl); exact rfl)
  | ((first | apply w_idxr | apply w_ldr); iterate 4 exact rfl)
  | (apply w_ldo; iterate 4 exact rfl)
  | (apply w_ldls; iterate 4 exact rfl)
  | (apply w_ldrp; iterate 4 exact rfl)
  | (apply w_ldb; iterate 5 exact rfl)
  | (apply w_ldst; iterate 5 exact rfl)
  | ((first | apply w_sllh | apply w_stbi); iterate 4 exact rfl)
  | ((first | apply w_oslo | apply w_oshi | apply w_stbii); iterate 4 exact rfl)
  | (apply w_build1; exact rfl; exact rfl; (first | exact one_val rfl rfl | exact one_ints | exact one_intss | exact one_own rfl True.intro))
  | (apply w_build2; exact rfl; exact rfl; exact rfl; (first | exact one_val rfl rfl | exact one_ints | exact one_intss | exact one_own rfl True.intro); (first | exact one_val rfl rfl | exact one_ints | exact one_intss | exact one_own rfl True.intro))
  | (apply w_bs0; iterate 1 exact rfl)
  | (apply w_appn; exact rfl; exact rfl; (first | exact .ints _ | exact .sli rfl | exact .orow rfl | exact .nil | exact .osub rfl (by simp; omega)); exact rfl)
  | (apply w_app; exact rfl; exact rfl; exact rfl; exact rfl; (first | exact .ints _ | exact .sli rfl | exact .orow rfl | exact .nil | exact .osub rfl (by simp; omega)); rotate_left 1; simp only [Env.mp, List.map_cons, List.map_nil, List.set_cons_zero, List.set_cons_succ, AV.kill, AV.kill1, AO.kill, AV.noRow, AV.noRow1, AO.via, reduceIte, Nat.reduceEqDiff, Nat.reduceLT, Env.up, Nat.zero_ne_one, Nat.one_ne_zero, Nat.reduceAdd, List.cons_append, List.nil_append]; rotate_left 1)
  | (apply w_alst; iterate 2 exact rfl)
  | (apply w_alone; iterate 3 exact rfl)
  | (apply w_sti; exact rfl; exact rfl; rotate_left 1; exact rfl; rotate_left 2)
  | (apply w_stst; iterate 5 exact rfl)
  | (apply w_stbv; iterate 6 exact rfl)
  | (apply w_stbo; exact rfl; exact rfl; exact rfl; exact rfl; exact rfl; exact True.intro)
  | ((apply AOps.splitB; exact rfl; exact rfl) <;> intro h)
  | apply AllOf.nil
  | (apply AllOf.cons; exact rfl)
  | (apply AAny.take; exact rfl; exact rfl; kernel_rfl; kernel_rfl)
  | (apply AAny.all; exact rfl)
  | (apply AAny.done; exact rfl)
  | (apply inI_of <;> omega)
  | omega
  | (simp <;> omega))
  refine AWp.loop (ι := Nat) (fun n => ⟨17, [(0, .own 1), (6, .own 1), (7, .i V.length), (8, .i n)]⟩) (fun n => [.keep 1 K, .sls 38 2 V]) (fun n => n ≤ V.length) (fun n => V.length - n) 0 (by omega) ⟨lee rfl (by (repeat (first | exact le_nil | refine le_eq rfl rfl ?_ | refine le_eq rfl (congrArg AV.i (by omega)) ?_))), by (repeat (first | exact lo_nil | refine lo_dead ?_ | refine lo_eq rfl ?_)), rfl, rfl⟩ ?_
  rintro n n0
  by_cases hlt : n < V.length
  · obtain ⟨h1, h2⟩ := hrn n hlt
    have hw := within2_c (V.getD (n : Int).toNat []) h1
    unfold R60 at h2
    rw [decide_eq_true h2] at hw
    repeat' (first
  | (apply AOps.nil; try simp only [List.nil_append, List.cons_append, List.set_cons_zero, List.set_cons_succ, List.length_cons, List.length_nil, Nat.reduceAdd, AV.sh, AV.sh1, AV.sh0, AO.sh, List.map_cons, List.map_nil, Nat.zero_add, Nat.add_zero, setAll])
  | ((apply AOps.splitP; exact rfl; exact rfl) <;> intro h)
  | ((apply AOps.splitN; exact rfl; exact rfl) <;> intro h)
  | (apply w_move; exact rfl; exact rfl)
  | (apply w_assign; exact rfl; exact rfl)
  | apply AWp.seq
  | apply AWp.region
  | ((apply AWp.condP; exact rfl) <;> intro h)
  | ((apply AWp.condN; exact rfl) <;> intro h)
  | (apply AWp.condT; exact rfl)
  | (apply AWp.condF; exact rfl)
  | ((apply AWp.condB; exact rfl) <;> intro h)
  | apply AWp.block
  | apply AWp.ret
  | apply AWp.exit
  | apply AWp.skip
  | (apply if_pos'; exact rfl)
  | (apply if_neg'; decide)
  | (apply w_skip; exact rfl)
  | (apply w_pickT; exact rfl; exact rfl; exact rfl)
  | (apply w_pickF; exact rfl; exact rfl; exact rfl)
  | (apply w_len; exact rfl; exact rfl; first | exact .ints _ | exact .intss _ | exact .sli rfl | exact .sls rfl | exact .slr rfl | exact .orow rfl | exact .nil)
  | (apply w_call (hw); exact rfl; exact rfl; focus ((repeat (first | exact im_nil | refine im_cons rfl (.val _) ?_ | refine im_cons rfl (.ints _) ?_ | refine im_cons rfl (.intss _) ?_ | refine im_cons rfl (.sli rfl) ?_ | refine im_cons rfl (.sls rfl) ?_ | refine im_cons rfl (.orow rfl) ?_ | refine im_cons rfl (.osub rfl (by simp; omega)) ?_ | refine im_cons rfl (.nil) ?_ | refine im_cons rfl (.nils) ?_ | refine im_cons rfl (im_agg2 (.val _) (.ints _)) ?_ | refine im_cons rfl (im_agg2 (.val _) (.sli rfl)) ?_ | refine im_cons rfl (im_agg2 (.val _) (.nil)) ?_ | refine im_cons rfl (im_agg2 (.ints _) (.intss _)) ?_ | refine im_cons rfl (im_agg2 (.ints _) (.sls rfl)) ?_ | refine im_cons rfl (im_agg2 (.sli rfl) (.intss _)) ?_ | refine im_cons rfl (im_agg2 (.sli rfl) (.sls rfl)) ?_ | refine im_cons rfl (im_agg1 (.ints _)) ?_ | refine im_cons rfl (im_agg1 (.sli rfl)) ?_ | refine im_cons rfl (im_agg1 (.intss _)) ?_ | refine im_cons rfl (im_agg1 (.sls rfl)) ?_ | refine im_cons rfl (im_agg1 (.nil)) ?_ | refine im_cons rfl (im_agg1 (.nils)) ?_)); done))
  | omega
  | ((first | apply w_lss | apply w_leq | apply w_gtr | apply w_geq | apply w_eql | apply w_neq | apply w_add | apply w_sub | apply w_mul | apply w_idx | apply w_ld | apply w_fld | apply w_fa | apply w_extv | apply w_min | apply w_max | apply w_slhi | apply w_sllo | apply w_bs2); iterate 3 exact rfl)
  | ((first | apply w_eqlb | apply w_neqb | apply w_idxs | apply w_lds | apply w_ext); iterate 3 exact rfl)
  | (apply w_rem; exact rfl; exact rfl; exact rfl; (focus (omega; done)); (focus (omega; done)))
  | (apply w_quo; exact rfl; exact rfl; exact rfl; (focus (omega; done)); (focus (omega; done)))
  | (apply w_remT; exact rfl; exact rfl; exact rfl)
  | (apply w_quoT; exact rfl; exact rfl; exact rfl)
  | ((first | apply w_not | apply w_neg | apply w_conv | apply w_build0 | apply w_bs1 | apply w_boxa); iterate 2 exact rfl)
  | (apply w_idxo; exact rfl; exact rfl; (first | exact .sli rfl | exact .sls rfl | exact .slr rfl); exact rfl)
  | ((first | apply w_idxr | apply w_ldr); iterate 4 exact rfl)
  | (apply w_ldo; iterate 4 exact rfl)
  | (apply w_ldls; iterate 4 exact rfl)
  | (apply w_ldrp; iterate 4 exact rfl)
  | (apply w_ldb; iterate 5 exact rfl)
  | (apply w_ldst; iterate 5 exact rfl)
  | ((first | apply w_sllh | apply w_stbi); iterate 4 exact rfl)
  | ((first | apply w_oslo | apply w_oshi | apply w_stbii); iterate 4 exact rfl)
  | (apply w_build1; exact rfl; exact rfl; (first | exact one_val rfl rfl | exact one_ints | exact one_intss | exact one_own rfl True.intro))
  | (apply w_build2; exact rfl; exact rfl; exact rfl; (first | exact one_val rfl rfl | exact one_ints | exact one_intss | exact one_own rfl True.intro); (first | exact one_val rfl rfl | exact one_ints | exact one_intss | exact one_own rfl True.intro))
  | (apply w_bs0; iterate 1 exact rfl)
  | (apply w_appn; exact rfl; exact rfl; (first | exact .ints _ | exact .sli rfl | exact .orow rfl | exact .nil | exact .osub rfl (by simp; omega)); exact rfl)
  | (apply w_app; exact rfl; exact rfl; exact rfl; exact rfl; (first | exact .ints _ | exact .sli rfl | exact .orow rfl | exact .nil | exact .osub rfl (by simp; omega)); rotate_left 1; simp only [Env.mp, List.map_cons, List.map_nil, List.set_cons_zero, List.set_cons_succ, AV.kill, AV.kill1, AO.kill, AV.noRow, AV.noRow1, AO.via, reduceIte, Nat.reduceEqDiff, Nat.reduceLT, Env.up, Nat.zero_ne_one, Nat.one_ne_zero, Nat.reduceAdd, List.cons_append, List.nil_append]; rotate_left 1)
  | (apply w_alst; iterate 2 exact rfl)
  | (apply w_alone; iterate 3 exact rfl)
  | (apply w_sti; exact rfl; exact rfl; rotate_left 1; exact rfl; rotate_left 2)
  | (apply w_stst; iterate 5 exact rfl)
  | (apply w_stbv; iterate 6 exact rfl)
  | (apply w_stbo; exact rfl; exact rfl; exact rfl; exact rfl; exact rfl; exact True.intro)
  | ((apply AOps.splitB; exact rfl; exact rfl) <;> intro h)
  | apply AllOf.nil
  | (apply AllOf.cons; exact rfl)
  | (apply AAny.take; exact rfl; exact rfl; kernel_rfl; kernel_rfl)
  | (apply AAny.all; exact rfl)
  | (apply AAny.done; exact rfl)
  | (apply inI_of <;> omega)
  | omega
  | (simp <;> omega))
    exact ⟨n + 1, hlt, by omega, ⟨lee rfl (by (repeat (first | exact le_nil | refine le_eq rfl rfl ?_ | refine le_eq rfl (congrArg AV.i (by omega)) ?_))), by (repeat (first | exact lo_nil | refine lo_dead ?_ | refine lo_eq rfl ?_)), rfl, rfl⟩⟩
  · repeat' (first
  | (apply AOps.nil; try simp only [List.nil_append, List.cons_append, List.set_cons_zero, List.set_cons_succ, List.length_cons, List.length_nil, Nat.reduceAdd, AV.sh, AV.sh1, AV.sh0, AO.sh, List.map_cons, List.map_nil, Nat.zero_add, Nat.add_zero, setAll])
  | ((apply AOps.splitP; exact rfl; exact rfl) <;> intro h)
  | ((apply AOps.splitN; exact rfl; exact rfl) <;> intro h)
  | (apply w_move; exact rfl; exact rfl)
  | (apply w_assign; exact rfl; exact rfl)
  | apply AWp.seq
  | apply AWp.region
  | ((apply AWp.condP; exact rfl) <;> intro h)
  | ((apply AWp.condN; exact rfl) <;> intro h)
  | (apply AWp.condT; exact rfl)
  | (apply AWp.condF; exact rfl)
  | ((apply AWp.condB; exact rfl) <;> intro h)
  | apply AWp.block
  | apply AWp.ret
  | apply AWp.exit
  | apply AWp.skip
  | (apply if_pos'; exact rfl)
  | (apply if_neg'; decide)
  | (apply w_skip; exact rfl)
  | (apply w_pickT; exact rfl; exact rfl; exact rfl)
  | (apply w_pickF; exact rfl; exact rfl; exact rfl)
  | (apply w_len; exact rfl; exact rfl; first | exact .ints _ | exact .intss _ | exact .sli rfl | exact .sls rfl | exact .slr rfl | exact .orow rfl | exact .nil)
  | omega
  | ((first | apply w_lss | apply w_leq | apply w_gtr | apply w_geq | apply w_eql | apply w_neq | apply w_add | apply w_sub | apply w_mul | apply w_idx | apply w_ld | apply w_fld | apply w_fa | apply w_extv | apply w_min | apply w_max | apply w_slhi | apply w_sllo | apply w_bs2); iterate 3 exact rfl)
  | ((first | apply w_eqlb | apply w_neqb | apply w_idxs | apply w_lds | apply w_ext); iterate 3 exact rfl)
  | (apply w_rem; exact rfl; exact rfl; exact rfl; (focus (omega; done)); (focus (omega; done)))
  | (apply w_quo; exact rfl; exact rfl; exact rfl; (focus (omega; done)); (focus (omega; done)))
  | (apply w_remT; exact rfl; exact rfl; exact rfl)
  | (apply w_quoT; exact rfl; exact rfl; exact rfl)
  | ((first | apply w_not | apply w_neg | apply w_conv | apply w_build0 | apply w_bs1 | apply w_boxa); iterate 2 exact rfl)
  | (apply w_idxo; exact rfl; exact rfl; (first | exact .sli rfl | exact .sls rfl | exact .slr rfl); exact rfl)
  | ((first | apply w_idxr | apply w_ldr); iterate 4 exact rfl)
  | (apply w_ldo; iterate 4 exact rfl)
  | (apply w_ldls; iterate 4 exact rfl)
  | (apply w_ldrp; iterate 4 exact rfl)
  | (apply w_ldb; iterate 5 exact rfl)
  | (apply w_ldst; iterate 5 exact rfl)
  | ((first | apply w_sllh | apply w_stbi); iterate 4 exact rfl)
  | ((first | apply w_oslo | apply w_oshi | apply w_stbii); iterate 4 exact rfl)
  | (apply w_build1; exact rfl; exact rfl; (first | exact one_val rfl rfl | exact one_ints | exact one_intss | exact one_own rfl True.intro))
  | (apply w_build2; exact rfl; exact rfl; exact rfl; (first | exact one_val rfl rfl | exact one_ints | exact one_intss | exact one_own rfl True.intro); (first | exact one_val rfl rfl | exact one_ints | exact one_intss | exact one_own rfl True.intro))
  | (apply w_bs0; iterate 1 exact rfl)
  | (apply w_appn; exact rfl; exact rfl; (first | exact .ints _ | exact .sli rfl | exact .orow rfl | exact .nil | exact .osub rfl (by simp; omega)); exact rfl)
  | (apply w_app; exact rfl; exact rfl; exact rfl; exact rfl; (first | exact .ints _ | exact .sli rfl | exact .orow rfl | exact .nil | exact .osub rfl (by simp; omega)); rotate_left 1; simp only [Env.mp, List.map_cons, List.map_nil, List.set_cons_zero, List.set_cons_succ, AV.kill, AV.kill1, AO.kill, AV.noRow, AV.noRow1, AO.via, reduceIte, Nat.reduceEqDiff, Nat.reduceLT, Env.up, Nat.zero_ne_one, Nat.one_ne_zero, Nat.reduceAdd, List.cons_append, List.nil_append]; rotate_left 1)
  | (apply w_alst; iterate 2 exact rfl)
  | (apply w_alone; iterate 3 exact rfl)
  | (apply w_sti; exact rfl; exact rfl; rotate_left 1; exact rfl; rotate_left 2)
  | (apply w_stst; iterate 5 exact rfl)
  | (apply w_stbv; iterate 6 exact rfl)
  | (apply w_stbo; exact rfl; exact rfl; exact rfl; exact rfl; exact rfl; exact True.intro)
  | ((apply AOps.splitB; exact rfl; exact rfl) <;> intro h)
  | apply AllOf.nil
  | (apply AllOf.cons; exact rfl)
  | (apply AAny.take; exact rfl; exact rfl; kernel_rfl; kernel_rfl)
  | (apply AAny.all; exact rfl)
  | (apply AAny.done; exact rfl)
  | (apply inI_of <;> omega)
  | omega
  | (simp <;> omega))
    refine ⟨⟨17, [(2, .own 1), (3, .i 0)]⟩, [.sls 38 2 V], .tup [.own 0, .i 0], .or (.inl ⟨lee rfl (by (repeat (first | exact le_nil | refine le_eq rfl rfl ?_ | refine le_eq rfl (congrArg AV.i (by omega)) ?_))), by (repeat (first | exact lo_nil | refine lo_dead ?_ | refine lo_eq rfl ?_)), rfl, rfl⟩), .a2 Try.results52 rfl rfl, by simp [AV.fl, AV.fl1, AV.fl0], ⟨rfl, rfl⟩, by simp [AO.plain]⟩
theorem limBad_c (V : List (List Int)) (hn : V.length ≤ 1000000) (hr : ∀ r ∈ V, r.length = 2) (hb : ∃ r ∈ V, ¬ R60 r) :
    AFnC Try.prog 52 [.own 0] [.sls 38 2 V] (fun r os => r = .tup [.val (.slice none 0 0), .i 3] ∧ os = []) := by
  have hrn : ∀ n : Nat, n < V.length → (V.getD (n : Int).toNat []).length = 2 := fun n hn => hr _ (by
    rw [Int.toNat_natCast, List.getD_eq_getElem?_getD, List.getElem?_eq_getElem hn]; exact List.getElem_mem _)
  obtain ⟨i, hi, hbad⟩ : ∃ i : Nat, i < V.length ∧ ¬ R60 (V.getD i []) := by
    obtain ⟨r, hr, hz⟩ := hb
    obtain ⟨i, hi⟩ := List.getElem?_of_mem hr
    exact ⟨i, (List.getElem?_eq_some_iff.1 hi).1, by rw [List.getD_eq_getElem?_getD, hi]; exact hz⟩
  (refine AFnC.start Try.func52 Try.ntmps52 rfl (by kernel_rfl) fun K => ?_; simp only [Env.start, enumF, List.map_cons, List.map_nil, AV.sh, List.length_cons, List.length_nil, Nat.reduceAdd, Nat.reduceSub, List.cons_append, List.nil_append])
  repeat' (first
  | (apply AOps.nil; try simp only [List.nil_append, List.cons_append, List.set_cons_zero, List.set_cons_succ, List.length_cons, List.length_nil, Nat.reduceAdd, AV.sh, AV.sh1, AV.sh0, AO.sh, List.map_cons, List.map_nil, Nat.zero_add, Nat.add_zero, setAll])
  | ((apply AOps.splitP; exact rfl; exact rfl) <;> intro h)
  | ((apply AOps.splitN; exact rfl; exact rfl) <;> intro h)
  | (apply w_move; exact rfl; exact rfl)
  | (apply w_assign; exact rfl; exact rfl)
  | apply AWp.seq
  | apply AWp.region
  | ((apply AWp.condP; exact rfl) <;> intro h)
  | ((apply AWp.condN; exact rfl) <;> intro h)
  | (apply AWp.condT; exact rfl)
  | (apply AWp.condF; exact rfl)
  | ((apply AWp.condB; exact rfl) <;> intro h)
  | apply AWp.block
  | apply AWp.ret
  | apply AWp.exit
  | apply AWp.skip
  | (apply if_pos'; exact rfl)
  | (apply if_neg'; decide)
  | (apply w_skip; exact rfl)
  | (apply w_pickT; exact rfl; exact rfl; exact rfl)
  | (apply w_pickF; exact rfl; exact rfl; exact rfl)
  | (apply w_len; exact rfl; exact rfl; first | exact .ints _ | exact .intss _ | exact .sli rfl | exact .sls rfl | exact .slr rfl | exact .orow rfl | exact .nil)
  | ((first | apply w_lss | apply w_leq | apply w_gtr | apply w_geq | apply w_eql | apply w_neq | apply w_add | apply w_sub | apply w_mul | apply w_idx | apply w_ld | apply w_fld | apply w_fa | apply w_extv | apply w_min | apply w_max | apply w_slhi | apply w_sllo | apply w_bs2); iterate 3 exact rfl)
  | ((first | apply w_eqlb | apply w_neqb | apply w_idxs | apply w_lds | apply w_ext); iterate 3 exact rfl)
  | (apply w_rem; exact rfl; exact rfl; exact rfl; (focus (omega; done)); (focus (omega; done)))
  | (apply w_quo; exact rfl; exact rfl; exact rfl; (focus (omega; done)); (focus (omega; done)))
  | (apply w_remT; exact rfl; exact rfl; exact rfl)
  | (apply w_quoT; exact rfl; exact rfl; exact rfl)
  | ((first | apply w_not | apply w_neg | apply w_conv | apply w_build0 | apply w_bs1 | apply w_boxa); iterate 2 exact rfl)
  | (apply w_idxo; exact rfl; exact rfl; (first | exact .sli rfl | exact .sls rfl | exact .slr rfl); exact rfl)
  | ((first | apply w_idxr | apply w_ldr); iterate 4 exact rfl)
  | (apply w_ldo; iterate 4 exact rfl)
  | (apply w_ldls; iterate 4 exact rfl)
  | (apply w_ldrp; iterate 4 exact rfl)
  | (apply w_ldb; iterate 5 exact rfl)
  | (apply w_ldst; iterate 5 exact rfl)
  | ((first | apply w_sllh | apply w_stbi); iterate 4 exact rfl)
  | ((first | apply w_oslo | apply w_oshi | apply w_stbii); iterate 4 exact rfl)
  | (apply w_build1; exact rfl; exact rfl; (first | exact one_val rfl rfl | exact one_ints | exact one_intss | exact one_own rfl True.intro))
  | (apply w_build2; exact rfl; exact rfl; exact rfl; (first | exact one_val rfl rfl | exact one_ints | exact one_intss | exact one_own rfl True.intro); (first | exact one_val rfl rfl | exact one_ints | exact one_intss | exact one_own rfl True.intro))
  | (apply w_bs0; iterate 1 exact rfl)
  | (apply w_appn; exact rfl; exact rfl; (first | exact .ints _ | exact .sli rfl | exact .orow rfl | exact .nil | exact .osub rfl (by simp; omega)); exact rfl)
  | (apply w_app; exact rfl; exact rfl; exact rfl; exact rfl; (first | exact .ints _ | exact .sli rfl | exact .orow rfl | exact .nil | exact .osub rfl (by simp; omega)); rotate_left 1; simp only [Env.mp, List.map_cons, List.map_nil, List.set_cons_zero, List.set_cons_succ, AV.kill, AV.kill1, AO.kill, AV.noRow, AV.noRow1, AO.via, reduceIte, Nat.reduceEqDiff, Nat.reduceLT, Env.up, Nat.zero_ne_one, Nat.one_ne_zero, Nat.reduceAdd, List.cons_append, List.nil_append]; rotate_left 1)
  | (apply w_alst; iterate 2 exact rfl)
  | (apply w_alone; iterate 3 exact rfl)
  | (apply w_sti; exact rfl; exact rfl; rotate_left 1; exact rfl; rotate_left 2)
  | (apply w_stst; iterate 5 exact rfl)
  | (apply w_stbv; iterate 6 exact rfl)
  | (apply w_stbo; exact rfl; exact rfl; exact rfl; exact rfl; exact rfl; exact True.intro)
  | ((apply AOps.splitB; exact rfl; exact rfl) <;> intro h)
  | apply AllOf.nil
  | (apply AllOf.cons; exact rfl)
  | (apply AAny.take; exact rfl; exact rfl; kernel_rfl; kernel_rfl)
  | (apply AAny.all; exact rfl)
  | (apply AAny.done; exact rfl)
  | (apply inI_of <;> omega)
  | omega
  | (simp <;> omega))
  refine AWp.loop (ι := Nat) (fun n => ⟨17, [(0, .own 1), (6, .own 1), (7, .i V.length), (8, .i n)]⟩) (fun n => [.keep 1 K, .sls 38 2 V]) (fun n => n ≤ i) (fun n => V.length - n) 0 (by omega) ⟨lee rfl (by (repeat (first | exact le_nil | refine le_eq rfl rfl ?_ | refine le_eq rfl (congrArg AV.i (by omega)) ?_))), by (repeat (first | exact lo_nil | refine lo_dead ?_ | refine lo_eq rfl ?_)), rfl, rfl⟩ ?_
  rintro n n0
  have hlt : n < V.length := by omega
  have h1 := hrn n hlt
  have hw := within2_c (V.getD (n : Int).toNat []) h1
  by_cases h2 : R60 (V.getD (n : Int).toNat [])
  · have hne : n ≠ i := fun e => by subst e; exact hbad h2
    unfold R60 at h2
    rw [decide_eq_true h2] at hw
    repeat' (first
  | (apply AOps.nil; try simp only [List.nil_append, List.cons_append, List.set_cons_zero, List.set_cons_succ, List.length_cons, List.length_nil, Nat.reduceAdd, AV.sh, AV.sh1, AV.sh0, AO.sh, List.map_cons, List.map_nil, Nat.zero_add, Nat.add_zero, setAll])
  | ((apply AOps.splitP; exact rfl; exact rfl) <;> intro h)
  | ((apply AOps.splitN; exact rfl; exact rfl) <;> intro h)
  | (apply w_move; exact rfl; exact rfl)
  | (apply w_assign; exact rfl; exact rfl)
  | apply AWp.seq
  | apply AWp.region
  | ((apply AWp.condP; exact rfl) <;> intro h)
  | ((apply AWp.condN; exact rfl) <;> intro h)
  | (apply AWp.condT; exact rfl)
  | (apply AWp.condF; exact rfl)
  | ((apply AWp.condB; exact rfl) <;> intro h)
  | apply AWp.block
  | apply AWp.ret
  | apply AWp.exit
  | apply AWp.skip
  | (apply if_pos'; exact rfl)
  | (apply if_neg'; decide)
  | (apply w_skip; exact rfl)
  | (apply w_pickT; exact rfl; exact rfl; exact rfl)
  | (apply w_pickF; exact rfl; exact rfl; exact rfl)
  | (apply w_len; exact rfl; exact rfl; first | exact .ints _ | exact .intss _ | exact .sli rfl | exact .sls rfl | exact .slr rfl | exact .orow rfl | exact .nil)
  | (apply w_call (hw); exact rfl; exact rfl; focus ((repeat (first | exact im_nil | refine im_cons rfl (.val _) ?_ | refine im_cons rfl (.ints _) ?_ | refine im_cons rfl (.intss _) ?_ | refine im_cons rfl (.sli rfl) ?_ | refine im_cons rfl (.sls rfl) ?_ | refine im_cons rfl (.orow rfl) ?_ | refine im_cons rfl (.osub rfl (by simp; omega)) ?_ | refine im_cons rfl (.nil) ?_ | refine im_cons rfl (.nils) ?_ | refine im_cons rfl (im_agg2 (.val _) (.ints _)) ?_ | refine im_cons rfl (im_agg2 (.val _) (.sli rfl)) ?_ | refine im_cons rfl (im_agg2 (.val _) (.nil)) ?_ | refine im_cons rfl (im_agg2 (.ints _) (.intss _)) ?_ | refine im_cons rfl (im_agg2 (.ints _) (.sls rfl)) ?_ | refine im_cons rfl (im_agg2 (.sli rfl) (.intss _)) ?_ | refine im_cons rfl (im_agg2 (.sli rfl) (.sls rfl)) ?_ | refine im_cons rfl (im_agg1 (.ints _)) ?_ | refine im_cons rfl (im_agg1 (.sli rfl)) ?_ | refine im_cons rfl (im_agg1 (.intss _)) ?_ | refine im_cons rfl (im_agg1 (.sls rfl)) ?_ | refine im_cons rfl (im_agg1 (.nil)) ?_ | refine im_cons rfl (im_agg1 (.nils)) ?_)); done))
  | omega
  | ((first | apply w_lss | apply w_leq | apply w_gtr | apply w_geq | apply w_eql | apply w_neq | apply w_add | apply w_sub | apply w_mul | apply w_idx | apply w_ld | apply w_fld | apply w_fa | apply w_extv | apply w_min | apply w_max | apply w_slhi | apply w_sllo | apply w_bs2); iterate 3 exact rfl)
  | ((first | apply w_eqlb | apply w_neqb | apply w_idxs | apply w_lds | apply w_ext); iterate 3 exact rfl)
  | (apply w_rem; exact rfl; exact rfl; exact rfl; (focus (omega; done)); (focus (omega; done)))
  | (apply w_quo; exact rfl; exact rfl; exact rfl; (focus (omega; done)); (focus (omega; done)))
  | (apply w_remT; exact rfl; exact rfl; exact rfl)
  | (apply w_quoT; exact rfl; exact rfl; exact rfl)
  | ((first | apply w_not | apply w_neg | apply w_conv | apply w_build0 | apply w_bs1 | apply w_boxa); iterate 2 exact rfl)
  | (apply w_idxo; exact rfl; exact rfl; (first | exact .sli rfl | exact .sls rfl | exact .slr rfl); exact rfl)
  | ((first | apply w_idxr | apply w_ldr); iterate 4 exact rfl)
  | (apply w_ldo; iterate 4 exact rfl)
  | (apply w_ldls; iterate 4 exact rfl)
  | (apply w_ldrp; iterate 4 exact rfl)
  | (apply w_ldb; iterate 5 exact rfl)
  | (apply w_ldst; iterate 5 exact rfl)
  | ((first | apply w_sllh | apply w_stbi); iterate 4 exact rfl)
  | ((first | apply w_oslo | apply w_oshi | apply w_stbii); iterate 4 exact rfl)
  | (apply w_build1; exact rfl; exact rfl; (first | exact one_val rfl rfl | exact one_ints | exact one_intss | exact one_own rfl True.intro))
  | (apply w_build2; exact rfl; exact rfl; exact rfl; (first | exact one_val rfl rfl | exact one_ints | exact one_intss | exact one_own rfl True.intro); (first | exact one_val rfl rfl | exact one_ints | exact one_intss | exact one_own rfl True.intro))
  | (apply w_bs0; iterate 1 exact rfl)
  | (apply w_appn; exact rfl; exact rfl; (first | exact .ints _ | exact .sli rfl | exact .orow rfl | exact .nil | exact .osub rfl (by simp; omega)); exact rfl)
  | (apply w_app; exact rfl; exact rfl; exact rfl; exact rfl; (first | exact .ints _ | exact .sli rfl | exact .orow rfl | exact .nil | exact .osub rfl (by simp; omega)); rotate_left 1; simp only [Env.mp, List.map_cons, List.map_nil, List.set_cons_zero, List.set_cons_succ, AV.kill, AV.kill1, AO.kill, AV.noRow, AV.noRow1, AO.via, reduceIte, Nat.reduceEqDiff, Nat.reduceLT, Env.up, Nat.zero_ne_one, Nat.one_ne_zero, Nat.reduceAdd, List.cons_append, List.nil_append]; rotate_left 1)
  | (apply w_alst; iterate 2 exact rfl)
  | (apply w_alone; iterate 3 exact rfl)
  | (apply w_sti; exact rfl; exact rfl; rotate_left 1; exact rfl; rotate_left 2)
  | (apply w_stst; iterate 5 exact rfl)
  | (apply w_stbv; iterate 6 exact rfl)
  | (apply w_stbo; exact rfl; exact rfl; exact rfl; exact rfl; exact rfl; exact True.intro)
  | ((apply AOps.splitB; exact rfl; exact rfl) <;> intro h)
  | apply AllOf.nil
  | (apply AllOf.cons; exact rfl)
  | (apply AAny.take; exact rfl; exact rfl; kernel_rfl; kernel_rfl)
  | (apply AAny.all; exact rfl)
  | (apply AAny.done; exact rfl)
  | (apply inI_of <;> omega)
  | omega
  | (simp <;> omega))
    exact ⟨n + 1, by omega, by omega, ⟨lee rfl (by (repeat (first | exact le_nil | refine le_eq rfl rfl ?_ | refine le_eq rfl (congrArg AV.i (by omega)) ?_))), by (repeat (first | exact lo_nil | refine lo_dead ?_ | refine lo_eq rfl ?_)), rfl, rfl⟩⟩
  · unfold R60 at h2
    rw [decide_eq_false h2] at hw
    repeat' (first
  | (apply AOps.nil; try simp only [List.nil_append, List.cons_append, List.set_cons_zero, List.set_cons_succ, List.length_cons, List.length_nil, Nat.reduceAdd, AV.sh, AV.sh1, AV.sh0, AO.sh, List.map_cons, List.map_nil, Nat.zero_add, Nat.add_zero, setAll])
  | ((apply AOps.splitP; exact rfl; exact rfl) <;> intro h)
  | ((apply AOps.splitN; exact rfl; exact rfl) <;> intro h)
  | (apply w_move; exact rfl; exact rfl)
  | (apply w_assign; exact rfl; exact rfl)
  | apply AWp.seq
  | apply AWp.region
  | ((apply AWp.condP; exact rfl) <;> intro h)
  | ((apply AWp.condN; exact rfl) <;> intro h)
  | (apply AWp.condT; exact rfl)
  | (apply AWp.condF; exact rfl)
  | ((apply AWp.condB; exact rfl) <;> intro h)
  | apply AWp.block
  | apply AWp.ret
  | apply AWp.exit
  | apply AWp.skip
  | (apply if_pos'; exact rfl)
  | (apply if_neg'; decide)
  | (apply w_skip; exact rfl)
  | (apply w_pickT; exact rfl; exact rfl; exact rfl)
  | (apply w_pickF; exact rfl; exact rfl; exact rfl)
  | (apply w_len; exact rfl; exact rfl; first | exact .ints _ | exact .intss _ | exact .sli rfl | exact .sls rfl | exact .slr rfl | exact .orow rfl | exact .nil)
  | (apply w_call (hw); exact rfl; exact rfl; focus ((repeat (first | exact im_nil | refine im_cons rfl (.val _) ?_ | refine im_cons rfl (.ints _) ?_ | refine im_cons rfl (.intss _) ?_ | refine im_cons rfl (.sli rfl) ?_ | refine im_cons rfl (.sls rfl) ?_ | refine im_cons rfl (.orow rfl) ?_ | refine im_cons rfl (.osub rfl (by simp; omega)) ?_ | refine im_cons rfl (.nil) ?_ | refine im_cons rfl (.nils) ?_ | refine im_cons rfl (im_agg2 (.val _) (.ints _)) ?_ | refine im_cons rfl (im_agg2 (.val _) (.sli rfl)) ?_ | refine im_cons rfl (im_agg2 (.val _) (.nil)) ?_ | refine im_cons rfl (im_agg2 (.ints _) (.intss _)) ?_ | refine im_cons rfl (im_agg2 (.ints _) (.sls rfl)) ?_ | refine im_cons rfl (im_agg2 (.sli rfl) (.intss _)) ?_ | refine im_cons rfl (im_agg2 (.sli rfl) (.sls rfl)) ?_ | refine im_cons rfl (im_agg1 (.ints _)) ?_ | refine im_cons rfl (im_agg1 (.sli rfl)) ?_ | refine im_cons rfl (im_agg1 (.intss _)) ?_ | refine im_cons rfl (im_agg1 (.sls rfl)) ?_ | refine im_cons rfl (im_agg1 (.nil)) ?_ | refine im_cons rfl (im_agg1 (.nils)) ?_)); done))
  | omega
  | ((first | apply w_lss | apply w_leq | apply w_gtr | apply w_geq | apply w_eql | apply w_neq | apply w_add | apply w_sub | apply w_mul | apply w_idx | apply w_ld | apply w_fld | apply w_fa | apply w_extv | apply w_min | apply w_max | apply w_slhi | apply w_sllo | apply w_bs2); iterate 3 exact rfl)
  | ((first | apply w_eqlb | apply w_neqb | apply w_idxs | apply w_lds | apply w_ext); iterate 3 exact rfl)
  | (apply w_rem; exact rfl; exact rfl; exact rfl; (focus (omega; done)); (focus (omega; done)))
  | (apply w_quo; exact rfl; exact rfl; exact rfl; (focus (omega; done)); (focus (omega; done)))
  | (apply w_remT; exact rfl; exact rfl; exact rfl)
  | (apply w_quoT; exact rfl; exact rfl; exact rfl)
  | ((first | apply w_not | apply w_neg | apply w_conv | apply w_build0 | apply w_bs1 | apply w_boxa); iterate 2 exact rfl)
  | (apply w_idxo; exact rfl; exact rfl; (first | exact .sli rfl | exact .sls rfl | exact .slr rfl); exact rfl)
  | ((first | apply w_idxr | apply w_ldr); iterate 4 exact rfl)
  | (apply w_ldo; iterate 4 exact rfl)
  | (apply w_ldls; iterate 4 exact rfl)
  | (apply w_ldrp; iterate 4 exact rfl)
  | (apply w_ldb; iterate 5 exact rfl)
  | (apply w_ldst; iterate 5 exact rfl)
  | ((first | apply w_sllh | apply w_stbi); iterate 4 exact rfl)
  | ((first | apply w_oslo | apply w_oshi | apply w_stbii); iterate 4 exact rfl)
  | (apply w_build1; exact rfl; exact rfl; (first | exact one_val rfl rfl | exact one_ints | exact one_intss | exact one_own rfl True.intro))
  | (apply w_build2; exact rfl; exact rfl; exact rfl; (first | exact one_val rfl rfl | exact one_ints | exact one_intss | exact one_own rfl True.intro); (first | exact one_val rfl rfl | exact one_ints | exact one_intss | exact one_own rfl True.intro))
  | (apply w_bs0; iterate 1 exact rfl)
  | (apply w_appn; exact rfl; exact rfl; (first | exact .ints _ | exact .sli rfl | exact .orow rfl | exact .nil | exact .osub rfl (by simp; omega)); exact rfl)
  | (apply w_app; exact rfl; exact rfl; exact rfl; exact rfl; (first | exact .ints _ | exact .sli rfl | exact .orow rfl | exact .nil | exact .osub rfl (by simp; omega)); rotate_left 1; simp only [Env.mp, List.map_cons, List.map_nil, List.set_cons_zero, List.set_cons_succ, AV.kill, AV.kill1, AO.kill, AV.noRow, AV.noRow1, AO.via, reduceIte, Nat.reduceEqDiff, Nat.reduceLT, Env.up, Nat.zero_ne_one, Nat.one_ne_zero, Nat.reduceAdd, List.cons_append, List.nil_append]; rotate_left 1)
  | (apply w_alst; iterate 2 exact rfl)
  | (apply w_alone; iterate 3 exact rfl)
  | (apply w_sti; exact rfl; exact rfl; rotate_left 1; exact rfl; rotate_left 2)
  | (apply w_stst; iterate 5 exact rfl)
  | (apply w_stbv; iterate 6 exact rfl)
  | (apply w_stbo; exact rfl; exact rfl; exact rfl; exact rfl; exact rfl; exact True.intro)
  | ((apply AOps.splitB; exact rfl; exact rfl) <;> intro h)
  | apply AllOf.nil
  | (apply AllOf.cons; exact rfl)
  | (apply AAny.take; exact rfl; exact rfl; kernel_rfl; kernel_rfl)
  | (apply AAny.all; exact rfl)
  | (apply AAny.done; exact rfl)
  | (apply inI_of <;> omega)
  | omega
  | (simp <;> omega))
    refine ⟨⟨17, [(2, .val (.slice none 0 0)), (3, .i 3)]⟩, [], .tup [.val (.slice none 0 0), .i 3], .or ?_, .a2 Try.results52 rfl rfl, by simp [AV.fl, AV.fl1, AV.fl0], ⟨rfl, rfl⟩, by simp⟩
    (first | (apply Or.inl; refine ⟨lee rfl ?_, ?_, rfl, rfl⟩; (focus ((repeat (first | exact le_nil | refine le_eq rfl rfl ?_ | (refine le_eq rfl (congrArg AV.i ?_) ?_; (focus (omega; done))))); done)); (focus ((repeat (first | exact lo_nil | refine lo_dead ?_ | refine lo_eq rfl ?_)); done))) | (apply Or.inr; refine ⟨[0], ⟨by decide, fun x hx => Nat.lt_of_lt_of_le ((by decide : ∀ x ∈ ([0] : List Nat), x < 1) x hx) (Nat.le_of_ble_eq_true rfl)⟩, lee rfl ?_, ?_, rfl, rfl⟩; (focus ((repeat (first | exact le_nil | refine le_eq rfl rfl ?_ | (refine le_eq rfl (congrArg AV.i ?_) ?_; (focus (omega; done))))); done)); (focus ((repeat (first | exact lo_nil | refine lo_dead ?_ | refine lo_eq rfl ?_)); done))))

/-! ### The polygon of edges -/
def EdgOk (xss : List (List Int)) : Prop := (1 ≤ xss.length ∧ xss.length ≤ 60) ∧ ∀ e ∈ xss, E60 e
open Classical in
noncomputable def seE (xss : List (List Int)) : Int := if EdgOk xss then (if 60 < sS E0 xss ∨ 60 < sS E1 xss then 3 else 0) else 2
noncomputable def seL (xss : List (List Int)) : List (List Int) := if seE xss = 0 then verts (vfP [0, sS E1 xss] (srtE xss xss.length)) else []
theorem seE_bad {xss : List (List Int)} (h : ¬ EdgOk xss) : seE xss = 2 ∧ seL xss = [] := by
  have e : seE xss = 2 := if_neg h
  exact ⟨e, by rw [seL, e, if_neg (by decide)]⟩
theorem seE_lim {xss : List (List Int)} (h : EdgOk xss) (h2 : 60 < sS E0 xss ∨ 60 < sS E1 xss) : seE xss = 3 ∧ seL xss = [] := by
  have e : seE xss = 3 := by rw [seE, if_pos h, if_pos h2]
  exact ⟨e, by rw [seL, e, if_neg (by decide)]⟩
theorem seE_ok {xss : List (List Int)} (h : EdgOk xss) (h2 : ¬ (60 < sS E0 xss ∨ 60 < sS E1 xss)) : seE xss = 0 ∧ seL xss = verts (vfP [0, sS E1 xss] (srtE xss xss.length)) := by
  have e : seE xss = 0 := by rw [seE, if_pos h, if_neg h2]
  exact ⟨e, by rw [seL, if_pos e]⟩

theorem seRow {xss : List (List Int)} (h : ∀ e ∈ xss, E60 e) (n : Nat) (hn : n < xss.length) : E60 (gets xss (n : Nat)) := h _ (gets_mem (by omega) (by omega))
theorem bad_row {xss : List (List Int)} (h : ¬ ∀ e ∈ xss, E60 e) : ∃ i : Nat, i < xss.length ∧ ¬ E60 (gets xss (i : Nat)) := by
  apply Classical.byContradiction
  intro hn
  refine h fun e he => ?_
  obtain ⟨i, hi⟩ := List.getElem?_of_mem he
  have hl := (List.getElem?_eq_some_iff.1 hi).1
  apply Classical.byContradiction
  intro hz
  exact hn ⟨i, hl, by simp [gets, hi]; exact hz⟩

end Go.Proofs.Ythlfdhooiekgjaa
/-
  The program's polygon of edges. No condition.
-/
namespace Go.Proofs.Ythlfdhooiekgjaa
open Go Go.RowKit
attribute [local irreducible] AWp AOps ResIs Ret1 QOp LOp COp AFnV AFn Imms LeE LeO
set_option maxHeartbeats 1000000
set_option linter.unusedSimpArgs false
set_option linter.unusedVariables false

theorem sum60 {xss : List (List Int)} (hr : ∀ e ∈ xss, E60 e) : (0 ≤ sS E0 xss ∧ sS E0 xss ≤ 60 * xss.length) ∧ (0 ≤ sS E1 xss ∧ sS E1 xss ≤ 60 * xss.length) := by
  have b0 := sS_take_le (F := E0) (B := 60) (by decide) (xss := xss) (fun x hx => by have := (hr x hx).2.1; simp only [E0]; omega) xss.length
  have b1 := sS_take_le (F := E1) (B := 60) (by decide) (xss := xss) (fun x hx => by have := (hr x hx).2.2; simp only [E1]; omega) xss.length
  rw [List.take_length] at b0 b1
  exact ⟨b0, b1⟩

set_option maxHeartbeats 8000000 in
theorem implSupportOfEdges_c (xss : List (List Int)) : AFn Try.prog 22 [.intss xss] (IsSSC 38 2 (seL xss) (seE xss)) := by
  (refine AFn.start Try.func22 Try.ntmps22 rfl (by kernel_rfl) fun hk => ?_; simp only [Env.start, enumF, List.length_cons, List.length_nil, Nat.reduceAdd, Nat.reduceSub, List.cons_append, List.nil_append])
  by_cases hl : 1 ≤ xss.length ∧ xss.length ≤ 60
  case neg =>
    obtain ⟨e1, e2⟩ := seE_bad (xss := xss) fun h => hl h.1
    repeat' (first | (apply AOps.nil; try simp only [List.nil_append, List.cons_append, List.set_cons_zero, List.set_cons_succ, List.length_cons, List.length_nil, Nat.reduceAdd, AV.sh, AV.sh1, AV.sh0, AO.sh, List.map_cons, List.map_nil, Nat.zero_add, Nat.add_zero, setAll]) | ((apply AOps.splitP; exact rfl; exact rfl) <;> intro h) | (apply w_move; exact rfl; exact rfl) | (apply w_assign; exact rfl; exact rfl) | apply AWp.seq | apply AWp.region | ((apply AWp.condP; exact rfl) <;> intro h) | (apply AWp.condT; exact rfl) | apply AWp.block | apply AWp.ret | apply AWp.skip | (apply w_skip; exact rfl) | (apply w_pickT; exact rfl; exact rfl; exact rfl) | (apply w_pickF; exact rfl; exact rfl; exact rfl) | (apply w_len; exact rfl; exact rfl; first | exact .ints _ | exact .intss _ | exact .sli rfl | exact .sls rfl | exact .slr rfl | exact .orow rfl | exact .nil) | omega | ((first | apply w_lss | apply w_gtr); iterate 3 exact rfl))
    all_goals exact ⟨_, _, _, .a2 Try.results22 rfl rfl, .tup2 (.nils 38 2), by rw [e1], by rw [e2]⟩
  repeat' (first | (apply AOps.nil; try simp only [List.nil_append, List.cons_append, List.set_cons_zero, List.set_cons_succ, List.length_cons, List.length_nil, Nat.reduceAdd, AV.sh, AV.sh1, AV.sh0, AO.sh, List.map_cons, List.map_nil, Nat.zero_add, Nat.add_zero, setAll]) | ((apply AOps.splitP; exact rfl; exact rfl) <;> intro h) | (apply w_move; exact rfl; exact rfl) | (apply w_assign; exact rfl; exact rfl) | apply AWp.seq | apply AWp.region | ((apply AWp.condP; exact rfl) <;> intro h) | (apply AWp.condT; exact rfl) | apply AWp.block | apply AWp.ret | apply AWp.skip | (apply w_skip; exact rfl) | (apply w_pickT; exact rfl; exact rfl; exact rfl) | (apply w_pickF; exact rfl; exact rfl; exact rfl) | (apply w_len; exact rfl; exact rfl; first | exact .ints _ | exact .intss _ | exact .sli rfl | exact .sls rfl | exact .slr rfl | exact .orow rfl | exact .nil) | omega | ((first | apply w_lss | apply w_gtr); iterate 3 exact rfl))
  by_cases hr : ∀ e ∈ xss, E60 e
  case neg =>
    obtain ⟨b, hb, hbad⟩ := bad_row hr
    obtain ⟨e1, e2⟩ := seE_bad (xss := xss) fun h => hr h.2
    refine AWp.loop (ι := Nat) (fun i => ⟨43, [(4, .i (sS E1 (xss.take i))), (15, .intss xss), (16, .i xss.length), (17, .i i)]⟩) (fun i => []) (fun i => i ≤ b ∧ 0 ≤ sS E1 (xss.take i) ∧ sS E1 (xss.take i) ≤ 60 * i) (fun i => xss.length - i) 0 ⟨by omega, by simp [sS]⟩ ⟨lee rfl (by (repeat (first | exact le_nil | refine le_eq rfl rfl ?_))), by (repeat (exact lo_nil)), rfl, rfl⟩ ?_
    rintro i ⟨h0, h1, h2⟩
    have eg : xss.getD i [] = gets xss (i : Nat) := by simp [gets, List.getD_eq_getElem?_getD]
    have s1 := sS_take_succ E1 xss i (by omega)
    rw [eg] at s1
    simp only [E1] at s1
    by_cases hi : E60 (gets xss (i : Nat))
    · have hne : i ≠ b := fun e => by subst e; exact hbad hi
      obtain ⟨a1, a2, a3⟩ := hi
      have hw := within_c (gets xss (i : Nat)) 1 60
      rw [within2 a1, decide_eq_true (by omega)] at hw
      repeat' (first | (apply AOps.nil; try simp only [List.nil_append, List.cons_append, List.set_cons_zero, List.set_cons_succ, List.length_cons, List.length_nil, Nat.reduceAdd, AV.sh, AV.sh1, AV.sh0, AO.sh, List.map_cons, List.map_nil, Nat.zero_add, Nat.add_zero, setAll]) | ((apply AOps.splitP; exact rfl; exact rfl) <;> intro h) | (apply w_move; exact rfl; exact rfl) | (apply w_assign; exact rfl; exact rfl) | apply AWp.seq | apply AWp.region | ((apply AWp.condP; exact rfl) <;> intro h) | (apply AWp.condT; exact rfl) | (apply AWp.condF; exact rfl) | apply AWp.block | apply AWp.ret | apply AWp.exit | apply AWp.skip | (apply w_skip; exact rfl) | (apply w_pickT; exact rfl; exact rfl; exact rfl) | (apply w_pickF; exact rfl; exact rfl; exact rfl) | (apply w_len; exact rfl; exact rfl; first | exact .ints _ | exact .intss _ | exact .sli rfl | exact .sls rfl | exact .slr rfl | exact .orow rfl | exact .nil) | (apply w_call (hw); exact rfl; exact rfl; focus ((repeat (first | exact im_nil | refine im_cons rfl (.val _) ?_ | refine im_cons rfl (.ints _) ?_)); done)) | omega | ((first | apply w_lss | apply w_neq | apply w_add | apply w_idx | apply w_ld); iterate 3 exact rfl) | ((first | apply w_idxs | apply w_lds); iterate 3 exact rfl) | ((apply w_not); iterate 2 exact rfl) | (apply inI_of <;> omega))
      exact ⟨i + 1, ⟨by omega, by omega⟩, by omega, ⟨lee rfl (by (repeat (first | exact le_nil | refine le_eq rfl rfl ?_ | refine le_eq rfl (congrArg AV.i (by omega)) ?_))), by (repeat (exact lo_nil)), rfl, rfl⟩⟩
    · have hw := within_c (gets xss (i : Nat)) 1 60
      by_cases a1 : (gets xss (i : Nat)).length = 2
      · rw [within2 a1, decide_eq_false (by unfold E60 at hi; omega)] at hw
        repeat' (first | (apply AOps.nil; try simp only [List.nil_append, List.cons_append, List.set_cons_zero, List.set_cons_succ, List.length_cons, List.length_nil, Nat.reduceAdd, AV.sh, AV.sh1, AV.sh0, AO.sh, List.map_cons, List.map_nil, Nat.zero_add, Nat.add_zero, setAll]) | ((apply AOps.splitP; exact rfl; exact rfl) <;> intro h) | (apply w_move; exact rfl; exact rfl) | (apply w_assign; exact rfl; exact rfl) | apply AWp.seq | apply AWp.region | ((apply AWp.condP; exact rfl) <;> intro h) | (apply AWp.condT; exact rfl) | apply AWp.block | apply AWp.ret | apply AWp.exit | apply AWp.skip | (apply w_skip; exact rfl) | (apply w_pickT; exact rfl; exact rfl; exact rfl) | (apply w_pickF; exact rfl; exact rfl; exact rfl) | (apply w_len; exact rfl; exact rfl; first | exact .ints _ | exact .intss _ | exact .sli rfl | exact .sls rfl | exact .slr rfl | exact .orow rfl | exact .nil) | (apply w_call (hw); exact rfl; exact rfl; focus ((repeat (first | exact im_nil | refine im_cons rfl (.val _) ?_ | refine im_cons rfl (.ints _) ?_)); done)) | omega | ((first | apply w_lss | apply w_neq | apply w_idx | apply w_ld); iterate 3 exact rfl) | ((first | apply w_idxs | apply w_lds); iterate 3 exact rfl) | ((apply w_not); iterate 2 exact rfl))
        all_goals exact ⟨_, _, _, .a2 Try.results22 rfl rfl, .tup2 (.nils 38 2), by rw [e1], by rw [e2]⟩
      · repeat' (first | (apply AOps.nil; try simp only [List.nil_append, List.cons_append, List.set_cons_zero, List.set_cons_succ, List.length_cons, List.length_nil, Nat.reduceAdd, AV.sh, AV.sh1, AV.sh0, AO.sh, List.map_cons, List.map_nil, Nat.zero_add, Nat.add_zero, setAll]) | ((apply AOps.splitP; exact rfl; exact rfl) <;> intro h) | (apply w_move; exact rfl; exact rfl) | (apply w_assign; exact rfl; exact rfl) | apply AWp.seq | apply AWp.region | ((apply AWp.condP; exact rfl) <;> intro h) | (apply AWp.condT; exact rfl) | apply AWp.block | apply AWp.ret | apply AWp.exit | apply AWp.skip | (apply w_skip; exact rfl) | (apply w_pickT; exact rfl; exact rfl; exact rfl) | (apply w_len; exact rfl; exact rfl; first | exact .ints _ | exact .intss _ | exact .sli rfl | exact .sls rfl | exact .slr rfl | exact .orow rfl | exact .nil) | (apply w_call (hw); exact rfl; exact rfl; focus ((repeat (first | exact im_nil | refine im_cons rfl (.val _) ?_ | refine im_cons rfl (.ints _) ?_)); done)) | omega | ((first | apply w_lss | apply w_neq | apply w_idx | apply w_ld); iterate 3 exact rfl) | ((first | apply w_idxs | apply w_lds); iterate 3 exact rfl))
        all_goals exact ⟨_, _, _, .a2 Try.results22 rfl rfl, .tup2 (.nils 38 2), by rw [e1], by rw [e2]⟩
  refine AWp.loop (ι := Nat) (fun i => ⟨43, [(0, .intss xss), (4, .i (sS E1 (xss.take i))), (15, .intss xss), (16, .i xss.length), (17, .i i)]⟩) (fun i => []) (fun i => i ≤ xss.length ∧ 0 ≤ sS E1 (xss.take i) ∧ sS E1 (xss.take i) ≤ 60 * i) (fun i => xss.length - i) 0 ⟨by omega, by simp [sS]⟩ ⟨lee rfl (by (repeat (first | exact le_nil | refine le_eq rfl rfl ?_))), by (repeat (exact lo_nil)), rfl, rfl⟩ ?_
  rintro i ⟨h0, h1, h2⟩
  by_cases hi : i < xss.length
  · have eg : xss.getD i [] = gets xss (i : Nat) := by simp [gets, List.getD_eq_getElem?_getD]
    have s1 := sS_take_succ E1 xss i (by omega)
    rw [eg] at s1
    simp only [E1] at s1
    obtain ⟨a1, a2, a3⟩ := seRow hr i hi
    have hw := within_c (gets xss (i : Nat)) 1 60
    rw [within2 a1, decide_eq_true (by omega)] at hw
    repeat' (first | (apply AOps.nil; try simp only [List.nil_append, List.cons_append, List.set_cons_zero, List.set_cons_succ, List.length_cons, List.length_nil, Nat.reduceAdd, AV.sh, AV.sh1, AV.sh0, AO.sh, List.map_cons, List.map_nil, Nat.zero_add, Nat.add_zero, setAll]) | ((apply AOps.splitP; exact rfl; exact rfl) <;> intro h) | (apply w_move; exact rfl; exact rfl) | (apply w_assign; exact rfl; exact rfl) | apply AWp.seq | apply AWp.region | ((apply AWp.condP; exact rfl) <;> intro h) | (apply AWp.condT; exact rfl) | (apply AWp.condF; exact rfl) | apply AWp.block | apply AWp.ret | apply AWp.exit | apply AWp.skip | (apply w_skip; exact rfl) | (apply w_pickT; exact rfl; exact rfl; exact rfl) | (apply w_pickF; exact rfl; exact rfl; exact rfl) | (apply w_len; exact rfl; exact rfl; first | exact .ints _ | exact .intss _ | exact .sli rfl | exact .sls rfl | exact .slr rfl | exact .orow rfl | exact .nil) | (apply w_call (hw); exact rfl; exact rfl; focus ((repeat (first | exact im_nil | refine im_cons rfl (.val _) ?_ | refine im_cons rfl (.ints _) ?_)); done)) | omega | ((first | apply w_lss | apply w_neq | apply w_add | apply w_idx | apply w_ld); iterate 3 exact rfl) | ((first | apply w_idxs | apply w_lds); iterate 3 exact rfl) | ((apply w_not); iterate 2 exact rfl) | (apply inI_of <;> omega))
    exact ⟨i + 1, ⟨by omega, by omega⟩, by omega, ⟨lee rfl (by (repeat (first | exact le_nil | refine le_eq rfl rfl ?_ | refine le_eq rfl (congrArg AV.i (by omega)) ?_))), by (repeat (exact lo_nil)), rfl, rfl⟩⟩
  · have ei : i = xss.length := by omega
    subst ei
    rw [List.take_length] at h1 h2
    rw [List.take_length]
    have hje := joinedEdges_all xss (by omega) hr
    have hsum := sum60 hr
    obtain ⟨p, ep⟩ : ∃ p, p = [0, sS E1 xss] := ⟨_, rfl⟩
    have p0 : geti p 0 = 0 := by rw [ep]; rfl
    have p1 : geti p 1 = sS E1 xss := by rw [ep]; rfl
    have hp : p.length = 2 := by rw [ep]; rfl
    repeat' (first | (apply AOps.nil; try simp only [List.nil_append, List.cons_append, List.set_cons_zero, List.set_cons_succ, List.length_cons, List.length_nil, Nat.reduceAdd, AV.sh, AV.sh1, AV.sh0, AO.sh, List.map_cons, List.map_nil, Nat.zero_add, Nat.add_zero, setAll]) | (apply w_move; exact rfl; exact rfl) | apply AWp.seq | apply AWp.region | ((apply AWp.condP; exact rfl) <;> intro h) | apply AWp.block | apply AWp.exit | apply AWp.skip | (apply w_callm (hje); (focus ((repeat (first | exact im_nil | refine im_cons rfl (.intss _) ?_)); done)); rintro r os0 ⟨L, hL, rfl, rfl⟩; try simp only [List.nil_append, List.cons_append, List.set_cons_zero, List.set_cons_succ, List.length_cons, List.length_nil, Nat.reduceAdd, AV.sh, AV.sh1, AV.sh0, AO.sh, List.map_cons, List.map_nil, Nat.zero_add, Nat.add_zero, setAll]) | omega | ((first | apply w_lss | apply w_bs2); iterate 3 exact rfl) | (apply inI_of <;> omega))
    have hLl := hL.len
    have hLp : ∀ l ∈ L, 0 ≤ geti l 0 ∧ 0 ≤ geti l 1 := fun l hl => by have := (hL.pos l hl).2; omega
    have hbox := fun q => @vfP_box L hLp p q
    have hs0 := hL.tot.1
    have hs1 := hL.tot.2
    have hlen := vfP_len L p
    have hver := verticesFrom_c p L hp (by omega) (fun l hl => (hL.pos l hl).1) (fun q hq => by have := hbox q hq; omega)
    rw [ep] at hver
    repeat' (apply w_callm (hver); (focus ((repeat (first | exact im_nil | refine im_cons rfl (.sli rfl) ?_ | refine im_cons rfl (.sls rfl) ?_)); done)); rintro r os0 ⟨rfl, rfl⟩; try simp only [List.nil_append, List.cons_append, List.set_cons_zero, List.set_cons_succ, List.length_cons, List.length_nil, Nat.reduceAdd, AV.sh, AV.sh1, AV.sh0, AO.sh, List.map_cons, List.map_nil, Nat.zero_add, Nat.add_zero, setAll])
    rw [← ep]
    have hrow := vfP_row (L := L) hp
    by_cases h3 : 60 < sS E0 xss ∨ 60 < sS E1 xss
    · obtain ⟨e1, e2⟩ := seE_lim ⟨hl, hr⟩ h3
      have hbad : ∃ r ∈ vfP p L, ¬ R60 r := by
        rcases h3 with h3 | h3
        · refine ⟨[sS E0 L, geti p 1 - sS E1 L], vfP_all hp rfl (by rw [geti_p0]; omega) (by rw [geti_p1]), ?_⟩
          unfold R60; rw [geti_p0]; omega
        · obtain ⟨r, hr⟩ := vfP_ne p L
          refine ⟨p, by rw [hr]; simp, ?_⟩
          unfold R60; omega
      have hlim := limBad_c (vfP p L) (by omega) hrow hbad
      repeat' (first | (apply AOps.nil; try simp only [List.nil_append, List.cons_append, List.set_cons_zero, List.set_cons_succ, List.length_cons, List.length_nil, Nat.reduceAdd, AV.sh, AV.sh1, AV.sh0, AO.sh, List.map_cons, List.map_nil, Nat.zero_add, Nat.add_zero, setAll]) | (apply w_assign; exact rfl; exact rfl) | apply AWp.ret | (apply w_callc [2] (hlim); exact rfl; (exact handed1 rfl True.intro); (focus ((repeat (first | exact imu_nil | refine imu_cons rfl (.own rfl) ?_)); done)); rintro r os0 ⟨rfl, rfl⟩; try simp only [List.nil_append, List.cons_append, List.set_cons_zero, List.set_cons_succ, List.length_cons, List.length_nil, Nat.reduceAdd, AV.sh, AV.sh1, AV.sh0, AO.sh, List.map_cons, List.map_nil, Nat.zero_add, Nat.add_zero, setAll]) | ((apply w_ext); iterate 3 exact rfl))
      all_goals exact ⟨_, _, _, .a2 Try.results22 rfl rfl, .tup2 (.nils 38 2), by rw [e1], by rw [e2]⟩
    · obtain ⟨e1, e2⟩ := seE_ok ⟨hl, hr⟩ h3
      have hlim := limOk_c (vfP p L) (by omega) (fun r hr => ⟨hrow r hr, by have := hbox r hr; unfold R60; omega⟩)
      have hh := vf_hull (srtE_all xss) (srtE_stS (fun x hx => (hr x hx).2.2.1) xss.length (Nat.le_refl _)) (fun e he => (hr e he).ep) hL hp
      rw [ep] at hh
      rw [e1, e2, hh, ← ep]
      repeat' (first | (apply AOps.nil; try simp only [List.nil_append, List.cons_append, List.set_cons_zero, List.set_cons_succ, List.length_cons, List.length_nil, Nat.reduceAdd, AV.sh, AV.sh1, AV.sh0, AO.sh, List.map_cons, List.map_nil, Nat.zero_add, Nat.add_zero, setAll]) | (apply w_assign; exact rfl; exact rfl) | apply AWp.ret | (apply w_callc [2] (hlim); exact rfl; (exact handed1 rfl True.intro); (focus ((repeat (first | exact imu_nil | refine imu_cons rfl (.own rfl) ?_)); done)); rintro r os0 ⟨rfl, rfl⟩; try simp only [List.nil_append, List.cons_append, List.set_cons_zero, List.set_cons_succ, List.length_cons, List.length_nil, Nat.reduceAdd, AV.sh, AV.sh1, AV.sh0, AO.sh, List.map_cons, List.map_nil, Nat.zero_add, Nat.add_zero, setAll]) | ((apply w_ext); iterate 3 exact rfl))
      exact ⟨_, _, _, .a2 Try.results22 rfl rfl, .tup2 (.sls rfl), rfl, rfl⟩
end Go.Proofs.Ythlfdhooiekgjaa
/-
  Sums of hulls, walked on both sides. Condition: both lists are supports.
-/
namespace Go.Proofs.Ythlfdhooiekgjaa
open Go Go.RowKit
attribute [local irreducible] AWp AOps ResIs Ret1 QOp LOp COp AFnV AFn Imms LeE LeO
set_option maxHeartbeats 1000000
set_option linter.unusedSimpArgs false
set_option linter.unusedVariables false

theorem hasS {xss : List (List Int)} (h : isSup xss = true) : HasV xss (verts xss) := by
  obtain ⟨V, hV⟩ := verts_ex (sup_rows h).1.1 (fun r hr => ((sup_rows h).2 r hr).2.2.1)
  rw [verts_eq (fun r hr => ((sup_rows h).2 r hr).1) hV]
  exact hV

end Go.Proofs.Ythlfdhooiekgjaa
/-
  The program's sum of hulls; sums of supports and mixed areas on both sides. No condition.
-/
namespace Go.Proofs.Ythlfdhooiekgjaa
open Go Go.RowKit
attribute [local irreducible] AWp AOps ResIs Ret1 QOp LOp COp AFnV AFn Imms LeE LeO
set_option maxHeartbeats 1000000
set_option linter.unusedSimpArgs false
set_option linter.unusedVariables false

/-! ### Sums of supports -/
end Go.Proofs.Ythlfdhooiekgjaa
/-
  The law of the polygon of edges. No condition.
-/
namespace Go.Proofs.Ythlfdhooiekgjaa
open Go Go.RowKit
attribute [local irreducible] AWp AOps ResIs Ret1 QOp LOp COp AFnV AFn Imms LeE LeO
set_option maxHeartbeats 1000000
set_option linter.unusedSimpArgs false
set_option linter.unusedVariables false

end Go.Proofs.Ythlfdhooiekgjaa
/-
  Mixed areas on both sides; the laws. No condition.
-/
namespace Go.Proofs.Ythlfdhooiekgjaa
open Go Go.RowKit
attribute [local irreducible] AWp AOps ResIs Ret1 QOp LOp COp AFnV AFn Imms LeE LeO
set_option maxHeartbeats 1000000
set_option linter.unusedSimpArgs false
set_option linter.unusedVariables false

theorem vfP_getD {L : List (List Int)} {p : List Int} : ∀ n, n ≤ L.length → geti ((vfP p L).getD n []) 0 = geti p 0 + sS E0 (L.take n) ∧ geti ((vfP p L).getD n []) 1 = geti p 1 - sS E1 (L.take n)
  | 0, _ => by rw [vfP_0]; simp [sS]
  | n + 1, h => by
    obtain ⟨i1, i2⟩ := vfP_getD (L := L) (p := p) n (by omega)
    rw [vfP_succ L p n (by omega), sS_take_succ _ _ _ (by omega), sS_take_succ _ _ _ (by omega), geti_p0, geti_p1]
    simp only [E0, E1] at *
    omega
theorem gets_D (V : List (List Int)) (n : Nat) : gets V (n : Nat) = V.getD n [] := by simp [gets, List.getD_eq_getElem?_getD]
end Go.Proofs.Ythlfdhooiekgjaa
/-
  Vertices, edges, areas of supports: the exported functions. No condition.
-/
namespace Go.Proofs.Ythlfdhooiekgjaa
open Go Go.RowKit
attribute [local irreducible] AWp AOps ResIs Ret1 QOp LOp COp AFnV AFn Imms LeE LeO
set_option maxHeartbeats 1000000
set_option linter.unusedSimpArgs false
set_option linter.unusedVariables false

noncomputable def suE (xss : List (List Int)) : Int := if isSup xss = true then 0 else 1
noncomputable def nvL (xss : List (List Int)) : List (List Int) := if isSup xss = true then verts xss else []
noncomputable def neL (xss : List (List Int)) : List (List Int) := if isSup xss = true then edL (verts xss) ((verts xss).length - 1) else []
theorem corS {xss : List (List Int)} (h : isSup xss = true) : AFn Try.prog 37 [.intss xss] (IsIntss 38 2 (verts xss)) := corners_c xss (sup_rows h).1.1 (by have := (sup_rows h).1.2; omega) (sup_pb h)
theorem verS {xss : List (List Int)} (h : isSup xss = true) : AFn Try.prog 39 [.intss xss] (IsIntss 38 2 (verts xss)) := l15Vertices_c xss (sup_rows h).1.1 (by have := (sup_rows h).1.2; omega) (sup_pb h)


theorem implIsConvenient_c (xss : List (List Int)) : AFnV Try.prog 21 [.intss xss] (.tuple #[.bool (isSup xss && conv (verts xss)), .int .i64 (suE xss)]) := by
  (refine AFnV.start Try.func21 Try.ntmps21 rfl (by kernel_rfl) fun hk => ?_; simp only [Env.start, enumF, List.length_cons, List.length_nil, Nat.reduceAdd, Nat.reduceSub, List.cons_append, List.nil_append])
  have c1 := implIsSupport_c xss
  cases h1 : isSup xss with
  | false =>
    rw [h1] at c1
    repeat' (first | (apply AOps.nil; try simp only [List.nil_append, List.cons_append, List.set_cons_zero, List.set_cons_succ, List.length_cons, List.length_nil, Nat.reduceAdd, AV.sh, AV.sh1, AV.sh0, AO.sh, List.map_cons, List.map_nil, Nat.zero_add, Nat.add_zero, setAll]) | (apply w_move; exact rfl; exact rfl) | (apply w_assign; exact rfl; exact rfl) | apply AWp.seq | apply AWp.region | (apply AWp.condT; exact rfl) | apply AWp.ret | (apply w_call (c1); exact rfl; exact rfl; focus ((repeat (first | exact im_nil | refine im_cons rfl (.intss _) ?_)); done)) | ((apply w_not); iterate 2 exact rfl))
    exact .boolint Try.results21 rfl rfl (by simp) (by simp [suE, h1])
  | true =>
    rw [h1] at c1
    repeat' (first | (apply AOps.nil; try simp only [List.nil_append, List.cons_append, List.set_cons_zero, List.set_cons_succ, List.length_cons, List.length_nil, Nat.reduceAdd, AV.sh, AV.sh1, AV.sh0, AO.sh, List.map_cons, List.map_nil, Nat.zero_add, Nat.add_zero, setAll]) | (apply w_move; exact rfl; exact rfl) | (apply w_assign; exact rfl; exact rfl) | apply AWp.seq | apply AWp.region | (apply AWp.condF; exact rfl) | apply AWp.ret | apply AWp.skip | (apply w_call (c1); exact rfl; exact rfl; focus ((repeat (first | exact im_nil | refine im_cons rfl (.intss _) ?_)); done)) | (apply w_callm (corS h1); (focus ((repeat (first | exact im_nil | refine im_cons rfl (.intss _) ?_)); done)); rintro r os0 ⟨rfl, rfl⟩; try simp only [List.nil_append, List.cons_append, List.set_cons_zero, List.set_cons_succ, List.length_cons, List.length_nil, Nat.reduceAdd, AV.sh, AV.sh1, AV.sh0, AO.sh, List.map_cons, List.map_nil, Nat.zero_add, Nat.add_zero, setAll]) | (apply w_call (isConvenient_c _ (sup_ok h1)); exact rfl; exact rfl; focus ((repeat (first | exact im_nil | refine im_cons rfl (.sls rfl) ?_)); done)) | ((apply w_not); iterate 2 exact rfl))
    exact .boolint Try.results21 rfl rfl (by simp) (by simp [suE, h1])

theorem specNewtonVertices_c (xss : List (List Int)) : AFn Try.prog 8 [.intss xss] (IsSSC 38 2 (nvL xss) (suE xss)) := by
  (refine AFn.start Try.func8 Try.ntmps8 rfl (by kernel_rfl) fun hk => ?_; simp only [Env.start, enumF, List.length_cons, List.length_nil, Nat.reduceAdd, Nat.reduceSub, List.cons_append, List.nil_append])
  have c1 := l15Is_c xss
  cases h1 : isSup xss with
  | false =>
    rw [h1] at c1
    repeat' (first | (apply AOps.nil; try simp only [List.nil_append, List.cons_append, List.set_cons_zero, List.set_cons_succ, List.length_cons, List.length_nil, Nat.reduceAdd, AV.sh, AV.sh1, AV.sh0, AO.sh, List.map_cons, List.map_nil, Nat.zero_add, Nat.add_zero, setAll]) | (apply w_move; exact rfl; exact rfl) | (apply w_assign; exact rfl; exact rfl) | apply AWp.seq | apply AWp.region | (apply AWp.condT; exact rfl) | apply AWp.ret | (apply w_call (c1); exact rfl; exact rfl; focus ((repeat (first | exact im_nil | refine im_cons rfl (.intss _) ?_)); done)) | ((apply w_not); iterate 2 exact rfl))
    all_goals exact ⟨_, _, _, .a2 Try.results8 rfl rfl, .tup2 (.nils 38 2), by simp [suE, h1], by simp [nvL, h1]⟩
  | true =>
    rw [h1] at c1
    repeat' (first | (apply AOps.nil; try simp only [List.nil_append, List.cons_append, List.set_cons_zero, List.set_cons_succ, List.length_cons, List.length_nil, Nat.reduceAdd, AV.sh, AV.sh1, AV.sh0, AO.sh, List.map_cons, List.map_nil, Nat.zero_add, Nat.add_zero, setAll]) | (apply w_move; exact rfl; exact rfl) | (apply w_assign; exact rfl; exact rfl) | apply AWp.seq | apply AWp.region | (apply AWp.condF; exact rfl) | apply AWp.ret | apply AWp.skip | (apply w_call (c1); exact rfl; exact rfl; focus ((repeat (first | exact im_nil | refine im_cons rfl (.intss _) ?_)); done)) | (apply w_callm (verS h1); (focus ((repeat (first | exact im_nil | refine im_cons rfl (.intss _) ?_)); done)); rintro r os0 ⟨rfl, rfl⟩; try simp only [List.nil_append, List.cons_append, List.set_cons_zero, List.set_cons_succ, List.length_cons, List.length_nil, Nat.reduceAdd, AV.sh, AV.sh1, AV.sh0, AO.sh, List.map_cons, List.map_nil, Nat.zero_add, Nat.add_zero, setAll]) | ((apply w_not); iterate 2 exact rfl))
    all_goals exact ⟨_, _, _, .a2 Try.results8 rfl rfl, .tup2 (.sls rfl), by simp [suE, h1], by simp [nvL, h1]⟩
theorem implNewtonVertices_c (xss : List (List Int)) : AFn Try.prog 7 [.intss xss] (IsSSC 38 2 (nvL xss) (suE xss)) := by
  (refine AFn.start Try.func7 Try.ntmps7 rfl (by kernel_rfl) fun hk => ?_; simp only [Env.start, enumF, List.length_cons, List.length_nil, Nat.reduceAdd, Nat.reduceSub, List.cons_append, List.nil_append])
  have c1 := implIsSupport_c xss
  cases h1 : isSup xss with
  | false =>
    rw [h1] at c1
    repeat' (first | (apply AOps.nil; try simp only [List.nil_append, List.cons_append, List.set_cons_zero, List.set_cons_succ, List.length_cons, List.length_nil, Nat.reduceAdd, AV.sh, AV.sh1, AV.sh0, AO.sh, List.map_cons, List.map_nil, Nat.zero_add, Nat.add_zero, setAll]) | (apply w_move; exact rfl; exact rfl) | (apply w_assign; exact rfl; exact rfl) | apply AWp.seq | apply AWp.region | (apply AWp.condT; exact rfl) | apply AWp.ret | (apply w_call (c1); exact rfl; exact rfl; focus ((repeat (first | exact im_nil | refine im_cons rfl (.intss _) ?_)); done)) | ((apply w_not); iterate 2 exact rfl))
    all_goals exact ⟨_, _, _, .a2 Try.results7 rfl rfl, .tup2 (.nils 38 2), by simp [suE, h1], by simp [nvL, h1]⟩
  | true =>
    rw [h1] at c1
    repeat' (first | (apply AOps.nil; try simp only [List.nil_append, List.cons_append, List.set_cons_zero, List.set_cons_succ, List.length_cons, List.length_nil, Nat.reduceAdd, AV.sh, AV.sh1, AV.sh0, AO.sh, List.map_cons, List.map_nil, Nat.zero_add, Nat.add_zero, setAll]) | (apply w_move; exact rfl; exact rfl) | (apply w_assign; exact rfl; exact rfl) | apply AWp.seq | apply AWp.region | (apply AWp.condF; exact rfl) | apply AWp.ret | apply AWp.skip | (apply w_call (c1); exact rfl; exact rfl; focus ((repeat (first | exact im_nil | refine im_cons rfl (.intss _) ?_)); done)) | (apply w_callm (corS h1); (focus ((repeat (first | exact im_nil | refine im_cons rfl (.intss _) ?_)); done)); rintro r os0 ⟨rfl, rfl⟩; try simp only [List.nil_append, List.cons_append, List.set_cons_zero, List.set_cons_succ, List.length_cons, List.length_nil, Nat.reduceAdd, AV.sh, AV.sh1, AV.sh0, AO.sh, List.map_cons, List.map_nil, Nat.zero_add, Nat.add_zero, setAll]) | ((apply w_not); iterate 2 exact rfl))
    all_goals exact ⟨_, _, _, .a2 Try.results7 rfl rfl, .tup2 (.sls rfl), by simp [suE, h1], by simp [nvL, h1]⟩

theorem specNewtonEdges_c (xss : List (List Int)) : AFn Try.prog 13 [.intss xss] (IsSSC 38 2 (neL xss) (suE xss)) := by
  (refine AFn.start Try.func13 Try.ntmps13 rfl (by kernel_rfl) fun hk => ?_; simp only [Env.start, enumF, List.length_cons, List.length_nil, Nat.reduceAdd, Nat.reduceSub, List.cons_append, List.nil_append])
  have c1 := l15Is_c xss
  cases h1 : isSup xss with
  | false =>
    rw [h1] at c1
    repeat' (first | (apply AOps.nil; try simp only [List.nil_append, List.cons_append, List.set_cons_zero, List.set_cons_succ, List.length_cons, List.length_nil, Nat.reduceAdd, AV.sh, AV.sh1, AV.sh0, AO.sh, List.map_cons, List.map_nil, Nat.zero_add, Nat.add_zero, setAll]) | (apply w_move; exact rfl; exact rfl) | (apply w_assign; exact rfl; exact rfl) | apply AWp.seq | apply AWp.region | (apply AWp.condT; exact rfl) | apply AWp.ret | (apply w_call (c1); exact rfl; exact rfl; focus ((repeat (first | exact im_nil | refine im_cons rfl (.intss _) ?_)); done)) | ((apply w_not); iterate 2 exact rfl))
    all_goals exact ⟨_, _, _, .a2 Try.results13 rfl rfl, .tup2 (.nils 38 2), by simp [suE, h1], by simp [neL, h1]⟩
  | true =>
    rw [h1] at c1
    repeat' (first | (apply AOps.nil; try simp only [List.nil_append, List.cons_append, List.set_cons_zero, List.set_cons_succ, List.length_cons, List.length_nil, Nat.reduceAdd, AV.sh, AV.sh1, AV.sh0, AO.sh, List.map_cons, List.map_nil, Nat.zero_add, Nat.add_zero, setAll]) | (apply w_move; exact rfl; exact rfl) | (apply w_assign; exact rfl; exact rfl) | apply AWp.seq | apply AWp.region | (apply AWp.condF; exact rfl) | apply AWp.ret | apply AWp.skip | (apply w_call (c1); exact rfl; exact rfl; focus ((repeat (first | exact im_nil | refine im_cons rfl (.intss _) ?_)); done)) | (apply w_callm (verS h1); (focus ((repeat (first | exact im_nil | refine im_cons rfl (.intss _) ?_)); done)); rintro r os0 ⟨rfl, rfl⟩; try simp only [List.nil_append, List.cons_append, List.set_cons_zero, List.set_cons_succ, List.length_cons, List.length_nil, Nat.reduceAdd, AV.sh, AV.sh1, AV.sh0, AO.sh, List.map_cons, List.map_nil, Nat.zero_add, Nat.add_zero, setAll]) | (apply w_callm (l15Edges_c (by decide) _ (sup_ok h1)); (focus ((repeat (first | exact im_nil | refine im_cons rfl (.sls rfl) ?_)); done)); rintro r os0 ⟨rfl, rfl⟩; try simp only [List.nil_append, List.cons_append, List.set_cons_zero, List.set_cons_succ, List.length_cons, List.length_nil, Nat.reduceAdd, AV.sh, AV.sh1, AV.sh0, AO.sh, List.map_cons, List.map_nil, Nat.zero_add, Nat.add_zero, setAll]) | ((apply w_not); iterate 2 exact rfl))
    all_goals exact ⟨_, _, _, .a2 Try.results13 rfl rfl, .tup2 (.sls rfl), by simp [suE, h1], by simp [neL, h1]⟩
theorem implNewtonEdges_c (xss : List (List Int)) : AFn Try.prog 12 [.intss xss] (IsSSC 38 2 (neL xss) (suE xss)) := by
  (refine AFn.start Try.func12 Try.ntmps12 rfl (by kernel_rfl) fun hk => ?_; simp only [Env.start, enumF, List.length_cons, List.length_nil, Nat.reduceAdd, Nat.reduceSub, List.cons_append, List.nil_append])
  have c1 := implIsSupport_c xss
  cases h1 : isSup xss with
  | false =>
    rw [h1] at c1
    repeat' (first | (apply AOps.nil; try simp only [List.nil_append, List.cons_append, List.set_cons_zero, List.set_cons_succ, List.length_cons, List.length_nil, Nat.reduceAdd, AV.sh, AV.sh1, AV.sh0, AO.sh, List.map_cons, List.map_nil, Nat.zero_add, Nat.add_zero, setAll]) | (apply w_move; exact rfl; exact rfl) | (apply w_assign; exact rfl; exact rfl) | apply AWp.seq | apply AWp.region | (apply AWp.condT; exact rfl) | apply AWp.ret | (apply w_call (c1); exact rfl; exact rfl; focus ((repeat (first | exact im_nil | refine im_cons rfl (.intss _) ?_)); done)) | ((apply w_not); iterate 2 exact rfl))
    all_goals exact ⟨_, _, _, .a2 Try.results12 rfl rfl, .tup2 (.nils 38 2), by simp [suE, h1], by simp [neL, h1]⟩
  | true =>
    rw [h1] at c1
    repeat' (first | (apply AOps.nil; try simp only [List.nil_append, List.cons_append, List.set_cons_zero, List.set_cons_succ, List.length_cons, List.length_nil, Nat.reduceAdd, AV.sh, AV.sh1, AV.sh0, AO.sh, List.map_cons, List.map_nil, Nat.zero_add, Nat.add_zero, setAll]) | (apply w_move; exact rfl; exact rfl) | (apply w_assign; exact rfl; exact rfl) | apply AWp.seq | apply AWp.region | (apply AWp.condF; exact rfl) | apply AWp.ret | apply AWp.skip | (apply w_call (c1); exact rfl; exact rfl; focus ((repeat (first | exact im_nil | refine im_cons rfl (.intss _) ?_)); done)) | (apply w_callm (corS h1); (focus ((repeat (first | exact im_nil | refine im_cons rfl (.intss _) ?_)); done)); rintro r os0 ⟨rfl, rfl⟩; try simp only [List.nil_append, List.cons_append, List.set_cons_zero, List.set_cons_succ, List.length_cons, List.length_nil, Nat.reduceAdd, AV.sh, AV.sh1, AV.sh0, AO.sh, List.map_cons, List.map_nil, Nat.zero_add, Nat.add_zero, setAll]) | (apply w_callm (edgesBetween_c (by decide) _ (sup_ok h1)); (focus ((repeat (first | exact im_nil | refine im_cons rfl (.sls rfl) ?_)); done)); rintro r os0 ⟨rfl, rfl⟩; try simp only [List.nil_append, List.cons_append, List.set_cons_zero, List.set_cons_succ, List.length_cons, List.length_nil, Nat.reduceAdd, AV.sh, AV.sh1, AV.sh0, AO.sh, List.map_cons, List.map_nil, Nat.zero_add, Nat.add_zero, setAll]) | ((apply w_not); iterate 2 exact rfl))
    all_goals exact ⟨_, _, _, .a2 Try.results12 rfl rfl, .tup2 (.sls rfl), by simp [suE, h1], by simp [neL, h1]⟩

end Go.Proofs.Ythlfdhooiekgjaa
/-
  The greatest common divisor, in the program and in the model. No condition but that both numbers are no greater than 2^62.
-/
namespace Go.Proofs.Ythlfdhooiekgjaa
open Go Go.RowKit
attribute [local irreducible] AWp AOps ResIs Ret1 QOp LOp COp AFnV AFn Imms LeE LeO
set_option maxHeartbeats 1000000
set_option linter.unusedSimpArgs false
set_option linter.unusedVariables false

theorem gcd_step (a b : Int) (h0 : 0 ≤ a) (h : 0 < b) : Int.gcd b (a % b) = Int.gcd a b := by
  obtain ⟨x, rfl⟩ := Int.eq_ofNat_of_zero_le h0
  obtain ⟨y, rfl⟩ := Int.eq_ofNat_of_zero_le (Int.le_of_lt h)
  rw [← Int.natCast_emod]
  simp only [Int.gcd_natCast_natCast]
  rw [Nat.gcd_comm x y, Nat.gcd_comm y]
  exact (Nat.gcd_rec y x).symm

def mid (a : Int) : Prop := -4611686018427387904 ≤ a ∧ a ≤ 4611686018427387904

theorem abs_c (a : Int) (ha : mid a) : AFnV Try.prog 72 [.i a] (.int .i64 a.natAbs) := by
  unfold mid at ha
  (refine AFnV.start Try.func72 Try.ntmps72 rfl (by kernel_rfl) fun hk => ?_; simp only [Env.start, enumF, List.length_cons, List.length_nil, Nat.reduceAdd, Nat.reduceSub, List.cons_append, List.nil_append])
  repeat' (first
  | (apply AOps.nil; try simp only [List.nil_append, List.cons_append, List.set_cons_zero, List.set_cons_succ, List.length_cons, List.length_nil, Nat.reduceAdd, AV.sh, AV.sh1, AV.sh0, AO.sh, List.map_cons, List.map_nil, Nat.zero_add, Nat.add_zero, setAll])
  | ((apply AOps.splitP; exact rfl; exact rfl) <;> intro h)
  | ((apply AOps.splitN; exact rfl; exact rfl) <;> intro h)
  | (apply w_move; exact rfl; exact rfl)
  | (apply w_assign; exact rfl; exact rfl)
  | apply AWp.seq
  | apply AWp.region
  | ((apply AWp.condP; exact rfl) <;> intro h)
  | ((apply AWp.condN; exact rfl) <;> intro h)
  | (apply AWp.condT; exact rfl)
  | (apply AWp.condF; exact rfl)
  | ((apply AWp.condB; exact rfl) <;> intro h)
  | apply AWp.block
  | apply AWp.ret
  | apply AWp.exit
  | apply AWp.skip
  | (apply AWp.regionQ; kernel_rfl; kernel_rfl)
  | (apply if_pos'; exact rfl)
  | (apply if_neg'; decide)
  | (apply w_skip; exact rfl)
  | (apply w_pickT; exact rfl; exact rfl; exact rfl)
  | (apply w_pickF; exact rfl; exact rfl; exact rfl)
  | (apply w_len; exact rfl; exact rfl; first | exact .ints _ | exact .intss _ | exact .sli rfl | exact .sls rfl | exact .slr rfl | exact .orow rfl | exact .nil)
  | ((first | apply w_lss | apply w_leq | apply w_gtr | apply w_geq | apply w_eql | apply w_neq | apply w_add | apply w_sub | apply w_mul | apply w_idx | apply w_ld | apply w_fld | apply w_fa | apply w_extv | apply w_min | apply w_max | apply w_slhi | apply w_sllo | apply w_bs2); iterate 3 exact rfl)
  | ((first | apply w_eqlb | apply w_neqb | apply w_idxs | apply w_lds | apply w_ext); iterate 3 exact rfl)
  | (apply w_rem; exact rfl; exact rfl; exact rfl; (focus (omega; done)); (focus (omega; done)))
  | (apply w_quo; exact rfl; exact rfl; exact rfl; (focus (omega; done)); (focus (omega; done)))
  | (apply w_remT; exact rfl; exact rfl; exact rfl)
  | (apply w_quoT; exact rfl; exact rfl; exact rfl)
  | ((first | apply w_not | apply w_neg | apply w_conv | apply w_build0 | apply w_bs1 | apply w_boxa); iterate 2 exact rfl)
  | (apply w_idxo; exact rfl; exact rfl; (first | exact .sli rfl | exact .sls rfl | exact .slr rfl); exact rfl)
  | ((first | apply w_idxr | apply w_ldr); iterate 4 exact rfl)
  | (apply w_ldo; iterate 4 exact rfl)
  | (apply w_ldls; iterate 4 exact rfl)
  | (apply w_ldrp; iterate 4 exact rfl)
  | (apply w_ldb; iterate 5 exact rfl)
  | (apply w_ldst; iterate 5 exact rfl)
  | ((first | apply w_sllh | apply w_stbi); iterate 4 exact rfl)
  | ((first | apply w_oslo | apply w_oshi | apply w_stbii); iterate 4 exact rfl)
  | (apply w_copy; exact rfl; (first | exact .own rfl rfl rfl | exact .osub); exact rfl; rotate_left 1; exact rfl; (first | exact .ints _ | exact .sli rfl | exact .orow rfl | exact .nil | exact .osub rfl (by simp; omega)))
  | (apply w_build1; exact rfl; exact rfl; (first | exact one_val rfl rfl | exact one_ints | exact one_intss | exact one_own rfl True.intro))
  | (apply w_build2; exact rfl; exact rfl; exact rfl; (first | exact one_val rfl rfl | exact one_ints | exact one_intss | exact one_own rfl True.intro); (first | exact one_val rfl rfl | exact one_ints | exact one_intss | exact one_own rfl True.intro))
  | (apply w_bs0; iterate 1 exact rfl)
  | (apply w_appn; exact rfl; exact rfl; (first | exact .ints _ | exact .sli rfl | exact .orow rfl | exact .nil | exact .osub rfl (by simp; omega)); exact rfl)
  | (apply w_app; exact rfl; exact rfl; exact rfl; exact rfl; (first | exact .ints _ | exact .sli rfl | exact .orow rfl | exact .nil | exact .osub rfl (by simp; omega)); rotate_left 1; simp only [Env.mp, List.map_cons, List.map_nil, List.set_cons_zero, List.set_cons_succ, AV.kill, AV.kill1, AO.kill, AV.noRow, AV.noRow1, AO.via, reduceIte, Nat.reduceEqDiff, Nat.reduceLT, Env.up, Nat.zero_ne_one, Nat.one_ne_zero, Nat.reduceAdd, List.cons_append, List.nil_append]; rotate_left 1)
  | (apply w_alst; iterate 2 exact rfl)
  | (apply w_alone; iterate 3 exact rfl)
  | (apply w_mki; exact rfl; exact rfl; rotate_left 3; exact rfl; rotate_left 1)
  | (apply w_mkr; exact rfl; exact rfl; rotate_left 3; exact rfl; rotate_left 1)
  | (apply w_strow; exact rfl; exact rfl; rotate_left 1; exact rfl; exact rfl; exact rfl; exact rfl; simp only [Env.mp, List.map_cons, List.map_nil, List.set_cons_zero, List.set_cons_succ, AV.kill, AV.kill1, AO.kill, AV.noRow, AV.noRow1, AO.via, reduceIte, Nat.reduceEqDiff, Nat.reduceLT, Env.up, Nat.zero_ne_one, Nat.one_ne_zero, Nat.reduceAdd, List.cons_append, List.nil_append]; rotate_left 1)
  | (apply w_sti; exact rfl; exact rfl; rotate_left 1; exact rfl; rotate_left 2)
  | (apply w_stst; iterate 5 exact rfl)
  | (apply w_stbv; iterate 6 exact rfl)
  | (apply w_stbo; exact rfl; exact rfl; exact rfl; exact rfl; exact rfl; exact True.intro)
  | ((apply AOps.splitB; exact rfl; exact rfl) <;> intro h)
  | apply AllOf.nil
  | (apply AllOf.cons; exact rfl)
  | (apply AAny.take; exact rfl; exact rfl; kernel_rfl; kernel_rfl)
  | (apply AAny.all; exact rfl)
  | (apply AAny.done; exact rfl)
  | (apply inI_of <;> omega)
  | omega
  | (simp <;> omega))
  all_goals exact .int Try.results72 rfl (by omega)

theorem divisor_c (a b : Int) (ha : mid a) (hb : mid b) : AFnV Try.prog 44 [.i a, .i b] (.int .i64 (Int.gcd a b)) := by
  (refine AFnV.start Try.func44 Try.ntmps44 rfl (by kernel_rfl) fun hk => ?_; simp only [Env.start, enumF, List.length_cons, List.length_nil, Nat.reduceAdd, Nat.reduceSub, List.cons_append, List.nil_append])
  repeat' (first
  | (apply AOps.nil; try simp only [List.nil_append, List.cons_append, List.set_cons_zero, List.set_cons_succ, List.length_cons, List.length_nil, Nat.reduceAdd, AV.sh, AV.sh1, AV.sh0, AO.sh, List.map_cons, List.map_nil, Nat.zero_add, Nat.add_zero, setAll])
  | ((apply AOps.splitP; exact rfl; exact rfl) <;> intro h)
  | ((apply AOps.splitN; exact rfl; exact rfl) <;> intro h)
  | (apply w_move; exact rfl; exact rfl)
  | (apply w_assign; exact rfl; exact rfl)
  | apply AWp.seq
  | apply AWp.region
  | ((apply AWp.condP; exact rfl) <;> intro h)
  | ((apply AWp.condN; exact rfl) <;> intro h)
  | (apply AWp.condT; exact rfl)
  | (apply AWp.condF; exact rfl)
  | ((apply AWp.condB; exact rfl) <;> intro h)
  | apply AWp.block
  | apply AWp.ret
  | apply AWp.exit
  | apply AWp.skip
  | (apply AWp.regionQ; kernel_rfl; kernel_rfl)
  | (apply if_pos'; exact rfl)
  | (apply if_neg'; decide)
  | (apply w_skip; exact rfl)
  | (apply w_pickT; exact rfl; exact rfl; exact rfl)
  | (apply w_pickF; exact rfl; exact rfl; exact rfl)
  | (apply w_len; exact rfl; exact rfl; first | exact .ints _ | exact .intss _ | exact .sli rfl | exact .sls rfl | exact .slr rfl | exact .orow rfl | exact .nil)
  | (apply w_call (abs_c _ ha); exact rfl; exact rfl; focus ((repeat (first | exact im_nil | refine im_cons rfl (.val _) ?_ | refine im_cons rfl (.ints _) ?_ | refine im_cons rfl (.intss _) ?_ | refine im_cons rfl (.sli rfl) ?_ | refine im_cons rfl (.sls rfl) ?_ | refine im_cons rfl (.orow rfl) ?_ | refine im_cons rfl (.osub rfl (by simp; omega)) ?_ | refine im_cons rfl (.nil) ?_ | refine im_cons rfl (.nils) ?_ | refine im_cons rfl (im_agg2 (.val _) (.ints _)) ?_ | refine im_cons rfl (im_agg2 (.val _) (.sli rfl)) ?_ | refine im_cons rfl (im_agg2 (.val _) (.nil)) ?_ | refine im_cons rfl (im_agg2 (.ints _) (.intss _)) ?_ | refine im_cons rfl (im_agg2 (.ints _) (.sls rfl)) ?_ | refine im_cons rfl (im_agg2 (.sli rfl) (.intss _)) ?_ | refine im_cons rfl (im_agg2 (.sli rfl) (.sls rfl)) ?_ | refine im_cons rfl (im_agg1 (.ints _)) ?_ | refine im_cons rfl (im_agg1 (.sli rfl)) ?_ | refine im_cons rfl (im_agg1 (.intss _)) ?_ | refine im_cons rfl (im_agg1 (.sls rfl)) ?_ | refine im_cons rfl (im_agg1 (.nil)) ?_ | refine im_cons rfl (im_agg1 (.nils)) ?_)); done))
  | (apply w_call (abs_c _ hb); exact rfl; exact rfl; focus ((repeat (first | exact im_nil | refine im_cons rfl (.val _) ?_ | refine im_cons rfl (.ints _) ?_ | refine im_cons rfl (.intss _) ?_ | refine im_cons rfl (.sli rfl) ?_ | refine im_cons rfl (.sls rfl) ?_ | refine im_cons rfl (.orow rfl) ?_ | refine im_cons rfl (.osub rfl (by simp; omega)) ?_ | refine im_cons rfl (.nil) ?_ | refine im_cons rfl (.nils) ?_ | refine im_cons rfl (im_agg2 (.val _) (.ints _)) ?_ | refine im_cons rfl (im_agg2 (.val _) (.sli rfl)) ?_ | refine im_cons rfl (im_agg2 (.val _) (.nil)) ?_ | refine im_cons rfl (im_agg2 (.ints _) (.intss _)) ?_ | refine im_cons rfl (im_agg2 (.ints _) (.sls rfl)) ?_ | refine im_cons rfl (im_agg2 (.sli rfl) (.intss _)) ?_ | refine im_cons rfl (im_agg2 (.sli rfl) (.sls rfl)) ?_ | refine im_cons rfl (im_agg1 (.ints _)) ?_ | refine im_cons rfl (im_agg1 (.sli rfl)) ?_ | refine im_cons rfl (im_agg1 (.intss _)) ?_ | refine im_cons rfl (im_agg1 (.sls rfl)) ?_ | refine im_cons rfl (im_agg1 (.nil)) ?_ | refine im_cons rfl (im_agg1 (.nils)) ?_)); done))
  | ((first | apply w_lss | apply w_leq | apply w_gtr | apply w_geq | apply w_eql | apply w_neq | apply w_add | apply w_sub | apply w_mul | apply w_idx | apply w_ld | apply w_fld | apply w_fa | apply w_extv | apply w_min | apply w_max | apply w_slhi | apply w_sllo | apply w_bs2); iterate 3 exact rfl)
  | ((first | apply w_eqlb | apply w_neqb | apply w_idxs | apply w_lds | apply w_ext); iterate 3 exact rfl)
  | (apply w_rem; exact rfl; exact rfl; exact rfl; (focus (omega; done)); (focus (omega; done)))
  | (apply w_quo; exact rfl; exact rfl; exact rfl; (focus (omega; done)); (focus (omega; done)))
  | (apply w_remT; exact rfl; exact rfl; exact rfl)
  | (apply w_quoT; exact rfl; exact rfl; exact rfl)
  | ((first | apply w_not | apply w_neg | apply w_conv | apply w_build0 | apply w_bs1 | apply w_boxa); iterate 2 exact rfl)
  | (apply w_idxo; exact rfl; exact rfl; (first | exact .sli rfl | exact .sls rfl | exact .slr rfl); exact rfl)
  | ((first | apply w_idxr | apply w_ldr); iterate 4 exact rfl)
  | (apply w_ldo; iterate 4 exact rfl)
  | (apply w_ldls; iterate 4 exact rfl)
  | (apply w_ldrp; iterate 4 exact rfl)
  | (apply w_ldb; iterate 5 exact rfl)
  | (apply w_ldst; iterate 5 exact rfl)
  | ((first | apply w_sllh | apply w_stbi); iterate 4 exact rfl)
  | ((first | apply w_oslo | apply w_oshi | apply w_stbii); iterate 4 exact rfl)
  | (apply w_copy; exact rfl; (first | exact .own rfl rfl rfl | exact .osub); exact rfl; rotate_left 1; exact rfl; (first | exact .ints _ | exact .sli rfl | exact .orow rfl | exact .nil | exact .osub rfl (by simp; omega)))
  | (apply w_build1; exact rfl; exact rfl; (first | exact one_val rfl rfl | exact one_ints | exact one_intss | exact one_own rfl True.intro))
  | (apply w_build2; exact rfl; exact rfl; exact rfl; (first | exact one_val rfl rfl | exact one_ints | exact one_intss | exact one_own rfl True.intro); (first | exact one_val rfl rfl | exact one_ints | exact one_intss | exact one_own rfl True.intro))
  | (apply w_bs0; iterate 1 exact rfl)
  | (apply w_appn; exact rfl; exact rfl; (first | exact .ints _ | exact .sli rfl | exact .orow rfl | exact .nil | exact .osub rfl (by simp; omega)); exact rfl)
  | (apply w_app; exact rfl; exact rfl; exact rfl; exact rfl; (first | exact .ints _ | exact .sli rfl | exact .orow rfl | exact .nil | exact .osub rfl (by simp; omega)); rotate_left 1; simp only [Env.mp, List.map_cons, List.map_nil, List.set_cons_zero, List.set_cons_succ, AV.kill, AV.kill1, AO.kill, AV.noRow, AV.noRow1, AO.via, reduceIte, Nat.reduceEqDiff, Nat.reduceLT, Env.up, Nat.zero_ne_one, Nat.one_ne_zero, Nat.reduceAdd, List.cons_append, List.nil_append]; rotate_left 1)
  | (apply w_alst; iterate 2 exact rfl)
  | (apply w_alone; iterate 3 exact rfl)
  | (apply w_mki; exact rfl; exact rfl; rotate_left 3; exact rfl; rotate_left 1)
  | (apply w_mkr; exact rfl; exact rfl; rotate_left 3; exact rfl; rotate_left 1)
  | (apply w_strow; exact rfl; exact rfl; rotate_left 1; exact rfl; exact rfl; exact rfl; exact rfl; simp only [Env.mp, List.map_cons, List.map_nil, List.set_cons_zero, List.set_cons_succ, AV.kill, AV.kill1, AO.kill, AV.noRow, AV.noRow1, AO.via, reduceIte, Nat.reduceEqDiff, Nat.reduceLT, Env.up, Nat.zero_ne_one, Nat.one_ne_zero, Nat.reduceAdd, List.cons_append, List.nil_append]; rotate_left 1)
  | (apply w_sti; exact rfl; exact rfl; rotate_left 1; exact rfl; rotate_left 2)
  | (apply w_stst; iterate 5 exact rfl)
  | (apply w_stbv; iterate 6 exact rfl)
  | (apply w_stbo; exact rfl; exact rfl; exact rfl; exact rfl; exact rfl; exact True.intro)
  | ((apply AOps.splitB; exact rfl; exact rfl) <;> intro h)
  | apply AllOf.nil
  | (apply AllOf.cons; exact rfl)
  | (apply AAny.take; exact rfl; exact rfl; kernel_rfl; kernel_rfl)
  | (apply AAny.all; exact rfl)
  | (apply AAny.done; exact rfl)
  | (apply inI_of <;> omega)
  | omega
  | (simp <;> omega))
  unfold mid at ha hb
  refine AWp.loop (ι := Int × Int) (fun s => ⟨16, [(0, .i s.1), (1, .i s.2)]⟩) (fun _ => []) (fun s => 0 ≤ s.1 ∧ 0 ≤ s.2 ∧ s.1 ≤ 4611686018427387904 ∧ s.2 ≤ 4611686018427387904 ∧ Int.gcd s.1 s.2 = Int.gcd a b) (fun s => s.2.toNat) (a.natAbs, b.natAbs) ⟨by simp, by simp, by simp; omega, by simp; omega, by simp [Int.gcd]⟩ ⟨lee rfl (by (repeat (first | exact le_nil | refine le_eq rfl rfl ?_ | refine le_eq rfl (congrArg AV.i (by omega)) ?_))), by (repeat (first | exact lo_nil | refine lo_dead ?_ | refine lo_eq rfl ?_)), rfl, rfl⟩ ?_
  rintro ⟨x, y⟩ ⟨h0, h1, h2, h3, h4⟩
  simp only at h0 h1 h2 h3 h4
  repeat' (first
  | (apply AOps.nil; try simp only [List.nil_append, List.cons_append, List.set_cons_zero, List.set_cons_succ, List.length_cons, List.length_nil, Nat.reduceAdd, AV.sh, AV.sh1, AV.sh0, AO.sh, List.map_cons, List.map_nil, Nat.zero_add, Nat.add_zero, setAll])
  | ((apply AOps.splitP; exact rfl; exact rfl) <;> intro h)
  | ((apply AOps.splitN; exact rfl; exact rfl) <;> intro h)
  | (apply w_move; exact rfl; exact rfl)
  | (apply w_assign; exact rfl; exact rfl)
  | apply AWp.seq
  | apply AWp.region
  | ((apply AWp.condP; exact rfl) <;> intro h)
  | ((apply AWp.condN; exact rfl) <;> intro h)
  | (apply AWp.condT; exact rfl)
  | (apply AWp.condF; exact rfl)
  | ((apply AWp.condB; exact rfl) <;> intro h)
  | apply AWp.block
  | apply AWp.ret
  | apply AWp.exit
  | apply AWp.skip
  | (apply AWp.regionQ; kernel_rfl; kernel_rfl)
  | (apply if_pos'; exact rfl)
  | (apply if_neg'; decide)
  | (apply w_skip; exact rfl)
  | (apply w_pickT; exact rfl; exact rfl; exact rfl)
  | (apply w_pickF; exact rfl; exact rfl; exact rfl)
  | (apply w_len; exact rfl; exact rfl; first | exact .ints _ | exact .intss _ | exact .sli rfl | exact .sls rfl | exact .slr rfl | exact .orow rfl | exact .nil)
  | ((first | apply w_lss | apply w_leq | apply w_gtr | apply w_geq | apply w_eql | apply w_neq | apply w_add | apply w_sub | apply w_mul | apply w_idx | apply w_ld | apply w_fld | apply w_fa | apply w_extv | apply w_min | apply w_max | apply w_slhi | apply w_sllo | apply w_bs2); iterate 3 exact rfl)
  | ((first | apply w_eqlb | apply w_neqb | apply w_idxs | apply w_lds | apply w_ext); iterate 3 exact rfl)
  | (apply w_rem; exact rfl; exact rfl; exact rfl; (focus (omega; done)); (focus (omega; done)))
  | (apply w_quo; exact rfl; exact rfl; exact rfl; (focus (omega; done)); (focus (omega; done)))
  | (apply w_remT; exact rfl; exact rfl; exact rfl)
  | (apply w_quoT; exact rfl; exact rfl; exact rfl)
  | ((first | apply w_not | apply w_neg | apply w_conv | apply w_build0 | apply w_bs1 | apply w_boxa); iterate 2 exact rfl)
  | (apply w_idxo; exact rfl; exact rfl; (first | exact .sli rfl | exact .sls rfl | exact .slr rfl); exact rfl)
  | ((first | apply w_idxr | apply w_ldr); iterate 4 exact rfl)
  | (apply w_ldo; iterate 4 exact rfl)
  | (apply w_ldls; iterate 4 exact rfl)
  | (apply w_ldrp; iterate 4 exact rfl)
  | (apply w_ldb; iterate 5 exact rfl)
  | (apply w_ldst; iterate 5 exact rfl)
  | ((first | apply w_sllh | apply w_stbi); iterate 4 exact rfl)
  | ((first | apply w_oslo | apply w_oshi | apply w_stbii); iterate 4 exact rfl)
  | (apply w_copy; exact rfl; (first | exact .own rfl rfl rfl | exact .osub); exact rfl; rotate_left 1; exact rfl; (first | exact .ints _ | exact .sli rfl | exact .orow rfl | exact .nil | exact .osub rfl (by simp; omega)))
  | (apply w_build1; exact rfl; exact rfl; (first | exact one_val rfl rfl | exact one_ints | exact one_intss | exact one_own rfl True.intro))
  | (apply w_build2; exact rfl; exact rfl; exact rfl; (first | exact one_val rfl rfl | exact one_ints | exact one_intss | exact one_own rfl True.intro); (first | exact one_val rfl rfl | exact one_ints | exact one_intss | exact one_own rfl True.intro))
  | (apply w_bs0; iterate 1 exact rfl)
  | (apply w_appn; exact rfl; exact rfl; (first | exact .ints _ | exact .sli rfl | exact .orow rfl | exact .nil | exact .osub rfl (by simp; omega)); exact rfl)
  | (apply w_app; exact rfl; exact rfl; exact rfl; exact rfl; (first | exact .ints _ | exact .sli rfl | exact .orow rfl | exact .nil | exact .osub rfl (by simp; omega)); rotate_left 1; simp only [Env.mp, List.map_cons, List.map_nil, List.set_cons_zero, List.set_cons_succ, AV.kill, AV.kill1, AO.kill, AV.noRow, AV.noRow1, AO.via, reduceIte, Nat.reduceEqDiff, Nat.reduceLT, Env.up, Nat.zero_ne_one, Nat.one_ne_zero, Nat.reduceAdd, List.cons_append, List.nil_append]; rotate_left 1)
  | (apply w_alst; iterate 2 exact rfl)
  | (apply w_alone; iterate 3 exact rfl)
  | (apply w_mki; exact rfl; exact rfl; rotate_left 3; exact rfl; rotate_left 1)
  | (apply w_mkr; exact rfl; exact rfl; rotate_left 3; exact rfl; rotate_left 1)
  | (apply w_strow; exact rfl; exact rfl; rotate_left 1; exact rfl; exact rfl; exact rfl; exact rfl; simp only [Env.mp, List.map_cons, List.map_nil, List.set_cons_zero, List.set_cons_succ, AV.kill, AV.kill1, AO.kill, AV.noRow, AV.noRow1, AO.via, reduceIte, Nat.reduceEqDiff, Nat.reduceLT, Env.up, Nat.zero_ne_one, Nat.one_ne_zero, Nat.reduceAdd, List.cons_append, List.nil_append]; rotate_left 1)
  | (apply w_sti; exact rfl; exact rfl; rotate_left 1; exact rfl; rotate_left 2)
  | (apply w_stst; iterate 5 exact rfl)
  | (apply w_stbv; iterate 6 exact rfl)
  | (apply w_stbo; exact rfl; exact rfl; exact rfl; exact rfl; exact rfl; exact True.intro)
  | ((apply AOps.splitB; exact rfl; exact rfl) <;> intro h)
  | apply AllOf.nil
  | (apply AllOf.cons; exact rfl)
  | (apply AAny.take; exact rfl; exact rfl; kernel_rfl; kernel_rfl)
  | (apply AAny.all; exact rfl)
  | (apply AAny.done; exact rfl)
  | (apply inI_of <;> omega)
  | omega
  | (simp <;> omega))
  · have hlt := Int.emod_lt_of_pos x h
    have hge := Int.emod_nonneg x (show y ≠ 0 by omega)
    exact ⟨(y, x % y), ⟨h1, hge, h3, by simp only; omega, by simp only; rw [gcd_step x y h0 h, h4]⟩, by simp only; omega, ⟨lee rfl (by (repeat (first | exact le_nil | refine le_eq rfl rfl ?_ | refine le_eq rfl (congrArg AV.i (by omega)) ?_))), by (repeat (first | exact lo_nil | refine lo_dead ?_ | refine lo_eq rfl ?_)), rfl, rfl⟩⟩
  · have e : y = 0 := by omega
    subst e
    exact .int Try.results44 rfl (by rw [← h4]; simp; omega)

theorem l01Gcd_c (a b : Int) (ha : mid a) (hb : mid b) : AFnV Try.prog 45 [.i a, .i b] (.int .i64 (Int.gcd a b)) := by
  unfold mid at ha hb
  (refine AFnV.start Try.func45 Try.ntmps45 rfl (by kernel_rfl) fun hk => ?_; simp only [Env.start, enumF, List.length_cons, List.length_nil, Nat.reduceAdd, Nat.reduceSub, List.cons_append, List.nil_append])
  repeat' (first
  | (apply AOps.nil; try simp only [List.nil_append, List.cons_append, List.set_cons_zero, List.set_cons_succ, List.length_cons, List.length_nil, Nat.reduceAdd, AV.sh, AV.sh1, AV.sh0, AO.sh, List.map_cons, List.map_nil, Nat.zero_add, Nat.add_zero, setAll])
  | ((apply AOps.splitP; exact rfl; exact rfl) <;> intro h)
  | ((apply AOps.splitN; exact rfl; exact rfl) <;> intro h)
  | (apply w_move; exact rfl; exact rfl)
  | (apply w_assign; exact rfl; exact rfl)
  | apply AWp.seq
  | apply AWp.region
  | ((apply AWp.condP; exact rfl) <;> intro h)
  | ((apply AWp.condN; exact rfl) <;> intro h)
  | (apply AWp.condT; exact rfl)
  | (apply AWp.condF; exact rfl)
  | ((apply AWp.condB; exact rfl) <;> intro h)
  | apply AWp.block
  | apply AWp.ret
  | apply AWp.exit
  | apply AWp.skip
  | (apply AWp.regionQ; kernel_rfl; kernel_rfl)
  | (apply if_pos'; exact rfl)
  | (apply if_neg'; decide)
  | (apply w_skip; exact rfl)
  | (apply w_pickT; exact rfl; exact rfl; exact rfl)
  | (apply w_pickF; exact rfl; exact rfl; exact rfl)
  | (apply w_len; exact rfl; exact rfl; first | exact .ints _ | exact .intss _ | exact .sli rfl | exact .sls rfl | exact .slr rfl | exact .orow rfl | exact .nil)
  | ((first | apply w_lss | apply w_leq | apply w_gtr | apply w_geq | apply w_eql | apply w_neq | apply w_add | apply w_sub | apply w_mul | apply w_idx | apply w_ld | apply w_fld | apply w_fa | apply w_extv | apply w_min | apply w_max | apply w_slhi | apply w_sllo | apply w_bs2); iterate 3 exact rfl)
  | ((first | apply w_eqlb | apply w_neqb | apply w_idxs | apply w_lds | apply w_ext); iterate 3 exact rfl)
  | (apply w_rem; exact rfl; exact rfl; exact rfl; (focus (omega; done)); (focus (omega; done)))
  | (apply w_quo; exact rfl; exact rfl; exact rfl; (focus (omega; done)); (focus (omega; done)))
  | (apply w_remT; exact rfl; exact rfl; exact rfl)
  | (apply w_quoT; exact rfl; exact rfl; exact rfl)
  | ((first | apply w_not | apply w_neg | apply w_conv | apply w_build0 | apply w_bs1 | apply w_boxa); iterate 2 exact rfl)
  | (apply w_idxo; exact rfl; exact rfl; (first | exact .sli rfl | exact .sls rfl | exact .slr rfl); exact rfl)
  | ((first | apply w_idxr | apply w_ldr); iterate 4 exact rfl)
  | (apply w_ldo; iterate 4 exact rfl)
  | (apply w_ldls; iterate 4 exact rfl)
  | (apply w_ldrp; iterate 4 exact rfl)
  | (apply w_ldb; iterate 5 exact rfl)
  | (apply w_ldst; iterate 5 exact rfl)
  | ((first | apply w_sllh | apply w_stbi); iterate 4 exact rfl)
  | ((first | apply w_oslo | apply w_oshi | apply w_stbii); iterate 4 exact rfl)
  | (apply w_copy; exact rfl; (first | exact .own rfl rfl rfl | exact .osub); exact rfl; rotate_left 1; exact rfl; (first | exact .ints _ | exact .sli rfl | exact .orow rfl | exact .nil | exact .osub rfl (by simp; omega)))
  | (apply w_build1; exact rfl; exact rfl; (first | exact one_val rfl rfl | exact one_ints | exact one_intss | exact one_own rfl True.intro))
  | (apply w_build2; exact rfl; exact rfl; exact rfl; (first | exact one_val rfl rfl | exact one_ints | exact one_intss | exact one_own rfl True.intro); (first | exact one_val rfl rfl | exact one_ints | exact one_intss | exact one_own rfl True.intro))
  | (apply w_bs0; iterate 1 exact rfl)
  | (apply w_appn; exact rfl; exact rfl; (first | exact .ints _ | exact .sli rfl | exact .orow rfl | exact .nil | exact .osub rfl (by simp; omega)); exact rfl)
  | (apply w_app; exact rfl; exact rfl; exact rfl; exact rfl; (first | exact .ints _ | exact .sli rfl | exact .orow rfl | exact .nil | exact .osub rfl (by simp; omega)); rotate_left 1; simp only [Env.mp, List.map_cons, List.map_nil, List.set_cons_zero, List.set_cons_succ, AV.kill, AV.kill1, AO.kill, AV.noRow, AV.noRow1, AO.via, reduceIte, Nat.reduceEqDiff, Nat.reduceLT, Env.up, Nat.zero_ne_one, Nat.one_ne_zero, Nat.reduceAdd, List.cons_append, List.nil_append]; rotate_left 1)
  | (apply w_alst; iterate 2 exact rfl)
  | (apply w_alone; iterate 3 exact rfl)
  | (apply w_mki; exact rfl; exact rfl; rotate_left 3; exact rfl; rotate_left 1)
  | (apply w_mkr; exact rfl; exact rfl; rotate_left 3; exact rfl; rotate_left 1)
  | (apply w_strow; exact rfl; exact rfl; rotate_left 1; exact rfl; exact rfl; exact rfl; exact rfl; simp only [Env.mp, List.map_cons, List.map_nil, List.set_cons_zero, List.set_cons_succ, AV.kill, AV.kill1, AO.kill, AV.noRow, AV.noRow1, AO.via, reduceIte, Nat.reduceEqDiff, Nat.reduceLT, Env.up, Nat.zero_ne_one, Nat.one_ne_zero, Nat.reduceAdd, List.cons_append, List.nil_append]; rotate_left 1)
  | (apply w_sti; exact rfl; exact rfl; rotate_left 1; exact rfl; rotate_left 2)
  | (apply w_stst; iterate 5 exact rfl)
  | (apply w_stbv; iterate 6 exact rfl)
  | (apply w_stbo; exact rfl; exact rfl; exact rfl; exact rfl; exact rfl; exact True.intro)
  | ((apply AOps.splitB; exact rfl; exact rfl) <;> intro h)
  | apply AllOf.nil
  | (apply AllOf.cons; exact rfl)
  | (apply AAny.take; exact rfl; exact rfl; kernel_rfl; kernel_rfl)
  | (apply AAny.all; exact rfl)
  | (apply AAny.done; exact rfl)
  | (apply inI_of <;> omega)
  | omega
  | (simp <;> omega))
  all_goals refine AWp.loop (ι := Int × Int) (fun s => ⟨22, [(0, .i s.1), (1, .i s.2)]⟩) (fun _ => []) (fun s => 0 ≤ s.1 ∧ 0 ≤ s.2 ∧ s.1 ≤ 4611686018427387904 ∧ s.2 ≤ 4611686018427387904 ∧ Int.gcd s.1 s.2 = Int.gcd a b) (fun s => s.2.toNat) (a.natAbs, b.natAbs) ⟨by simp, by simp, by simp; omega, by simp; omega, by simp [Int.gcd]⟩ ⟨lee rfl (by (repeat (first | exact le_nil | refine le_eq rfl rfl ?_ | refine le_eq rfl (congrArg AV.i (by omega)) ?_))), by (repeat (first | exact lo_nil | refine lo_dead ?_ | refine lo_eq rfl ?_)), rfl, rfl⟩ ?_
  all_goals rintro ⟨x, y⟩ ⟨h0, h1, h2, h3, h4⟩
  all_goals simp only at h0 h1 h2 h3 h4
  all_goals repeat' (first
  | (apply AOps.nil; try simp only [List.nil_append, List.cons_append, List.set_cons_zero, List.set_cons_succ, List.length_cons, List.length_nil, Nat.reduceAdd, AV.sh, AV.sh1, AV.sh0, AO.sh, List.map_cons, List.map_nil, Nat.zero_add, Nat.add_zero, setAll])
  | ((apply AOps.splitP; exact rfl; exact rfl) <;> intro h)
  | ((apply AOps.splitN; exact rfl; exact rfl) <;> intro h)
  | (apply w_move; exact rfl; exact rfl)
  | (apply w_assign; exact rfl; exact rfl)
  | apply AWp.seq
  | apply AWp.region
  | ((apply AWp.condP; exact rfl) <;> intro h)
  | ((apply AWp.condN; exact rfl) <;> intro h)
  | (apply AWp.condT; exact rfl)
  | (apply AWp.condF; exact rfl)
  | ((apply AWp.condB; exact rfl) <;> intro h)
  | apply AWp.block
  | apply AWp.ret
  | apply AWp.exit
  | apply AWp.skip
  | (apply AWp.regionQ; kernel_rfl; kernel_rfl)
  | (apply if_pos'; exact rfl)
  | (apply if_neg'; decide)
  | (apply w_skip; exact rfl)
  | (apply w_pickT; exact rfl; exact rfl; exact rfl)
  | (apply w_pickF; exact rfl; exact rfl; exact rfl)
  | (apply w_len; exact rfl; exact rfl; first | exact .ints _ | exact .intss _ | exact .sli rfl | exact .sls rfl | exact .slr rfl | exact .orow rfl | exact .nil)
  | ((first | apply w_lss | apply w_leq | apply w_gtr | apply w_geq | apply w_eql | apply w_neq | apply w_add | apply w_sub | apply w_mul | apply w_idx | apply w_ld | apply w_fld | apply w_fa | apply w_extv | apply w_min | apply w_max | apply w_slhi | apply w_sllo | apply w_bs2); iterate 3 exact rfl)
  | ((first | apply w_eqlb | apply w_neqb | apply w_idxs | apply w_lds | apply w_ext); iterate 3 exact rfl)
  | (apply w_rem; exact rfl; exact rfl; exact rfl; (focus (omega; done)); (focus (omega; done)))
  | (apply w_quo; exact rfl; exact rfl; exact rfl; (focus (omega; done)); (focus (omega; done)))
  | (apply w_remT; exact rfl; exact rfl; exact rfl)
  | (apply w_quoT; exact rfl; exact rfl; exact rfl)
  | ((first | apply w_not | apply w_neg | apply w_conv | apply w_build0 | apply w_bs1 | apply w_boxa); iterate 2 exact rfl)
  | (apply w_idxo; exact rfl; exact rfl; (first | exact .sli rfl | exact .sls rfl | exact .slr rfl); exact rfl)
  | ((first | apply w_idxr | apply w_ldr); iterate 4 exact rfl)
  | (apply w_ldo; iterate 4 exact rfl)
  | (apply w_ldls; iterate 4 exact rfl)
  | (apply w_ldrp; iterate 4 exact rfl)
  | (apply w_ldb; iterate 5 exact rfl)
  | (apply w_ldst; iterate 5 exact rfl)
  | ((first | apply w_sllh | apply w_stbi); iterate 4 exact rfl)
  | ((first | apply w_oslo | apply w_oshi | apply w_stbii); iterate 4 exact rfl)
  | (apply w_copy; exact rfl; (first | exact .own rfl rfl rfl | exact .osub); exact rfl; rotate_left 1; exact rfl; (first | exact .ints _ | exact .sli rfl | exact .orow rfl | exact .nil | exact .osub rfl (by simp; omega)))
  | (apply w_build1; exact rfl; exact rfl; (first | exact one_val rfl rfl | exact one_ints | exact one_intss | exact one_own rfl True.intro))
  | (apply w_build2; exact rfl; exact rfl; exact rfl; (first | exact one_val rfl rfl | exact one_ints | exact one_intss | exact one_own rfl True.intro); (first | exact one_val rfl rfl | exact one_ints | exact one_intss | exact one_own rfl True.intro))
  | (apply w_bs0; iterate 1 exact rfl)
  | (apply w_appn; exact rfl; exact rfl; (first | exact .ints _ | exact .sli rfl | exact .orow rfl | exact .nil | exact .osub rfl (by simp; omega)); exact rfl)
  | (apply w_app; exact rfl; exact rfl; exact rfl; exact rfl; (first | exact .ints _ | exact .sli rfl | exact .orow rfl | exact .nil | exact .osub rfl (by simp; omega)); rotate_left 1; simp only [Env.mp, List.map_cons, List.map_nil, List.set_cons_zero, List.set_cons_succ, AV.kill, AV.kill1, AO.kill, AV.noRow, AV.noRow1, AO.via, reduceIte, Nat.reduceEqDiff, Nat.reduceLT, Env.up, Nat.zero_ne_one, Nat.one_ne_zero, Nat.reduceAdd, List.cons_append, List.nil_append]; rotate_left 1)
  | (apply w_alst; iterate 2 exact rfl)
  | (apply w_alone; iterate 3 exact rfl)
  | (apply w_mki; exact rfl; exact rfl; rotate_left 3; exact rfl; rotate_left 1)
  | (apply w_mkr; exact rfl; exact rfl; rotate_left 3; exact rfl; rotate_left 1)
  | (apply w_strow; exact rfl; exact rfl; rotate_left 1; exact rfl; exact rfl; exact rfl; exact rfl; simp only [Env.mp, List.map_cons, List.map_nil, List.set_cons_zero, List.set_cons_succ, AV.kill, AV.kill1, AO.kill, AV.noRow, AV.noRow1, AO.via, reduceIte, Nat.reduceEqDiff, Nat.reduceLT, Env.up, Nat.zero_ne_one, Nat.one_ne_zero, Nat.reduceAdd, List.cons_append, List.nil_append]; rotate_left 1)
  | (apply w_sti; exact rfl; exact rfl; rotate_left 1; exact rfl; rotate_left 2)
  | (apply w_stst; iterate 5 exact rfl)
  | (apply w_stbv; iterate 6 exact rfl)
  | (apply w_stbo; exact rfl; exact rfl; exact rfl; exact rfl; exact rfl; exact True.intro)
  | ((apply AOps.splitB; exact rfl; exact rfl) <;> intro h)
  | apply AllOf.nil
  | (apply AllOf.cons; exact rfl)
  | (apply AAny.take; exact rfl; exact rfl; kernel_rfl; kernel_rfl)
  | (apply AAny.all; exact rfl)
  | (apply AAny.done; exact rfl)
  | (apply inI_of <;> omega)
  | omega
  | (simp <;> omega))
  all_goals first
    | (have hlt := Int.emod_lt_of_pos x h
       have hge := Int.emod_nonneg x (show y ≠ 0 by omega)
       exact ⟨(y, x % y), ⟨h1, hge, h3, by simp only; omega, by simp only; rw [gcd_step x y h0 h, h4]⟩, by simp only; omega, ⟨lee rfl (by (repeat (first | exact le_nil | refine le_eq rfl rfl ?_ | refine le_eq rfl (congrArg AV.i (by omega)) ?_))), by (repeat (first | exact lo_nil | refine lo_dead ?_ | refine lo_eq rfl ?_)), rfl, rfl⟩⟩)
    | (have e : y = 0 := by omega
       subst e
       exact .int Try.results45 rfl (by rw [← h4]; simp; omega))
end Go.Proofs.Ythlfdhooiekgjaa
/-
  The threshold of a support, and the branches of its edges. No condition.
-/
namespace Go.Proofs.Ythlfdhooiekgjaa
open Go Go.RowKit
attribute [local irreducible] AWp AOps ResIs Ret1 QOp LOp COp AFnV AFn Imms LeE LeO
set_option maxHeartbeats 1000000
set_option linter.unusedSimpArgs false
set_option linter.unusedVariables false

theorem verts_le {xss : List (List Int)} (h : isSup xss = true) : (verts xss).length ≤ 61 := by have := (sup_ok h).len; omega
/-- Edges of vertices with coordinates of at most 60. -/
def EdOk (E : List (List Int)) : Prop := ∀ i : Nat, i < E.length → (E.getD (i : Int).toNat []).length = 2 ∧ (0 < geti (E.getD (i : Int).toNat []) ((Int.toNat 0 : Nat) : Int) ∧ geti (E.getD (i : Int).toNat []) ((Int.toNat 0 : Nat) : Int) ≤ 60) ∧ (0 < geti (E.getD (i : Int).toNat []) ((Int.toNat 1 : Nat) : Int) ∧ geti (E.getD (i : Int).toNat []) ((Int.toNat 1 : Nat) : Int) ≤ 60)
theorem edL_get (V : List (List Int)) (n i : Nat) (h : i < n) : (edL V n).getD i [] = [geti (gets V ((i : Nat) + 1 : Int)) 0 - geti (gets V (i : Nat)) 0, geti (gets V (i : Nat)) 1 - geti (gets V ((i : Nat) + 1 : Int)) 1] := by
  simp [edL, List.getD_eq_getElem?_getD, h]
theorem edL_ok {V : List (List Int)} (h : VOk 60 V) : EdOk (edL V (V.length - 1)) := by
  intro i hi
  rw [edL_len] at hi
  obtain ⟨p1, p2, p3⟩ := h.at i (by omega)
  obtain ⟨q1, q2, q3⟩ := h.at (i + 1) (by omega)
  rw [show (((i + 1 : Nat) : Nat) : Int) = (i : Int) + 1 by omega] at q1 q2 q3
  have hi2 := h.inc i (by omega)
  show ((edL V (V.length - 1)).getD i []).length = 2 ∧ (0 < geti ((edL V (V.length - 1)).getD i []) 0 ∧ geti ((edL V (V.length - 1)).getD i []) 0 ≤ 60) ∧ (0 < geti ((edL V (V.length - 1)).getD i []) 1 ∧ geti ((edL V (V.length - 1)).getD i []) 1 ≤ 60)
  rw [edL_get V _ i hi]
  refine ⟨rfl, ?_, ?_⟩
  · show 0 < geti (gets V ((i : Nat) + 1 : Int)) 0 - geti (gets V (i : Nat)) 0 ∧ geti (gets V ((i : Nat) + 1 : Int)) 0 - geti (gets V (i : Nat)) 0 ≤ 60
    omega
  · show 0 < geti (gets V (i : Nat)) 1 - geti (gets V ((i : Nat) + 1 : Int)) 1 ∧ geti (gets V (i : Nat)) 1 - geti (gets V ((i : Nat) + 1 : Int)) 1 ≤ 60
    omega

/-! ### Branches of edges -/
def egD (E : List (List Int)) (i : Nat) : Int := Int.gcd (geti (E.getD (i : Int).toNat []) ((Int.toNat 0 : Nat) : Int)) (geti (E.getD (i : Int).toNat []) ((Int.toNat 1 : Nat) : Int))
def ebR (E : List (List Int)) (i : Nat) : List Int := [geti (E.getD (i : Int).toNat []) ((Int.toNat 0 : Nat) : Int) / egD E i, geti (E.getD (i : Int).toNat []) ((Int.toNat 1 : Nat) : Int) / egD E i]
def ebL (E : List (List Int)) : Nat → List (List Int)
  | 0 => []
  | i + 1 => ebL E i ++ List.replicate (egD E i).toNat (ebR E i)
theorem egD_in {E : List (List Int)} (h : EdOk E) (i : Nat) (hi : i < E.length) : 1 ≤ egD E i ∧ egD E i ≤ 60 := by
  obtain ⟨h1, h2, h3⟩ := h i hi
  unfold egD
  have a := Int.gcd_pos_of_ne_zero_left (geti (E.getD (i : Int).toNat []) ((Int.toNat 1 : Nat) : Int)) (show geti (E.getD (i : Int).toNat []) ((Int.toNat 0 : Nat) : Int) ≠ 0 by omega)
  have b := Int.gcd_dvd_left (geti (E.getD (i : Int).toNat []) ((Int.toNat 0 : Nat) : Int)) (geti (E.getD (i : Int).toNat []) ((Int.toNat 1 : Nat) : Int))
  have c := Int.le_of_dvd h2.1 b
  omega
theorem ebL_len {E : List (List Int)} (h : EdOk E) : ∀ i, i ≤ E.length → (ebL E i).length ≤ 60 * i
  | 0, _ => by simp [ebL]
  | i + 1, hi => by
    have ih := ebL_len h i (by omega)
    have := egD_in h i (by omega)
    rw [ebL, List.length_append, List.length_replicate]
    omega
theorem ebL_step (E : List (List Int)) (i k : Nat) : (ebL E i ++ List.replicate k (ebR E i)) ++ [ebR E i] = ebL E i ++ List.replicate (k + 1) (ebR E i) := by
  rw [List.append_assoc, List.replicate_succ']
noncomputable def ebF (xss : List (List Int)) : List (List Int) := if isSup xss = true then ebL (edL (verts xss) ((verts xss).length - 1)) ((verts xss).length - 1) else []

set_option maxHeartbeats 4000000 in
theorem specEdgeBranches_c (xss : List (List Int)) : AFn Try.prog 15 [.intss xss] (IsSSC 38 2 (ebF xss) (suE xss)) := by
  (refine AFn.start Try.func15 Try.ntmps15 rfl (by kernel_rfl) fun hk => ?_; simp only [Env.start, enumF, List.length_cons, List.length_nil, Nat.reduceAdd, Nat.reduceSub, List.cons_append, List.nil_append])
  have c1 := l15Is_c xss
  cases h1 : isSup xss with
  | false =>
    rw [h1] at c1
    repeat' (first | (apply AOps.nil; try simp only [List.nil_append, List.cons_append, List.set_cons_zero, List.set_cons_succ, List.length_cons, List.length_nil, Nat.reduceAdd, AV.sh, AV.sh1, AV.sh0, AO.sh, List.map_cons, List.map_nil, Nat.zero_add, Nat.add_zero, setAll]) | (apply w_move; exact rfl; exact rfl) | (apply w_assign; exact rfl; exact rfl) | apply AWp.seq | apply AWp.region | (apply AWp.condT; exact rfl) | apply AWp.ret | (apply w_call (c1); exact rfl; exact rfl; focus ((repeat (first | exact im_nil | refine im_cons rfl (.intss _) ?_)); done)) | ((apply w_not); iterate 2 exact rfl))
    all_goals exact ⟨_, _, _, .a2 Try.results15 rfl rfl, .tup2 (.nils 38 2), by simp [suE, h1], by simp [ebF, h1]⟩
  | true =>
    rw [h1] at c1
    have hv := sup_ok h1
    have hvl := verts_le h1
    have hE := edL_ok hv
    obtain ⟨V, eV⟩ : ∃ V, V = verts xss := ⟨_, rfl⟩
    have eF : ebF xss = ebL (edL V (V.length - 1)) (V.length - 1) := by rw [ebF, if_pos h1, eV]
    rw [← eV] at hv hvl hE
    have cV := verS h1
    rw [← eV] at cV
    have cE := l15Edges_c (by decide) V hv
    repeat' (first | (apply AOps.nil; try simp only [List.nil_append, List.cons_append, List.set_cons_zero, List.set_cons_succ, List.length_cons, List.length_nil, Nat.reduceAdd, AV.sh, AV.sh1, AV.sh0, AO.sh, List.map_cons, List.map_nil, Nat.zero_add, Nat.add_zero, setAll]) | (apply w_move; exact rfl; exact rfl) | (apply w_assign; exact rfl; exact rfl) | apply AWp.seq | apply AWp.region | (apply AWp.condF; exact rfl) | apply AWp.block | apply AWp.skip | ((apply w_bsr0); iterate 1 exact rfl) | (apply w_call (c1); exact rfl; exact rfl; focus ((repeat (first | exact im_nil | refine im_cons rfl (.intss _) ?_)); done)) | (apply w_callm (cV); (focus ((repeat (first | exact im_nil | refine im_cons rfl (.intss _) ?_)); done)); rintro r os0 ⟨rfl, rfl⟩; try simp only [List.nil_append, List.cons_append, List.set_cons_zero, List.set_cons_succ, List.length_cons, List.length_nil, Nat.reduceAdd, AV.sh, AV.sh1, AV.sh0, AO.sh, List.map_cons, List.map_nil, Nat.zero_add, Nat.add_zero, setAll]) | (apply w_callm (cE); (focus ((repeat (first | exact im_nil | refine im_cons rfl (.sls rfl) ?_)); done)); rintro r os0 ⟨rfl, rfl⟩; try simp only [List.nil_append, List.cons_append, List.set_cons_zero, List.set_cons_succ, List.length_cons, List.length_nil, Nat.reduceAdd, AV.sh, AV.sh1, AV.sh0, AO.sh, List.map_cons, List.map_nil, Nat.zero_add, Nat.add_zero, setAll]) | ((apply w_not); iterate 2 exact rfl))
    have eL := edL_len V (V.length - 1)
    obtain ⟨E, eE⟩ : ∃ E, E = edL V (V.length - 1) := ⟨_, rfl⟩
    rw [← eE] at hE eL eF
    simp only [← eE]
    refine AWp.loop (ι := Nat) (fun i => ⟨61, [(4, .own 1), (5, .own 2), (6, .i i)]⟩) (fun i => [.sls 38 2 V, .sls 38 2 E, .sls 38 2 (ebL E i)]) (fun i => i ≤ E.length) (fun i => E.length - i) 0 (by omega) ⟨lee rfl (by (repeat (first | exact le_nil | refine le_eq rfl rfl ?_))), by (repeat (first | exact lo_nil | refine lo_eq rfl ?_)), rfl, rfl⟩ ?_
    rintro i i0
    by_cases hi : i < E.length
    · obtain ⟨p1, p2, p3⟩ := hE i hi
      have cg := l01Gcd_c (geti (E.getD (i : Int).toNat []) ((Int.toNat 0 : Nat) : Int)) (geti (E.getD (i : Int).toNat []) ((Int.toNat 1 : Nat) : Int)) (by unfold mid; omega) (by unfold mid; omega)
      have g1 := egD_in hE i hi
      have l1 := ebL_len hE i i0
      have eg : ((Int.gcd (geti (E.getD (i : Int).toNat []) ((Int.toNat 0 : Nat) : Int)) (geti (E.getD (i : Int).toNat []) ((Int.toNat 1 : Nat) : Int)) : Nat) : Int) = egD E i := rfl
      rw [eg] at cg
      repeat' (first | (apply AOps.nil; try simp only [List.nil_append, List.cons_append, List.set_cons_zero, List.set_cons_succ, List.length_cons, List.length_nil, Nat.reduceAdd, AV.sh, AV.sh1, AV.sh0, AO.sh, List.map_cons, List.map_nil, Nat.zero_add, Nat.add_zero, setAll]) | (apply w_move; exact rfl; exact rfl) | (apply w_assign; exact rfl; exact rfl) | apply AWp.seq | apply AWp.region | ((apply AWp.condP; exact rfl) <;> intro h) | apply AWp.block | apply AWp.ret | apply AWp.exit | apply AWp.skip | (apply AWp.regionQ; kernel_rfl; kernel_rfl) | (apply w_len; exact rfl; exact rfl; first | exact .ints _ | exact .intss _ | exact .sli rfl | exact .sls rfl | exact .slr rfl | exact .orow rfl | exact .nil) | (apply w_call (cg); exact rfl; exact rfl; focus ((repeat (first | exact im_nil | refine im_cons rfl (.val _) ?_)); done)) | omega | ((first | apply w_lss | apply w_idx | apply w_ld); iterate 3 exact rfl) | (apply w_idxo; exact rfl; exact rfl; (exact .sls rfl); exact rfl) | ((first | apply w_idxr | apply w_ldr); iterate 4 exact rfl) | (apply w_ldls; iterate 4 exact rfl) | (apply w_ldrp; iterate 4 exact rfl))
      refine AWp.loop (ι := Nat) (fun k => ⟨61, [(4, .own 1), (5, .own 2), (6, .i i), (7, .i (egD E i)), (8, .i k)]⟩) (fun k => [.sls 38 2 V, .sls 38 2 E, .sls 38 2 (ebL E i ++ List.replicate k (ebR E i))]) (fun k => (k : Int) ≤ egD E i) (fun k => (egD E i).toNat - k) 0 (by omega) ⟨lee rfl (by (repeat (first | exact le_nil | refine le_eq rfl rfl ?_))), by (repeat (first | exact lo_nil | refine lo_eq rfl ?_ | refine lo_eq (congrArg (AO.sls _ _) ((List.append_nil _).symm)) ?_)), rfl, rfl⟩ ?_
      rintro k k0
      have l2 : (ebL E i ++ List.replicate k (ebR E i)).length = (ebL E i).length + k := by simp
      by_cases hk : (k : Int) < egD E i
      · have e2 := ebL_step E i k
        have q1 : 0 ≤ geti (E.getD (i : Int).toNat []) ((Int.toNat 0 : Nat) : Int) / egD E i ∧ geti (E.getD (i : Int).toNat []) ((Int.toNat 0 : Nat) : Int) / egD E i ≤ 60 := ⟨Int.ediv_nonneg (by omega) (by omega), Int.le_trans (Int.ediv_le_self _ (by omega)) (by omega)⟩
        have q2 : 0 ≤ geti (E.getD (i : Int).toNat []) ((Int.toNat 1 : Nat) : Int) / egD E i ∧ geti (E.getD (i : Int).toNat []) ((Int.toNat 1 : Nat) : Int) / egD E i ≤ 60 := ⟨Int.ediv_nonneg (by omega) (by omega), Int.le_trans (Int.ediv_le_self _ (by omega)) (by omega)⟩
        repeat' (first | (apply AOps.nil; try simp only [List.nil_append, List.cons_append, List.set_cons_zero, List.set_cons_succ, List.length_cons, List.length_nil, Nat.reduceAdd, AV.sh, AV.sh1, AV.sh0, AO.sh, List.map_cons, List.map_nil, Nat.zero_add, Nat.add_zero, setAll]) | (apply w_move; exact rfl; exact rfl) | apply AWp.seq | apply AWp.region | ((apply AWp.condP; exact rfl) <;> intro h) | apply AWp.block | apply AWp.exit | apply AWp.skip | omega | ((apply w_lss); iterate 3 exact rfl))
        refine AWp.regionG [] (by kernel_rfl) (envC := ⟨61, [(4, .own 1), (5, .own 2), (6, .i i), (7, .i (egD E i)), (8, .i k)]⟩) (osC := [.sls 38 2 V, .sls 38 2 E, .sls 38 2 ((ebL E i ++ List.replicate k (ebR E i)) ++ [ebR E i])]) rfl rfl ?_ ?_
        · repeat' (first | (apply AOps.nil; try simp only [List.nil_append, List.cons_append, List.set_cons_zero, List.set_cons_succ, List.length_cons, List.length_nil, Nat.reduceAdd, AV.sh, AV.sh1, AV.sh0, AO.sh, List.map_cons, List.map_nil, Nat.zero_add, Nat.add_zero, setAll]) | (apply w_move; exact rfl; exact rfl) | (apply w_assign; exact rfl; exact rfl) | ((first | apply w_bsr1 | apply w_idx | apply w_ld | apply w_bs2); iterate 3 exact rfl) | (apply w_appr; exact rfl; exact rfl; exact rfl; exact rfl; exact rfl; exact rfl; exact rfl; rotate_left 1; simp only [Env.mp, List.map_cons, List.map_nil, List.set_cons_zero, List.set_cons_succ, AV.kill, AV.kill1, AO.kill, AV.rin, AV.rin1, AV.noRow, AV.noRow1, AO.via, reduceIte, Nat.reduceEqDiff, Nat.reduceLT, Env.up, Nat.zero_ne_one, Nat.one_ne_zero, Nat.reduceAdd, List.cons_append, List.nil_append]; rotate_left 1) | apply AllOfG.nil | (apply AllOfG.consS; exact rfl; exact rfl) | (apply AAnyG.takeW; exact rfl; exact rfl; kernel_rfl; kernel_rfl) | (apply AAnyG.takeL; exact rfl; exact rfl; kernel_rfl) | (apply AAnyG.all; exact rfl) | (apply AAnyG.done; exact rfl) | omega | (apply w_quo; exact rfl; exact rfl; exact rfl; (focus (omega; done)); (focus (omega; done))) | (apply w_idxo; exact rfl; exact rfl; (exact .sls rfl); exact rfl) | ((first | apply w_idxr | apply w_ldr); iterate 4 exact rfl) | (apply w_ldls; iterate 4 exact rfl) | (apply w_ldrp; iterate 4 exact rfl) | (apply inI_of <;> omega))
          all_goals (apply Or.inl; refine ⟨lee rfl ?_, ?_, rfl, rfl⟩; (focus ((repeat (first | exact le_nil | refine le_eq rfl rfl ?_)); done)); (focus ((repeat (first | exact lo_nil | refine lo_eq rfl ?_)); done)))
        repeat' (first | (apply AOps.nil; try simp only [List.nil_append, List.cons_append, List.set_cons_zero, List.set_cons_succ, List.length_cons, List.length_nil, Nat.reduceAdd, AV.sh, AV.sh1, AV.sh0, AO.sh, List.map_cons, List.map_nil, Nat.zero_add, Nat.add_zero, setAll]) | (apply w_move; exact rfl; exact rfl) | (apply w_assign; exact rfl; exact rfl) | apply AWp.region | ((apply w_add); iterate 3 exact rfl) | (apply inI_of <;> omega))
        exact ⟨k + 1, by omega, by omega, ⟨lee rfl (by (repeat (first | exact le_nil | refine le_eq rfl rfl ?_))), by (repeat (first | exact lo_nil | refine lo_eq rfl ?_ | refine lo_eq (congrArg (AO.sls _ _) (e2)) ?_)), rfl, rfl⟩⟩
      · have e : k = (egD E i).toNat := by omega
        subst e
        repeat' (first | (apply AOps.nil; try simp only [List.nil_append, List.cons_append, List.set_cons_zero, List.set_cons_succ, List.length_cons, List.length_nil, Nat.reduceAdd, AV.sh, AV.sh1, AV.sh0, AO.sh, List.map_cons, List.map_nil, Nat.zero_add, Nat.add_zero, setAll]) | (apply w_move; exact rfl; exact rfl) | (apply w_assign; exact rfl; exact rfl) | apply AWp.seq | apply AWp.region | ((apply AWp.condP; exact rfl) <;> intro h) | apply AWp.block | apply AWp.exit | apply AWp.skip | (apply AWp.regionQ; kernel_rfl; kernel_rfl) | omega | ((first | apply w_lss | apply w_add); iterate 3 exact rfl) | (apply inI_of <;> omega))
        exact ⟨i + 1, hi, by omega, ⟨lee rfl (by (repeat (first | exact le_nil | refine le_eq rfl rfl ?_))), by (repeat (first | exact lo_nil | refine lo_eq rfl ?_)), rfl, rfl⟩⟩
    · have e : i = V.length - 1 := by omega
      subst e
      repeat' (first | (apply AOps.nil; try simp only [List.nil_append, List.cons_append, List.set_cons_zero, List.set_cons_succ, List.length_cons, List.length_nil, Nat.reduceAdd, AV.sh, AV.sh1, AV.sh0, AO.sh, List.map_cons, List.map_nil, Nat.zero_add, Nat.add_zero, setAll]) | (apply w_move; exact rfl; exact rfl) | (apply w_assign; exact rfl; exact rfl) | apply AWp.seq | apply AWp.region | ((apply AWp.condP; exact rfl) <;> intro h) | apply AWp.block | apply AWp.ret | apply AWp.exit | apply AWp.skip | (apply AWp.regionQ; kernel_rfl; kernel_rfl) | (apply w_len; exact rfl; exact rfl; first | exact .ints _ | exact .intss _ | exact .sli rfl | exact .sls rfl | exact .slr rfl | exact .orow rfl | exact .nil) | omega | ((apply w_lss); iterate 3 exact rfl))
      exact ⟨_, _, _, .a2 Try.results15 rfl rfl, .tup2 (.sls rfl), by simp [suE, h1], by rw [eF]⟩

theorem neE {xss : List (List Int)} (h : isSup xss = true) : neL xss = edL (verts xss) ((verts xss).length - 1) := by rw [neL, if_pos h]
set_option maxHeartbeats 4000000 in
theorem implEdgeBranches_c (xss : List (List Int)) : AFn Try.prog 14 [.intss xss] (IsSSC 38 2 (ebF xss) (suE xss)) := by
  (refine AFn.start Try.func14 Try.ntmps14 rfl (by kernel_rfl) fun hk => ?_; simp only [Env.start, enumF, List.length_cons, List.length_nil, Nat.reduceAdd, Nat.reduceSub, List.cons_append, List.nil_append])
  have c1 := implNewtonEdges_c xss
  cases h1 : isSup xss with
  | false =>
    have e1 : suE xss = 1 := by simp [suE, h1]
    rw [e1] at c1
    repeat' (first | (apply AOps.nil; try simp only [List.nil_append, List.cons_append, List.set_cons_zero, List.set_cons_succ, List.length_cons, List.length_nil, Nat.reduceAdd, AV.sh, AV.sh1, AV.sh0, AO.sh, List.map_cons, List.map_nil, Nat.zero_add, Nat.add_zero, setAll]) | (apply w_move; exact rfl; exact rfl) | (apply w_assign; exact rfl; exact rfl) | apply AWp.seq | apply AWp.region | ((apply AWp.condP; exact rfl) <;> intro h) | apply AWp.ret | apply AWp.skip | (apply w_callm (c1); (focus ((repeat (first | exact im_nil | refine im_cons rfl (.intss _) ?_)); done)); rintro r os0 ⟨rfl, rfl⟩; try simp only [List.nil_append, List.cons_append, List.set_cons_zero, List.set_cons_succ, List.length_cons, List.length_nil, Nat.reduceAdd, AV.sh, AV.sh1, AV.sh0, AO.sh, List.map_cons, List.map_nil, Nat.zero_add, Nat.add_zero, setAll]) | omega | ((first | apply w_neq | apply w_extv); iterate 3 exact rfl) | ((apply w_ext); iterate 3 exact rfl))
    all_goals exact ⟨_, _, _, .a2 Try.results14 rfl rfl, .tup2 (.nils 38 2), by rw [e1], by simp [ebF, h1]⟩
  | true =>
    have e1 : suE xss = 0 := by simp [suE, h1]
    rw [e1] at c1
    have hv := sup_ok h1
    have hvl := verts_le h1
    have hE := edL_ok hv
    have eF : ebF xss = ebL (edL (verts xss) ((verts xss).length - 1)) ((verts xss).length - 1) := by rw [ebF, if_pos h1]
    have eL := edL_len (verts xss) ((verts xss).length - 1)
    rw [neE h1] at c1
    obtain ⟨E, eE⟩ : ∃ E, E = edL (verts xss) ((verts xss).length - 1) := ⟨_, rfl⟩
    rw [← eE] at hE eL eF c1
    obtain ⟨n, en⟩ : ∃ n, n = (verts xss).length - 1 := ⟨_, rfl⟩
    rw [← en] at eF eL
    have hn : n ≤ 61 := by omega
    clear en eE hv hvl
    repeat' (first | (apply AOps.nil; try simp only [List.nil_append, List.cons_append, List.set_cons_zero, List.set_cons_succ, List.length_cons, List.length_nil, Nat.reduceAdd, AV.sh, AV.sh1, AV.sh0, AO.sh, List.map_cons, List.map_nil, Nat.zero_add, Nat.add_zero, setAll]) | (apply w_move; exact rfl; exact rfl) | (apply w_assign; exact rfl; exact rfl) | apply AWp.seq | apply AWp.region | ((apply AWp.condP; exact rfl) <;> intro h) | apply AWp.block | apply AWp.ret | apply AWp.skip | (apply w_len; exact rfl; exact rfl; first | exact .ints _ | exact .intss _ | exact .sli rfl | exact .sls rfl | exact .slr rfl | exact .orow rfl | exact .nil) | ((apply w_bsr0); iterate 1 exact rfl) | ((first | apply w_neq | apply w_extv); iterate 3 exact rfl) | (apply w_callm (c1); (focus ((repeat (first | exact im_nil | refine im_cons rfl (.intss _) ?_)); done)); rintro r os0 ⟨rfl, rfl⟩; try simp only [List.nil_append, List.cons_append, List.set_cons_zero, List.set_cons_succ, List.length_cons, List.length_nil, Nat.reduceAdd, AV.sh, AV.sh1, AV.sh0, AO.sh, List.map_cons, List.map_nil, Nat.zero_add, Nat.add_zero, setAll]) | omega | ((apply w_ext); iterate 3 exact rfl))
    refine AWp.loop (ι := Nat) (fun i => ⟨52, [(6, .own 1), (19, .own 0), (20, .i E.length), (21, .i i)]⟩) (fun i => [.sls 38 2 E, .sls 38 2 (ebL E i)]) (fun i => i ≤ E.length) (fun i => E.length - i) 0 (by omega) ⟨lee rfl (by (repeat (first | exact le_nil | refine le_eq rfl rfl ?_))), by (repeat (first | exact lo_nil | refine lo_eq rfl ?_)), rfl, rfl⟩ ?_
    rintro i i0
    by_cases hi : i < E.length
    · obtain ⟨p1, p2, p3⟩ := hE i hi
      have cg := divisor_c (geti (E.getD (i : Int).toNat []) ((Int.toNat 0 : Nat) : Int)) (geti (E.getD (i : Int).toNat []) ((Int.toNat 1 : Nat) : Int)) (by unfold mid; omega) (by unfold mid; omega)
      have g1 := egD_in hE i hi
      have l1 := ebL_len hE i i0
      have eg : ((Int.gcd (geti (E.getD (i : Int).toNat []) ((Int.toNat 0 : Nat) : Int)) (geti (E.getD (i : Int).toNat []) ((Int.toNat 1 : Nat) : Int)) : Nat) : Int) = egD E i := rfl
      rw [eg] at cg
      repeat' (first | (apply AOps.nil; try simp only [List.nil_append, List.cons_append, List.set_cons_zero, List.set_cons_succ, List.length_cons, List.length_nil, Nat.reduceAdd, AV.sh, AV.sh1, AV.sh0, AO.sh, List.map_cons, List.map_nil, Nat.zero_add, Nat.add_zero, setAll]) | (apply w_move; exact rfl; exact rfl) | (apply w_assign; exact rfl; exact rfl) | apply AWp.seq | apply AWp.region | ((apply AWp.condP; exact rfl) <;> intro h) | apply AWp.block | apply AWp.ret | apply AWp.exit | apply AWp.skip | (apply AWp.regionQ; kernel_rfl; kernel_rfl) | (apply w_call (cg); exact rfl; exact rfl; focus ((repeat (first | exact im_nil | refine im_cons rfl (.val _) ?_)); done)) | omega | ((first | apply w_lss | apply w_idx | apply w_ld); iterate 3 exact rfl) | (apply w_idxo; exact rfl; exact rfl; (exact .sls rfl); exact rfl) | ((first | apply w_idxr | apply w_ldr); iterate 4 exact rfl) | (apply w_ldls; iterate 4 exact rfl) | (apply w_ldrp; iterate 4 exact rfl))
      refine AWp.loop (ι := Nat) (fun k => ⟨52, [(6, .own 1), (8, .orow 0 (i : Int).toNat), (9, .i (egD E i)), (19, .own 0), (20, .i E.length), (21, .i i), (32, .i (egD E i)), (33, .i k)]⟩) (fun k => [.sls 38 2 E, .sls 38 2 (ebL E i ++ List.replicate k (ebR E i))]) (fun k => (k : Int) ≤ egD E i) (fun k => (egD E i).toNat - k) 0 (by omega) ⟨lee rfl (by (repeat (first | exact le_nil | refine le_eq rfl rfl ?_))), by (repeat (first | exact lo_nil | refine lo_eq rfl ?_ | refine lo_eq (congrArg (AO.sls _ _) ((List.append_nil _).symm)) ?_)), rfl, rfl⟩ ?_
      rintro k k0
      have l2 : (ebL E i ++ List.replicate k (ebR E i)).length = (ebL E i).length + k := by simp
      by_cases hk : (k : Int) < egD E i
      · have e2 := ebL_step E i k
        have q1 : 0 ≤ geti (E.getD (i : Int).toNat []) ((Int.toNat 0 : Nat) : Int) / egD E i ∧ geti (E.getD (i : Int).toNat []) ((Int.toNat 0 : Nat) : Int) / egD E i ≤ 60 := ⟨Int.ediv_nonneg (by omega) (by omega), Int.le_trans (Int.ediv_le_self _ (by omega)) (by omega)⟩
        have q2 : 0 ≤ geti (E.getD (i : Int).toNat []) ((Int.toNat 1 : Nat) : Int) / egD E i ∧ geti (E.getD (i : Int).toNat []) ((Int.toNat 1 : Nat) : Int) / egD E i ≤ 60 := ⟨Int.ediv_nonneg (by omega) (by omega), Int.le_trans (Int.ediv_le_self _ (by omega)) (by omega)⟩
        repeat' (first | (apply AOps.nil; try simp only [List.nil_append, List.cons_append, List.set_cons_zero, List.set_cons_succ, List.length_cons, List.length_nil, Nat.reduceAdd, AV.sh, AV.sh1, AV.sh0, AO.sh, List.map_cons, List.map_nil, Nat.zero_add, Nat.add_zero, setAll]) | apply AWp.seq | apply AWp.region | ((apply AWp.condP; exact rfl) <;> intro h) | apply AWp.block | apply AWp.exit | apply AWp.skip | omega | ((apply w_lss); iterate 3 exact rfl))
        refine AWp.regionG [] (by kernel_rfl) (envC := ⟨52, [(6, .own 1), (8, .orow 0 (i : Int).toNat), (9, .i (egD E i)), (19, .own 0), (20, .i E.length), (21, .i i), (32, .i (egD E i)), (33, .i k)]⟩) (osC := [.sls 38 2 E, .sls 38 2 ((ebL E i ++ List.replicate k (ebR E i)) ++ [ebR E i])]) rfl rfl ?_ ?_
        · repeat' (first | (apply AOps.nil; try simp only [List.nil_append, List.cons_append, List.set_cons_zero, List.set_cons_succ, List.length_cons, List.length_nil, Nat.reduceAdd, AV.sh, AV.sh1, AV.sh0, AO.sh, List.map_cons, List.map_nil, Nat.zero_add, Nat.add_zero, setAll]) | (apply w_move; exact rfl; exact rfl) | (apply w_assign; exact rfl; exact rfl) | ((first | apply w_bsr1 | apply w_idx | apply w_ld | apply w_bs2); iterate 3 exact rfl) | (apply w_appr; exact rfl; exact rfl; exact rfl; exact rfl; exact rfl; exact rfl; exact rfl; rotate_left 1; simp only [Env.mp, List.map_cons, List.map_nil, List.set_cons_zero, List.set_cons_succ, AV.kill, AV.kill1, AO.kill, AV.rin, AV.rin1, AV.noRow, AV.noRow1, AO.via, reduceIte, Nat.reduceEqDiff, Nat.reduceLT, Env.up, Nat.zero_ne_one, Nat.one_ne_zero, Nat.reduceAdd, List.cons_append, List.nil_append]; rotate_left 1) | apply AllOfG.nil | (apply AllOfG.consS; exact rfl; exact rfl) | (apply AAnyG.takeW; exact rfl; exact rfl; kernel_rfl; kernel_rfl) | (apply AAnyG.takeL; exact rfl; exact rfl; kernel_rfl) | (apply AAnyG.all; exact rfl) | (apply AAnyG.done; exact rfl) | omega | (apply w_quo; exact rfl; exact rfl; exact rfl; (focus (omega; done)); (focus (omega; done))) | ((first | apply w_idxr | apply w_ldr); iterate 4 exact rfl) | (apply w_ldrp; iterate 4 exact rfl) | (apply inI_of <;> omega))
          all_goals (apply Or.inl; refine ⟨lee rfl ?_, ?_, rfl, rfl⟩; (focus ((repeat (first | exact le_nil | refine le_eq rfl rfl ?_)); done)); (focus ((repeat (first | exact lo_nil | refine lo_eq rfl ?_)); done)))
        repeat' (first | (apply AOps.nil; try simp only [List.nil_append, List.cons_append, List.set_cons_zero, List.set_cons_succ, List.length_cons, List.length_nil, Nat.reduceAdd, AV.sh, AV.sh1, AV.sh0, AO.sh, List.map_cons, List.map_nil, Nat.zero_add, Nat.add_zero, setAll]) | (apply w_move; exact rfl; exact rfl) | apply AWp.region | ((apply w_add); iterate 3 exact rfl) | (apply inI_of <;> omega))
        exact ⟨k + 1, by omega, by omega, ⟨lee rfl (by (repeat (first | exact le_nil | refine le_eq rfl rfl ?_))), by (repeat (first | exact lo_nil | refine lo_eq rfl ?_ | refine lo_eq (congrArg (AO.sls _ _) (e2)) ?_)), rfl, rfl⟩⟩
      · have e : k = (egD E i).toNat := by omega
        subst e
        repeat' (first | (apply AOps.nil; try simp only [List.nil_append, List.cons_append, List.set_cons_zero, List.set_cons_succ, List.length_cons, List.length_nil, Nat.reduceAdd, AV.sh, AV.sh1, AV.sh0, AO.sh, List.map_cons, List.map_nil, Nat.zero_add, Nat.add_zero, setAll]) | (apply w_move; exact rfl; exact rfl) | apply AWp.seq | apply AWp.region | ((apply AWp.condP; exact rfl) <;> intro h) | apply AWp.block | apply AWp.exit | apply AWp.skip | (apply AWp.regionQ; kernel_rfl; kernel_rfl) | omega | ((first | apply w_lss | apply w_add); iterate 3 exact rfl) | (apply inI_of <;> omega))
        exact ⟨i + 1, hi, by omega, ⟨lee rfl (by (repeat (first | exact le_nil | refine le_eq rfl rfl ?_))), by (repeat (first | exact lo_nil | refine lo_eq rfl ?_)), rfl, rfl⟩⟩
    · have e : i = n := by omega
      subst e
      repeat' (first | (apply AOps.nil; try simp only [List.nil_append, List.cons_append, List.set_cons_zero, List.set_cons_succ, List.length_cons, List.length_nil, Nat.reduceAdd, AV.sh, AV.sh1, AV.sh0, AO.sh, List.map_cons, List.map_nil, Nat.zero_add, Nat.add_zero, setAll]) | (apply w_move; exact rfl; exact rfl) | (apply w_assign; exact rfl; exact rfl) | apply AWp.seq | apply AWp.region | ((apply AWp.condP; exact rfl) <;> intro h) | apply AWp.block | apply AWp.ret | apply AWp.exit | apply AWp.skip | omega | ((apply w_lss); iterate 3 exact rfl))
      exact ⟨_, _, _, .a2 Try.results14 rfl rfl, .tup2 (.sls rfl), by rw [e1], by rw [eF]⟩

/-! ### The threshold -/
end Go.Proofs.Ythlfdhooiekgjaa
/-
  Hulls of hulls, least values on hulls, sums of edges and of their branches, hulls put together from their edges: the plain law. No condition.
-/
namespace Go.Proofs.Ythlfdhooiekgjaa
open Go Go.RowKit

theorem gwf_mono {S S' : List Int → Prop} (hs : ∀ q, S' q → S q) : ∀ {r : List (List Int)} {a : List Int}, Hl.GWf gX gY S (a :: r) → (∀ v ∈ r, S' v) → Hl.GWf gX gY S' (a :: r)
  | [], _, h, _ => fun q hq => h q (hs q hq)
  | b :: r, _, h, hv => ⟨⟨hv b (by simp), h.1.2.1, fun q hq => h.1.2.2 q (hs q hq)⟩, gwf_mono hs h.2 fun v h2 => hv v (by simp [h2])⟩
theorem gwf_in {S : List Int → Prop} : ∀ {r : List (List Int)} {a : List Int}, Hl.GWf gX gY S (a :: r) → ∀ v ∈ r, S v
  | [], _, _ => fun v hv => by cases hv
  | b :: r, _, h => fun v hv => by
    rcases List.mem_cons.1 hv with rfl | h2
    · exact h.1.1
    · exact gwf_in h.2 v h2
theorem hasV_in {xss V : List (List Int)} (h : HasV xss V) : ∀ v ∈ V, v ∈ xss := by
  obtain ⟨m, r, rfl, h1, h2, h3⟩ := h
  intro v hv
  rcases List.mem_cons.1 hv with rfl | h4
  · exact h1
  · exact gwf_in h3 v h4
theorem hasV_self {xss V : List (List Int)} (h : HasV xss V) : HasV V V := by
  have hin := hasV_in h
  obtain ⟨m, r, rfl, h1, h2, h3⟩ := h
  exact ⟨m, r, rfl, by simp, fun q hq => h2 q (hin q hq), gwf_mono hin h3 fun v hv => by simp [hv]⟩
theorem verts_in {xss : List (List Int)} (h : isSup xss = true) : ∀ v ∈ verts xss, v ∈ xss := hasV_in (hasS h)
/-- The vertices of vertices. -/
theorem verts_verts {xss : List (List Int)} (h : isSup xss = true) : verts (verts xss) = verts xss :=
  verts_eq (fun r hr => ((sup_ok h).row r hr).1) (hasV_self (hasS h))
theorem isSup_rows {xss : List (List Int)} (h0 : 1 ≤ xss.length ∧ xss.length ≤ 200) (hr : ∀ r ∈ xss, r.length = 2 ∧ (0 ≤ geti r 0 ∧ geti r 0 ≤ 60) ∧ (0 ≤ geti r 1 ∧ geti r 1 ≤ 60)) : isSup xss = true :=
  decide_eq_true (p := IsSup xss) ⟨h0, fun j hj => hr _ (gets_mem (by omega) (by omega))⟩
theorem verts_sup {xss : List (List Int)} (h : isSup xss = true) : isSup (verts xss) = true := by
  have hv := sup_ok h
  have h1 := hv.pos
  have h2 := hv.len
  exact isSup_rows ⟨h1, by omega⟩ fun r hr => hv.row r hr

/-! ### Least values -/
def fS (p q : Int) (r : List Int) : Int := p * geti r 0 + q * geti r 1
theorem seg_min {p q w h u t : Int} (hh : 0 < h) (ht : 0 < t ∧ t ≤ h) (hc : 0 ≤ h * u - w * t) (hp : 0 ≤ p) : 0 ≤ p * u - q * t ∨ p * w - q * h ≤ p * u - q * t := by
  rcases Int.le_total (q * h) (p * w) with k | k
  · refine .inl (Int.not_lt.1 fun hn => ?_)
    have e1 : 0 ≤ t * (p * w - q * h) := Int.mul_nonneg (by omega) (by omega)
    have e2 : 0 ≤ p * (h * u - w * t) := Int.mul_nonneg hp hc
    have e3 : h * (p * u - q * t) = p * (h * u - w * t) + t * (p * w - q * h) := by grind
    have e4 : h * (p * u - q * t) < 0 := Int.mul_neg_of_pos_of_neg hh hn
    omega
  · refine .inr (Int.not_lt.1 fun hn => ?_)
    have e1 : 0 ≤ (h - t) * (q * h - p * w) := Int.mul_nonneg (by omega) (by omega)
    have e2 : 0 ≤ p * (h * u - w * t) := Int.mul_nonneg hp hc
    have e3 : h * ((p * u - q * t) - (p * w - q * h)) = p * (h * u - w * t) + (h - t) * (q * h - p * w) := by grind
    have e4 : h * ((p * u - q * t) - (p * w - q * h)) < 0 := Int.mul_neg_of_pos_of_neg hh (by omega)
    omega
theorem gwf_min {S : List Int → Prop} {p q : Int} (hp : 0 ≤ p) (x : List Int) (hx : S x) : ∀ {r : List (List Int)} {a : List Int}, Hl.GWf gX gY S (a :: r) → geti x 1 < geti a 1 → ∃ v ∈ a :: r, fS p q v ≤ fS p q x
  | [], a, h, hy => by
    have : geti a 1 ≤ geti x 1 := h x hx
    omega
  | b :: r, a, h, hy => by
    by_cases hb : geti x 1 < geti b 1
    · obtain ⟨v, h1, h2⟩ := gwf_min hp x hx h.2 hb
      exact ⟨v, by simp only [List.mem_cons] at h1 ⊢; exact .inr h1, h2⟩
    · have hn : geti b 1 < geti a 1 := h.1.2.1
      have hc : 0 ≤ Hl.cr gX gY a b x := (h.1.2.2 x hx hy).1
      have hc2 : 0 ≤ (geti b 0 - geti a 0) * (geti x 1 - geti a 1) - (geti b 1 - geti a 1) * (geti x 0 - geti a 0) := hc
      rcases seg_min (p := p) (q := q) (w := geti b 0 - geti a 0) (h := geti a 1 - geti b 1) (u := geti x 0 - geti a 0) (t := geti a 1 - geti x 1) (by omega) ⟨by omega, by omega⟩ (by grind) hp with k | k
      · exact ⟨a, by simp, by unfold fS; grind⟩
      · exact ⟨b, by simp, by unfold fS; grind⟩
theorem hasV_min {xss V : List (List Int)} (h : HasV xss V) {p q : Int} (hp : 0 ≤ p) (hq : 0 ≤ q) {x : List Int} (hx : x ∈ xss) : ∃ v ∈ V, fS p q v ≤ fS p q x := by
  obtain ⟨m, r, rfl, h1, h2, h3⟩ := h
  by_cases hy : geti x 1 < geti m 1
  · exact gwf_min hp x hx h3 hy
  · have h4 : geti m 0 ≤ geti x 0 := by
      have : gX m < gX x ∨ (gX m = gX x ∧ gY m ≤ gY x) := h2 x hx
      unfold gX at this
      omega
    refine ⟨m, by simp, ?_⟩
    have e1 : p * geti m 0 ≤ p * geti x 0 := Int.mul_le_mul_of_nonneg_left h4 hp
    have e2 : q * geti m 1 ≤ q * geti x 1 := Int.mul_le_mul_of_nonneg_left (by omega) hq
    unfold fS; omega
theorem svmin_le (xss : List (List Int)) (p q : Int) : ∀ (k : Nat) (i : Nat), i < k → svmin xss p q k ≤ fS p q (gets xss (i : Nat))
  | 0, i, h => by omega
  | k + 1, i, h => by
    rw [svmin]
    rcases Nat.lt_or_ge i k with h1 | h1
    · have := svmin_le xss p q k i h1
      omega
    · obtain rfl : i = k := by omega
      unfold fS; omega
theorem svmin_ex (xss : List (List Int)) (p q : Int) (h0 : 0 < xss.length) : ∀ k : Nat, k ≤ xss.length → ∃ i : Nat, i < xss.length ∧ svmin xss p q k = fS p q (gets xss (i : Nat))
  | 0, _ => ⟨0, h0, rfl⟩
  | k + 1, h => by
    obtain ⟨i, h1, h2⟩ := svmin_ex xss p q h0 k (by omega)
    rw [svmin]
    rcases Int.le_total (svmin xss p q k) (p * geti (gets xss (k : Nat)) 0 + q * geti (gets xss (k : Nat)) 1) with h3 | h3
    · exact ⟨i, h1, by rw [Int.min_eq_left h3, h2]⟩
    · exact ⟨k, by omega, by rw [Int.min_eq_right h3]; rfl⟩
theorem gets_ex {xss : List (List Int)} {x : List Int} (h : x ∈ xss) : ∃ i : Nat, i < xss.length ∧ gets xss (i : Nat) = x := by
  obtain ⟨i, hi⟩ := List.getElem?_of_mem h
  have h2 := (List.getElem?_eq_some_iff.1 hi).1
  exact ⟨i, h2, by simp [gets, List.getD_eq_getElem?_getD, hi]⟩
/-- Two lists with the same hull have the same least values. -/
theorem svmin_of {xss yss : List (List Int)} {p q : Int} (hx : 0 < xss.length) (hy : 0 < yss.length) (h1 : ∀ x ∈ xss, ∃ y ∈ yss, fS p q y ≤ fS p q x) (h2 : ∀ y ∈ yss, ∃ x ∈ xss, fS p q x ≤ fS p q y) :
    svmin xss p q xss.length = svmin yss p q yss.length := by
  obtain ⟨i, i1, i2⟩ := svmin_ex xss p q hx xss.length (Nat.le_refl _)
  obtain ⟨j, j1, j2⟩ := svmin_ex yss p q hy yss.length (Nat.le_refl _)
  obtain ⟨y, y1, y2⟩ := h1 (gets xss (i : Nat)) (gets_mem (by omega) (by omega))
  obtain ⟨x, x1, x2⟩ := h2 (gets yss (j : Nat)) (gets_mem (by omega) (by omega))
  obtain ⟨k, k1, rfl⟩ := gets_ex y1
  obtain ⟨l, l1, rfl⟩ := gets_ex x1
  have a1 := svmin_le yss p q _ k k1
  have a2 := svmin_le xss p q _ l l1
  omega
theorem svA_verts {xss : List (List Int)} (h : isSup xss = true) {p q : Int} (hp : 0 ≤ p ∧ p ≤ 1000) (hq : 0 ≤ q ∧ q ≤ 1000) : svA (verts xss) p q = svA xss p q := by
  unfold svA
  rw [if_pos ⟨verts_sup h, hp, hq⟩, if_pos ⟨h, hp, hq⟩]
  exact svmin_of (sup_ok h).pos (sup_rows h).1.1 (fun v hv => ⟨v, verts_in h v hv, Int.le_refl _⟩) fun x hx => hasV_min (hasS h) hp.1 hq.1 hx
theorem svE_ok {xss : List (List Int)} (h : isSup xss = true) {p q : Int} (hp : 0 ≤ p ∧ p ≤ 1000) (hq : 0 ≤ q ∧ q ≤ 1000) : svE xss p q = 0 := by
  unfold svE; rw [if_pos h, if_pos ⟨hp, hq⟩]

/-! ### Sums of edges -/
theorem ed_sum {V : List (List Int)} {B : Int} (h : VOk B V) : geti (V.getD 0 []) 0 + sS E0 (edL V (V.length - 1)) = geti (V.getD (V.length - 1) []) 0 ∧ geti (V.getD 0 []) 1 - sS E1 (edL V (V.length - 1)) = geti (V.getD (V.length - 1) []) 1 := by
  have e := vf_ed (fun v hv => (h.row v hv).1) h.pos
  have := vfP_getD (p := V.getD 0 []) (L := edL V (V.length - 1)) (V.length - 1) (by rw [edL_len]; omega)
  rw [e, List.take_of_length_le (by rw [edL_len]; omega)] at this
  omega
theorem sS_rep (F : List Int → Int) (e : List Int) : ∀ n : Nat, sS F (List.replicate n e) = n * F e
  | 0 => by simp [sS]
  | n + 1 => by rw [List.replicate_succ, sS, sS_rep F e n, Int.natCast_add, Int.add_mul]; omega
theorem eb_sum {E : List (List Int)} (h : EdOk E) : ∀ n, n ≤ E.length → sS E0 (ebL E n) = sS E0 (E.take n) ∧ sS E1 (ebL E n) = sS E1 (E.take n)
  | 0, _ => by simp [ebL, sS]
  | n + 1, hn => by
    obtain ⟨i1, i2⟩ := eb_sum h n (by omega)
    have hg := egD_in h n (by omega)
    have d1 : egD E n ∣ geti (E.getD n []) 0 := Int.gcd_dvd_left (geti (E.getD n []) 0) (geti (E.getD n []) 1)
    have d2 : egD E n ∣ geti (E.getD n []) 1 := Int.gcd_dvd_right (geti (E.getD n []) 0) (geti (E.getD n []) 1)
    have r0 : E0 (ebR E n) = geti (E.getD n []) 0 / egD E n := rfl
    have r1 : E1 (ebR E n) = geti (E.getD n []) 1 / egD E n := rfl
    have t0 : E.take (n + 1) = E.take n ++ [E.getD n []] := by
      rw [List.take_succ_eq_append_getElem (by omega), List.getD_eq_getElem?_getD, List.getElem?_eq_getElem (by omega)]; rfl
    have hN : ((egD E n).toNat : Int) = egD E n := by omega
    rw [ebL, sS_append, sS_append, sS_rep, sS_rep, t0, sS_append, sS_append, i1, i2, r0, r1, hN, Int.mul_ediv_cancel' d1, Int.mul_ediv_cancel' d2]
    constructor <;> simp [sS, E0, E1]

/-! ### Edges put together again -/
theorem insE_end (e : List Int) : ∀ {S : List (List Int)}, (∀ s ∈ S, 0 ≤ wS s e) → insE e S = S ++ [e]
  | [], _ => rfl
  | s :: S, h => by rw [insE, if_pos (h s (by simp)), insE_end e fun z hz => h z (by simp [hz])]; rfl
theorem srtE_sorted {E : List (List Int)} (h : StS E) : ∀ n, n ≤ E.length → srtE E n = E.take n
  | 0, _ => by simp [srtE]
  | n + 1, hn => by
    have t0 : E.take (n + 1) = E.take n ++ [E.getD n []] := by
      rw [List.take_succ_eq_append_getElem (by omega), List.getD_eq_getElem?_getD, List.getElem?_eq_getElem (by omega)]; rfl
    have h2 : StS (E.take (n + 1)) := List.Pairwise.sublist (List.take_sublist _ _) h
    rw [t0] at h2
    rw [srtE, srtE_sorted h n (by omega), t0]
    exact insE_end _ fun s hs => (List.pairwise_append.1 h2).2.2 s hs _ (by simp)
/-- A convenient polygon is that of its edges. -/
theorem se_edges {xss : List (List Int)} (h : isSup xss = true) (hc : conv (verts xss) = true) (h1 : 1 < (verts xss).length) :
    seE (edL (verts xss) ((verts xss).length - 1)) = 0 ∧ seL (edL (verts xss) ((verts xss).length - 1)) = verts xss := by
  have hv := sup_ok h
  have hs := ed_sum hv
  have hst := ed_stS (hasS h) hv
  have hrow : ∀ e ∈ edL (verts xss) ((verts xss).length - 1), E60 e := fun e he => ed_row hv he
  have hvv := verts_verts h
  have hvf := vf_ed (fun v hv' => (hv.row v hv').1) hv.pos
  obtain ⟨c1, c2⟩ := of_decide_eq_true hc
  generalize hV : verts xss = V at *
  have hl := hv.len
  have r0 := hv.at 0 hv.pos
  have rl := hv.at (V.length - 1) (by have := hv.pos; omega)
  rw [show ((V.length : Int) - 1) = ((V.length - 1 : Nat) : Int) by omega] at c2
  rw [show (0 : Int) = ((0 : Nat) : Int) from rfl] at c1
  rw [gets_D] at c1 c2 rl r0
  have c1' : geti (V.getD 0 []) 0 = 0 := c1
  have hE : EdgOk (edL V (V.length - 1)) := ⟨by rw [edL_len]; omega, hrow⟩
  obtain ⟨e1, e2⟩ := seE_ok hE (by omega)
  refine ⟨e1, ?_⟩
  rw [e2, srtE_sorted hst _ (Nat.le_refl _), List.take_length]
  have ep : [0, sS E1 (edL V (V.length - 1))] = V.getD 0 [] := by
    refine row2_ext rfl r0.1 ?_ ?_
    · show (0 : Int) = _; omega
    · show sS E1 _ = _; omega
  rw [ep, hvf, hvv]
end Go.Proofs.Ythlfdhooiekgjaa
/-
  What the law of polygons needs to know of a support. No condition.
-/
namespace Go.Proofs.Ythlfdhooiekgjaa
open Go Go.RowKit

def Rw (lo : Int) (v : List Int) : Prop := v.length = 2 ∧ (lo ≤ geti v 0 ∧ geti v 0 ≤ 60) ∧ (lo ≤ geti v 1 ∧ geti v 1 ≤ 60)
theorem ebL_row {E : List (List Int)} (h : EdOk E) : ∀ n, n ≤ E.length → ∀ e ∈ ebL E n, Rw 1 e
  | 0, _ => fun e he => by simp [ebL] at he
  | n + 1, hn => fun e he => by
    rw [ebL, List.mem_append] at he
    rcases he with he | he
    · exact ebL_row h n (by omega) e he
    · have hg := egD_in h n (by omega)
      obtain ⟨_, r0, r1⟩ := h n (by omega)
      have r0 : 0 < geti (E.getD n []) 0 ∧ geti (E.getD n []) 0 ≤ 60 := r0
      have r1 : 0 < geti (E.getD n []) 1 ∧ geti (E.getD n []) 1 ≤ 60 := r1
      have d1 : egD E n ∣ geti (E.getD n []) 0 := Int.gcd_dvd_left (geti (E.getD n []) 0) (geti (E.getD n []) 1)
      have d2 : egD E n ∣ geti (E.getD n []) 1 := Int.gcd_dvd_right (geti (E.getD n []) 0) (geti (E.getD n []) 1)
      have key : ∀ x : Int, 0 < x ∧ x ≤ 60 → egD E n ∣ x → 1 ≤ x / egD E n ∧ x / egD E n ≤ 60 := fun x hx hd => by
        have e1 := Int.mul_ediv_cancel' hd
        have e2 := Int.ediv_le_self (egD E n) (show 0 ≤ x by omega)
        have e3 : 0 ≤ x / egD E n := Int.ediv_nonneg (by omega) (by omega)
        refine ⟨Int.not_lt.1 fun hl => ?_, by omega⟩
        have e4 : x / egD E n = 0 := by omega
        rw [e4, Int.mul_zero] at e1
        omega
      rw [List.eq_of_mem_replicate he]
      exact ⟨rfl, key _ r0 d1, key _ r1 d2⟩
structure PolyOk (xss V E B : List (List Int)) : Prop where
  v : nvL xss = V
  e : neL xss = E
  b : ebF xss = B
  s : suE xss = 0
  vv : nvL V = V
  sv : suE V = 0
  len : E.length + 1 = V.length
  vl : V.length ≤ 61
  vr : ∀ v ∈ V, Rw 0 v
  er : ∀ e ∈ E, Rw 1 e
  br : ∀ e ∈ B, Rw 1 e
  bl : B.length ≤ 3600
  min : ∀ p q, (0 ≤ p ∧ p < 20) → (0 ≤ q ∧ q < 20) → svA V p q = svA xss p q ∧ svE xss p q = 0 ∧ svE V p q = 0
  s0 : geti (gets V 0) 0 + sS E0 E = geti (gets V ((V.length : Int) - 1)) 0
  s1 : geti (gets V 0) 1 - sS E1 E = geti (gets V ((V.length : Int) - 1)) 1
  b0 : sS E0 B = sS E0 E
  b1 : sS E1 B = sS E1 E
  cv : (isSup xss && conv (verts xss)) = conv V
  se : conv V = true → E.length ≠ 0 → seE E = 0 ∧ seL E = V
theorem poly_ok {xss : List (List Int)} (h : isSup xss = true) : PolyOk xss (verts xss) (edL (verts xss) ((verts xss).length - 1)) (ebL (edL (verts xss) ((verts xss).length - 1)) ((verts xss).length - 1)) := by
  have hv := sup_ok h
  have hp := hv.pos
  have hl := hv.len
  have hE := edL_ok hv
  have hs := ed_sum hv
  have vs := verts_sup h
  have he := edL_len (verts xss) ((verts xss).length - 1)
  have eb := eb_sum hE ((verts xss).length - 1) (by omega)
  rw [List.take_of_length_le (by omega)] at eb
  have g0 : gets (verts xss) 0 = (verts xss).getD 0 [] := gets_D (verts xss) 0
  have gl : gets (verts xss) (((verts xss).length : Int) - 1) = (verts xss).getD ((verts xss).length - 1) [] := by
    rw [show (((verts xss).length : Int) - 1) = (((verts xss).length - 1 : Nat) : Int) by omega, gets_D]
  exact {
    v := by rw [nvL, if_pos h]
    e := by rw [neL, if_pos h]
    b := by rw [ebF, if_pos h]
    s := by rw [suE, if_pos h]
    vv := by rw [nvL, if_pos vs, verts_verts h]
    sv := by rw [suE, if_pos vs]
    len := by omega
    vl := by omega
    vr := fun v hx => hv.row v hx
    er := fun e hx => ed_row hv hx
    br := ebL_row hE _ (by omega)
    bl := by have := ebL_len hE ((verts xss).length - 1) (by omega); omega
    min := fun p q hp hq => ⟨svA_verts h (by omega) (by omega), svE_ok h (by omega) (by omega), svE_ok vs (by omega) (by omega)⟩
    s0 := by rw [g0, gl]; exact hs.1
    s1 := by rw [g0, gl]; exact hs.2
    b0 := eb.1
    b1 := eb.2
    cv := by rw [h]; rfl
    se := fun hc hn => se_edges h hc (by omega) }
theorem no_sup {xss : List (List Int)} (h : ¬ isSup xss = true) : nvL xss = [] ∧ suE xss = 1 := ⟨by rw [nvL, if_neg h], by rw [suE, if_neg h]⟩
theorem sum_in {E : List (List Int)} (h : ∀ e ∈ E, Rw 1 e) (i : Nat) : (0 ≤ sS E0 (E.take i) ∧ sS E0 (E.take i) ≤ 60 * i) ∧ (0 ≤ sS E1 (E.take i) ∧ sS E1 (E.take i) ≤ 60 * i) := by
  have hr : ∀ e ∈ E.take i, Rw 1 e := fun e he => h e (List.mem_of_mem_take he)
  have hl : (E.take i).length ≤ i := by rw [List.length_take]; omega
  have a0 := sS_nonneg (F := E0) (A := E.take i) fun e he => by have := (hr e he).2.1; unfold E0; omega
  have a1 := sS_nonneg (F := E1) (A := E.take i) fun e he => by have := (hr e he).2.2; unfold E1; omega
  have b0 := sS_bd (F := E0) (B := 60) (A := E.take i) fun e he => (hr e he).2.1.2
  have b1 := sS_bd (F := E1) (B := 60) (A := E.take i) fun e he => (hr e he).2.2.2
  omega
theorem sum_step {E : List (List Int)} {i : Nat} (h : i < E.length) : sS E0 (E.take (i + 1)) = sS E0 (E.take i) + geti (gets E (i : Nat)) 0 ∧ sS E1 (E.take (i + 1)) = sS E1 (E.take i) + geti (gets E (i : Nat)) 1 := by
  rw [sS_take_succ _ _ _ h, sS_take_succ _ _ _ h, gets_D]
  exact ⟨rfl, rfl⟩
theorem gets_row {lo : Int} {E : List (List Int)} (h : ∀ e ∈ E, Rw lo e) {i : Nat} (hi : i < E.length) : Rw lo (gets E (i : Nat)) := h _ (gets_mem (by omega) (by omega))
end Go.Proofs.Ythlfdhooiekgjaa
/-
  The laws of vertices, edges and areas of supports. No condition.
-/
namespace Go.Proofs.Ythlfdhooiekgjaa
open Go Go.RowKit
attribute [local irreducible] AWp AOps ResIs Ret1 QOp LOp COp AFnV AFn Imms LeE LeO
set_option maxHeartbeats 1000000
set_option linter.unusedSimpArgs false
set_option linter.unusedVariables false

theorem verts_len {xss : List (List Int)} (h : isSup xss = true) : (verts xss).length ≤ 61 := by have := (sup_ok h).len; omega
theorem nvL_rows (xss : List (List Int)) : ∀ xs ∈ nvL xss, xs.length ≤ 1048576 := by
  intro xs hx
  unfold nvL at hx
  split at hx
  · rename_i h; have := (sup_ok h).row xs hx; omega
  · simp at hx
theorem nvL_len (xss : List (List Int)) : (nvL xss).length ≤ 1048576 := by
  unfold nvL; split
  · rename_i h; have := verts_len h; omega
  · simp
theorem neL_rows (xss : List (List Int)) : ∀ xs ∈ neL xss, xs.length ≤ 1048576 := by
  intro xs hx
  unfold neL at hx
  split at hx
  · simp only [edL, List.mem_map] at hx
    obtain ⟨j, _, rfl⟩ := hx
    simp
  · simp at hx
theorem neL_len (xss : List (List Int)) : (neL xss).length ≤ 1048576 := by
  unfold neL; split
  · rename_i h; have := verts_len h; rw [edL_len]; omega
  · simp

end Go.Proofs.Ythlfdhooiekgjaa
/-
  The laws of thresholds and of the branches of edges. No condition.
-/
namespace Go.Proofs.Ythlfdhooiekgjaa
open Go Go.RowKit
attribute [local irreducible] AWp AOps ResIs Ret1 QOp LOp COp AFnV AFn Imms LeE LeO
set_option maxHeartbeats 1000000
set_option linter.unusedSimpArgs false
set_option linter.unusedVariables false

theorem ebL_rows (E : List (List Int)) : ∀ i, ∀ xs ∈ ebL E i, xs.length ≤ 1048576
  | 0, xs, h => by simp [ebL] at h
  | i + 1, xs, h => by
    rw [ebL] at h
    rcases List.mem_append.1 h with h | h
    · exact ebL_rows E i xs h
    · rw [List.eq_of_mem_replicate h]; simp [ebR]
theorem ebF_rows (xss : List (List Int)) : ∀ xs ∈ ebF xss, xs.length ≤ 1048576 := by
  intro xs hx
  unfold ebF at hx
  split at hx
  · exact ebL_rows _ _ xs hx
  · simp at hx
theorem ebF_len (xss : List (List Int)) : (ebF xss).length ≤ 1048576 := by
  unfold ebF; split
  · rename_i h
    have := verts_le h
    have := ebL_len (edL_ok (sup_ok h)) ((verts xss).length - 1) (by rw [edL_len]; exact Nat.le_refl _)
    omega
  · simp

end Go.Proofs.Ythlfdhooiekgjaa
