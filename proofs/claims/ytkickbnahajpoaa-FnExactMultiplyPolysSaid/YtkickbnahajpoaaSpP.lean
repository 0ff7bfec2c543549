/-
  Polynomials as functions of their monomials: the plain law of putting in, of adding, of order. No program.
-/
import Derived.Test.YtkickbnahajpoaaPut
import Derived.Test.YtkickbnahajpoaaPartP
import Derived.Test.YtkickbnahajpoaaSpAdd
namespace Go.Proofs.Ytkickbnahajpoaa
open Go Go.RowKit

/-- The coefficient of (a, b). -/
def cof : List (List Int) → Int → Int → Int
  | [], _, _ => 0
  | t :: ts, a, b => if geti t 0 = a ∧ geti t 1 = b then geti t 2 else cof ts a b
/-- In strict order. -/
def Srt (ts : List (List Int)) : Prop := ts.Pairwise fun x y => bef (geti y 0) (geti y 1) x
/-- Terms with coefficients other than 0. -/
def TNz (ts : List (List Int)) : Prop := ∀ t ∈ ts, TOk t ∧ 1 ≤ geti t 2

theorem putT_bef {t : List Int} {ts : List (List Int)} {i j c : Int} (h : bef i j t) : putT (t :: ts) i j c = t :: putT ts i j c := by
  have e : putAt (t :: ts) i j = putAt ts i j + 1 := by
    unfold putAt
    rw [List.findIdx_cons]
    simp [h]
  unfold putT
  rw [e]
  simp only [List.getD_cons_succ, List.length_cons, List.take_succ_cons, List.drop_succ_cons, List.set_cons_succ, List.cons_append, Nat.add_lt_add_iff_right]
  split
  · split <;> rfl
  · split <;> rfl
theorem putT_nbef {t : List Int} {ts : List (List Int)} {i j c : Int} (h : ¬ bef i j t) : putT (t :: ts) i j c =
    if geti t 0 = i ∧ geti t 1 = j then (if (geti t 2 + c) % 55441 = 0 then ts else t.set 2 ((geti t 2 + c) % 55441) :: ts) else if c = 0 then t :: ts else [i, j, c] :: t :: ts := by
  have e : putAt (t :: ts) i j = 0 := by
    unfold putAt
    rw [List.findIdx_cons]
    simp [h]
  unfold putT
  rw [e]
  simp
theorem putT_nil {i j c : Int} : putT [] i j c = if c = 0 then [] else [[i, j, c]] := by
  unfold putT
  simp [putAt]

theorem cof_zero {a b : Int} : ∀ {ts : List (List Int)}, (∀ t ∈ ts, ¬ (geti t 0 = a ∧ geti t 1 = b)) → cof ts a b = 0
  | [], _ => rfl
  | t :: ts, h => by
    rw [cof, if_neg (h t (by simp))]
    exact cof_zero fun x hx => h x (by simp [hx])
theorem cof_after {i j : Int} {ts : List (List Int)} (h : ∀ t ∈ ts, ¬ bef i j t ∧ ¬ (geti t 0 = i ∧ geti t 1 = j)) : cof ts i j = 0 := cof_zero fun t ht => (h t ht).2
theorem nbef_after {t : List Int} {ts : List (List Int)} (hs : Srt (t :: ts)) {i j : Int} (h : ¬ bef i j t) : ∀ x ∈ ts, ¬ bef i j x ∧ ¬ (geti x 0 = i ∧ geti x 1 = j) := by
  intro x hx
  have := (List.pairwise_cons.1 hs).1 x hx
  unfold bef at *
  omega

theorem set2 {t : List Int} (h : t.length = 3) (v : Int) : geti (t.set 2 v) 0 = geti t 0 ∧ geti (t.set 2 v) 1 = geti t 1 ∧ geti (t.set 2 v) 2 = v ∧ (t.set 2 v).length = 3 := by
  match t, h with
  | [a, b, c], _ => exact ⟨rfl, rfl, rfl, rfl⟩

theorem cof_put {i j c : Int} (hc : 0 ≤ c ∧ c ≤ 55440) (a b : Int) : ∀ (ts : List (List Int)), Srt ts → (∀ t ∈ ts, TOk t) → cof (putT ts i j c) a b = if a = i ∧ b = j then (cof ts i j + c) % 55441 else cof ts a b
  | [], _, _ => by
    rw [putT_nil]
    split
    · rename_i h; subst h; simp [cof]
    · simp only [cof]
      have e0 : geti [i, j, c] 0 = i := rfl
      have e1 : geti [i, j, c] 1 = j := rfl
      have e2 : geti [i, j, c] 2 = c := rfl
      rw [e0, e1, e2]
      have e3 : (0 + c) % 55441 = c := by omega
      rw [e3]
      by_cases h : a = i ∧ b = j
      · rw [if_pos ⟨h.1.symm, h.2.symm⟩, if_pos h]
      · rw [if_neg (fun h' => h ⟨h'.1.symm, h'.2.symm⟩), if_neg h]
  | t :: ts, hs, ht => by
    have ih := cof_put (i := i) (j := j) hc a b ts (List.pairwise_cons.1 hs).2 (fun x hx => ht x (by simp [hx]))
    by_cases hb : bef i j t
    · have hne : ¬ (geti t 0 = i ∧ geti t 1 = j) := by unfold bef at hb; omega
      rw [putT_bef hb]
      simp only [cof, if_neg hne, ih]
      by_cases h : a = i ∧ b = j
      · rw [if_neg (by rw [h.1, h.2]; exact hne), if_pos h, if_pos h]
      · rw [if_neg h]; simp only [if_neg h]
    · have haf := cof_after (nbef_after hs hb)
      rw [putT_nbef hb]
      by_cases he : geti t 0 = i ∧ geti t 1 = j
      · rw [if_pos he]
        have hst := set2 (ht t (by simp)).1 ((geti t 2 + c) % 55441)
        by_cases hz : (geti t 2 + c) % 55441 = 0
        · rw [if_pos hz]
          simp only [cof, he, and_self, if_true]
          by_cases h : a = i ∧ b = j
          · rw [if_pos h, h.1, h.2, haf, hz]
          · rw [if_neg h, if_neg (fun h' => h ⟨h'.1.symm, h'.2.symm⟩)]
        · rw [if_neg hz]
          simp only [cof, hst.1, hst.2.1, hst.2.2.1, he, and_self, if_true]
          by_cases h : a = i ∧ b = j
          · rw [if_pos h, if_pos ⟨h.1.symm, h.2.symm⟩]
          · rw [if_neg h, if_neg (fun h' => h ⟨h'.1.symm, h'.2.symm⟩)]
            simp only [if_neg (fun h' : i = a ∧ j = b => h ⟨h'.1.symm, h'.2.symm⟩)]
      · rw [if_neg he]
        have h0 : cof (t :: ts) i j = 0 := by rw [cof, if_neg he, haf]
        rw [h0]
        have e3 : (0 + c) % 55441 = c := by omega
        rw [e3]
        split
        · rename_i hc0
          by_cases h : a = i ∧ b = j
          · rw [if_pos h, h.1, h.2, h0, hc0]
          · rw [if_neg h]
        · rw [cof]
          have e0 : geti [i, j, c] 0 = i := rfl
          have e1 : geti [i, j, c] 1 = j := rfl
          have e2 : geti [i, j, c] 2 = c := rfl
          rw [e0, e1, e2]
          by_cases h : a = i ∧ b = j
          · rw [if_pos ⟨h.1.symm, h.2.symm⟩, if_pos h]
          · rw [if_neg (fun h' => h ⟨h'.1.symm, h'.2.symm⟩), if_neg h]

theorem mem_put {i j c : Int} : ∀ (ts : List (List Int)), (∀ t ∈ ts, t.length = 3) → ∀ x ∈ putT ts i j c, x ∈ ts ∨ (geti x 0 = i ∧ geti x 1 = j ∧ x.length = 3 ∧ ((geti x 2 = c ∧ c ≠ 0) ∨ ∃ t ∈ ts, geti x 2 = (geti t 2 + c) % 55441 ∧ geti x 2 ≠ 0))
  | [], _, x, hx => by
    rw [putT_nil] at hx
    split at hx
    · simp at hx
    · rename_i h
      simp only [List.mem_singleton] at hx
      subst hx
      exact .inr ⟨rfl, rfl, rfl, .inl ⟨rfl, h⟩⟩
  | t :: ts, ht, x, hx => by
    by_cases hb : bef i j t
    · rw [putT_bef hb] at hx
      rcases List.mem_cons.1 hx with rfl | hx
      · exact .inl (by simp)
      · rcases mem_put ts (fun y hy => ht y (by simp [hy])) x hx with h | ⟨h1, h2, h3, h4⟩
        · exact .inl (by simp [h])
        · refine .inr ⟨h1, h2, h3, h4.imp id ?_⟩
          rintro ⟨y, hy, h5⟩
          exact ⟨y, by simp [hy], h5⟩
    · rw [putT_nbef hb] at hx
      split at hx
      · rename_i he
        split at hx
        · exact .inl (by simp [hx])
        · rename_i hz
          rcases List.mem_cons.1 hx with rfl | hx
          · have hst := set2 (ht t (by simp)) ((geti t 2 + c) % 55441)
            exact .inr ⟨hst.1.trans he.1, hst.2.1.trans he.2, hst.2.2.2, .inr ⟨t, by simp, hst.2.2.1, by rw [hst.2.2.1]; exact hz⟩⟩
          · exact .inl (by simp [hx])
      · split at hx
        · exact .inl hx
        · rename_i hc
          rcases List.mem_cons.1 hx with rfl | hx
          · exact .inr ⟨rfl, rfl, rfl, .inl ⟨rfl, hc⟩⟩
          · exact .inl hx
theorem nz_put {ts : List (List Int)} {i j c : Int} (h : TNz ts) (hi : 0 ≤ i ∧ i ≤ 100000) (hj : 0 ≤ j ∧ j ≤ 100000) (hc : 0 ≤ c ∧ c ≤ 55440) : TNz (putT ts i j c) := by
  intro x hx
  rcases mem_put ts (fun t ht => (h t ht).1.1) x hx with h1 | ⟨h1, h2, h3, h4⟩
  · exact h x h1
  · unfold TOk
    rcases h4 with ⟨h4, h5⟩ | ⟨t, _, h4, h5⟩
    · omega
    · omega
theorem srt_put {i j c : Int} : ∀ (ts : List (List Int)), Srt ts → (∀ t ∈ ts, t.length = 3) → Srt (putT ts i j c)
  | [], _, _ => by
    rw [putT_nil]
    split
    · exact List.Pairwise.nil
    · exact List.pairwise_singleton _ _
  | t :: ts, hs, ht => by
    have hs2 := List.pairwise_cons.1 hs
    have ih := srt_put (i := i) (j := j) (c := c) ts hs2.2 (fun x hx => ht x (by simp [hx]))
    by_cases hb : bef i j t
    · rw [putT_bef hb]
      refine List.pairwise_cons.2 ⟨fun x hx => ?_, ih⟩
      rcases mem_put ts (fun y hy => ht y (by simp [hy])) x hx with h | ⟨h1, h2, _⟩
      · exact hs2.1 x h
      · rw [h1, h2]; exact hb
    · rw [putT_nbef hb]
      split
      · rename_i he
        split
        · exact hs2.2
        · have hst := set2 (ht t (by simp)) ((geti t 2 + c) % 55441)
          refine List.pairwise_cons.2 ⟨fun x hx => ?_, hs2.2⟩
          have := hs2.1 x hx
          unfold bef at *
          rw [hst.1, hst.2.1]
          exact this
      · rename_i he
        split
        · exact hs
        · refine List.pairwise_cons.2 ⟨fun x hx => ?_, hs⟩
          show bef _ _ [i, j, c]
          have e0 : geti [i, j, c] 0 = i := rfl
          have e1 : geti [i, j, c] 1 = j := rfl
          rcases List.mem_cons.1 hx with rfl | hx
          · unfold bef at *; rw [e0, e1]; omega
          · have := nbef_after hs hb x hx
            unfold bef at *; rw [e0, e1]; omega

/-! ### A list of terms is known by its coefficients -/
def KeyN (ts : List (List Int)) : Prop := ts.Pairwise fun x y => ¬ (geti x 0 = geti y 0 ∧ geti x 1 = geti y 1)
theorem srt_key {ts : List (List Int)} (h : Srt ts) : KeyN ts := h.imp fun {a b} hb => by unfold bef at hb; omega
theorem cof_mem {a b : Int} : ∀ {ts : List (List Int)}, KeyN ts → (∀ t ∈ ts, geti t 2 ≠ 0) → ∀ t ∈ ts, geti t 0 = a → geti t 1 = b → cof ts a b = geti t 2
  | [], _, _, t, ht, _, _ => by simp at ht
  | x :: ts, hk, hn, t, ht, ha, hb => by
    rw [cof]
    rcases List.mem_cons.1 ht with rfl | ht
    · rw [if_pos ⟨ha, hb⟩]
    · have := (List.pairwise_cons.1 hk).1 t ht
      rw [if_neg (by rw [← ha, ← hb]; exact this)]
      exact cof_mem (List.pairwise_cons.1 hk).2 (fun y hy => hn y (by simp [hy])) t ht ha hb
theorem mem_cof {a b : Int} : ∀ {ts : List (List Int)}, cof ts a b ≠ 0 → ∃ t ∈ ts, geti t 0 = a ∧ geti t 1 = b ∧ geti t 2 = cof ts a b
  | [], h => by simp [cof] at h
  | x :: ts, h => by
    rw [cof] at h ⊢
    split
    · rename_i he; exact ⟨x, by simp, he.1, he.2, rfl⟩
    · rename_i he
      rw [if_neg he] at h
      obtain ⟨t, h1, h2⟩ := mem_cof h
      exact ⟨t, by simp [h1], h2⟩
theorem term_ext {x y : List Int} (hx : x.length = 3) (hy : y.length = 3) (h0 : geti x 0 = geti y 0) (h1 : geti x 1 = geti y 1) (h2 : geti x 2 = geti y 2) : x = y := by
  match x, y, hx, hy with
  | [a, b, c], [a', b', c'], _, _ =>
    have : a = a' := h0
    have : b = b' := h1
    have : c = c' := h2
    simp_all
theorem key_nodup {ts : List (List Int)} (h : KeyN ts) : ts.Nodup := h.imp fun {a b} hab e => hab (by rw [e]; exact ⟨rfl, rfl⟩)
theorem cof_uniq {ts us : List (List Int)} (ht : KeyN ts) (hu : KeyN us) (nt : ∀ t ∈ ts, t.length = 3 ∧ geti t 2 ≠ 0) (nu : ∀ t ∈ us, t.length = 3 ∧ geti t 2 ≠ 0) (h : ∀ a b, cof ts a b = cof us a b) : ts.Perm us := by
  have sub : ∀ {xs ys : List (List Int)}, KeyN xs → (∀ t ∈ xs, t.length = 3 ∧ geti t 2 ≠ 0) → (∀ t ∈ ys, t.length = 3 ∧ geti t 2 ≠ 0) → (∀ a b, cof xs a b = cof ys a b) → ∀ x ∈ xs, x ∈ ys := by
    intro xs ys kx nx ny hh x hx
    have e := cof_mem kx (fun t ht => (nx t ht).2) x hx rfl rfl
    rw [hh] at e
    obtain ⟨t, h1, h2, h3, h4⟩ := mem_cof (ts := ys) (a := geti x 0) (b := geti x 1) (by rw [e]; exact (nx x hx).2)
    have : t = x := term_ext (ny t h1).1 (nx x hx).1 h2 h3 (h4.trans e)
    rwa [← this]
  exact (List.perm_ext_iff_of_nodup (key_nodup ht) (key_nodup hu)).2 fun x => ⟨sub ht nt nu h x, sub hu nu nt (fun a b => (h a b).symm) x⟩

/-! ### Maps -/
def KeysN (L : List (Int × Int × Int)) : Prop := L.Pairwise fun x y => ¬ (x.1 = y.1 ∧ x.2.1 = y.2.1)
def rowT (t : Int × Int × Int) : List Int := [t.1, t.2.1, t.2.2]
theorem lookM_nil (a b : Int) : lookM [] a b = 0 := rfl
theorem lookM_cons (t : Int × Int × Int) (L : List (Int × Int × Int)) (a b : Int) : lookM (t :: L) a b = if a = t.1 ∧ b = t.2.1 then t.2.2 else lookM L a b := by
  unfold lookM
  rw [List.find?_cons]
  by_cases h : a = t.1 ∧ b = t.2.1
  · simp [isK, h]
  · simp [isK, h]
theorem putM_nil (i j c : Int) : putM [] i j c = [(i, j, c)] := rfl
theorem putM_cons (t : Int × Int × Int) (L : List (Int × Int × Int)) (i j c : Int) : putM (t :: L) i j c = if i = t.1 ∧ j = t.2.1 then (i, j, c) :: L else t :: putM L i j c := by
  unfold putM
  rw [List.findIdx?_cons]
  by_cases h : i = t.1 ∧ j = t.2.1
  · simp [isK, h]
  · simp only [isK, h, decide_false, Bool.false_eq_true, if_false]
    cases L.findIdx? (isK i j) <;> simp
theorem lookM_put (i j c a b : Int) : ∀ L : List (Int × Int × Int), lookM (putM L i j c) a b = if a = i ∧ b = j then c else lookM L a b
  | [] => by rw [putM_nil, lookM_cons, lookM_nil]
  | t :: L => by
    rw [putM_cons]
    by_cases h : i = t.1 ∧ j = t.2.1
    · rw [if_pos h, lookM_cons, lookM_cons]
      by_cases h2 : a = i ∧ b = j
      · simp [h2]
      · rw [if_neg h2, if_neg h2, if_neg (by rw [← h.1, ← h.2]; exact h2)]
    · rw [if_neg h, lookM_cons, lookM_cons, lookM_put i j c a b L]
      by_cases h2 : a = i ∧ b = j
      · rw [if_pos h2, if_neg (by rw [h2.1, h2.2]; exact h)]; simp [h2]
      · rw [if_neg h2]; simp only [if_neg h2]
theorem mem_putM {i j c : Int} : ∀ {L : List (Int × Int × Int)}, ∀ x ∈ putM L i j c, x ∈ L ∨ x = (i, j, c)
  | [], x, hx => by rw [putM_nil] at hx; simp at hx; exact .inr hx
  | t :: L, x, hx => by
    rw [putM_cons] at hx
    split at hx
    · rcases List.mem_cons.1 hx with rfl | hx
      · exact .inr rfl
      · exact .inl (by simp [hx])
    · rcases List.mem_cons.1 hx with rfl | hx
      · exact .inl (by simp)
      · exact (mem_putM x hx).imp (fun h => by simp [h]) id
theorem keys_put {i j c : Int} : ∀ {L : List (Int × Int × Int)}, KeysN L → KeysN (putM L i j c)
  | [], _ => List.pairwise_singleton _ _
  | t :: L, h => by
    have h2 := List.pairwise_cons.1 h
    rw [putM_cons]
    split
    · rename_i he
      exact List.pairwise_cons.2 ⟨fun x hx => by have := h2.1 x hx; simp only [he.1, he.2]; exact this, h2.2⟩
    · rename_i he
      refine List.pairwise_cons.2 ⟨fun x hx => ?_, keys_put h2.2⟩
      rcases mem_putM x hx with h3 | rfl
      · exact h2.1 x h3
      · exact fun h4 => he ⟨h4.1.symm, h4.2.symm⟩
theorem co_add {L : List (Int × Int × Int)} (h : CoOk L) (i j c : Int) : CoOk (addS L i j c) := by
  intro t ht
  rcases mem_putM t ht with h1 | rfl
  · exact h t h1
  · show 0 ≤ (lookM L i j + c) % 55441 ∧ (lookM L i j + c) % 55441 ≤ 55440
    omega
theorem look_add (L : List (Int × Int × Int)) (i j c a b : Int) : lookM (addS L i j c) a b = if a = i ∧ b = j then (lookM L i j + c) % 55441 else lookM L a b := lookM_put i j _ a b L
theorem keys_add {L : List (Int × Int × Int)} (h : KeysN L) (i j c : Int) : KeysN (addS L i j c) := keys_put h

/-- The rows of the entries whose number is not 0. -/
def rowsNz (L : List (Int × Int × Int)) : List (List Int) := (L.filter fun t => decide (t.2.2 ≠ 0)).map rowT
theorem cof_rows : ∀ {L : List (Int × Int × Int)}, KeysN L → ∀ a b, cof (rowsNz L) a b = lookM L a b
  | [], _, _, _ => rfl
  | t :: L, h, a, b => by
    have h2 := List.pairwise_cons.1 h
    have ih := cof_rows h2.2 a b
    rw [lookM_cons]
    unfold rowsNz at ih ⊢
    rw [List.filter_cons]
    by_cases hz : t.2.2 = 0
    · simp only [hz, ne_eq, not_true_eq_false, decide_false, Bool.false_eq_true, if_false, ih]
      split
      · rename_i he
        unfold lookM
        rw [List.find?_eq_none.2]
        intro x hx
        have := h2.1 x hx
        simp only [isK, decide_eq_true_eq]
        rw [he.1, he.2]
        exact this
      · rfl
    · simp only [ne_eq, hz, not_false_eq_true, decide_true, if_true, List.map_cons, cof, ih]
      have e0 : geti (rowT t) 0 = t.1 := rfl
      have e1 : geti (rowT t) 1 = t.2.1 := rfl
      have e2 : geti (rowT t) 2 = t.2.2 := rfl
      rw [e0, e1, e2]
      by_cases he : a = t.1 ∧ b = t.2.1
      · rw [if_pos he, if_pos ⟨he.1.symm, he.2.symm⟩]
      · rw [if_neg he, if_neg (fun h' => he ⟨h'.1.symm, h'.2.symm⟩)]
theorem rows_key {L : List (Int × Int × Int)} (h : KeysN L) : KeyN (rowsNz L) := by
  unfold rowsNz KeyN
  rw [List.pairwise_map]
  exact (h.filter _).imp fun {a b} hab => hab
theorem rows_nz {L : List (Int × Int × Int)} : ∀ t ∈ rowsNz L, t.length = 3 ∧ geti t 2 ≠ 0 := by
  intro t ht
  obtain ⟨x, hx, rfl⟩ := List.mem_map.1 ht
  refine ⟨rfl, ?_⟩
  have := (List.mem_filter.1 hx).2
  show x.2.2 ≠ 0
  simpa using this
/-- The rows of a map are those of the ordered list with the same coefficients. -/
theorem rows_perm {L : List (Int × Int × Int)} {ts : List (List Int)} (hL : KeysN L) (hs : Srt ts) (hn : TNz ts) (h : ∀ a b, cof ts a b = lookM L a b) : (rowsNz L).Perm ts :=
  cof_uniq (rows_key hL) (srt_key hs) rows_nz (fun t ht => ⟨(hn t ht).1.1, by have := (hn t ht).2; omega⟩) fun a b => (cof_rows hL a b).trans (h a b).symm
end Go.Proofs.Ytkickbnahajpoaa
