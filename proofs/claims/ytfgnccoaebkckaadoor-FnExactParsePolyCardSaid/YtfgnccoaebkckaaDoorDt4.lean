/-
  Reading terms and polynomials, on both sides, as plain words; whatever reads back the texts of polynomials answers alike. No condition.
-/
import Derived.Test.YtfgnccoaebkckaaDoorDt3
namespace Go.Proofs.YtfgnccoaebkckaaDoor
open Go

/-- A number that a text begins with. -/
def exV (s : List UInt8) : Option (Int × List UInt8) := if dgOk s = true then some (vl (s.take (ndg s)), s.drop (ndg s)) else none
/-- Behind an unknown. -/
def exU (s : List UInt8) : Option (Int × List UInt8) := if s = [] ∨ s.getD 0 0 ≠ 94 then some (1, s) else exV (s.drop 1)
/-- An unknown with an exponent. -/
def exT (nm : UInt8) (s : List UInt8) : Option (Int × List UInt8) := if s = [] ∨ s.getD 0 0 ≠ nm then some (0, s) else exU (s.drop 1)
def tmC (w : List UInt8) : Option (Int × List UInt8) := if w.getD 0 0 ≠ 120 ∧ w.getD 0 0 ≠ 121 then exV w else some (1, w)
/-- The program's reading of a term. -/
def tmI (w : List UInt8) : Option (List Int) :=
  if w = [] then none else
  match tmC w with
  | none => none
  | some (c, rest) => match exT 120 rest with
    | none => none
    | some (i, r1) => match exT 121 r1 with
      | none => none
      | some (j, r2) => if r2 = [] then some [i, j, c] else none
/-- The reference's reading of an exponent: -1 where there is none. -/
def exJ (nm : UInt8) (s : List UInt8) : Int × List UInt8 := match exT nm s with
  | some p => p
  | none => (-1, ((s.drop 1).drop 1).drop (ndg ((s.drop 1).drop 1)))
def cfS (w : List UInt8) : Int := if 0 < ndg w then (if dgOk w = true then vl (w.take (ndg w)) else -1) else 1
/-- The reference's reading of a term. -/
def tmS (w : List UInt8) : Option (List Int) :=
  if (exJ 121 (exJ 120 (w.drop (ndg w))).2).2 ≠ [] ∨ (exJ 120 (w.drop (ndg w))).1 < 0 ∨ (exJ 121 (exJ 120 (w.drop (ndg w))).2).1 < 0 then none
  else some [(exJ 120 (w.drop (ndg w))).1, (exJ 121 (exJ 120 (w.drop (ndg w))).2).1, cfS w]

theorem byte_of {k : Nat} (h : k < 10) : (UInt8.ofNat (48 + k)).toNat = 48 + k := by rw [UInt8.toNat_ofNat']; omega
theorem dd_dg : ∀ n : Nat, ∀ x ∈ Lib.decDigits n, isDg x = true := by
  intro n
  induction n using Nat.strongRecOn with
  | _ n ih =>
    intro x hx
    rw [Lib.decDigits] at hx
    split at hx
    · rename_i h
      obtain rfl := List.mem_singleton.1 hx
      simp only [isDg, byte_of h, decide_eq_true_eq]; omega
    · rcases List.mem_append.1 hx with hx | hx
      · exact ih (n / 10) (by omega) x hx
      · obtain rfl := List.mem_singleton.1 hx
        simp only [isDg, byte_of (Nat.mod_lt n (by omega)), decide_eq_true_eq]; omega
theorem dd_vl : ∀ n : Nat, vl (Lib.decDigits n) = n := by
  intro n
  induction n using Nat.strongRecOn with
  | _ n ih =>
    rw [Lib.decDigits]
    split
    · rename_i h
      simp only [vl, List.foldl_cons, List.foldl_nil, byte_of h]; omega
    · rw [vl_snoc, ih (n / 10) (by omega), byte_of (Nat.mod_lt n (by omega))]; omega
theorem dd_hd : ∀ n : Nat, n ≠ 0 → (Lib.decDigits n).getD 0 0 ≠ 48 := by
  intro n
  induction n using Nat.strongRecOn with
  | _ n ih =>
    intro h0 he
    rw [Lib.decDigits] at he
    split at he
    · rename_i h
      have := congrArg UInt8.toNat he
      simp only [List.getD_cons_zero, byte_of h] at this
      have h48 : (48 : UInt8).toNat = 48 := rfl
      omega
    · rename_i h
      have hp := Lib.nDigits_pos (n / 10)
      rw [← Lib.decDigits_length] at hp
      rw [List.getD_eq_getElem?_getD, List.getElem?_append_left (by omega), ← List.getD_eq_getElem?_getD] at he
      exact ih (n / 10) (by omega) (by omega) he
theorem dd_app {n : Nat} (hn : n < 100000) {r : List UInt8} (hr : r = [] ∨ isDg (r.getD 0 0) = false) : ndg (Lib.decDigits n ++ r) = (Lib.decDigits n).length ∧ dgOk (Lib.decDigits n ++ r) = true := by
  have h1 : ndg (Lib.decDigits n ++ r) = (Lib.decDigits n).length := pl_append (dd_dg n) hr
  have hl := dd_len hn
  refine ⟨h1, ?_⟩
  unfold dgOk okN
  rw [h1]
  refine decide_eq_true ⟨hl.2, by omega, fun ⟨h2, h3⟩ => ?_⟩
  rw [List.getD_eq_getElem?_getD, List.getElem?_append_left (by omega), ← List.getD_eq_getElem?_getD] at h3
  by_cases h0 : n = 0
  · subst h0
    rw [Lib.decDigits, dif_pos (by omega)] at h2
    simp at h2
  · exact dd_hd n h0 h3
theorem exV_dec {n : Int} (h0 : 0 ≤ n) (h1 : n < 100000) {r : List UInt8} (hr : r = [] ∨ isDg (r.getD 0 0) = false) : exV (dec n ++ r) = some (n, r) := by
  obtain ⟨e1, e2⟩ := dd_app (n := n.toNat) (by omega) hr
  unfold exV
  rw [if_pos e2, e1, List.take_left' rfl, List.drop_left' rfl, dd_vl]
  congr 2; omega
theorem exT_pw {nm : UInt8} {n : Int} (h0 : 0 ≤ n) (h1 : n < 100000) {r : List UInt8} (hr : r = [] ∨ (isDg (r.getD 0 0) = false ∧ r.getD 0 0 ≠ 94 ∧ r.getD 0 0 ≠ nm)) : exT nm (pwN [nm] n ++ r) = some (n, r) := by
  unfold pwN
  by_cases e0 : n = 0
  · subst e0
    rw [if_pos rfl, List.nil_append, exT, if_pos (hr.imp id fun h => h.2.2)]
  · rw [if_neg e0]
    by_cases e1 : n = 1
    · subst e1
      rw [if_pos rfl, exT, if_neg (by simp), exU]
      simp only [List.cons_append, List.nil_append, List.drop_succ_cons, List.drop_zero]
      rw [if_pos (hr.imp id fun h => h.2.1)]
    · rw [if_neg e1, exT, if_neg (by simp), exU]
      simp only [List.cons_append, List.nil_append, List.drop_succ_cons, List.drop_zero]
      rw [if_neg (by simp)]
      exact exV_dec h0 h1 (hr.imp id fun h => h.1)

/-- A term as a polynomial has it. -/
def TV (t : List Int) : Prop := t.length = 3 ∧ (0 ≤ geti t 0 ∧ geti t 0 ≤ 60) ∧ (0 ≤ geti t 1 ∧ geti t 1 ≤ 60) ∧ 1 ≤ geti t 2 ∧ geti t 2 ≤ 55440
theorem TV.eq {t : List Int} (h : TV t) : [geti t 0, geti t 1, geti t 2] = t := by
  match t, h.1 with
  | [a, b, c], _ => rfl
theorem pw_hd {nm : UInt8} {n : Int} : pwN [nm] n = [] ∨ (pwN [nm] n).getD 0 0 = nm := by
  unfold pwN
  by_cases e0 : n = 0
  · rw [if_pos e0]; exact .inl rfl
  · rw [if_neg e0]
    split
    · exact .inr rfl
    · exact .inr rfl
theorem xy_hd (t : List Int) : xyT t = [] ∨ (xyT t).getD 0 0 = 120 ∨ (xyT t).getD 0 0 = 121 := by
  unfold xyT
  rcases pw_hd (nm := 120) (n := geti t 0) with h | h
  · rw [h, List.nil_append]
    exact (pw_hd (nm := 121)).imp id .inr
  · cases hp : pwN [120] (geti t 0) with
    | nil => rw [hp] at h; simp at h
    | cons x r => rw [hp] at h; exact .inr (.inl (by simpa using h))
theorem xy_dg (t : List Int) : xyT t = [] ∨ isDg ((xyT t).getD 0 0) = false := by
  rcases xy_hd t with h | h | h
  · exact .inl h
  · rw [h]; exact .inr rfl
  · rw [h]; exact .inr rfl
theorem ex_xy {t : List Int} (h : TV t) : exT 120 (xyT t) = some (geti t 0, pwN [121] (geti t 1)) ∧ exT 121 (pwN [121] (geti t 1)) = some (geti t 1, []) := by
  obtain ⟨_, h0, h1, _⟩ := h
  refine ⟨exT_pw (by omega) (by omega) ?_, ?_⟩
  · rcases pw_hd (nm := 121) (n := geti t 1) with h | h
    · exact .inl h
    · rw [h]; exact .inr ⟨rfl, by decide, by decide⟩
  · have := exT_pw (nm := 121) (n := geti t 1) (r := []) (by omega) (by omega) (.inl rfl)
    rwa [List.append_nil] at this
theorem tmC_wd {t : List Int} (h : TV t) : wd t ≠ [] ∧ tmC (wd t) = some (geti t 2, xyT t) := by
  obtain ⟨hl, h0, h1, h2, h3⟩ := h
  unfold wd
  split
  · have hne : dec (geti t 2) ≠ [] := by
      intro e
      have := (dec_len (n := geti t 2) (by omega)).2
      rw [e] at this; simp at this
    refine ⟨by simp [hne], ?_⟩
    have hd : isDg ((dec (geti t 2) ++ xyT t).getD 0 0) = true := by
      cases hc : dec (geti t 2) with
      | nil => exact absurd hc hne
      | cons x r =>
        simp only [List.cons_append, List.getD_cons_zero]
        exact dd_dg _ x (by rw [show Lib.decDigits (geti t 2).toNat = x :: r from hc]; exact List.mem_cons_self ..)
    unfold tmC
    rw [if_pos ⟨fun e => (by rw [e] at hd; cases hd), fun e => (by rw [e] at hd; cases hd)⟩]
    exact exV_dec (by omega) (by omega) (xy_dg t)
  · rename_i h
    have hx : xyT t ≠ [] := fun e => h (.inr e)
    have hc : geti t 2 = 1 := Classical.byContradiction fun e => h (.inl e)
    refine ⟨hx, ?_⟩
    unfold tmC
    rw [if_neg (fun ⟨a, b⟩ => (xy_hd t).elim hx (fun h => h.elim a b)), hc]
theorem tmI_wd {t : List Int} (h : TV t) : tmI (wd t) = some t := by
  obtain ⟨e1, e2⟩ := tmC_wd h
  obtain ⟨e3, e4⟩ := ex_xy h
  unfold tmI
  rw [if_neg e1, e2]
  simp only [e3, e4, if_true]
  rw [h.eq]
theorem nd_wd {t : List Int} (h : TV t) : (wd t).drop (ndg (wd t)) = xyT t ∧ cfS (wd t) = geti t 2 := by
  obtain ⟨hl, h0, h1, h2, h3⟩ := h
  unfold wd cfS
  split
  · obtain ⟨e1, e2⟩ := dd_app (n := (geti t 2).toNat) (by omega) (xy_dg t)
    have hp := (dd_len (n := (geti t 2).toNat) (by omega)).2
    rw [e1, List.drop_left' rfl, if_pos (by omega), if_pos e2, List.take_left' rfl, dd_vl]
    exact ⟨rfl, by omega⟩
  · rename_i h
    have hc : geti t 2 = 1 := Classical.byContradiction fun e => h (.inl e)
    have hn : ndg (xyT t) = 0 := by
      unfold ndg
      rcases xy_dg t with e | e
      · exact absurd (Or.inr e) h
      · exact pl_eq (Nat.zero_le _) (.inr e)
    rw [hn, List.drop_zero, if_neg (by omega), hc]
    exact ⟨rfl, rfl⟩
theorem tmS_wd {t : List Int} (h : TV t) : tmS (wd t) = some t := by
  obtain ⟨e1, e2⟩ := nd_wd h
  obtain ⟨e3, e4⟩ := ex_xy h
  have heq := h.eq
  obtain ⟨_, h0, h1, _⟩ := h
  unfold tmS exJ
  rw [e1, e2, e3]
  simp only [e4]
  rw [if_neg (by simp; omega)]
  rw [heq]
theorem wd_no {t : List Int} : ∀ x ∈ wd t, x ≠ 43 := by
  have pw : ∀ (nm : UInt8) (n : Int), nm ≠ 43 → ∀ x ∈ pwN [nm] n, x ≠ 43 := by
    intro nm n hn x hx
    unfold pwN at hx
    by_cases e0 : n = 0
    · rw [if_pos e0] at hx; cases hx
    · rw [if_neg e0] at hx
      split at hx
      · obtain rfl := List.mem_singleton.1 hx; exact hn
      · rcases List.mem_append.1 hx with hx | hx
        · rcases List.mem_append.1 hx with hx | hx
          · obtain rfl := List.mem_singleton.1 hx; exact hn
          · obtain rfl := List.mem_singleton.1 hx; decide
        · intro e; have := dd_dg _ x hx; rw [e] at this; cases this
  have xy : ∀ x ∈ xyT t, x ≠ 43 := by
    intro x hx
    rcases List.mem_append.1 hx with hx | hx
    · exact pw 120 _ (by decide) x hx
    · exact pw 121 _ (by decide) x hx
  intro x hx
  unfold wd at hx
  split at hx
  · rcases List.mem_append.1 hx with hx | hx
    · intro e; have := dd_dg _ x hx; rw [e] at this; cases this
    · exact xy x hx
  · exact xy x hx
theorem PR.tv {f : List (List Int)} (h : IsPo f) : ∀ t ∈ f, TV t := by
  intro t ht
  obtain ⟨i, hi, rfl⟩ := List.getElem_of_mem ht
  have hp := h.2 i hi
  have e : gets f i = f[i] := by simp [gets, hi]
  unfold PR at hp
  rw [e] at hp
  exact ⟨hp.1, hp.2.1, hp.2.2.1, hp.2.2.2.1⟩

/-- What a way of reading terms makes of a text: its terms, where all can be read. -/
def pO (tm : List UInt8 → Option (List Int)) (mx : Nat) (text : List UInt8) : Option (List (List Int)) :=
  if text = [48] then some [] else if (∀ w ∈ spl 43 text, (tm w).isSome = true) ∧ (spl 43 text).length ≤ mx then some ((spl 43 text).map fun w => (tm w).getD []) else none
theorem pO_txt {tm : List UInt8 → Option (List Int)} {mx : Nat} (hm : 200 ≤ mx) (ht : ∀ t, TV t → tm (wd t) = some t) {f : List (List Int)} (h : IsPo f) : pO tm mx (txt f) = some f := by
  have htv := PR.tv h
  unfold pO txt
  by_cases h0 : f.length = 0
  · rw [if_pos h0, if_pos rfl, List.length_eq_zero_iff.1 h0]
  · rw [if_neg h0]
    have hs : spl 43 (Lib.join (f.map wd) [43]) = f.map wd := spl_join 43 _ (by simp; intro e; rw [e] at h0; simp at h0) fun w hw x hx => by
      obtain ⟨t, h1, rfl⟩ := List.mem_map.1 hw
      exact wd_no x hx
    have hm2 : (f.map wd).map (fun w => (tm w).getD []) = f := by
      rw [List.map_map]
      conv => rhs; rw [← List.map_id f]
      exact List.map_congr_left fun t h1 => by simp [ht t (htv t h1)]
    by_cases h48 : Lib.join (f.map wd) [43] = [48]
    · exfalso
      rw [h48] at hs
      have e1 : f.map wd = [[48]] := by rw [← hs]; rfl
      have e0 : f.length = 1 := by have := congrArg List.length e1; simpa using this
      obtain ⟨t, rfl⟩ : ∃ t, f = [t] := by
        match f, e0 with
        | [t], _ => exact ⟨t, rfl⟩
      have e2 : wd t = [48] := by simpa using e1
      have e3 := tmC_wd (htv t (by simp))
      rw [e2] at e3
      have e4 : tmC [48] = some (0, []) := by decide
      rw [e4] at e3
      have := (htv t (by simp)).2.2.2.1
      have e5 := e3.2
      simp only [Option.some.injEq, Prod.mk.injEq] at e5
      omega
    · rw [if_neg h48, hs, hm2, if_pos]
      refine ⟨fun w hw => ?_, by rw [List.length_map]; have := h.1; omega⟩
      obtain ⟨t, h1, rfl⟩ := List.mem_map.1 hw
      rw [ht t (htv t h1)]; rfl

/-- A reading that is accepted. -/
def Good (p : Option (List (List Int))) (text : List UInt8) : Prop := ∃ f, p = some f ∧ IsPo f ∧ txt f = text
noncomputable instance (p : Option (List (List Int))) (text : List UInt8) : Decidable (Good p text) := Classical.propDecidable _
noncomputable def outL (p : Option (List (List Int))) (text : List UInt8) : List (List Int) := if Good p text then p.getD [] else []
noncomputable def outE (p : Option (List (List Int))) (text : List UInt8) : Int := if Good p text then 0 else 6
theorem good_iff {p p' : List UInt8 → Option (List (List Int))} (hp : ∀ f, IsPo f → p (txt f) = some f) (hp' : ∀ f, IsPo f → p' (txt f) = some f) (text : List UInt8) (h : Good (p text) text) : Good (p' text) text ∧ p' text = p text := by
  obtain ⟨f, h1, h2, h3⟩ := h
  subst h3
  exact ⟨⟨f, hp' f h2, h2, rfl⟩, by rw [hp f h2, hp' f h2]⟩
theorem out_eq {p p' : List UInt8 → Option (List (List Int))} (hp : ∀ f, IsPo f → p (txt f) = some f) (hp' : ∀ f, IsPo f → p' (txt f) = some f) (text : List UInt8) : outL (p' text) text = outL (p text) text ∧ outE (p' text) text = outE (p text) text := by
  unfold outL outE
  by_cases h : Good (p text) text
  · obtain ⟨h1, h2⟩ := good_iff hp hp' text h
    rw [if_pos h, if_pos h, if_pos h1, if_pos h1, h2]
    exact ⟨rfl, rfl⟩
  · have h1 : ¬ Good (p' text) text := fun h' => h (good_iff hp' hp text h').1
    rw [if_neg h, if_neg h, if_neg h1, if_neg h1]
    exact ⟨rfl, rfl⟩
end Go.Proofs.YtfgnccoaebkckaaDoor
