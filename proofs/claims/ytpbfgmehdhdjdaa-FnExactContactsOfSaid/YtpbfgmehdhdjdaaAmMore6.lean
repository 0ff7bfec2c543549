
/-
  Functions with three results, the first of them new memory. No condition.
-/
import Derived.Test.YtpbfgmehdhdjdaaAmMore
namespace Go.Proofs.Ytpbfgmehdhdjdaa
open Go Go.RowKit
theorem ResIs.a3 {P : Program} {fn : Func} {env : Env} {os : List AO} {t u s : Tmp} (h : fn.results = #[.tmp t, .tmp u, .tmp s]) {a b c : AV} (ha : env.fd t = some a) (hb : env.fd u = some b) (hc : env.fd s = some c) : ResIs P fn env os (.tup [a, b, c]) :=
  fun _ _ _ tm hr => ⟨_, results_tmp3 h tm P _, .tup (vs := [tm.getD t undef, tm.getD u undef, tm.getD s undef]) rfl fun i => by
    match i with
    | 0 => have := hr.he t; rw [gd_of ha] at this; exact this
    | 1 => have := hr.he u; rw [gd_of hb] at this; exact this
    | 2 => have := hr.he s; rw [gd_of hc] at this; exact this
    | i + 3 => exact .any _⟩
theorem Ret1.tup3 {os : List AO} {a r : AV} {objs : List AO} {v u : Value} (h : Ret1 os a r objs) : Ret1 os (.tup [a, .val v, .val u]) (.tup [r, .val v, .val u]) objs := fun base w gs env tm hr z hz => by
  cases hz with
  | @tup vs _ h1 h2 =>
    match vs, h1 with
    | [x, y, q], _ =>
      obtain ⟨gs', h3, h4⟩ := h base w gs env tm hr x (by simpa using h2 0)
      have h5 := h2 1
      simp at h5
      cases h5
      have h6 := h2 2
      simp at h6
      cases h6
      exact ⟨gs', h3, .tup (vs := [x, v, u]) rfl fun i => by
        match i with
        | 0 => exact h4
        | 1 => exact .val _
        | 2 => exact .val _
        | i + 3 => exact .any _⟩

/-- A loop whose exits come together: 'ψ x' is what is known there, 'E2 x', 'O2 x' the state. -/
theorem AWp.loopJ {P : Program} {N : APost} {X : Nat → APost} {Rt : APost} {env : Env} {os : List AO} {c : Code} {ι κ : Type} (jid : Nat) (E : ι → Env) (O : ι → List AO) (φ : ι → Prop) (μ : ι → Nat) (x0 : ι) (E2 : κ → Env) (O2 : κ → List AO) (ψ : κ → Prop) (h0 : φ x0) (f0 : Fit env os (E x0) (O x0))
    (hX : ∀ x, ψ x → ∀ e o, Fit e o (E2 x) (O2 x) → X jid e o)
    (round : ∀ x, φ x → AWp P c (fun env' os' => ∃ y, φ y ∧ μ y < μ x ∧ Fit env' os' (E y) (O y)) (fun j e o => if j = jid then ∃ x, ψ x ∧ Fit e o (E2 x) (O2 x) else X j e o) Rt (E x) (O x)) : AWp P (.loop c) N X Rt env os := by
  refine AWp.loop E O φ μ x0 h0 f0 fun x hx => (round x hx).mono (fun _ _ h => h) (fun j e o h => ?_) (fun _ _ h => h)
  by_cases ej : j = jid
  · subst ej
    rw [if_pos rfl] at h
    obtain ⟨x, h1, h2⟩ := h
    exact hX x h1 e o h2
  · rw [if_neg ej] at h
    exact h
end Go.Proofs.Ytpbfgmehdhdjdaa
