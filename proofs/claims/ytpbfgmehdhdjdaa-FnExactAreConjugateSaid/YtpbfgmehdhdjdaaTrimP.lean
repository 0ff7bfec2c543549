
/-
  A list without its last zeros, as a part of what was handed in. No condition.
-/
import Derived.WalkKit
import Derived.Deep.LoopGhost
import Derived.Deep.Draws
import Derived.Lib.Walk
import Derived.Test.YtpbfgmehdhdjdaaMul
namespace Go.Proofs.Ytpbfgmehdhdjdaa
open Go Go.RowKit

set_option maxHeartbeats 2000000 in
theorem trimmed_k (a : Option Addr) (cap : Nat) (xs : List Int) (w : World) (hr : IntsAt w (fun _ => True) (.slice a xs.length cap) xs) :
    Calls Try.prog 72 #[.slice a xs.length cap] w fun e w' => e = .returned (.slice a (tlen xs xs.length) cap) ∧ w' = w := by
  obtain ⟨⟨a', cap', e0, h1, h2, h3⟩, h4⟩ := hr
  simp only [List.length_map] at e0 h1 h3
  cases e0
  unfold maxLen at h2
  have hx : xs.length ≤ 9223372036854775807 := by omega
  go_enter Try.func72, Try.ntmps72
  go_wp2
  go_loopg [0] xs.length (fun g s0 wr => ∃ n : Nat, n ≤ xs.length ∧ n ≤ g ∧ s0 = .slice a n cap ∧ wr = w ∧ tlen xs n = tlen xs xs.length)
  case atStart => exact ⟨xs.length, Nat.le_refl _, Nat.le_refl _, rfl, rfl, rfl⟩
  case round =>
    obtain ⟨n, hn, hg, rfl, rfl, ht⟩ := hrel
    cases n with
    | zero =>
      go_wp2
      go_ret
      exact ⟨by rw [← ht]; rfl, rfl⟩
    | succ m =>
      obtain ⟨b, off, rfl, _, hc⟩ := h3 (by omega)
      have hcm := hc m (.int .i64 (geti xs m)) (by simp [geti, List.getElem?_eq_getElem (show m < xs.length by omega)])
      by_cases hz : geti xs m = 0
      · rw [hz] at hcm
        go_wp2
        go_roundg m
        case measure => omega
        case rel => exact ⟨m, by omega, by omega, rfl, rfl, by rw [← ht, tlen, if_pos hz]⟩
      · have A0 : tlen xs xs.length = m + 1 := by rw [← ht, tlen, if_neg hz]
        generalize geti xs m = z at hcm hz
        go_wp2
        go_ret
        exact ⟨by rw [A0]; rfl, rfl⟩

section
variable {env : Env} {os : List AO} {d : Option Tmp} {ty : TypeId} {pos : String} {af : Array Edge} {g : Option (Nat × Bool)}
theorem q_trimmed {x : Operand} {ats : Array TypeId} {xs : List Int} (hx : AV.ev env x = .ints xs) :
    QOp Try.prog false ⟨d, .call { callee := .value (.func 72), args := [x].toArray, argTypes := ats }, ty, pos, af, g⟩ env os (.ints (xs.take (tlen xs xs.length))) := by
  have hbd : HasBody Try.prog 72 := ⟨_, _, Try.func72, by kernel_rfl, rfl⟩
  have htl := tlen_le xs xs.length
  intro base w gs tm hr
  have hxv := hr.ev x
  rw [hx] at hxv
  generalize hv : Act.eval ⟨tm, []⟩ x = v at hxv
  cases hxv with
  | ints h1 =>
    obtain ⟨⟨a, cap, rfl, e1, e2, e3⟩, e4⟩ := h1
    simp only [List.length_map] at e1 e3 hv
    have hread : ∀ w', Below w.heap.size w w' → IntsAt w' (fun _ => True) (.slice a xs.length cap) xs := fun w' hw' =>
      (IntsAt.mono (ok := okOf gs os) ⟨⟨a, cap, by simp, by simpa using e1, e2, by simpa using e3⟩, e4⟩ (Keeps.below hw')).mono (fun _ _ _ => ⟨trivial, rfl⟩)
    refine ⟨.slice a (tlen xs xs.length) cap, .ints ⟨⟨a, cap, ?_, ?_, e2, fun h0 => ?_⟩, fun y hy => e4 y (List.mem_of_mem_take hy)⟩, fun e => (by cases e), fun w' hw' => ?_⟩
    · simp [Nat.min_eq_left htl]
    · simp [Nat.min_eq_left htl]; omega
    · simp at h0
      obtain ⟨b, off, q1, q2, q3⟩ := e3 (by omega)
      refine ⟨b, off, q1, q2, fun i u hu => q3 i u ?_⟩
      rw [List.map_take, List.getElem?_take] at hu
      split at hu
      · exact hu
      · cases hu
    · unfold Oper.quietAt
      rw [run_call hbd [x] ats _ rfl]
      refine ⟨rfl, ?_⟩
      simp only [List.map_cons, List.map_nil, hv]
      refine (trimmed_k a cap xs w' (hread w' (hw' rfl))).mono ?_
      rintro e w'' ⟨rfl, rfl⟩
      exact ⟨rfl, fun _ => hw' rfl⟩
end
section
variable {env : Env} {os : List AO} {d : Tmp} {ty : TypeId} {pos : String} {af : Array Edge} {g : Option (Nat × Bool)} {l rest : List Oper} {K : APost} {q : Md}
theorem w_trimp {x : Operand} {ats : Array TypeId} {xs : List Int} (hx : evo env x = some (.ints xs)) (hw : wantedA l env ⟨some d, .call { callee := .value (.func 72), args := [x].toArray, argTypes := ats }, ty, pos, af, g⟩ = some true) (hq : q.wl = false)
    (h' : AOps Try.prog q l rest K (env.up d (.ints (xs.take (tlen xs xs.length)))) os) : AOps Try.prog q l (⟨some d, .call { callee := .value (.func 72), args := [x].toArray, argTypes := ats }, ty, pos, af, g⟩ :: rest) K env os :=
  AOps.qo hw (by rw [hq]; exact q_trimmed (ev_of hx)) h'
end
end Go.Proofs.Ytpbfgmehdhdjdaa
