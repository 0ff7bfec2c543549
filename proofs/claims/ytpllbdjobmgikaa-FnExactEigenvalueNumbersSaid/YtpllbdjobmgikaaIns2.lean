/-
  slices.Insert at slices of rows: one row more, ahead of others, where there is room. No condition but a bound on the size.
-/
import Derived.Test.YtpllbdjobmgikaaIns1
namespace Go.Proofs.Ytpllbdjobmgikaa
open Go Go.RowKit Go.Lib

theorem owns_setCells {base b n c : Nat} {e : TypeId} : ∀ (vs : List Value) (o : Nat) (w : World) (xs : List Value), w.ownsRow base e 1 (.slice (some ⟨b, 0, none⟩) n c) n xs → o + vs.length ≤ n →
    (w.setCells b o vs).ownsRow base e 1 (.slice (some ⟨b, 0, none⟩) n c) n (xs.take o ++ vs ++ xs.drop (o + vs.length))
  | [], o, w, xs, h, _ => by simpa [World.setCells] using h
  | v :: r, o, w, xs, h, hl => by
    have hn : xs.length = n := by have := h.1; omega
    have h1 := (h.stored o v).1
    have ih := owns_setCells r (o + 1) _ _ h1 (by simp at hl; omega)
    rw [World.setCells]
    simp only [List.length_cons] at hl ⊢
    have e1 : (xs.set o v).take (o + 1) ++ r ++ (xs.set o v).drop (o + 1 + r.length) = xs.take o ++ v :: r ++ xs.drop (o + (r.length + 1)) := by
      rw [List.take_succ_eq_append_getElem (by rw [List.length_set]; omega), List.getElem_set_self, List.take_set_of_le (Nat.le_refl _), List.drop_set_of_lt (by omega), show o + 1 + r.length = o + (r.length + 1) by omega]
      simp
    rw [← e1]
    exact ih
end Go.Proofs.Ytpllbdjobmgikaa
