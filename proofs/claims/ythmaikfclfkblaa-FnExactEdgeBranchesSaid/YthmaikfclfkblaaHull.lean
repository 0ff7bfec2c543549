/-
  Lower left hulls of sets of pairs: the chain built from the sorted pairs and the one that is wrapped from vertex to vertex are the same. No condition.
-/
namespace Go.Proofs.Ythmaikfclfkblaa.Hl
section
variable {α : Type} (X Y : α → Int)

def cr (a b q : α) : Int := (X b - X a) * (Y q - Y a) - (Y b - Y a) * (X q - X a)
def lexle (a b : α) : Prop := X a < X b ∨ (X a = X b ∧ Y a ≤ Y b)

theorem tr {sx sy ux uy wx wy : Int} (h1 : uy < 0) (h2 : wy ≤ 0) (h3 : sy ≤ 0) (h4 : 0 ≤ sx*uy - sy*ux) (h5 : 0 ≤ ux*wy - uy*wx) : 0 ≤ sx*wy - sy*wx := by
  have e : uy * (sx*wy - sy*wx) = wy*(sx*uy-sy*ux) + sy*(ux*wy-uy*wx) := by grind
  have := Int.mul_nonneg (show 0 ≤ -wy by omega) h4
  have := Int.mul_nonneg (show 0 ≤ -sy by omega) h5
  apply Classical.byContradiction
  intro hn
  have := Int.mul_pos (show 0 < -uy by omega) (show 0 < -(sx*wy - sy*wx) by omega)
  grind
theorem trs {sx sy ux uy wx wy : Int} (h1 : uy < 0) (h2 : wy < 0) (h3 : sy ≤ 0) (h4 : 0 < sx*uy - sy*ux) (h5 : 0 ≤ ux*wy - uy*wx) : 0 < sx*wy - sy*wx := by
  have e : uy * (sx*wy - sy*wx) = wy*(sx*uy-sy*ux) + sy*(ux*wy-uy*wx) := by grind
  have := Int.mul_pos (show 0 < -wy by omega) h4
  have := Int.mul_nonneg (show 0 ≤ -sy by omega) h5
  apply Classical.byContradiction
  intro hn
  have := Int.mul_nonneg (show 0 ≤ -uy by omega) (show 0 ≤ -(sx*wy - sy*wx) by omega)
  grind
theorem tre {sx sy ux uy wx wy : Int} (h3 : sy < 0) (h4 : sx*uy - sy*ux = 0) (h5 : sx*wy - sy*wx = 0) : ux*wy-uy*wx = 0 := by
  have e : uy * (sx*wy - sy*wx) = wy*(sx*uy-sy*ux) + sy*(ux*wy-uy*wx) := by grind
  rw [h4, h5] at e
  have : sy * (ux*wy-uy*wx) = 0 := by grind
  rcases Int.mul_eq_zero.1 this with h | h
  · omega
  · exact h

/-- A direct one: q lies behind b and above it. -/
theorem cr_up {a b q : α} (h1 : X a ≤ X b) (h2 : Y b ≤ Y a) (h3 : X b ≤ X q) (h4 : Y b ≤ Y q) : 0 ≤ cr X Y a b q := by
  have e : cr X Y a b q = (X b - X a) * (Y q - Y b) + (Y a - Y b) * (X q - X b) := by unfold cr; grind
  have := Int.mul_nonneg (show 0 ≤ X b - X a by omega) (show 0 ≤ Y q - Y b by omega)
  have := Int.mul_nonneg (show 0 ≤ Y a - Y b by omega) (show 0 ≤ X q - X b by omega)
  omega
theorem cr_sh (a b q : α) : cr X Y a b q = (X b - X a) * (Y q - Y b) - (Y b - Y a) * (X q - X b) := by unfold cr; grind

/-- A stack, its top first. -/
def Hull (S : α → Prop) : List α → Prop
  | [] => False
  | [a] => S a ∧ ∀ q, S q → lexle X Y a q
  | b :: a :: r => S b ∧ Y b < Y a ∧ X a ≤ X b ∧ (∀ q, S q → Y q ≤ Y a → 0 ≤ cr X Y a b q) ∧ (∀ z r', r = z :: r' → 0 < cr X Y z a b) ∧ Hull S (a :: r)
def Low (S : α → Prop) (t : α) : Prop := ∀ q, S q → Y t ≤ Y q ∧ (Y q = Y t → X t ≤ X q)
def Aft (S : α → Prop) (t p : α) : Prop := ∀ q, S q → Y q ≤ Y t → 0 ≤ cr X Y t p q
def plus (S : α → Prop) (p : α) (q : α) : Prop := S q ∨ q = p

variable {X Y}
theorem Hull.top {S : α → Prop} {t : α} : ∀ {r : List α}, Hull X Y S (t :: r) → S t
  | [], h => h.1
  | _ :: _, h => h.1
theorem Hull.rest {S : α → Prop} {t a : α} {r : List α} (h : Hull X Y S (t :: a :: r)) : Hull X Y S (a :: r) := h.2.2.2.2.2

theorem Hull.ep {S : α → Prop} {p : α} (hs : ∀ q, S q → lexle X Y q p) : ∀ {r : List α} {a b : α}, Hull X Y S (b :: a :: r) → 0 ≤ cr X Y a b p → Hull X Y (plus S p) (b :: a :: r)
  | [], a, b, h, hc => by
    obtain ⟨h1, h2, h3, h4, h5, h6, h7⟩ := h
    refine ⟨.inl h1, h2, h3, fun q hq hy => ?_, fun z r' e => (by cases e), ⟨.inl h6, fun q hq => ?_⟩⟩
    · rcases hq with hq | rfl
      · exact h4 q hq hy
      · exact hc
    · rcases hq with hq | rfl
      · exact h7 q hq
      · exact hs _ h6
  | z :: r, a, b, h, hc => by
    obtain ⟨h1, h2, h3, h4, h5, h6⟩ := h
    have h6' := h6
    obtain ⟨g1, g2, g3, g4, g5, g6⟩ := h6
    have hz := h5 z r rfl
    refine ⟨.inl h1, h2, h3, fun q hq hy => ?_, fun z r' e => by cases e; exact hz, Hull.ep hs h6' ?_⟩
    · rcases hq with hq | rfl
      · exact h4 q hq hy
      · exact hc
    · by_cases hy : Y p ≤ Y a
      · rw [cr_sh] at hz ⊢
        refine tr (ux := X b - X a) (uy := Y b - Y a) (by omega) (by omega) (by omega) ?_ ?_
        · omega
        · unfold cr at hc; omega
      · have := hs a g1
        unfold lexle at this
        exact cr_up X Y (by omega) (by omega) (by omega) (by omega)

theorem Hull.skip {S : α → Prop} {p t : α} {r : List α} (hs : ∀ q, S q → lexle X Y q p) (h : Hull X Y S (t :: r)) (hl : Low X Y S t) (hp : Y t ≤ Y p) : Hull X Y (plus S p) (t :: r) ∧ Low X Y (plus S p) t := by
  have ht := hs t h.top
  unfold lexle at ht
  refine ⟨?_, fun q hq => ?_⟩
  · cases r with
    | nil =>
      refine ⟨.inl h.1, fun q hq => ?_⟩
      rcases hq with hq | rfl
      · exact h.2 q hq
      · exact hs _ h.1
    | cons a r =>
      refine h.ep hs (cr_up X Y h.2.2.1 ?_ ?_ hp)
      · have := h.2.1; omega
      · omega
  · rcases hq with hq | rfl
    · exact hl q hq
    · omega

theorem aft_low {S : α → Prop} {p t : α} (hl : Low X Y S t) (hp : Y p < Y t) : Aft X Y S t p := by
  intro q hq hy
  have := hl q hq
  have e : Y q = Y t := by omega
  unfold cr
  rw [e]
  have := Int.mul_nonneg (show 0 ≤ Y t - Y p by omega) (show 0 ≤ X q - X t by omega)
  grind

theorem Hull.pop {S : α → Prop} {p a b : α} {r : List α} (h : Hull X Y S (b :: a :: r)) (hc : ¬ 0 < cr X Y a b p) (hp : Y p < Y b) : Aft X Y S a p := by
  intro q hq hy
  have hb := h.2.2.2.1 q hq hy
  have h2 := h.2.1
  unfold cr at hb hc ⊢
  exact tr (ux := X b - X a) (uy := Y b - Y a) (by omega) (by omega) (by omega) (by grind) hb

theorem Hull.push {S : α → Prop} {p t : α} {r : List α} (hs : ∀ q, S q → lexle X Y q p) (h : Hull X Y S (t :: r)) (ha : Aft X Y S t p) (hp : Y p < Y t) (hall : ∀ q, S q → Y p < Y q) (hz : ∀ z r', r = z :: r' → 0 < cr X Y z t p) :
    Hull X Y (plus S p) (p :: t :: r) ∧ Low X Y (plus S p) p := by
  have ht := hs t h.top
  unfold lexle at ht
  refine ⟨⟨.inr rfl, hp, by omega, fun q hq hy => ?_, hz, ?_⟩, fun q hq => ?_⟩
  · rcases hq with hq | rfl
    · exact ha q hq hy
    · unfold cr; grind
  · cases r with
    | nil =>
      refine ⟨.inl h.1, fun q hq => ?_⟩
      rcases hq with hq | rfl
      · exact h.2 q hq
      · exact hs _ h.1
    | cons z r => exact h.ep hs (Int.le_of_lt (hz z r rfl))
  · rcases hq with hq | rfl
    · have := hall q hq; omega
    · omega

theorem Hull.one {S : α → Prop} {p : α} (h : ∀ q, ¬ S q) : Hull X Y (plus S p) [p] ∧ Low X Y (plus S p) p := by
  refine ⟨⟨.inr rfl, fun q hq => ?_⟩, fun q hq => ?_⟩
  · rcases hq with hq | rfl
    · exact absurd hq (h q)
    · unfold lexle; omega
  · rcases hq with hq | rfl
    · exact absurd hq (h q)
    · omega

theorem Hull.congr {S S' : α → Prop} (hS : ∀ q, S q ↔ S' q) {R : List α} (h : Hull X Y S R) : Hull X Y S' R := by
  have : S = S' := funext fun q => propext (hS q)
  rw [← this]; exact h
theorem Low.congr {S S' : α → Prop} (hS : ∀ q, S q ↔ S' q) {t : α} (h : Low X Y S t) : Low X Y S' t := by
  have : S = S' := funext fun q => propext (hS q)
  rw [← this]; exact h

/-! ### The wrapped chain -/
variable (X Y)
def isNext (S : α → Prop) (a b : α) : Prop := S b ∧ Y b < Y a ∧ ∀ q, S q → Y q < Y a → 0 ≤ cr X Y a b q ∧ (cr X Y a b q = 0 → Y b ≤ Y q)
def GWf (S : α → Prop) : List α → Prop
  | [] => False
  | [a] => ∀ q, S q → Y a ≤ Y q
  | a :: b :: r => isNext X Y S a b ∧ GWf S (b :: r)
def GW (S : α → Prop) (V : List α) : Prop := ∃ m r, V = m :: r ∧ S m ∧ (∀ q, S q → lexle X Y m q) ∧ GWf X Y S (m :: r)

variable {X Y}
theorem gwf_unique {S : α → Prop} (he : ∀ a b, S a → S b → X a = X b → Y a = Y b → a = b) : ∀ {r r' : List α} {a : α}, GWf X Y S (a :: r) → GWf X Y S (a :: r') → r = r'
  | [], [], _, _, _ => rfl
  | [], c :: r', a, h, h' => by
    have := h c h'.1.1
    have := h'.1.2.1
    omega
  | c :: r, [], a, h, h' => by
    have := h' c h.1.1
    have := h.1.2.1
    omega
  | b :: r, c :: r', a, h, h' => by
    obtain ⟨⟨b1, b2, b3⟩, b4⟩ := h
    obtain ⟨⟨c1, c2, c3⟩, c4⟩ := h'
    have p := b3 c c1 c2
    have q := c3 b b1 b2
    have e0 : cr X Y a c b = - cr X Y a b c := by unfold cr; grind
    have z : cr X Y a b c = 0 := by omega
    have ey : Y b = Y c := by have := p.2 z; have := q.2 (by omega); omega
    have ex : X b = X c := by
      unfold cr at z
      rw [← ey] at z
      have : (Y b - Y a) * (X b - X c) = 0 := by grind
      rcases Int.mul_eq_zero.1 this with h | h <;> omega
    obtain rfl := he b c b1 c1 ex ey
    rw [gwf_unique he b4 c4]

theorem gw_unique {S : α → Prop} (he : ∀ a b, S a → S b → X a = X b → Y a = Y b → a = b) {V V' : List α} (h : GW X Y S V) (h' : GW X Y S V') : V = V' := by
  obtain ⟨m, r, rfl, a1, a2, a3⟩ := h
  obtain ⟨m', r', rfl, b1, b2, b3⟩ := h'
  have p := a2 m' b1
  have q := b2 m a1
  unfold lexle at p q
  obtain rfl := he m m' a1 b1 (by omega) (by omega)
  rw [gwf_unique he a3 b3]

theorem Hull.conv {S : α → Prop} : ∀ {r : List α} {t : α} {l : List α}, Hull X Y S (t :: r) → GWf X Y S (t :: l) → (∀ c l', l = c :: l' → Y c < Y t ∧ (∀ q, S q → Y q ≤ Y t → 0 ≤ cr X Y t c q) ∧ (∀ z r', r = z :: r' → 0 < cr X Y z t c)) →
    GW X Y S (r.reverse ++ t :: l)
  | [], t, l, h, hg, _ => ⟨t, l, rfl, h.1, h.2, hg⟩
  | a :: r, t, l, h, hg, hl => by
    obtain ⟨h1, h2, h3, h4, h5, h6⟩ := h
    rw [List.reverse_cons, List.append_assoc]
    refine Hull.conv (l := t :: l) h6 ⟨⟨h1, h2, fun q hq hy => ⟨h4 q hq (by omega), fun h0 => ?_⟩⟩, hg⟩ ?_
    · apply Classical.byContradiction
      intro hn
      cases l with
      | nil => have := hg q hq; omega
      | cons c l' =>
        obtain ⟨c1, c2, c3⟩ := hl c l' rfl
        have k1 := c2 q hq (by omega)
        have k2 := c3 a r rfl
        rw [cr_sh] at h0 k2
        have := trs (sx := X t - X a) (sy := Y t - Y a) (ux := X c - X t) (uy := Y c - Y t) (wx := X q - X t) (wy := Y q - Y t) (by omega) (by omega) (by omega) k2 (by unfold cr at k1; omega)
        omega
    · intro c l' e
      cases e
      exact ⟨h2, h4, h5⟩

theorem Hull.gw {S : α → Prop} {t : α} {r : List α} (h : Hull X Y S (t :: r)) (hl : Low X Y S t) : GW X Y S (t :: r).reverse := by
  rw [List.reverse_cons]
  exact h.conv (l := []) (fun q hq => (hl q hq).1) (fun c l' e => by cases e)

/-! ### What is to come -/
variable (X Y)
def Pre (S : α → Prop) (V : List α) (a : α) : Prop := ∀ l, GWf X Y S (a :: l) → GW X Y S (V ++ a :: l)
variable {X Y}
theorem Pre.start {S : α → Prop} {a : α} (h : S a) (h1 : ∀ q, S q → lexle X Y a q) : Pre X Y S [] a := fun l hl => ⟨a, l, rfl, h, h1, hl⟩
theorem Pre.step {S : α → Prop} {a b : α} {V : List α} (h : Pre X Y S V a) (hn : isNext X Y S a b) : Pre X Y S (V ++ [a]) b := fun l hl => by
  rw [List.append_assoc]; exact h (b :: l) ⟨hn, hl⟩
theorem Pre.done {S : α → Prop} {a : α} {V : List α} (h : Pre X Y S V a) (hn : ∀ q, S q → Y a ≤ Y q) : GW X Y S (V ++ [a]) := h [] hn

/-- b is the best of S so far. -/
theorem next_keep {S : α → Prop} {a b p : α} (h : isNext X Y S a b) (hp : Y p < Y a → 0 ≤ cr X Y a b p ∧ (cr X Y a b p = 0 → Y b ≤ Y p)) : isNext X Y (plus S p) a b :=
  ⟨.inl h.1, h.2.1, fun q hq hy => by
    rcases hq with hq | rfl
    · exact h.2.2 q hq hy
    · exact hp hy⟩
theorem next_new {S : α → Prop} {a b p : α} (h : isNext X Y S a b) (hy : Y p < Y a) (hp : cr X Y a b p < 0 ∨ (cr X Y a b p = 0 ∧ Y p < Y b)) : isNext X Y (plus S p) a p := by
  obtain ⟨h1, h2, h3⟩ := h
  have e0 : cr X Y a p b = - cr X Y a b p := by unfold cr; grind
  refine ⟨.inr rfl, hy, fun q hq hyq => ?_⟩
  rcases hq with hq | rfl
  · obtain ⟨k1, k2⟩ := h3 q hq hyq
    rcases hp with hp | ⟨hp, hpy⟩
    · have := trs (sx := X p - X a) (sy := Y p - Y a) (ux := X b - X a) (uy := Y b - Y a) (wx := X q - X a) (wy := Y q - Y a) (by omega) (by omega) (by omega) (by unfold cr at e0 hp; omega) (by unfold cr at k1; omega)
      unfold cr
      omega
    · have := tr (sx := X p - X a) (sy := Y p - Y a) (ux := X b - X a) (uy := Y b - Y a) (wx := X q - X a) (wy := Y q - Y a) (by omega) (by omega) (by omega) (by unfold cr at e0 hp; omega) (by unfold cr at k1; omega)
      refine ⟨by unfold cr; omega, fun hz => ?_⟩
      have := tre (sx := X p - X a) (sy := Y p - Y a) (ux := X b - X a) (uy := Y b - Y a) (wx := X q - X a) (wy := Y q - Y a) (by omega) (by unfold cr at e0 hp; omega) (by unfold cr at hz; omega)
      have := k2 (by unfold cr; omega)
      omega
  · refine ⟨by unfold cr; grind, fun _ => Int.le_refl _⟩
theorem next_first {S : α → Prop} {a p : α} (h : ∀ q, S q → Y a ≤ Y q) (hy : Y p < Y a) : isNext X Y (plus S p) a p :=
  ⟨.inr rfl, hy, fun q hq hyq => by
    rcases hq with hq | rfl
    · have := h q hq; omega
    · exact ⟨by unfold cr; grind, fun _ => Int.le_refl _⟩⟩
end
end Go.Proofs.Ythmaikfclfkblaa.Hl
