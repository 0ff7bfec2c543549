/-
  Parts of the proof, one behind the other: contracts of functions and plain laws. No condition.
-/
import Derived.Maps.RangeRun
import Derived.ChangeKeysEq
import GoSem.Instr.MapUpdate
import GoSem.Instr.MakeMap
import Derived.Shelf.Small.Bits
import Derived.Test.YtlkhcelodcneiaaProg
import Derived.Test.YtlkhcelodcneiaaPt2SpliceWeight
/-
  A struct of two read slices, two own slices of numbers, one of truth values, and a truth value, behind a pointer; functions that write to it in its place. No condition.
-/
namespace Go.Proofs.Ytlkhcelodcneiaa
open Go Go.RowKit

/-- What such a struct holds. -/
structure WS where
  f : List Int
  g : List Int
  s : List Bool
  l : Bool

theorem RO.slrb {base : Nat} {w : World} {ok ok' : Nat → Prop} {gs gs' : List Gh} {g : Gh} {e : TypeId} {bs : List Bool} (h : RO base w ok gs g (.slr e (bL bs))) : RO base w ok' gs' g (.slr e (bL bs)) := by
  obtain ⟨vs, a1, a2, a3, a4⟩ := h
  refine ⟨vs, a1, a2, fun i => ?_, a4⟩
  have := a3 i
  by_cases hi : i < bs.length
  · have e1 : (bL bs).getD i .any = .b (bs.getD i false) := by rw [List.getD_eq_getElem?_getD, bL_get hi]; rfl
    rw [e1] at this ⊢
    generalize vs.getD i undef = z at this ⊢
    cases this; exact .val _
  · have e1 : (bL bs).getD i .any = .any := by rw [List.getD_eq_getElem?_getD, List.getElem?_eq_none (by rw [bL_len]; omega)]; rfl
    rw [e1]; exact .any _

/-- A known value that reads as numbers, as rows. -/
def roI (u : Value) (W : List Int) : Ro where
  p w ok v := v = u ∧ IntsAt w ok v W
  up k h := ⟨h.1, h.2.mono k⟩
def roN (u : Value) (N : List (List Int)) : Ro where
  p w ok v := v = u ∧ IntssAt w ok v N
  up k h := ⟨h.1, h.2.mono k⟩
def RdI (a : AV) (W : List Int) : Prop := ∀ w ok gs v, RV w ok gs v a → IntsAt w ok v W
def RdN (a : AV) (N : List (List Int)) : Prop := ∀ w ok gs v, RV w ok gs v a → IntssAt w ok v N
theorem rdI_ints (W : List Int) : RdI (.ints W) W := fun _ _ _ _ h => by cases h; assumption
theorem rdI_ro (u : Value) (W : List Int) : RdI (.ro (roI u W)) W := fun _ _ _ _ h => by cases h with | ro h => exact h.2
theorem rdN_intss (N : List (List Int)) : RdN (.intss N) N := fun _ _ _ _ h => by cases h; assumption
theorem rdN_ro (u : Value) (N : List (List Int)) : RdN (.ro (roN u N)) N := fun _ _ _ _ h => by cases h with | ro h => exact h.2

/-- Objects that were written to in their places. -/
theorem Rel.upds {base : Nat} {w w' : World} {gs : List Gh} {env : Env} {os os' : List AO} {tm : Array Value} (h : Rel base w gs env os tm) (H : List Nat) (hl : os'.length = os.length) (hsame : ∀ i, i ∉ H → os'[i]? = os[i]?)
    (hlive : ∀ i ∈ H, ∀ o o', os[i]? = some o → os'[i]? = some o' → o.live ∧ o'.live) (hw : ∀ b, b < w.heap.size → (∀ i ∈ H, ∀ g, gs[i]? = some g → b ∉ g.bl) → w'.heap[b]? = w.heap[b]?) (hsz : w.heap.size ≤ w'.heap.size)
    (hro : Keeps (okOf gs os) (okOf gs os') w w' → ∀ i ∈ H, ∀ g o', gs[i]? = some g → os'[i]? = some o' → RO base w' (okOf gs os') gs g o') : Rel base w' gs env os' tm := by
  have back : ∀ {i : Nat} {o' : AO}, os'[i]? = some o' → ∃ o, os[i]? = some o ∧ ((i ∈ H ∧ o.live ∧ o'.live) ∨ (i ∉ H ∧ o' = o)) := by
    intro i o' ho'
    by_cases hi : i ∈ H
    · have hlt : i < os.length := by rw [← hl]; exact (List.getElem?_eq_some_iff.1 ho').1
      obtain ⟨l1, l2⟩ := hlive i hi _ o' (List.getElem?_eq_getElem hlt) ho'
      exact ⟨_, List.getElem?_eq_getElem hlt, .inl ⟨hi, l1, l2⟩⟩
    · exact ⟨o', by rw [← hsame i hi]; exact ho', .inr ⟨hi, rfl⟩⟩
  have fwd : ∀ {i : Nat} {o : AO}, os[i]? = some o → ∃ o', os'[i]? = some o' ∧ ((i ∈ H ∧ o.live ∧ o'.live) ∨ (i ∉ H ∧ o' = o)) := by
    intro i o ho
    by_cases hi : i ∈ H
    · have hlt : i < os'.length := by rw [hl]; exact (List.getElem?_eq_some_iff.1 ho).1
      obtain ⟨l1, l2⟩ := hlive i hi o _ ho (List.getElem?_eq_getElem hlt)
      exact ⟨_, List.getElem?_eq_getElem hlt, .inl ⟨hi, l1, l2⟩⟩
    · exact ⟨o, by rw [hsame i hi]; exact ho, .inr ⟨hi, rfl⟩⟩
  have kp : Keeps (okOf gs os) (okOf gs os') w w' := by
    intro b hb hlt
    refine ⟨fun i g o' hg ho' hlv hm => ?_, hw b hlt fun i hi g hg hm => ?_⟩
    · obtain ⟨o, ho, hc⟩ := back ho'
      rcases hc with ⟨_, l1, _⟩ | ⟨_, rfl⟩
      · exact hb i g o hg ho l1 hm
      · exact hb i g _ hg ho hlv hm
    · have hlt' : i < os.length := by rw [← h.hl]; exact (List.getElem?_eq_some_iff.1 hg).1
      obtain ⟨o', ho', hc⟩ := fwd (List.getElem?_eq_getElem hlt')
      rcases hc with ⟨_, l1, _⟩ | ⟨hn, _⟩
      · exact hb i g _ hg (List.getElem?_eq_getElem hlt') l1 hm
      · exact hn hi
  refine ⟨Nat.le_trans h.hb hsz, by rw [h.hl, hl], h.hs, fun i => (h.he i).mono kp fun _ _ e => e, ?_, ?_, ?_⟩
  · intro i g o' hg ho'
    obtain ⟨o, ho, hc⟩ := back ho'
    rcases hc with ⟨hi, _, _⟩ | ⟨hi, rfl⟩
    · exact hro kp i hi g o' hg ho'
    · refine (h.ho i g _ hg ho).mono kp (fun _ _ e => e) fun hnd b hb => hw b (h.hn i g _ hg ho hnd b hb).2 fun j hj g' hg' hm => ?_
      have hltj : j < os.length := by rw [← h.hl]; exact (List.getElem?_eq_some_iff.1 hg').1
      obtain ⟨_, _, hcj⟩ := fwd (List.getElem?_eq_getElem hltj)
      rcases hcj with ⟨_, l1, _⟩ | ⟨hn, _⟩
      · exact h.hd i j g g' _ _ (fun e => hi (e ▸ hj)) hg hg' ho (List.getElem?_eq_getElem hltj) hnd l1.ne b hb hm
      · exact hn hj
  · intro i j g1 g2 o1 o2 hij hg1 hg2 ho1 ho2 hn1 hn2
    obtain ⟨p1, hp1, c1⟩ := back ho1
    obtain ⟨p2, hp2, c2⟩ := back ho2
    refine h.hd i j g1 g2 p1 p2 hij hg1 hg2 hp1 hp2 ?_ ?_
    · rcases c1 with ⟨_, l1, _⟩ | ⟨_, rfl⟩
      · exact l1.ne
      · exact hn1
    · rcases c2 with ⟨_, l1, _⟩ | ⟨_, rfl⟩
      · exact l1.ne
      · exact hn2
  · intro i g o' hg ho' hn b hb
    obtain ⟨o, ho, hc⟩ := back ho'
    have hne : o ≠ .dead := by
      rcases hc with ⟨_, l1, _⟩ | ⟨_, rfl⟩
      · exact l1.ne
      · exact hn
    have := h.hn i g o hg ho hne b hb
    exact ⟨this.1, Nat.lt_of_lt_of_le this.2 hsz⟩

/-- The struct and its parts in memory. -/
structure Wk (T e eb : TypeId) (base : Nat) (w : World) (g0 g1 g2 g3 : Gh) (vW vN : Value) (st : WS) : Prop where
  cell : w.heap[g0.b]? = some (.cells #[vW, vN, g1.v, g2.v, g3.v, .bool st.l] T (0, 0))
  one : vW.oneCell' = true ∧ vN.oneCell' = true
  hb : base ≤ g0.b
  bl : g0.bl = [g0.b]
  v : g0.v = .pointer (some ⟨g0.b, 0, none⟩)
  rf : RO base w (fun _ => True) [] g1 (.sli e st.f)
  rg : RO base w (fun _ => True) [] g2 (.sli e st.g)
  rs : RO base w (fun _ => True) [] g3 (.slr eb (bL st.s))
  hd : ∀ (i j : Nat) a b, i ≠ j → [g0, g1, g2, g3][i]? = some a → [g0, g1, g2, g3][j]? = some b → ∀ c, c ∈ a.bl → c ∉ b.bl
  hn : ∀ a ∈ [g0, g1, g2, g3], ∀ c, c ∈ a.bl → base ≤ c ∧ c < w.heap.size
def okB (g0 g1 g2 g3 : Gh) (b : Nat) : Prop := ∀ a ∈ [g0, g1, g2, g3], b ∉ a.bl

def AFnB (P : Program) (f : FuncId) (T e eb : TypeId) (W : List Int) (N : List (List Int)) (as0 : List Value) (st st' : WS) (rv : Value) : Prop :=
  HasBody P f ∧ ∀ base w g0 g1 g2 g3 vW vN, base ≤ w.heap.size → Wk T e eb base w g0 g1 g2 g3 vW vN st → IntsAt w (okB g0 g1 g2 g3) vW W → IntssAt w (okB g0 g1 g2 g3) vN N →
    Calls P f (g0.v :: as0).toArray w fun ev w' => ev = .returned rv ∧ Wk T e eb base w' g0 g1 g2 g3 vW vN st' ∧ Below base w w' ∧ ∀ b, b < w.heap.size → okB g0 g1 g2 g3 b → w'.heap[b]? = w.heap[b]?

/-- The objects of the struct, behind the handles 1 to 4. -/
def wkL (T e eb : TypeId) (W : List Int) (N : List (List Int)) (vW vN : Value) (st : WS) : List AO :=
  [.bx T [.ro (roI vW W), .ro (roN vN N), .own 2, .own 3, .own 4, .b st.l], .sli e st.f, .sli e st.g, .slr eb (bL st.s)]
def WkEnd (P : Program) (fn : Func) (T e eb : TypeId) (W : List Int) (N : List (List Int)) (vW vN : Value) (K : Kp) (st' : WS) (rv : Value) (env : Env) (os : List AO) : Prop :=
  ResIs P fn env os (.val rv) ∧ ∃ tl, os = .keep 5 K :: wkL T e eb W N vW vN st' ++ tl

set_option maxHeartbeats 2000000 in
theorem AFnB.of {P : Program} {f : FuncId} {fn : Func} {c : Code} {T e eb : TypeId} {W : List Int} {N : List (List Int)} {as0 : List Value} {args' : List AV} {st st' : WS} {rv : Value} {n : Nat} (hf : P.funcs[f]? = some fn) (hb : fn.body = some c) (hnm : (fn.name == "runtime.NumGoroutine") = false)
    (hn : fn.ntmps - (as0.length + 1) = n) (ha : args' = .optr 1 0 :: as0.map AV.val)
    (h : ∀ K vW vN, AWp P c (WkEnd P fn T e eb W N vW vN K st' rv) (fun _ _ _ => False) (WkEnd P fn T e eb W N vW vN K st' rv) (Env.start args' n) (.keep 5 K :: wkL T e eb W N vW vN st)) :
    AFnB P f T e eb W N as0 st st' rv := by
  refine ⟨⟨fn, c, hf, hnm, hb⟩, fun base w g0 g1 g2 g3 vW vN hbase hC hW hN => calls_of_wp hf hb ?_⟩
  have hvs : ((g0.v :: as0).toArray).size = as0.length + 1 := by simp
  rw [show fn.ntmps - ((g0.v :: as0).toArray).size = n by rw [hvs]; exact hn]
  obtain ⟨c1, c1', c2, c3, c4, c5, c6, c7, c8, c9⟩ := hC
  let bl : List Nat := (List.range w.heap.size).filter fun b => decide (base ≤ b) && !(g0.bl ++ g1.bl ++ g2.bl ++ g3.bl).contains b
  let gk : Gh := ⟨undef, 0, bl, []⟩
  let K : Kp := ⟨fun b => w.heap[b]?, [gk, g0, g1, g2, g3]⟩
  have hbl : ∀ b, b ∈ bl ↔ b < w.heap.size ∧ base ≤ b ∧ okB g0 g1 g2 g3 b := by
    intro b
    simp only [bl, List.mem_filter, List.mem_range, Bool.and_eq_true, decide_eq_true_eq, Bool.not_eq_true', List.contains_eq_mem, decide_eq_false_iff_not, List.mem_append, okB, List.mem_cons, List.not_mem_nil, or_false, forall_eq_or_imp, forall_eq, not_or]
    constructor
    · rintro ⟨h1, h2, ⟨⟨h3, h4⟩, h5⟩, h6⟩; exact ⟨h1, h2, h3, h4, h5, h6⟩
    · rintro ⟨h1, h2, h3, h4, h5, h6⟩; exact ⟨h1, h2, ⟨⟨h3, h4⟩, h5⟩, h6⟩
  have okk : ∀ b, okB g0 g1 g2 g3 b → okOf [gk, g0, g1, g2, g3] (.keep 5 K :: wkL T e eb W N vW vN st) b := by
    intro b hb i x y hx hy hl
    match i with
    | 0 => cases hy; exact hl.elim
    | i + 1 => exact hb x (List.mem_of_getElem? (by simpa using hx))
  have kp : Keeps (okB g0 g1 g2 g3) (okOf [gk, g0, g1, g2, g3] (.keep 5 K :: wkL T e eb W N vW vN st)) w w := fun b hb _ => ⟨okk b hb, rfl⟩
  have hrel : Rel base w [gk, g0, g1, g2, g3] (Env.start args' n) (.keep 5 K :: wkL T e eb W N vW vN st) ((g0.v :: as0).toArray ++ Array.replicate n undef) := by
    refine ⟨hbase, rfl, by simp [Env.start, ha], fun i => ?_, ?_, ?_, ?_⟩
    · refine start_rv args' n (g0.v :: as0).toArray (fun i => ?_) i
      rw [ha]
      match i with
      | 0 =>
        show RV w _ _ g0.v (.optr 1 0)
        rw [c4]
        exact .optr (g := g0) rfl
      | i + 1 =>
        have e1 : ((g0.v :: as0).toArray).getD (i + 1) undef = as0.getD i undef := by simp [Array.getD_eq_getD_getElem?, List.getD_eq_getElem?_getD]
        have e2 : (AV.optr 1 0 :: as0.map AV.val).getD (i + 1) .any = (as0.map AV.val).getD i .any := rfl
        rw [e1, e2]
        rw [List.getD_eq_getElem?_getD, List.getD_eq_getElem?_getD, List.getElem?_map]
        cases as0[i]? with
        | none => exact .any _
        | some z => exact .val z
    · intro i x y hx hy
      match i with
      | 0 =>
        cases hx; cases hy
        exact ⟨fun b _ => rfl, rfl, fun i x h => h⟩
      | 1 =>
        cases hx; cases hy
        refine ⟨[vW, vN, g1.v, g2.v, g3.v, .bool st.l], c1, c2, c3, c4, rfl, ?_, fun j => ?_⟩
        · intro z hz
          simp only [List.mem_cons, List.not_mem_nil, or_false] at hz
          obtain ⟨a1, _, _⟩ := c5
          obtain ⟨u1, k1, e1⟩ := ownsRow_slice a1
          obtain ⟨a2, _, _⟩ := c6
          obtain ⟨u2, k2, e2⟩ := ownsRow_slice a2
          obtain ⟨vs3, a3, _⟩ := c7
          obtain ⟨u3, k3, e3⟩ := ownsRow_slice a3
          rcases hz with rfl | rfl | rfl | rfl | rfl | rfl
          · exact c1'.1
          · exact c1'.2
          · rw [e1]; rfl
          · rw [e2]; rfl
          · rw [e3]; rfl
          · rfl
        · match j with
          | 0 => exact .ro ⟨rfl, hW.mono kp⟩
          | 1 => exact .ro ⟨rfl, hN.mono kp⟩
          | 2 => exact .own (g := g1) rfl
          | 3 => exact .own (g := g2) rfl
          | 4 => exact .own (g := g3) rfl
          | 5 => exact .val _
          | j + 6 => exact .any _
      | 2 => cases hx; cases hy; exact c5
      | 3 => cases hx; cases hy; exact c6
      | 4 => cases hx; cases hy; exact RO.slrb c7
      | i + 5 => simp at hx
    · intro i j a b o1 o2 hij ha1 hb1 ho1 ho2 _ _ c hc1 hc2
      match i, j with
      | 0, 0 => omega
      | 0, j + 1 =>
        cases ha1
        exact ((hbl c).1 hc1).2.2 b (List.mem_of_getElem? (by simpa using hb1)) hc2
      | i + 1, 0 =>
        cases hb1
        exact ((hbl c).1 hc2).2.2 a (List.mem_of_getElem? (by simpa using ha1)) hc1
      | i + 1, j + 1 => exact c8 i j a b (by omega) (by simpa using ha1) (by simpa using hb1) c hc1 hc2
    · intro i x y hx hy _ b hb
      match i with
      | 0 => cases hx; exact ⟨((hbl b).1 hb).2.1, ((hbl b).1 hb).1⟩
      | i + 1 => exact c9 x (List.mem_of_getElem? (by simpa using hx)) b hb
  have fin : ∀ {env : Env} {os1 : List AO} {gs2 : List Gh} {a : Act} {w' : World}, Rel base w' gs2 env os1 a.tmps → Below base w w' → WkEnd P fn T e eb W N vW vN K st' rv env os1 →
      ∃ u, (results fn a.tmps).run P w' = .ok u w' ∧ (Ending.returned u = .returned rv ∧ Wk T e eb base w' g0 g1 g2 g3 vW vN st' ∧ Below base w w' ∧ ∀ b, b < w.heap.size → okB g0 g1 g2 g3 b → w'.heap[b]? = w.heap[b]?) := by
    rintro env os1 gs2 a w' hr hbel ⟨hres, tl, rfl⟩
    obtain ⟨u, hu, hv⟩ := hres _ _ _ _ hr
    cases hv
    have hgl := hr.hl
    obtain ⟨x0, hx0⟩ : ∃ x, gs2[0]? = some x := ⟨_, List.getElem?_eq_getElem (by rw [hgl]; simp [wkL])⟩
    obtain ⟨r1, r2, r3⟩ := hr.ho 0 _ _ hx0 rfl
    have p0 := r3 0 gk rfl
    have p1 := r3 1 g0 rfl
    have p2 := r3 2 g1 rfl
    have p3 := r3 3 g2 rfl
    have p4 := r3 4 g3 rfl
    have e0 : x0 = gk := by rw [hx0] at p0; exact Option.some.inj p0
    subst e0
    have o1 := hr.ho 1 _ _ p1 rfl
    have o2 := hr.ho 2 _ _ p2 rfl
    have o3 := hr.ho 3 _ _ p3 rfl
    have o4 := hr.ho 4 _ _ p4 rfl
    obtain ⟨cs, d1, d2, d3, d4, d5, d6, d7⟩ := o1
    match cs, d5 with
    | [z0, z1, z2, z3, z4, z5], _ =>
      have q0 := d7 0
      have q1 := d7 1
      have q2 := d7 2
      have q3 := d7 3
      have q4 := d7 4
      have q5 := d7 5
      have w0 : z0 = vW := by cases q0 with | ro h => exact h.1
      have w1 : z1 = vN := by cases q1 with | ro h => exact h.1
      have w2 : z2 = g1.v := by cases q2 with | own hh => rw [p2] at hh; cases hh; rfl
      have w3 : z3 = g2.v := by cases q3 with | own hh => rw [p3] at hh; cases hh; rfl
      have w4 : z4 = g3.v := by cases q4 with | own hh => rw [p4] at hh; cases hh; rfl
      have w5 : z5 = .bool st'.l := by cases q5; rfl
      subst w0 w1 w2 w3 w4 w5
      refine ⟨_, hu, rfl, ⟨d1, c1', c2, c3, c4, o2, o3, RO.slrb o4, c8, fun x hx b hb => ?_⟩, hbel, fun b hb hok => ?_⟩
      · have := c9 x hx b hb
        exact ⟨this.1, Nat.lt_of_lt_of_le this.2 hbel.size⟩
      · rcases Nat.lt_or_ge b base with h6 | h6
        · exact hbel.block b h6
        · exact r1 b ((hbl b).2 ⟨hb, h6, hok⟩)
  refine wp_mono (h K vW vN base w w _ _ hrel (Below.refl _ _)) ?_
  intro ev a w' hq
  cases ev with
  | normal =>
    obtain ⟨env, os1, gs1, hr, hd, hbel, hx⟩ := hq
    obtain ⟨u, hu, hw⟩ := fin hr hbel hx
    exact ⟨hd, u, hu, hw⟩
  | exit j => obtain ⟨_, _, _, _, _, _, hx⟩ := hq; exact hx.elim
  | ret =>
    obtain ⟨env, os1, gs1, hr, hd, hbel, hx⟩ := hq
    obtain ⟨u, hu, hw⟩ := fin hr hbel hx
    exact ⟨hd, u, hu, hw⟩
  | goto l => exact (hq : False).elim
  | panic ch => exact (hq : False).elim
  | outgrown => exact (hq : False).elim
theorem AFnB.start {P : Program} {f : FuncId} {fn : Func} {nt : Nat} {T e eb : TypeId} {W : List Int} {N : List (List Int)} {as0 : List Value} {st st' : WS} {rv : Value} (hf : P.funcs[f]? = some fn) (hnt : fn.ntmps = nt) {c : Code} (hb : fn.body = some c) (hnm : (fn.name == "runtime.NumGoroutine") = false)
    (h : ∀ K vW vN, AWp P c (WkEnd P fn T e eb W N vW vN K st' rv) (fun _ _ _ => False) (WkEnd P fn T e eb W N vW vN K st' rv) (Env.start (.optr 1 0 :: as0.map AV.val) (nt - (as0.length + 1))) (.keep 5 K :: wkL T e eb W N vW vN st)) :
    AFnB P f T e eb W N as0 st st' rv := AFnB.of hf hb hnm (by rw [hnt]) rfl h

section
variable {P : Program} {env : Env} {os : List AO} {d : Option Tmp} {ty : TypeId} {pos : String} {af : Array Edge} {g : Option (Nat × Bool)}
set_option maxHeartbeats 2000000 in
theorem c_callb {f : FuncId} {T e eb : TypeId} {W : List Int} {N : List (List Int)} {as0 : List Value} {st st' : WS} {rv : Value} {h0 h1 h2 h3 : Nat} {a0 a1 : AV} (hc : AFnB P f T e eb W N as0 st st' rv) {x : Operand} {xs : List Operand} {ats : Array TypeId} (hx : AV.ev env x = .optr h0 0)
    (o0 : os[h0]? = some (.bx T [a0, a1, .own h1, .own h2, .own h3, .b st.l])) (o1 : os[h1]? = some (.sli e st.f)) (o2 : os[h2]? = some (.sli e st.g)) (o3 : os[h3]? = some (.slr eb (bL st.s))) (hxs : xs.map (AV.ev env) = as0.map AV.val)
    (ra : RdI a0 W) (rn : RdN a1 N) (hne : ((h0 == h1) || (h0 == h2) || (h0 == h3) || (h1 == h2) || (h1 == h3) || (h2 == h3)) = false) :
    COp P ⟨d, .call { callee := .value (.func f), args := (x :: xs).toArray, argTypes := ats }, ty, pos, af, g⟩ env os (fun r e' o => r = .val rv ∧ e' = env ∧ o = (((os.set h0 (.bx T [a0, a1, .own h1, .own h2, .own h3, .b st'.l])).set h1 (.sli e st'.f)).set h2 (.sli e st'.g)).set h3 (.slr eb (bL st'.s))) := by
  simp only [Bool.or_eq_false_iff, beq_eq_false_iff_ne, ne_eq] at hne
  obtain ⟨⟨⟨⟨⟨n01, n02⟩, n03⟩, n12⟩, n13⟩, n23⟩ := hne
  intro base w gs tm hr
  have gget : ∀ {h : Nat} {o : AO}, os[h]? = some o → ∃ x, gs[h]? = some x := fun {h o} ho => ⟨_, List.getElem?_eq_getElem (by rw [hr.hl]; exact (List.getElem?_eq_some_iff.1 ho).1)⟩
  obtain ⟨g0, q0⟩ := gget o0
  obtain ⟨g1, q1⟩ := gget o1
  obtain ⟨g2, q2⟩ := gget o2
  obtain ⟨g3, q3⟩ := gget o3
  have r0 := hr.ho _ _ _ q0 o0
  have r1 := hr.ho _ _ _ q1 o1
  have r2 := hr.ho _ _ _ q2 o2
  have r3 := hr.ho _ _ _ q3 o3
  obtain ⟨cs, d1, d2, d3, d4, d5, d6, d7⟩ := r0
  match cs, d5 with
  | [z0, z1, z2, z3, z4, z5], _ =>
    have t0 : RV w (okOf gs os) gs z0 a0 := d7 0
    have t1 : RV w (okOf gs os) gs z1 a1 := d7 1
    have t2 : RV w (okOf gs os) gs z2 (.own h1) := d7 2
    have t3 : RV w (okOf gs os) gs z3 (.own h2) := d7 3
    have t4 : RV w (okOf gs os) gs z4 (.own h3) := d7 4
    have t5 : RV w (okOf gs os) gs z5 (.b st.l) := d7 5
    have w2 : z2 = g1.v := by cases t2 with | own hh => rw [q1] at hh; cases hh; rfl
    have w3 : z3 = g2.v := by cases t3 with | own hh => rw [q2] at hh; cases hh; rfl
    have w4 : z4 = g3.v := by cases t4 with | own hh => rw [q3] at hh; cases hh; rfl
    have w5 : z5 = .bool st.l := by cases t5; rfl
    subst w2 w3 w4 w5
    have hw0 := ra _ _ _ _ t0
    have hw1 := rn _ _ _ _ t1
    have hin : ∀ a ∈ [g0, g1, g2, g3], ∃ (h : Nat) (o : AO), gs[h]? = some a ∧ os[h]? = some o ∧ o.live := by
      intro a ha
      simp only [List.mem_cons, List.not_mem_nil, or_false] at ha
      rcases ha with rfl | rfl | rfl | rfl
      · exact ⟨h0, _, q0, o0, trivial⟩
      · exact ⟨h1, _, q1, o1, trivial⟩
      · exact ⟨h2, _, q2, o2, trivial⟩
      · exact ⟨h3, _, q3, o3, trivial⟩
    have okb : ∀ b, okOf gs os b → okB g0 g1 g2 g3 b := fun b hb a ha hm => by
      obtain ⟨h, o, p1, p2, p3⟩ := hin a ha
      exact hb h a o p1 p2 p3 hm
    have kpb : Keeps (okOf gs os) (okB g0 g1 g2 g3) w w := fun b hb _ => ⟨okb b hb, rfl⟩
    have dis : ∀ {i j : Nat} {a b : Gh} {p q : AO}, i ≠ j → gs[i]? = some a → gs[j]? = some b → os[i]? = some p → os[j]? = some q → p.live → q.live → ∀ c, c ∈ a.bl → c ∉ b.bl := fun hij x1 x2 y1 y2 l1 l2 => hr.hd _ _ _ _ _ _ hij x1 x2 y1 y2 l1.ne l2.ne
    have hWk : Wk T e eb base w g0 g1 g2 g3 z0 z1 st := by
      refine ⟨d1, ⟨d6 _ (by simp), d6 _ (by simp)⟩, d2, d3, d4, r1, r2, RO.slrb r3, ?_, fun a ha c hc => ?_⟩
      · intro i j a b hij ha hb
        match i, j with
        | 0, 0 => omega
        | 0, 1 => cases ha; cases hb; exact dis n01 q0 q1 o0 o1 trivial trivial
        | 0, 2 => cases ha; cases hb; exact dis n02 q0 q2 o0 o2 trivial trivial
        | 0, 3 => cases ha; cases hb; exact dis n03 q0 q3 o0 o3 trivial trivial
        | 1, 0 => cases ha; cases hb; exact dis (Ne.symm n01) q1 q0 o1 o0 trivial trivial
        | 1, 1 => omega
        | 1, 2 => cases ha; cases hb; exact dis n12 q1 q2 o1 o2 trivial trivial
        | 1, 3 => cases ha; cases hb; exact dis n13 q1 q3 o1 o3 trivial trivial
        | 2, 0 => cases ha; cases hb; exact dis (Ne.symm n02) q2 q0 o2 o0 trivial trivial
        | 2, 1 => cases ha; cases hb; exact dis (Ne.symm n12) q2 q1 o2 o1 trivial trivial
        | 2, 2 => omega
        | 2, 3 => cases ha; cases hb; exact dis n23 q2 q3 o2 o3 trivial trivial
        | 3, 0 => cases ha; cases hb; exact dis (Ne.symm n03) q3 q0 o3 o0 trivial trivial
        | 3, 1 => cases ha; cases hb; exact dis (Ne.symm n13) q3 q1 o3 o1 trivial trivial
        | 3, 2 => cases ha; cases hb; exact dis (Ne.symm n23) q3 q2 o3 o2 trivial trivial
        | 3, 3 => omega
        | i + 4, _ => simp at ha
        | 0, j + 4 => simp at hb
        | 1, j + 4 => simp at hb
        | 2, j + 4 => simp at hb
        | 3, j + 4 => simp at hb
      · obtain ⟨h, o, p1, p2, p3⟩ := hin a ha
        exact hr.hn h a o p1 p2 p3.ne c hc
    have hxv := hr.ev x
    rw [hx] at hxv
    have ex : Act.eval ⟨tm, []⟩ x = g0.v := by
      generalize Act.eval ⟨tm, []⟩ x = v at hxv
      cases hxv with
      | optr hh => rw [q0] at hh; cases hh; exact d4.symm
    have exs : xs.map (Act.eval ⟨tm, []⟩) = as0 := by
      have hlen : xs.length = as0.length := by simpa using congrArg List.length hxs
      apply List.ext_getElem (by simpa using hlen)
      intro i k1 k2
      have k3 : i < xs.length := by simpa using k1
      have : AV.ev env xs[i] = .val as0[i] := by
        have := congrArg (fun l => l[i]?) hxs
        simpa [List.getElem?_eq_getElem k3, List.getElem?_eq_getElem k2] using this
      simpa using hr.evv this
    refine ⟨f, _, run_call hc.1 (x :: xs) ats _ rfl w, ?_⟩
    have eargs : ((x :: xs).map (Act.eval ⟨tm, []⟩)).toArray = (g0.v :: as0).toArray := by rw [List.map_cons, ex, exs]
    rw [eargs]
    refine (hc.2 base w g0 g1 g2 g3 z0 z1 hr.hb hWk (hw0.mono kpb) (hw1.mono kpb)).mono ?_
    rintro ev w' ⟨rfl, hWk', hbel, hfr⟩
    obtain ⟨c1, c1', c2, c3, c4, c5, c6, c7, c8, c9⟩ := hWk'
    have l0 := (List.getElem?_eq_some_iff.1 o0).1
    have l1 := (List.getElem?_eq_some_iff.1 o1).1
    have l2 := (List.getElem?_eq_some_iff.1 o2).1
    have l3 := (List.getElem?_eq_some_iff.1 o3).1
    have oget : ∀ i : Nat, ((((os.set h0 (.bx T [a0, a1, .own h1, .own h2, .own h3, .b st'.l])).set h1 (.sli e st'.f)).set h2 (.sli e st'.g)).set h3 (.slr eb (bL st'.s)))[i]? =
        if i = h3 then some (.slr eb (bL st'.s)) else if i = h2 then some (.sli e st'.g) else if i = h1 then some (.sli e st'.f) else if i = h0 then some (.bx T [a0, a1, .own h1, .own h2, .own h3, .b st'.l]) else os[i]? := by
      intro i
      simp only [List.getElem?_set, List.length_set]
      by_cases e3 : h3 = i
      · subst e3; simp [l3]
      · have e3' : ¬ i = h3 := fun e => e3 e.symm
        by_cases e2 : h2 = i
        · subst e2; simp [l2, e3, e3']
        · have e2' : ¬ i = h2 := fun e => e2 e.symm
          by_cases e1 : h1 = i
          · subst e1; simp [l1, e3, e3', e2, e2']
          · have e1' : ¬ i = h1 := fun e => e1 e.symm
            by_cases e0 : h0 = i
            · subst e0; simp [l0, e3, e3', e2, e2', e1, e1']
            · have e0' : ¬ i = h0 := fun e => e0 e.symm
              simp [e3, e3', e2, e2', e1, e1', e0, e0']
    refine ⟨rv, .val rv, env, _, gs, rfl, ⟨rfl, rfl, rfl⟩, hr.upds [h0, h1, h2, h3] (by simp) (fun i hi => ?_) (fun i hi o o' ho ho' => ?_) (fun b hb hn => ?_) hbel.size (fun kp i hi gx o' hgx ho' => ?_), .val rv, hbel⟩
    · simp only [List.mem_cons, List.not_mem_nil, or_false, not_or] at hi
      rw [oget, if_neg hi.2.2.2, if_neg hi.2.2.1, if_neg hi.2.1, if_neg hi.1]
    · rw [oget] at ho'
      simp only [List.mem_cons, List.not_mem_nil, or_false] at hi
      rcases hi with rfl | rfl | rfl | rfl
      · rw [if_neg n03, if_neg n02, if_neg n01, if_pos rfl] at ho'
        rw [o0] at ho; cases ho; cases ho'; exact ⟨trivial, trivial⟩
      · rw [if_neg n13, if_neg n12, if_pos rfl] at ho'
        rw [o1] at ho; cases ho; cases ho'; exact ⟨trivial, trivial⟩
      · rw [if_neg n23, if_pos rfl] at ho'
        rw [o2] at ho; cases ho; cases ho'; exact ⟨trivial, trivial⟩
      · rw [if_pos rfl] at ho'
        rw [o3] at ho; cases ho; cases ho'; exact ⟨trivial, trivial⟩
    · refine hfr b hb fun a ha => ?_
      simp only [List.mem_cons, List.not_mem_nil, or_false] at ha
      rcases ha with rfl | rfl | rfl | rfl
      · exact hn h0 (by simp) _ q0
      · exact hn h1 (by simp) _ q1
      · exact hn h2 (by simp) _ q2
      · exact hn h3 (by simp) _ q3
    · rw [oget] at ho'
      simp only [List.mem_cons, List.not_mem_nil, or_false] at hi
      rcases hi with rfl | rfl | rfl | rfl
      · rw [if_neg n03, if_neg n02, if_neg n01, if_pos rfl] at ho'
        rw [q0] at hgx; cases hgx; cases ho'
        refine ⟨[z0, z1, g1.v, g2.v, g3.v, .bool st'.l], c1, c2, c3, c4, rfl, ?_, fun j => ?_⟩
        · intro z hz
          simp only [List.mem_cons, List.not_mem_nil, or_false] at hz
          rcases hz with rfl | rfl | rfl | rfl | rfl | rfl
          · exact c1'.1
          · exact c1'.2
          · exact d6 _ (by simp)
          · exact d6 _ (by simp)
          · exact d6 _ (by simp)
          · rfl
        · match j with
          | 0 => exact t0.mono kp fun _ _ h => h
          | 1 => exact t1.mono kp fun _ _ h => h
          | 2 => exact .own q1
          | 3 => exact .own q2
          | 4 => exact .own q3
          | 5 => exact .val _
          | j + 6 => exact .any _
      · rw [if_neg n13, if_neg n12, if_pos rfl] at ho'
        rw [q1] at hgx; cases hgx; cases ho'; exact c5
      · rw [if_neg n23, if_pos rfl] at ho'
        rw [q2] at hgx; cases hgx; cases ho'; exact c6
      · rw [if_pos rfl] at ho'
        rw [q3] at hgx; cases hgx; cases ho'; exact RO.slrb c7
end

section
variable {P : Program} {env : Env} {os : List AO} {d : Tmp} {ty : TypeId} {pos : String} {af : Array Edge} {g : Option (Nat × Bool)} {l rest : List Oper} {K : APost} {q : Md}
theorem w_callb {f : FuncId} {T e eb : TypeId} {W : List Int} {N : List (List Int)} {as0 : List Value} {st st' : WS} {rv : Value} {h0 h1 h2 h3 : Nat} {a0 a1 : AV} {x : Operand} {xs : List Operand} {ats : Array TypeId} {fl gl : List Int} {sl : List Bool} {b : Bool} (hc : AFnB P f T e eb W N as0 st st' rv) (hx : evo env x = some (.optr h0 0))
    (o0 : os[h0]? = some (.bx T [a0, a1, .own h1, .own h2, .own h3, .b b])) (o1 : os[h1]? = some (.sli e fl)) (o2 : os[h2]? = some (.sli e gl)) (o3 : os[h3]? = some (.slr eb (bL sl))) (hst : st = ⟨fl, gl, sl, b⟩) (hxs : xs.map (AV.ev env) = as0.map AV.val)
    (ra : RdI a0 W) (rn : RdN a1 N) (hne : ((h0 == h1) || (h0 == h2) || (h0 == h3) || (h1 == h2) || (h1 == h3) || (h2 == h3)) = false)
    (h' : AOps P .seq l rest K (env.up d (.val rv)) ((((os.set h0 (.bx T [a0, a1, .own h1, .own h2, .own h3, .b st'.l])).set h1 (.sli e st'.f)).set h2 (.sli e st'.g)).set h3 (.slr eb (bL st'.s)))) :
    AOps P .seq l (⟨some d, .call { callee := .value (.func f), args := (x :: xs).toArray, argTypes := ats }, ty, pos, af, none⟩ :: rest) K env os := by
  subst hst
  exact AOps.ca (c_callb hc (ev_of hx) o0 o1 o2 o3 hxs ra rn hne) fun r e' o ⟨h1, h2, h3⟩ => by subst h1; subst h2; subst h3; exact h'
theorem QOp.weak {o : Oper} {a a' : AV} {b : Bool} (h : QOp P b o env os a) (hw : ∀ w ok gs v, RV w ok gs v a → RV w ok gs v a') : QOp P b o env os a' := by
  unfold QOp at *
  exact fun base w gs tm hr => let ⟨v, h1, h2⟩ := h base w gs tm hr; ⟨v, hw _ _ _ _ h1, h2⟩
/-- A field that is read: its numbers, its rows. -/
theorem w_ldbi {t : TypeId} [TCell P t] {x : Operand} {h i : Nat} {T : TypeId} {avs : List AV} {u : Value} {W : List Int} (hw : wantedA l env ⟨some d, .load t x, ty, pos, af, g⟩ = some true) (hq : q.wl = false) (hx : evo env x = some (.optr h i)) (hs : os[h]? = some (.bx T avs)) (hi : avs[i]? = some (.ro (roI u W)))
    (h' : AOps P q l rest K (env.up d (.ints W)) os) : AOps P q l (⟨some d, .load t x, ty, pos, af, g⟩ :: rest) K env os :=
  AOps.qo hw (by rw [hq]; exact (QOp.cast (gdl hi) (q_load_bx (ev_of hx) hs (lt_of_get hi))).weak fun _ _ _ _ h => .ints (rdI_ro u W _ _ _ _ h)) h'
theorem w_ldbn {t : TypeId} [TCell P t] {x : Operand} {h i : Nat} {T : TypeId} {avs : List AV} {u : Value} {N : List (List Int)} (hw : wantedA l env ⟨some d, .load t x, ty, pos, af, g⟩ = some true) (hq : q.wl = false) (hx : evo env x = some (.optr h i)) (hs : os[h]? = some (.bx T avs)) (hi : avs[i]? = some (.ro (roN u N)))
    (h' : AOps P q l rest K (env.up d (.intss N)) os) : AOps P q l (⟨some d, .load t x, ty, pos, af, g⟩ :: rest) K env os :=
  AOps.qo hw (by rw [hq]; exact (QOp.cast (gdl hi) (q_load_bx (ev_of hx) hs (lt_of_get hi))).weak fun _ _ _ _ h => .intss (rdN_ro u N _ _ _ _ h)) h'
end
end Go.Proofs.Ytlkhcelodcneiaa
/-
  Functions that use up own memory that is handed to them, and hand back own memory. No condition.
-/
namespace Go.Proofs.Ytlkhcelodcneiaa
open Go Go.RowKit

/-- Values that hold no more than two levels of parts, and read nothing. -/
def AV.fl0 : AV → Prop
  | .any => True
  | .val _ => True
  | .own _ => True
  | .optr _ _ => True
  | .osub _ _ _ => True
  | .orow _ _ => True
  | .orptr _ _ _ => True
  | _ => False
def AV.fl1 : AV → Prop
  | .agg l => ∀ a ∈ l, a.fl0
  | a => a.fl0
def AV.fl : AV → Prop
  | .agg l => ∀ a ∈ l, a.fl0
  | .tup l => ∀ a ∈ l, a.fl1
  | a => a.fl0
section
variable {w : World} {ok ok' : Nat → Prop} {gs : List Gh} {g0 : Gh}
theorem RV.unsh0 {v : Value} {a : AV} (hf : a.fl0) (hv : RV w ok (g0 :: gs) v (a.sh0 1)) : RV w ok' gs v a := by
  cases a with
  | any => exact .any v
  | val u => cases hv with | val => exact .val _
  | own k => cases hv with | own h => exact .own (by simpa using h)
  | optr k i => cases hv with | optr h => exact .optr (by simpa using h)
  | osub k i j => cases hv with | osub h h1 h2 h3 => exact .osub (by simpa using h) h1 h2 h3
  | orow k i => cases hv with | orow h h1 => exact .orow (by simpa using h) h1
  | orptr k i j => cases hv with | orptr h h1 => exact .orptr (by simpa using h) h1
  | _ => exact hf.elim
theorem getD_mem_any {l : List AV} {p : AV → Prop} (h : ∀ a ∈ l, p a) (hany : p .any) (i : Nat) : p (l.getD i .any) := by
  rw [List.getD_eq_getElem?_getD]
  cases e : l[i]? with
  | none => exact hany
  | some a => exact h a (List.mem_of_getElem? e)
theorem RV.unsh1 {v : Value} {a : AV} (hf : a.fl1) (hv : RV w ok (g0 :: gs) v (a.sh1 1)) : RV w ok' gs v a := by
  cases a with
  | agg l => cases hv with | agg h1 h3 h2 => exact .agg (by simpa using h1) h3 (fun i => RV.unsh0 (getD_mem_any hf trivial i) (by have := h2 i; rw [getD_map_any _ rfl] at this; exact this))
  | any => exact .any v
  | val u => exact RV.unsh0 (a := .val u) trivial hv
  | own k => exact RV.unsh0 (a := .own k) trivial hv
  | optr k i => exact RV.unsh0 (a := .optr k i) trivial hv
  | osub k i j => exact RV.unsh0 (a := .osub k i j) trivial hv
  | orow k i => exact RV.unsh0 (a := .orow k i) trivial hv
  | orptr k i j => exact RV.unsh0 (a := .orptr k i j) trivial hv
  | _ => exact hf.elim
theorem RV.unsh {v : Value} {a : AV} (hf : a.fl) (hv : RV w ok (g0 :: gs) v (a.sh 1)) : RV w ok' gs v a := by
  cases a with
  | agg l => exact RV.unsh1 (a := .agg l) hf hv
  | tup l => cases hv with | tup h1 h2 => exact .tup (by simpa using h1) (fun i => RV.unsh1 (getD_mem_any hf trivial i) (by have := h2 i; rw [getD_map_any _ rfl] at this; exact this))
  | any => exact .any v
  | val u => exact RV.unsh0 (a := .val u) trivial hv
  | own k => exact RV.unsh0 (a := .own k) trivial hv
  | optr k i => exact RV.unsh0 (a := .optr k i) trivial hv
  | osub k i j => exact RV.unsh0 (a := .osub k i j) trivial hv
  | orow k i => exact RV.unsh0 (a := .orow k i) trivial hv
  | orptr k i j => exact RV.unsh0 (a := .orptr k i j) trivial hv
  | _ => exact hf.elim
end

/-- The function uses up the objects 'objs', which its arguments name, and hands back r over the objects os', of which Q speaks. All else is as it was. -/
def AFnC (P : Program) (f : FuncId) (args : List AV) (objs : List AO) (Q : AV → List AO → Prop) : Prop :=
  HasBody P f ∧ ∀ base w gs vs, base ≤ w.heap.size → Objs base w gs objs → vs.size = args.length → (∀ i : Nat, RV w (okOf gs objs) gs (vs.getD i undef) (args.getD i .any)) →
    Calls P f vs w fun e w' => ∃ v r os' gs', e = .returned v ∧ Q r os' ∧ Objs base w' gs' os' ∧ RV w' (fun _ => False) gs' v r ∧
      (∀ (h : Nat) g, gs'[h]? = some g → ∀ b, b ∈ g.bl → (∃ (k : Nat) (g0 : Gh), gs[k]? = some g0 ∧ b ∈ g0.bl) ∨ w.heap.size ≤ b) ∧ Below base w w' ∧ ∀ b, b < w.heap.size → (∀ (h : Nat) g, gs[h]? = some g → b ∉ g.bl) → w'.heap[b]? = w.heap[b]?

theorem AFnC.of {P : Program} {f : FuncId} {fn : Func} {c : Code} {args args' : List AV} {objs : List AO} {Q : AV → List AO → Prop} {n : Nat} (hf : P.funcs[f]? = some fn) (hb : fn.body = some c) (hnm : (fn.name == "runtime.NumGoroutine") = false) (hn : fn.ntmps - args.length = n) (ha : args' = args.map (AV.sh 1))
    (h : ∀ K, AWp P c (fun _ _ => False) (fun _ _ _ => False) (fun env os => ∃ env2 os' r, Turns env os env2 (.keep 1 K :: os') ∧ ResIs P fn env2 (.keep 1 K :: os') (r.sh 1) ∧ r.fl ∧ Q r os' ∧ ∀ o ∈ os', o.plain) (Env.start args' n) (.keep 1 K :: objs)) :
    AFnC P f args objs Q := by
  refine ⟨⟨fn, c, hf, hnm, hb⟩, fun base w gs vs hbase hO hsz hvs => calls_of_wp hf hb ?_⟩
  rw [show fn.ntmps - vs.size = n by rw [hsz]; exact hn]
  let bl : List Nat := (List.range w.heap.size).filter fun b => decide (base ≤ b) && gs.all fun g => !g.bl.contains b
  let gk : Gh := ⟨undef, 0, bl, []⟩
  let K : Kp := ⟨fun b => w.heap[b]?, [gk]⟩
  have hbl : ∀ b, b ∈ bl ↔ b < w.heap.size ∧ base ≤ b ∧ ∀ (h : Nat) g, gs[h]? = some g → b ∉ g.bl := by
    intro b
    simp only [bl, List.mem_filter, List.mem_range, Bool.and_eq_true, decide_eq_true_eq, List.all_eq_true, Bool.not_eq_true', List.contains_eq_mem, decide_eq_false_iff_not]
    constructor
    · rintro ⟨h1, h2, h3⟩
      exact ⟨h1, h2, fun h g hg => h3 g (List.mem_of_getElem? hg)⟩
    · rintro ⟨h1, h2, h3⟩
      exact ⟨h1, h2, fun g hg => by obtain ⟨i, hi⟩ := List.getElem?_of_mem hg; exact h3 i g hi⟩
  have hl := hO.hl
  have part : ∀ {i : Nat} {x : Gh} {y : AO}, (gk :: gs)[i]? = some x → (AO.keep 1 K :: objs)[i]? = some y → (∃ j, i = j + 1 ∧ gs[j]? = some x ∧ objs[j]? = some y) ∨ (i = 0 ∧ x = gk ∧ y = .keep 1 K) := by
    intro i x y hx hy
    match i, hx, hy with
    | 0, hx, hy => simp at hx hy; exact .inr ⟨rfl, hx.symm, hy.symm⟩
    | j + 1, hx, hy => exact .inl ⟨j, rfl, by simpa using hx, by simpa using hy⟩
  have hkeep : Keeps (okOf gs objs) (okOf (gk :: gs) (.keep 1 K :: objs)) w w := by
    intro b hbk _
    refine ⟨fun i x y hx hy hny hm => ?_, rfl⟩
    rcases part hx hy with ⟨j, rfl, h1, h2⟩ | ⟨_, _, rfl⟩
    · exact hbk j x y h1 h2 hny hm
    · exact hny.elim
  have hrel : Rel base w (gk :: gs) (Env.start args' n) (.keep 1 K :: objs) (vs ++ Array.replicate n undef) := by
    refine ⟨hbase, by simp [hl], by simp [Env.start, hsz, ha], fun i => start_rv args' n vs (fun i => ?_) i, ?_, ?_, ?_⟩
    · rw [ha, getD_map_any _ rfl]
      have := (hvs i).sh (gs0 := [gk]) hkeep
      exact this
    · intro i x y hx hy
      rcases part hx hy with ⟨j, rfl, h1, h2⟩ | ⟨_, rfl, rfl⟩
      · exact (hO.hp y (List.mem_of_getElem? h2)).ro (hO.ho j x y h1 h2)
      · exact ⟨fun b _ => rfl, rfl, fun i x h => by
            match i with
            | 0 => exact h
            | i + 1 => simp [K] at h⟩
    · intro i j g1 g2 o1 o2 hij hg1 hg2 ho1 ho2 _ _ b hb1 hb2
      rcases part hg1 ho1 with ⟨i', rfl, a1, a2⟩ | ⟨rfl, rfl, _⟩
      · rcases part hg2 ho2 with ⟨j', rfl, b1, b2⟩ | ⟨rfl, rfl, _⟩
        · exact hO.hd i' j' g1 g2 (by omega) a1 b1 b hb1 hb2
        · exact ((hbl b).1 hb2).2.2 i' g1 a1 hb1
      · rcases part hg2 ho2 with ⟨j', rfl, b1, b2⟩ | ⟨rfl, _, _⟩
        · exact ((hbl b).1 hb1).2.2 j' g2 b1 hb2
        · omega
    · intro i x y hx hy _ b hb
      rcases part hx hy with ⟨j, rfl, h1, h2⟩ | ⟨_, rfl, _⟩
      · exact hO.hn j x h1 b hb
      · exact ⟨((hbl b).1 hb).2.1, ((hbl b).1 hb).1⟩
  refine wp_mono (h K base w w _ _ hrel (Below.refl _ _)) ?_
  intro e a w' hq
  cases e with
  | normal => obtain ⟨_, _, _, _, _, _, hx⟩ := hq; exact hx.elim
  | exit j => obtain ⟨_, _, _, _, _, _, hx⟩ := hq; exact hx.elim
  | ret =>
    obtain ⟨env, os1, gs1, hr1, hd, hbel, env2, os', r, ht, hres, hfl, hQ, hpl⟩ := hq
    obtain ⟨gs2, hr⟩ := ht base w' gs1 _ hr1
    obtain ⟨v, hu, hv⟩ := hres _ _ _ _ hr
    obtain ⟨g0, gs', rfl⟩ : ∃ g0 gs', gs2 = g0 :: gs' := by
      have := hr.hl
      match gs2 with
      | [] => simp at this
      | a :: b => exact ⟨a, b, rfl⟩
    obtain ⟨r1, r2, r3⟩ := hr.ho 0 _ _ rfl rfl
    have egk : g0 = gk := by
      have := r3 0 gk rfl
      exact Option.some.inj this
    subst egk
    have hl' : gs'.length = os'.length := by have := hr.hl; simpa using this
    have hno : ∀ (i : Nat) x o, gs'[i]? = some x → os'[i]? = some o → ∀ b, b ∈ x.bl → base ≤ b ∧ b < w'.heap.size := fun i x o hx ho b hb =>
      hr.hn (i + 1) x o (by simpa using hx) (by simpa using ho) (hpl o (List.mem_of_getElem? ho)).live.ne b hb
    have obj : ∀ {i : Nat} {x : Gh}, gs'[i]? = some x → ∃ o, os'[i]? = some o := fun {i x} hx => by
      have : i < os'.length := by rw [← hl']; exact (List.getElem?_eq_some_iff.1 hx).1
      exact ⟨_, List.getElem?_eq_getElem this⟩
    refine ⟨hd, v, hu, v, r, os', gs', rfl, hQ, ⟨hl', hpl, ?_, ?_, ?_⟩, ?_, ?_, hbel, ?_⟩
    · intro i x o hx ho
      exact (hpl o (List.mem_of_getElem? ho)).ro (hr.ho (i + 1) x o (by simpa using hx) (by simpa using ho))
    · intro i j x y hij hx hy b hb1 hb2
      obtain ⟨o1, h1⟩ := obj hx
      obtain ⟨o2, h2⟩ := obj hy
      exact hr.hd (i + 1) (j + 1) x y o1 o2 (by omega) (by simpa using hx) (by simpa using hy) (by simpa using h1) (by simpa using h2) (hpl o1 (List.mem_of_getElem? h1)).live.ne (hpl o2 (List.mem_of_getElem? h2)).live.ne b hb1 hb2
    · intro i x hx b hb
      obtain ⟨o1, h1⟩ := obj hx
      exact hno i x o1 hx h1 b hb
    · exact RV.unsh (g0 := gk) hfl hv
    · intro i x hx b hb
      obtain ⟨o1, h1⟩ := obj hx
      have hb2 := hno i x o1 hx h1 b hb
      by_cases hbw : b < w.heap.size
      · left
        apply Classical.byContradiction
        intro hnb
        refine hr.hd (i + 1) 0 x gk o1 _ (by omega) (by simpa using hx) rfl (by simpa using h1) rfl (hpl o1 (List.mem_of_getElem? h1)).live.ne (by simp) b hb ((hbl b).2 ⟨hbw, hb2.1, fun k g0 hg hm => hnb ⟨k, g0, hg, hm⟩⟩)
      · right; omega
    · intro b hb hnot
      rcases Nat.lt_or_ge b base with h6 | h6
      · exact hbel.block b h6
      · exact r1 b ((hbl b).2 ⟨hb, h6, hnot⟩)
  | goto l => exact (hq : False).elim
  | panic ch => exact (hq : False).elim
  | outgrown => exact (hq : False).elim
theorem AFnC.start {P : Program} {f : FuncId} {fn : Func} {nt : Nat} {args : List AV} {objs : List AO} {Q : AV → List AO → Prop} (hf : P.funcs[f]? = some fn) (hnt : fn.ntmps = nt) {c : Code} (hb : fn.body = some c) (hnm : (fn.name == "runtime.NumGoroutine") = false)
    (h : ∀ K, AWp P c (fun _ _ => False) (fun _ _ _ => False) (fun env os => ∃ env2 os' r, Turns env os env2 (.keep 1 K :: os') ∧ ResIs P fn env2 (.keep 1 K :: os') (r.sh 1) ∧ r.fl ∧ Q r os' ∧ ∀ o ∈ os', o.plain) (Env.start (args.map (AV.sh 1)) (nt - args.length)) (.keep 1 K :: objs)) :
    AFnC P f args objs Q := AFnC.of hf hb hnm (by rw [hnt]) rfl h
theorem Turns.fit {env : Env} {os : List AO} {env' : Env} {os' : List AO} (f : Fit env os env' os') : Turns env os env' os' := fun _ _ _ _ h => h.fit f
theorem Turns.fits {env : Env} {os : List AO} {env' : Env} {os' : List AO} {σ : List Nat} (f : FitS σ env os env' os') : Turns env os env' os' := fun _ _ _ _ h => h.fits f
theorem Turns.or {env : Env} {os : List AO} {env' : Env} {os' : List AO} (f : Fit env os env' os' ∨ ∃ σ, FitS σ env os env' os') : Turns env os env' os' := by
  rcases f with f | ⟨σ, f⟩
  · exact .fit f
  · exact .fits f

section
variable {P : Program} {env : Env} {os : List AO} {d : Option Tmp} {ty : TypeId} {pos : String} {af : Array Edge} {g : Option (Nat × Bool)}
theorem deadAll_get {H : List Nat} (hn : H.Nodup) {os : List AO} {i : Nat} {y : AO} (h : (setAll os H (H.map fun _ => .dead))[i]? = some y) : (i ∈ H ∧ y = .dead) ∨ (i ∉ H ∧ os[i]? = some y) := by
  rcases setAll_get hn (by simp) h with ⟨k, h1, h2⟩ | h
  · refine .inl ⟨List.mem_of_getElem? h1, ?_⟩
    rw [List.getElem?_map, h1] at h2
    simpa using h2.symm
  · exact .inr h
theorem setAll_len : ∀ (H : List Nat) (os osP : List AO), (setAll os H osP).length = os.length
  | [], os, osP => by cases osP <;> rfl
  | h :: H, os, [] => rfl
  | h :: H, os, o :: osP => by rw [setAll, setAll_len H, List.length_set]
theorem c_callc {f : FuncId} {args : List AV} {objs : List AO} {Q : AV → List AO → Prop} (H : List Nat) (hc : AFnC P f args objs Q) {xs : List Operand} {ats : Array TypeId} (hh : Handed os H objs) (hi : ImmUs os H (xs.map (AV.ev env)) args) :
    COp P ⟨d, .call { callee := .value (.func f), args := xs.toArray, argTypes := ats }, ty, pos, af, g⟩ env os (fun r e o => ∃ r0 os', Q r0 os' ∧ r = r0.sh os.length ∧ e = env ∧ o = setAll os H (H.map fun _ => .dead) ++ os'.map (AO.sh os.length)) := by
  intro base w gs tm hr
  have hg := hi.get
  have hltH : ∀ h ∈ H, h < gs.length := fun h hm => by rw [hr.hl]; exact hh.lt h hm
  refine ⟨f, _, run_call hc.1 xs ats _ rfl w, (hc.2 base w (selG gs H) _ hr.hb (hr.objs hh) (by simpa using hg.1) fun i => ?_).mono ?_⟩
  · have h1 := hg.2 i
    have e1 : (xs.map (AV.ev env)).getD i .any = match xs[i]? with | some x => AV.ev env x | none => .any := by
      simp only [List.getD_eq_getElem?_getD, List.getElem?_map]; cases xs[i]? <;> rfl
    have e2 : (xs.map (Act.eval ⟨tm, []⟩)).toArray.getD i undef = match xs[i]? with | some x => Act.eval ⟨tm, []⟩ x | none => undef := by
      simp only [Array.getD_eq_getD_getElem?, List.getElem?_toArray, List.getElem?_map]; cases xs[i]? <;> rfl
    rw [e1] at h1
    rw [e2]
    cases hx : xs[i]? with
    | some x => rw [hx] at h1; exact h1.rv hr hh (hr.ev x)
    | none => rw [hx] at h1; exact h1.rv hr hh (.any _)
  · rintro e w' ⟨v, r, os', gs', rfl, hQ, hO', hv, hbl, hbel, hfr⟩
    have hl := hr.hl
    have hl' := hO'.hl
    have hlive : ∀ h, h ∈ H → ∃ o, os[h]? = some o ∧ o.plain := fun h hm => by
      obtain ⟨k, hk⟩ := List.getElem?_of_mem hm
      obtain ⟨o', h1, h2, h3⟩ := hh.get hk
      exact ⟨o', h2, h3⟩
    have selGet : ∀ {k : Nat} {x : Gh}, (selG gs H)[k]? = some x → ∃ h, h ∈ H ∧ gs[h]? = some x := fun hx => by
      obtain ⟨h, h1, h2⟩ := selG_get hltH hx
      exact ⟨h, List.mem_of_getElem? h1, h2⟩
    -- blocks of what is new
    have hnb : ∀ {i : Nat} {x : Gh}, gs'[i]? = some x → ∀ b, b ∈ x.bl → (∃ h gh, h ∈ H ∧ gs[h]? = some gh ∧ b ∈ gh.bl) ∨ w.heap.size ≤ b := fun hx b hb => by
      rcases hbl _ _ hx b hb with ⟨k, g0, h1, h2⟩ | h1
      · obtain ⟨h, h3, h4⟩ := selGet h1
        exact .inl ⟨h, g0, h3, h4, h2⟩
      · exact .inr h1
    have keepB : ∀ b, b < w.heap.size → (∀ h gh, h ∈ H → gs[h]? = some gh → b ∉ gh.bl) → w'.heap[b]? = w.heap[b]? := fun b hb hno => hfr b hb fun k x hx => by
      obtain ⟨h, h1, h2⟩ := selGet hx
      exact hno h x h1 h2
    let osN := setAll os H (H.map fun _ => .dead) ++ os'.map (AO.sh os.length)
    have hlen1 : (setAll os H (H.map fun _ => AO.dead)).length = gs.length := by rw [setAll_len, hl]
    have split : ∀ {i : Nat} {x : Gh} {y : AO}, (gs ++ gs')[i]? = some x → osN[i]? = some y → y ≠ .dead → (i ∉ H ∧ gs[i]? = some x ∧ os[i]? = some y) ∨ ∃ j o, i = os.length + j ∧ gs'[j]? = some x ∧ os'[j]? = some o ∧ y = o.sh os.length := by
      intro i x y hx hy hne
      by_cases hlt : i < gs.length
      · rw [List.getElem?_append_left hlt] at hx
        simp only [osN] at hy
        rw [List.getElem?_append_left (by rw [hlen1]; exact hlt)] at hy
        rcases deadAll_get hh.nd hy with ⟨_, rfl⟩ | ⟨h1, h2⟩
        · exact absurd rfl hne
        · exact .inl ⟨h1, hx, h2⟩
      · rw [List.getElem?_append_right (by omega)] at hx
        simp only [osN] at hy
        rw [List.getElem?_append_right (by rw [hlen1]; omega), hlen1, List.getElem?_map] at hy
        cases ho : os'[i - gs.length]? with
        | none => rw [ho] at hy; cases hy
        | some o =>
          rw [ho] at hy
          simp only [Option.map_some, Option.some.injEq] at hy
          exact .inr ⟨i - gs.length, o, by omega, hx, ho, hy.symm⟩
    have kp : Keeps (okOf gs os) (okOf (gs ++ gs') osN) w w' := by
      intro b hbk hlt
      refine ⟨fun i x y hx hy hny hm => ?_, keepB b hlt fun h gh hm hg hb => ?_⟩
      · rcases split hx hy hny.ne with ⟨_, h1, h2⟩ | ⟨j, o, _, h1, h2, rfl⟩
        · exact hbk i x y h1 h2 hny hm
        · rcases hnb h1 b hm with ⟨h, gh, hH, hgh, hbm⟩ | h3
          · obtain ⟨o', ho', hp⟩ := hlive h hH
            exact hbk h gh o' hgh ho' hp.live hbm
          · omega
      · obtain ⟨o', ho', hp⟩ := hlive h hm
        exact hbk h gh o' hg ho' hp.live hb
    have hgs : ∀ (i : Nat) g', gs[i]? = some g' → (gs ++ gs')[i]? = some g' := fun i g' e => by
      rw [List.getElem?_append_left (List.getElem?_eq_some_iff.1 e).1]; exact e
    have hplsh : ∀ o : AO, o.plain → (o.sh os.length) = o := fun o ho => by cases o <;> first | rfl | exact ho.elim
    have hsame : ∀ (i : Nat) x y, i ∉ H → gs[i]? = some x → os[i]? = some y → y ≠ .dead → ∀ b, b ∈ x.bl → w'.heap[b]? = w.heap[b]? := fun i x y hiH hx hy hne b hb => by
      refine keepB b (hr.hn i x y hx hy hne b hb).2 fun h gh hH hgh hbm => ?_
      obtain ⟨o', ho', hp⟩ := hlive h hH
      exact hr.hd i h x gh y o' (fun e => hiH (e ▸ hH)) hx hgh hy ho' hne hp.live.ne b hb hbm
    refine ⟨v, r.sh os.length, env, osN, gs ++ gs', rfl, ⟨r, os', hQ, rfl, rfl, rfl⟩, ?_, ?_, hbel⟩
    · refine ⟨Nat.le_trans hr.hb hbel.size, ?_, hr.hs, fun i => (hr.he i).mono kp hgs, ?_, ?_, ?_⟩
      · simp only [osN, List.length_append, List.length_map, hlen1, hl']
      · intro i x y hx hy
        by_cases hd : y = .dead
        · subst hd; trivial
        rcases split hx hy hd with ⟨h0, h1, h2⟩ | ⟨j, o, _, h1, h2, rfl⟩
        · exact (hr.ho i x y h1 h2).mono kp hgs fun hne b hb => hsame i x y h0 h1 h2 hne b hb
        · have hp := hO'.hp o (List.mem_of_getElem? h2)
          rw [hplsh o hp]
          exact hp.ro (hO'.ho j x o h1 h2)
      · intro i j x1 x2 y1 y2 hij hx1 hx2 hy1 hy2 hn1 hn2 b hb1 hb2
        rcases split hx1 hy1 hn1 with ⟨a0, a1, a2⟩ | ⟨j1, o1, e1, a1, a2, rfl⟩
        · rcases split hx2 hy2 hn2 with ⟨c0, c1, c2⟩ | ⟨j2, o2, e2, c1, c2, rfl⟩
          · exact hr.hd i j x1 x2 y1 y2 hij a1 c1 a2 c2 hn1 hn2 b hb1 hb2
          · rcases hnb c1 b hb2 with ⟨h, gh, hH, hgh, hbm⟩ | h3
            · obtain ⟨o', ho', hp⟩ := hlive h hH
              exact hr.hd i h x1 gh y1 o' (fun e => a0 (e ▸ hH)) a1 hgh a2 ho' hn1 hp.live.ne b hb1 hbm
            · have := (hr.hn i x1 y1 a1 a2 hn1 b hb1).2; omega
        · rcases split hx2 hy2 hn2 with ⟨c0, c1, c2⟩ | ⟨j2, o2, e2, c1, c2, rfl⟩
          · rcases hnb a1 b hb1 with ⟨h, gh, hH, hgh, hbm⟩ | h3
            · obtain ⟨o', ho', hp⟩ := hlive h hH
              exact hr.hd j h x2 gh y2 o' (fun e => c0 (e ▸ hH)) c1 hgh c2 ho' hn2 hp.live.ne b hb2 hbm
            · have := (hr.hn j x2 y2 c1 c2 hn2 b hb2).2; omega
          · exact hO'.hd j1 j2 x1 x2 (fun e => hij (by omega)) a1 c1 b hb1 hb2
      · intro i x y hx hy hne b hb
        rcases split hx hy hne with ⟨_, h1, h2⟩ | ⟨j, o, _, h1, h2, rfl⟩
        · have := hr.hn i x y h1 h2 hne b hb
          exact ⟨this.1, Nat.lt_of_lt_of_le this.2 hbel.size⟩
        · exact hO'.hn j x h1 b hb
    · have := hv.sh (ok' := okOf (gs ++ gs') osN) (gs0 := gs) (fun b hbk _ => hbk.elim)
      rw [hl] at this; exact this
end
section
variable {P : Program} {env : Env} {os : List AO} {d : Tmp} {ty : TypeId} {pos : String} {af : Array Edge} {l rest : List Oper} {K : APost}
theorem w_callc {f : FuncId} {args : List AV} {objs : List AO} {Q : AV → List AO → Prop} {xs : List Operand} {ats : Array TypeId} (H : List Nat) {m : Nat} (hc : AFnC P f args objs Q) (hm : os.length = m) (hh : Handed os H objs) (hi : ImmUs os H (xs.map (AV.ev env)) args)
    (h' : ∀ r os0, Q r os0 → AOps P .seq l rest K (env.up d (r.sh m)) (setAll os H (H.map fun _ => .dead) ++ os0.map (AO.sh m))) :
    AOps P .seq l (⟨some d, .call { callee := .value (.func f), args := xs.toArray, argTypes := ats }, ty, pos, af, none⟩ :: rest) K env os := by
  subst hm
  exact AOps.ca (c_callc H hc hh hi) fun r e o ⟨r0, os0, hq, h1, h2, h3⟩ => by subst h1; subst h2; subst h3; exact h' r0 os0 hq
end
end Go.Proofs.Ytlkhcelodcneiaa
/-
  Maps from pairs of integers to integers: made, read, written, walked in whatever order. No condition.
-/
namespace Go.Proofs.Ytlkhcelodcneiaa
open Go Go.RowKit
open Go.ChangeMaps (setBlock)

def mkey (i j : Int) : Value := .agg #[.int .i64 i, .int .i64 j]
/-- Pairs of integers as keys. -/
class TPair (P : Program) (kt : TypeId) (e : outParam TypeId) : Prop where
  hk : P.underlying kt = some (.array 2 e)
  he : P.underlying e = some (.int .i64)
  hi : ∃ ii, P.info? e = some ii
  hs : P.cellsOf e = 1
instance {P : Program} {kt e : TypeId} [h : TArr P kt e 2] [q : TKind P e .i64] : TPair P kt e := ⟨h.und, q.und, let ⟨i, h1, _⟩ := h.elm; ⟨i, h1⟩, by obtain ⟨i, h1, h2⟩ := h.elm; simp [Program.cellsOf, h1, h2]⟩
variable {P : Program}
/-! ### Maps from pairs to integers, as lists of triples in the order of their first writing -/
def entT (t : Int × Int × Int) : Value × Value := (mkey t.1 t.2.1, .int .i64 t.2.2)
def MapIs (es : Array MapEntry) (clock : Nat) (L : List (Int × Int × Int)) : Prop :=
  es.toList.map (fun e => (e.key, e.val)) = L.map entT ∧ (∀ e ∈ es.toList, e.born < clock) ∧ (es.toList.map (·.born)).Nodup
theorem keys_get {es : Array MapEntry} {L : List (Int × Int × Int)} (h : es.toList.map (fun e => (e.key, e.val)) = L.map entT) (k : Nat) (hk : k < L.length) :
    ∃ x, es[k]? = some x ∧ x.key = mkey (L.getD k (0, 0, 0)).1 (L.getD k (0, 0, 0)).2.1 ∧ x.val = .int .i64 (L.getD k (0, 0, 0)).2.2 := by
  have h1 := congrArg (·[k]?) h
  simp only [List.getElem?_map, List.getElem?_eq_getElem hk, Option.map_some, Array.getElem?_toList] at h1
  cases hx : es[k]? with
  | none => rw [hx] at h1; simp at h1
  | some x =>
    rw [hx] at h1
    simp only [Option.map_some, Option.some.injEq, entT, Prod.mk.injEq] at h1
    exact ⟨x, rfl, by rw [h1.1]; simp [List.getD_eq_getElem?_getD, hk], by rw [h1.2]; simp [List.getD_eq_getElem?_getD, hk]⟩
theorem size_of {es : Array MapEntry} {L : List (Int × Int × Int)} (h : es.toList.map (fun e => (e.key, e.val)) = L.map entT) : es.size = L.length := by
  have := congrArg List.length h
  simpa using this

/-! ### As objects, and as what is only read -/
def mapRo (L : List (Int × Int × Int)) : Ro where
  p w ok v := ∃ b es clock, v = .map (some b) ∧ ok b ∧ w.heap[b]? = some (.map es clock) ∧ MapIs es clock L
  up k h := by
    obtain ⟨b, es, clock, h1, h2, h3, h4⟩ := h
    have := k b h2 (Array.getElem?_eq_some_iff.1 h3).1
    exact ⟨b, es, clock, h1, this.1, this.2.trans h3, h4⟩
def mapAt (b : Nat) (es : Array MapEntry) (clock : Nat) : Ro where
  p w ok v := v = .map (some b) ∧ ok b ∧ w.heap[b]? = some (.map es clock)
  up k h := by
    obtain ⟨h1, h2, h3⟩ := h
    have := k b h2 (Array.getElem?_eq_some_iff.1 h3).1
    exact ⟨h1, this.1, this.2.trans h3⟩
def bornAt (es : Array MapEntry) (i : Nat) : Nat := ((es[i]?).map (·.born)).getD 0
/-- An iterator over the map at b, which has handed out the entries 'done'. -/
def itOb (b : Nat) (es : Array MapEntry) (clock : Nat) (done : List Nat) : Ob :=
  ob1 (fun r => .pointer (some ⟨r, 0, none⟩)) (fun o => ∃ since c0 seen, o = .mapIter (some b) since seen c0 ∧ since ≤ c0 ∧ (∀ x ∈ es.toList, x.born < since) ∧ seen.toList = done.map (bornAt es) ∧ (done = [] ∨ c0 = clock) ∧ since ≤ clock) fun _ => ⟨rfl, rfl⟩

/-- A slot may be seen otherwise. -/
theorem Rel.see {base : Nat} {w : World} {gs : List Gh} {env : Env} {os : List AO} {tm : Array Value} (h : Rel base w gs env os tm) {k : Nat} {a : AV} (ha : RV w (okOf gs os) gs (tm.getD k undef) a) : Rel base w gs (env.up k a) os tm where
  hb := h.hb
  hl := h.hl
  hs := by simpa [Env.up] using h.hs
  he i := by
    rw [Env.lk_up]
    split
    · rename_i hi; rw [hi.1]; exact ha
    · exact h.he i
  ho := h.ho
  hd := h.hd
  hn := h.hn

section
variable {P : Program} {wl : Bool} {env : Env} {os : List AO} {d : Option Tmp} {ty : TypeId} {pos : String} {af : Array Edge} {g : Option (Nat × Bool)}

theorem AWp.open {c : Code} {N : Env → List AO → Prop} {X : Nat → Env → List AO → Prop} {Rt : Env → List AO → Prop} (k : Nat) {L : List (Int × Int × Int)} (hk : env.fd k = some (.ro (mapRo L)))
    (h : ∀ b es clock, MapIs es clock L → AWp P c N X Rt (env.up k (.ro (mapAt b es clock))) os) : AWp P c N X Rt env os := by
  intro base w0 w gs tm hr
  have hv := hr.he k
  rw [Env.lk_of hk] at hv
  generalize hu : tm.getD k undef = u at hv
  cases hv with
  | ro h1 =>
    obtain ⟨b, es, clock, e1, e2, e3, hM⟩ := h1
    exact h b es clock hM base w0 w gs tm (hr.see (by rw [hu]; exact .ro ⟨e1, e2, e3⟩))

theorem Ret1.ob {h : Nat} {q : Ob} (hs : os[h]? = some (.ob q)) : Ret1 os (.own h) (.own 0) [.ob q] := fun base w gs env tm hr u hu => by
  cases hu with
  | @own _ g hg => exact ⟨[g], .one (hr.ho _ _ _ hg hs) fun b hb => hr.hn _ _ _ hg hs (by simp) b hb, .own rfl⟩

theorem map_at {base : Nat} {w : World} {gs : List Gh} {tm : Array Value} (hr : Rel base w gs env os tm) {x : Operand} {b : Nat} {es : Array MapEntry} {clock : Nat} (hx : AV.ev env x = .ro (mapAt b es clock)) :
    Act.eval ⟨tm, []⟩ x = .map (some b) ∧ okOf gs os b ∧ w.heap[b]? = some (.map es clock) := by
  have h := hr.ev x
  rw [hx] at h
  generalize Act.eval ⟨tm, []⟩ x = v at h
  cases h with
  | ro h1 => exact h1

theorem setBlock_other (w : World) (r c : Nat) (o : Obj) (h : c ≠ r) : (setBlock w r o).heap[c]? = w.heap[c]? := by
  simp only [setBlock]
  rw [Array.getElem?_setIfInBounds, if_neg (fun e => h e.symm)]
theorem setBlock_same (w : World) (r : Nat) (o : Obj) (h : r < w.heap.size) : (setBlock w r o).heap[r]? = some o := by
  simp only [setBlock]
  rw [Array.getElem?_setIfInBounds, if_pos rfl, if_pos h]
theorem setBlock_below {w w1 : World} {base r : Nat} {o : Obj} (h1 : w1 = w ∨ w1 = w.drew) (hr : base ≤ r) : Below base w (setBlock w1 r o) := by
  have : Below base w w1 := by rcases h1 with rfl | rfl; exact Below.refl _ _; exact (Below.refl _ _).drew
  exact ⟨this.os, this.tape, this.output, by simpa [setBlock] using this.size, fun k hk => by rw [setBlock_other _ _ _ _ (by omega)]; exact this.block k hk⟩

theorem born_inj {es : Array MapEntry} {clock : Nat} {L : List (Int × Int × Int)} (hM : MapIs es clock L) {i j : Nat} (hi : i < L.length) (hj : j < L.length) (h : bornAt es i = bornAt es j) : i = j := by
  obtain ⟨x, hx, _⟩ := keys_get hM.1 i hi
  obtain ⟨y, hy, _⟩ := keys_get hM.1 j hj
  simp only [bornAt, hx, hy, Option.map_some, Option.getD_some] at h
  have hn := hM.2.2
  have hs := size_of hM.1
  have gi : (es.toList.map (·.born))[i]? = some x.born := by simp [hx]
  have gj : (es.toList.map (·.born))[j]? = some y.born := by simp [hy]
  exact (List.getElem?_inj (by simp; omega) hn).1 (gi.trans (by rw [h]; exact gj.symm))

/-- One round of a loop over a map begins, or the loop ends. -/
theorem AOps.next {l rest : List Oper} {K : APost} {d : Tmp} {it : Operand} {h : Nat} {b : Nat} {es : Array MapEntry} {clock : Nat} {done : List Nat} {L : List (Int × Int × Int)} (m : Operand) (hM : MapIs es clock L) (hdone : ∀ i ∈ done, i < L.length)
    (hx : evo env it = some (.own h)) (hs : os[h]? = some (.ob (itOb b es clock done))) (hm : evo env m = some (.ro (mapAt b es clock)))
    (h0 : (∀ i, i < L.length → i ∈ done) → AOps P .seq l rest K (env.up d (.val (.tuple #[.bool false]))) os)
    (h1 : ∀ i, i < L.length → i ∉ done → AOps P .seq l rest K (env.up d (.val (.tuple #[.bool true, mkey (L.getD i (0, 0, 0)).1 (L.getD i (0, 0, 0)).2.1, .int .i64 (L.getD i (0, 0, 0)).2.2]))) (os.set h (.ob (itOb b es clock (done ++ [i]))))) :
    AOps P .seq l (⟨some d, .next it false, ty, pos, af, none⟩ :: rest) K env os := by
  intro base w0 w gs tm hr hb X Rt
  obtain ⟨_, hok, hmap⟩ := map_at hr (ev_of hm)
  have hh := hr.ev it
  rw [ev_of hx] at hh
  generalize hu : Act.eval ⟨tm, []⟩ it = u at hh
  cases hh with
  | @own _ gh hg =>
    obtain ⟨o, a1, ⟨since, c0, seen, rfl, q1, q2, q3, q4, q5⟩, a3, a4, a5⟩ := hr.ho _ _ _ hg hs
    have e5 : gh.v = .pointer (some ⟨gh.b, 0, none⟩) := a5
    have hlt : gh.b < w.heap.size := (Array.getElem?_eq_some_iff.1 a1).1
    have mem_seen : ∀ i, i < L.length → (bornAt es i ∈ seen.toList ↔ i ∈ done) := by
      intro i hi
      rw [q3, List.mem_map]
      constructor
      · rintro ⟨j, hj, e⟩
        have := born_inj hM (hdone j hj) hi e
        rwa [← this]
      · intro hi2; exact ⟨i, hi2, rfl⟩
    refine wpList_plain rfl fun K hK => ?_
    unfold Oper.wp
    rcases run_next_at (P := P) w ty gh.b b since c0 seen es clock a1 hmap q2 q1 with ⟨hz, hrun⟩ | ⟨e, he, w1, hw1, hrun⟩
    · have hrun' : (execOp (Act.eval ⟨tm, []⟩) ⟨some d, .next it false, ty, pos, af, none⟩).run P w = .ok (.value (.tuple #[.bool false])) w := by
        simp only [execOp, hu, e5, Sem.run_bind, hrun, Result.andThen_ok, Sem.run_pure]
      rw [hrun']
      refine hK _ _ (h0 (fun i hi => ?_) base w0 w gs _ (hr.put (.val _) d) hb X Rt)
      obtain ⟨x, hxe, _⟩ := keys_get hM.1 i hi
      have hnil : leftOf es seen = #[] := Array.eq_empty_of_size_eq_zero hz
      unfold leftOf at hnil
      rw [Array.filter_eq_empty_iff] at hnil
      have := hnil x (Array.mem_of_getElem? hxe)
      simp only [Bool.not_eq_true, Bool.not_eq_false', Array.contains_eq_mem, decide_eq_true_eq] at this
      refine (mem_seen i hi).1 ?_
      simpa [bornAt, hxe] using this
    · unfold leftOf at he
      simp only [Array.mem_toList_iff, Array.mem_filter, Bool.not_eq_true', Array.contains_eq_mem, decide_eq_false_iff_not] at he
      obtain ⟨hmem, hns⟩ := he
      obtain ⟨i, hi⟩ := Array.getElem?_of_mem hmem
      have hiL : i < L.length := by
        have := (Array.getElem?_eq_some_iff.1 hi).1
        have := size_of hM.1
        omega
      obtain ⟨x, hxe, k1, k2⟩ := keys_get hM.1 i hiL
      have ex : x = e := Option.some.inj (hxe.symm.trans hi)
      subst ex
      have hnd : i ∉ done := fun hc => hns (by have := (mem_seen i hiL).2 hc; simpa [bornAt, hxe] using this)
      have hrun' : (execOp (Act.eval ⟨tm, []⟩) ⟨some d, .next it false, ty, pos, af, none⟩).run P w = .ok (.value (.tuple #[.bool true, mkey (L.getD i (0, 0, 0)).1 (L.getD i (0, 0, 0)).2.1, .int .i64 (L.getD i (0, 0, 0)).2.2])) (setBlock w1 gh.b (.mapIter (some b) since (seen.push x.born) clock)) := by
        simp only [execOp, hu, e5, Sem.run_bind, hrun, Result.andThen_ok, Sem.run_pure, k1, k2]
      rw [hrun']
      have hw1h : w1.heap = w.heap := by rcases hw1 with rfl | rfl <;> rfl
      refine hK _ _ (h1 i hiL hnd base w0 _ gs _ ((hr.upd hg hs trivial (.ob (itOb b es clock (done ++ [i]))) trivial (fun c _ hc => ?_) ?_ fun _ => ?_).put (.val _) d) (hb.trans (setBlock_below hw1 a3)) X Rt)
      · rw [setBlock_other _ _ _ _ (fun e => hc (by rw [a4, e]; simp)), hw1h]
      · simp [setBlock, hw1h]
      · exact ⟨_, setBlock_same _ _ _ (by rw [hw1h]; exact hlt), ⟨since, clock, seen.push x.born, rfl, q5, q2, by simp [q3, bornAt, hxe], .inr rfl, q5⟩, a3, a4, a5⟩

variable {l rest : List Oper} {K : APost} {q : Md}
end
end Go.Proofs.Ytlkhcelodcneiaa
/-
  A few polynomials (structs of one slice) handed on as a slice. No condition.
-/
namespace Go.Proofs.Ytlkhcelodcneiaa
open Go Go.RowKit

section
variable {P : Program} {wl : Bool} {env : Env} {os : List AO} {d : Option Tmp} {ty : TypeId} {pos : String} {af : Array Edge} {g : Option (Nat × Bool)}

variable {l rest : List Oper} {K : APost} {q : Md}
end
end Go.Proofs.Ytlkhcelodcneiaa
/-
  Lists of polynomials (structs of one slice): their parts, own lists of polynomials; parts of own slices handed back. No condition.
-/
namespace Go.Proofs.Ytlkhcelodcneiaa
open Go Go.RowKit
section
variable {P : Program} {wl : Bool} {env : Env} {os : List AO} {d : Option Tmp} {ty : TypeId} {pos : String} {af : Array Edge} {g : Option (Nat × Bool)}

/-! ### Read as a list of polynomials -/
/-- The element 'a' reads as the polynomial 'f'; the handles behind it. -/
inductive PlE (os : List AO) : AV → List (List Int) → List Nat → Prop
  | intss (f : List (List Int)) : PlE os (.intss f) f []
  | nil : PlE os (.val (.slice none 0 0)) [] []
  | sls {h : Nat} {e e2 : TypeId} {f : List (List Int)} : os[h]? = some (.sls e e2 f) → PlE os (.own h) f [h]
theorem PlE.at {base : Nat} {w : World} {gs : List Gh} {ok : Nat → Prop} {a : AV} {f : List (List Int)} {hs : List Nat} (he : PlE os a f hs) (hro : ∀ (h : Nat) g o, gs[h]? = some g → os[h]? = some o → RO base w (okOf gs os) gs g o)
    (hok : ∀ h, h ∈ hs → ∀ g o, gs[h]? = some g → os[h]? = some o → o ≠ .dead → ∀ b, b ∈ g.bl → ok b) (kp : Keeps (okOf gs os) ok w w) {u : Value} (hu : RV w (okOf gs os) gs u a) : IntssAt w ok u f := by
  cases he with
  | intss => cases hu with | intss h => exact h.mono kp
  | nil => cases hu; exact IntssAt.nil
  | @sls h e e2 _ h1 =>
    cases hu with
    | own hg =>
      obtain ⟨vs, bs, mb, a1, a2, a3, a4, a5, a6, a7, a8⟩ := hro _ _ _ hg h1
      have hb := hok h (by simp) _ _ hg h1 (by simp)
      refine ⟨vs, RowAt.of_owns' a1 fun b hbb => hb b ?_, a2, fun i u hu => ⟨RowAt.of_owns' (a5 i u hu).1 fun b hbb => hb b ?_, (a5 i u hu).2.1⟩⟩
      · rw [a7]
        rcases a6 with ⟨h6, _⟩ | ⟨h6, h6'⟩
        · rw [h6] at hbb; cases hbb
        · rw [h6] at hbb; cases hbb; simp [h6']
      · have hi := (List.getElem?_eq_some_iff.1 hu).1
        rw [a7]
        refine List.mem_append.2 (.inr (List.mem_flatten.2 ⟨bs.getD i [], ?_, by rw [← (a5 i u hu).2.2, hbb]; simp⟩))
        rw [List.getD_eq_getElem?_getD, List.getElem?_eq_getElem (by omega)]
        simp
def PlL (os : List AO) : List AV → List (List (List Int)) → List Nat → Prop
  | [], [], hs => hs = []
  | a :: avs, f :: fs, hs => ∃ h1 h2, PlE os a f h1 ∧ PlL os avs fs h2 ∧ hs = h1 ++ h2
  | _, _, _ => False
theorem PlL.get : ∀ {avs : List AV} {fs : List (List (List Int))} {hs : List Nat}, PlL os avs fs hs → avs.length = fs.length ∧ ∀ (i : Nat) a, avs[i]? = some a → ∃ h1, PlE os a (fs.getD i []) h1 ∧ ∀ h, h ∈ h1 → h ∈ hs
  | [], [], hs, _ => ⟨rfl, fun i a h => by simp at h⟩
  | a :: avs, f :: fs, hs, ⟨h1, h2, p1, p2, e⟩ => by
    have ih := PlL.get p2
    refine ⟨by simp [ih.1], fun i x hx => ?_⟩
    match i with
    | 0 =>
      simp at hx; subst hx
      exact ⟨h1, by simpa using p1, fun h hh => by rw [e]; simp [hh]⟩
    | i + 1 =>
      obtain ⟨h3, q1, q2⟩ := ih.2 i x (by simpa using hx)
      exact ⟨h3, by simpa using q1, fun h hh => by rw [e]; simp [q2 h hh]⟩
  | [], _ :: _, _, h => h.elim
  | _ :: _, [], _, h => h.elim
/-! ### Parts of own slices -/
theorem Ret1.osub {h off len : Nat} {e : TypeId} {xs : List Int} (hs : os[h]? = some (.sli e xs)) : Ret1 os (.osub h off len) (.osub 0 off len) [.sli e xs] := fun base w gs env tm hr u hu => by
  cases hu with
  | osub hg hp hc hm =>
    exact ⟨[_], .one (hr.ho _ _ _ hg hs) fun b hb => hr.hn _ _ _ hg hs (by simp) b hb, .osub rfl hp hc hm⟩
end
section
variable {P : Program} {env : Env} {os : List AO} {d : Tmp} {ty : TypeId} {pos : String} {af : Array Edge} {g : Option (Nat × Bool)} {l rest : List Oper} {K : APost} {q : Md}
end
end Go.Proofs.Ytlkhcelodcneiaa
/-
  A row of an own slice of rows is handed to a function that writes to it. No condition.
-/
namespace Go.Proofs.Ytlkhcelodcneiaa
open Go Go.RowKit

section
variable {P : Program} {env : Env} {os : List AO} {d : Tmp} {ty : TypeId} {pos : String} {af : Array Edge} {l rest : List Oper} {K : APost}
end

end Go.Proofs.Ytlkhcelodcneiaa
/-
  Own slices of structs of one slice of rows: all of it own memory. No condition.
-/
namespace Go.Proofs.Ytlkhcelodcneiaa
open Go Go.RowKit
set_option linter.unusedVariables false
set_option linter.unusedSimpArgs false

abbrev Pls := List (List (List Int))
/-- The part 'p' reads as the rows 'f'. -/
def PartP (e1 e2 : TypeId) (f : List (List Int)) (base : Nat) (w : World) (p : Gh) : Prop := RO base w (fun _ => True) [] p (.sls e1 e2 f)
theorem PartP.ro {e1 e2 : TypeId} {f : List (List Int)} {base : Nat} {w : World} {p : Gh} (h : PartP e1 e2 f base w p) {ok : Nat → Prop} {gs : List Gh} : RO base w ok gs p (.sls e1 e2 f) := AO.plain.ro (o := .sls e1 e2 f) trivial h
theorem PartP.of {e1 e2 : TypeId} {f : List (List Int)} {base : Nat} {w : World} {p : Gh} {ok : Nat → Prop} {gs : List Gh} (h : RO base w ok gs p (.sls e1 e2 f)) : PartP e1 e2 f base w p := AO.plain.ro (o := .sls e1 e2 f) trivial h
theorem PartP.up {e1 e2 : TypeId} {f : List (List Int)} {base : Nat} {w w' : World} {p : Gh} (hb : ∀ b, b ∈ p.bl → w'.heap[b]? = w.heap[b]?) (h : PartP e1 e2 f base w p) : PartP e1 e2 f base w' p :=
  PartP.of (RO.mono (ok := fun _ => False) (ok' := fun _ => False) (gs := []) (gs' := []) (fun b hb _ => hb.elim) (fun h g e => e) (fun _ => hb) h.ro)
theorem owns_lower {w : World} {base base' : Nat} {e : TypeId} {v : Value} {n : Nat} {vs : List Value} (hl : base' ≤ base) (h : w.ownsRow base e 1 v n vs) : w.ownsRow base' e 1 v n vs := by
  refine ⟨h.1, h.2.imp id ?_⟩
  rintro ⟨g, cap, cur, e1, e2, r⟩
  exact ⟨g, cap, cur, e1, Nat.le_trans hl e2, r⟩
theorem PartP.lower {e1 e2 : TypeId} {f : List (List Int)} {base base' : Nat} {w : World} {p : Gh} (hl : base' ≤ base) (h : PartP e1 e2 f base w p) : PartP e1 e2 f base' w p := by
  obtain ⟨vs, bs, mb, a1, a2, a3, a4, a5, r⟩ := h
  exact ⟨vs, bs, mb, owns_lower hl a1, a2, a3, a4, fun i u hu => ⟨owns_lower hl (a5 i u hu).1, (a5 i u hu).2⟩, r⟩
theorem PartP.nodup {e1 e2 : TypeId} {f : List (List Int)} {base : Nat} {w : World} {p : Gh} (h : PartP e1 e2 f base w p) : p.bl.Nodup := by
  obtain ⟨vs, bs, mb, _, _, _, _, _, _, _, h8⟩ := h; exact h8
theorem PartP.one {e1 e2 : TypeId} {f : List (List Int)} {base : Nat} {w : World} {p : Gh} (h : PartP e1 e2 f base w p) : p.v.oneCell' = true ∧ p.v.cells = #[p.v] := by
  obtain ⟨vs, bs, mb, h1, _⟩ := h
  obtain ⟨a, cap, e1⟩ := ownsRow_slice h1
  rw [e1]; exact ⟨rfl, rfl⟩
theorem PartP.reads {e1 e2 : TypeId} {f : List (List Int)} {base : Nat} {w : World} {p : Gh} (h : PartP e1 e2 f base w p) {ok : Nat → Prop} (hb : ∀ b, b ∈ p.bl → ok b) : IntssAt w ok p.v f := by
  obtain ⟨vs, bs, mb, a1, a2, a3, a4, a5, a6, a7, a8⟩ := h
  refine ⟨vs, RowAt.of_owns' a1 fun b hbb => hb b ?_, a2, fun i u hu => ⟨RowAt.of_owns' (a5 i u hu).1 fun b hbb => hb b ?_, (a5 i u hu).2.1⟩⟩
  · rw [a7]
    rcases a6 with ⟨h6, _⟩ | ⟨h6, h6'⟩
    · rw [h6] at hbb; cases hbb
    · rw [h6] at hbb; cases hbb; simp [h6']
  · have hi := (List.getElem?_eq_some_iff.1 hu).1
    rw [a7]
    refine List.mem_append.2 (.inr (List.mem_flatten.2 ⟨bs.getD i [], ?_, by rw [← (a5 i u hu).2.2, hbb]; simp⟩))
    rw [List.getD_eq_getElem?_getD, List.getElem?_eq_getElem (by omega)]
    simp

section
variable {P : Program} {wl : Bool} {env : Env} {os : List AO} {d : Option Tmp} {ty : TypeId} {pos : String} {af : Array Edge} {g : Option (Nat × Bool)}

end
section
variable {P : Program} {env : Env} {os : List AO} {d : Tmp} {ty : TypeId} {pos : String} {af : Array Edge} {g : Option (Nat × Bool)} {l rest : List Oper} {K : APost} {q : Md}
end
end Go.Proofs.Ytlkhcelodcneiaa
/-
  A struct of one own slice of rows behind a pointer, as one object; functions that write to it in its place. No condition.
-/
namespace Go.Proofs.Ytlkhcelodcneiaa
open Go Go.RowKit
set_option linter.unusedVariables false

def CntP (T e e2 : TypeId) (L : List (List Int)) (base : Nat) (w : World) (g : Gh) : Prop :=
  ∃ p : Gh, w.heap[g.b]? = some (.cells #[p.v] T (0, 0)) ∧ base ≤ g.b ∧ g.v = .pointer (some ⟨g.b, 0, none⟩) ∧ PartP e e2 L base w p ∧ g.bl = g.b :: p.bl ∧ g.b ∉ p.bl
def cntOb (T e e2 : TypeId) (L : List (List Int)) : Ob where
  p := CntP T e e2 L
  up {base w w' g} hb h := by
    obtain ⟨p, a1, a2, a3, a4, a5, a6⟩ := h
    exact ⟨p, by rw [hb g.b (by rw [a5]; simp)]; exact a1, a2, a3, a4.up fun b hbb => hb b (by rw [a5]; simp [hbb]), a5, a6⟩
  lower hl h := by
    obtain ⟨p, a1, a2, a3, a4, a5, a6⟩ := h
    exact ⟨p, a1, Nat.le_trans hl a2, a3, a4.lower hl, a5, a6⟩
  one h := by
    obtain ⟨p, a1, a2, a3, _⟩ := h
    rw [a3]; exact ⟨rfl, rfl⟩

theorem RO.via {base : Nat} {w : World} {ok ok' : Nat → Prop} {gs gs' : List Gh} {x : Gh} {z : AO} {h : Nat} (hz : RO base w ok gs x z) (kp : Keeps ok ok' w w) (sv : SameV h gs gs') : RO base w ok' gs' x (z.via (AV.noRow h) h) := by
  cases z with
  | ob q => exact hz
  | dead => trivial
  | sli e xs => exact hz
  | sls e e2 xss => exact hz
  | bx T avs =>
    obtain ⟨cs, h1, h2, h3, h4, h5, h6, h7⟩ := hz
    exact ⟨cs, h1, h2, h3, h4, by simpa using h5, h6, fun j => by rw [getD_map_f _ rfl]; exact (h7 j).noRow kp sv⟩
  | slr e avs =>
    obtain ⟨vs, h1, h2, h3, h4⟩ := hz
    exact ⟨vs, h1, by simpa using h2, fun j => by rw [getD_map_f _ rfl]; exact (h3 j).noRow kp sv, h4⟩
  | keep n K =>
    obtain ⟨h1, h2, h3⟩ := hz
    simp only [AO.via]
    split
    · exact ⟨h1, rfl, fun i x hx => by simp at hx⟩
    · refine ⟨h1, h2, fun i y hy => ?_⟩
      have := (List.getElem?_eq_some_iff.1 hy).1
      exact sv.other i y (by omega) (h3 i y hy)

set_option maxHeartbeats 1000000 in
theorem Turns.split {env : Env} {os : List AO} {h m : Nat} {T e e2 : TypeId} {L : List (List Int)} (hs : os[h]? = some (.ob (cntOb T e e2 L))) (hm : os.length = m) :
    Turns env os (env.mp (AV.noRow h)) (((os.map (AO.via (AV.noRow h) h)).set h (.bx T [.own m])) ++ [.sls e e2 L]) := by
  subst hm
  intro base w gs tm hr
  have hlt : h < os.length := (List.getElem?_eq_some_iff.1 hs).1
  have hgl : h < gs.length := by rw [hr.hl]; exact hlt
  obtain ⟨gh, hg⟩ : ∃ x, gs[h]? = some x := ⟨_, List.getElem?_eq_getElem hgl⟩
  obtain ⟨p, a1, a2, a3, a4, a5, a6⟩ := hr.ho _ _ _ hg hs
  let g' : Gh := ⟨gh.v, gh.b, [gh.b], []⟩
  have hgn := hr.hn _ _ _ hg hs (by simp)
  have sub1 : ∀ b, b ∈ g'.bl → b ∈ gh.bl := fun b hb => by rw [a5]; simp [g'] at hb; simp [hb]
  have sub2 : ∀ b, b ∈ p.bl → b ∈ gh.bl := fun b hb => by rw [a5]; simp [hb]
  have sv : SameV h gs (gs.set h g' ++ [p]) := by
    refine ⟨fun j z hj hz => ?_, fun z hz => ⟨g', ?_, ?_⟩⟩
    · have := (List.getElem?_eq_some_iff.1 hz).1
      rw [List.getElem?_append_left (by rw [List.length_set]; exact this), List.getElem?_set, if_neg (fun e => hj e.symm)]; exact hz
    · rw [List.getElem?_append_left (by rw [List.length_set]; exact hgl), List.getElem?_set_self hgl]
    · rw [hg] at hz; cases hz; exact ⟨rfl, rfl⟩
  have gget : ∀ {i : Nat} {x : Gh}, (gs.set h g' ++ [p])[i]? = some x → (i = h ∧ x = g') ∨ (i ≠ h ∧ i < gs.length ∧ gs[i]? = some x) ∨ (i = gs.length ∧ x = p) := by
    intro i x hx
    rcases Nat.lt_or_ge i gs.length with hi | hi
    · rw [List.getElem?_append_left (by rw [List.length_set]; exact hi), List.getElem?_set] at hx
      split at hx
      · subst_vars; simp at hx; exact .inl ⟨rfl, hx.symm⟩
      · exact .inr (.inl ⟨fun e => by simp_all, hi, hx⟩)
    · have h2 := (List.getElem?_eq_some_iff.1 hx).1
      simp at h2
      have : i = gs.length := by omega
      subst this
      rw [List.getElem?_append_right (by simp)] at hx
      simp at hx
      exact .inr (.inr ⟨rfl, hx.symm⟩)
  have oget : ∀ {i : Nat} {y : AO}, (((os.map (AO.via (AV.noRow h) h)).set h (.bx T [.own os.length])) ++ [AO.sls e e2 L])[i]? = some y → (i = h ∧ y = .bx T [.own os.length]) ∨ (i ≠ h ∧ i < os.length ∧ ∃ z, os[i]? = some z ∧ y = z.via (AV.noRow h) h) ∨ (i = os.length ∧ y = .sls e e2 L) := by
    intro i y hy
    rcases Nat.lt_or_ge i os.length with hi | hi
    · rw [List.getElem?_append_left (by simpa using hi), List.getElem?_set] at hy
      split at hy
      · subst_vars; simp [hi] at hy; exact .inl ⟨rfl, hy.symm⟩
      · refine .inr (.inl ⟨fun e => by simp_all, hi, ?_⟩)
        rw [List.getElem?_map] at hy
        cases hz : os[i]? with
        | none => simp [hz] at hy
        | some z => simp [hz] at hy; exact ⟨z, rfl, hy.symm⟩
    · have h2 := (List.getElem?_eq_some_iff.1 hy).1
      simp at h2
      have : i = os.length := by omega
      subst this
      rw [List.getElem?_append_right (by simp)] at hy
      simp at hy
      exact .inr (.inr ⟨rfl, hy.symm⟩)
  have kp : Keeps (okOf gs os) (okOf (gs.set h g' ++ [p]) (((os.map (AO.via (AV.noRow h) h)).set h (.bx T [.own os.length])) ++ [AO.sls e e2 L])) w w := by
    intro b hb _
    refine ⟨fun i x y hx hy hny hm => ?_, rfl⟩
    rcases gget hx with ⟨_, rfl⟩ | ⟨h1, h2, h3⟩ | ⟨_, rfl⟩
    · exact hb h gh _ hg hs trivial (sub1 b hm)
    · rcases oget hy with ⟨h4, _⟩ | ⟨_, _, z, hz, rfl⟩ | ⟨h4, _⟩
      · exact h1 h4
      · exact hb i x z h3 hz (AO.via_live.1 hny) hm
      · rw [← hr.hl] at h4; omega
    · exact hb h gh _ hg hs trivial (sub2 b hm)
  have hl := hr.hl
  refine ⟨gs.set h g' ++ [p], hr.hb, by simp [hl], hr.hs, fun i => by rw [Env.lk_mp _ rfl]; exact (hr.he i).noRow kp sv, ?_, ?_, ?_⟩
  · intro i x y hx hy
    rcases oget hy with ⟨rfl, rfl⟩ | ⟨h1, h2, z, hz, rfl⟩ | ⟨rfl, rfl⟩
    · rcases gget hx with ⟨_, rfl⟩ | ⟨h1, _⟩ | ⟨h1, _⟩
      · refine ⟨[p.v], a1, a2, rfl, a3, rfl, fun c hc => by simp at hc; subst hc; exact a4.one.1, fun j => ?_⟩
        match j with
        | 0 => exact .own (by rw [← hl]; simp)
        | j + 1 => exact .any _
      · exact absurd rfl h1
      · omega
    · rcases gget hx with ⟨h4, _⟩ | ⟨_, _, h3⟩ | ⟨h4, _⟩
      · exact absurd h4 h1
      · exact RO.via (hr.ho i x z h3 hz) kp sv
      · omega
    · rcases gget hx with ⟨h4, _⟩ | ⟨_, h4, _⟩ | ⟨_, rfl⟩
      · omega
      · omega
      · exact a4.ro
  · intro i j x y o1 o2 hij hx hy ho1 ho2 hn1 hn2 b hb1 hb2
    have olive : ∀ {i : Nat} {y : AO}, i ≠ h → i < gs.length → (((os.map (AO.via (AV.noRow h) h)).set h (.bx T [.own os.length])) ++ [AO.sls e e2 L])[i]? = some y → y ≠ .dead → ∃ z, os[i]? = some z ∧ z ≠ .dead := by
      intro i y h1 h2 hy hny
      rcases oget hy with ⟨h4, _⟩ | ⟨_, _, z, hz, rfl⟩ | ⟨h4, _⟩
      · exact absurd h4 h1
      · exact ⟨z, hz, fun e => hny (AO.via_dead.2 e)⟩
      · omega
    rcases gget hx with ⟨rfl, rfl⟩ | ⟨h1, h2, h3⟩ | ⟨rfl, rfl⟩
    · rcases gget hy with ⟨rfl, rfl⟩ | ⟨k1, k2, k3⟩ | ⟨rfl, rfl⟩
      · exact hij rfl
      · obtain ⟨z, hz, hzn⟩ := olive k1 k2 ho2 hn2
        exact hr.hd _ _ gh y _ z (fun e => k1 e.symm) hg k3 hs hz (by simp) hzn b (sub1 b hb1) hb2
      · simp [g'] at hb1; subst hb1; exact a6 hb2
    · obtain ⟨z, hz, hzn⟩ := olive h1 h2 ho1 hn1
      rcases gget hy with ⟨rfl, rfl⟩ | ⟨k1, k2, k3⟩ | ⟨rfl, rfl⟩
      · exact hr.hd _ _ x gh z _ h1 h3 hg hz hs hzn (by simp) b hb1 (sub1 b hb2)
      · obtain ⟨z2, hz2, hzn2⟩ := olive k1 k2 ho2 hn2
        exact hr.hd i j x y z z2 hij h3 k3 hz hz2 hzn hzn2 b hb1 hb2
      · exact hr.hd _ _ x gh z _ h1 h3 hg hz hs hzn (by simp) b hb1 (sub2 b hb2)
    · rcases gget hy with ⟨rfl, rfl⟩ | ⟨k1, k2, k3⟩ | ⟨rfl, rfl⟩
      · simp [g'] at hb2; subst hb2; exact a6 hb1
      · obtain ⟨z, hz, hzn⟩ := olive k1 k2 ho2 hn2
        exact hr.hd _ _ gh y _ z (fun e => k1 e.symm) hg k3 hs hz (by simp) hzn b (sub2 b hb1) hb2
      · exact hij rfl
  · intro i x y hx hy hny b hb
    rcases gget hx with ⟨rfl, rfl⟩ | ⟨h1, h2, h3⟩ | ⟨rfl, rfl⟩
    · exact hgn b (sub1 b hb)
    · rcases oget hy with ⟨h4, _⟩ | ⟨_, _, z, hz, rfl⟩ | ⟨h4, _⟩
      · exact absurd h4 h1
      · exact hr.hn i x z h3 hz (fun e => hny (AO.via_dead.2 e)) b hb
      · omega
    · exact hgn b (sub2 b hb)

theorem Turns.join {env : Env} {os : List AO} {h k : Nat} {T e e2 : TypeId} {L : List (List Int)} (hs : os[h]? = some (.bx T [.own k])) (hk : os[k]? = some (.sls e e2 L)) (hhk : (h == k) = false) :
    Turns env os (env.mp (AV.noRow h)) (((os.map (AO.via (AV.noRow h) h)).set h (.ob (cntOb T e e2 L))).set k .dead) := by
  have hne : h ≠ k := by simpa using hhk
  intro base w gs tm hr
  have hgl : h < gs.length := by rw [hr.hl]; exact (List.getElem?_eq_some_iff.1 hs).1
  have hkl : k < gs.length := by rw [hr.hl]; exact (List.getElem?_eq_some_iff.1 hk).1
  obtain ⟨gh, hg⟩ : ∃ x, gs[h]? = some x := ⟨_, List.getElem?_eq_getElem hgl⟩
  obtain ⟨gk, hgk⟩ : ∃ x, gs[k]? = some x := ⟨_, List.getElem?_eq_getElem hkl⟩
  obtain ⟨cs, c1, c2, c3, c4, c5, c6, c7⟩ := hr.ho _ _ _ hg hs
  have hpk : PartP e e2 L base w gk := PartP.of (hr.ho _ _ _ hgk hk)
  match cs, c5 with
  | [c0], _ =>
  have h0 := c7 0
  simp only [List.getD_cons_zero] at h0
  have e0 : c0 = gk.v := by
    cases h0 with
    | own hh => rw [hgk] at hh; cases hh; rfl
  subst e0
  let g' : Gh := ⟨gh.v, gh.b, gh.b :: gk.bl, []⟩
  have hbn := hr.hn _ _ _ hg hs (by simp)
  have hkn := hr.hn _ _ _ hgk hk (by simp)
  have sv : SameV h gs (gs.set h g') := by
    refine ⟨fun j z hj hz => ?_, fun z hz => ⟨g', by simp [hgl], ?_⟩⟩
    · rw [List.getElem?_set, if_neg (fun e => hj e.symm)]; exact hz
    · rw [hg] at hz; cases hz; exact ⟨rfl, rfl⟩
  refine ⟨gs.set h g', hr.absorb hg hs trivial hgk hk trivial hne g' _ (AV.noRow h) rfl (fun _ _ _ => rfl) (Nat.le_refl _) ?_ (fun kp hv => hv.noRow kp sv) (fun _ => ?_)⟩
  · intro b hb
    simp only [g', List.mem_cons] at hb
    rcases hb with rfl | hb
    · have : gh.b ∈ gh.bl := by rw [c3]; simp
      exact ⟨.inl this, (hbn _ this).2⟩
    · exact ⟨.inr (.inl hb), (hkn b hb).2⟩
  · refine ⟨gk, c1, c2, c4, hpk, rfl, fun hm => ?_⟩
    exact hr.hd k h gk gh _ _ (fun e => hne e.symm) hgk hg hk hs (by simp) (by simp) gh.b hm (by rw [c3]; simp)
theorem AWp.turns {P : Program} {c : Code} {N : APost} {X : Nat → APost} {R : APost} {env env' : Env} {os os' : List AO} (ht : Turns env os env' os') (h : AWp P c N X R env' os') : AWp P c N X R env os := by
  intro base w0 w gs tm hr hb
  obtain ⟨gs', hr'⟩ := ht _ _ _ _ hr
  exact h base w0 w gs' tm hr' hb
theorem AOps.turns {P : Program} {l rest : List Oper} {K : APost} {env env' : Env} {os os' : List AO} (ht : Turns env os env' os') (h : AOps P .seq l rest K env' os') : AOps P .seq l rest K env os := by
  intro base w0 w gs tm hr hb X Rt
  obtain ⟨gs', hr'⟩ := ht _ _ _ _ hr
  exact h base w0 w gs' tm hr' hb X Rt

/-! ### Functions that are handed the pointer -/
def AFnP (P : Program) (f : FuncId) (as0 : List Value) (T e e2 : TypeId) (L L' : List (List Int)) (v : Value) : Prop :=
  HasBody P f ∧ ∀ base w g, base ≤ w.heap.size → CntP T e e2 L base w g → (∀ b, b ∈ g.bl → base ≤ b ∧ b < w.heap.size) →
    Calls P f (g.v :: as0).toArray w fun ev w' => ∃ g' : Gh, ev = .returned v ∧ g'.v = g.v ∧ g'.b = g.b ∧ CntP T e e2 L' base w' g' ∧ (∀ b, b ∈ g'.bl → (b ∈ g.bl ∨ w.heap.size ≤ b) ∧ b < w'.heap.size) ∧ Below base w w' ∧ ∀ b, b < w.heap.size → b ∉ g.bl → w'.heap[b]? = w.heap[b]?
/-- What stands at the end. -/
def CntEnd (P : Program) (fn : Func) (T e e2 : TypeId) (L' : List (List Int)) (v : Value) (K : Kp) (env : Env) (os : List AO) : Prop :=
  ∃ k : Nat, ResIs P fn env os (.val v) ∧ os[1]? = some (.bx T [.own k]) ∧ os[k]? = some (.sls e e2 L') ∧ (1 == k) = false ∧ os[0]? = some (.keep 2 K)

set_option maxHeartbeats 1000000 in
theorem AFnP.of {P : Program} {f : FuncId} {fn : Func} {c : Code} {as0 : List Value} {args' : List AV} {T e e2 : TypeId} {L L' : List (List Int)} {v : Value} {n : Nat} (hf : P.funcs[f]? = some fn) (hb : fn.body = some c) (hnm : (fn.name == "runtime.NumGoroutine") = false) (hn : fn.ntmps - (as0.length + 1) = n) (ha : args' = .optr 1 0 :: as0.map AV.val)
    (h : ∀ K, AWp P c (CntEnd P fn T e e2 L' v K) (fun _ _ _ => False) (CntEnd P fn T e e2 L' v K) (Env.start args' n) [.keep 2 K, .bx T [.own 2], .sls e e2 L]) :
    AFnP P f as0 T e e2 L L' v := by
  refine ⟨⟨fn, c, hf, hnm, hb⟩, fun base w g hbase hC hgn => calls_of_wp hf hb ?_⟩
  have hvs : ((g.v :: as0).toArray).size = as0.length + 1 := by simp
  rw [show fn.ntmps - ((g.v :: as0).toArray).size = n by rw [hvs]; exact hn]
  obtain ⟨p, a1, a2, a3, a4, a5, a6⟩ := hC
  let bl : List Nat := (List.range w.heap.size).filter fun b => decide (base ≤ b) && !g.bl.contains b
  let gk : Gh := ⟨undef, 0, bl, []⟩
  let gb : Gh := ⟨g.v, g.b, [g.b], []⟩
  let K : Kp := ⟨fun b => w.heap[b]?, [gk, gb]⟩
  have hbl : ∀ b, b ∈ bl ↔ b < w.heap.size ∧ base ≤ b ∧ b ∉ g.bl := by
    intro b
    simp only [bl, List.mem_filter, List.mem_range, Bool.and_eq_true, decide_eq_true_eq, Bool.not_eq_true', List.contains_eq_mem, decide_eq_false_iff_not]
  have subB : ∀ b, b ∈ gb.bl → b ∈ g.bl := fun b hb => by rw [a5]; simp [gb] at hb; simp [hb]
  have subP : ∀ b, b ∈ p.bl → b ∈ g.bl := fun b hb => by rw [a5]; simp [hb]
  have gg : ∀ {i : Nat} {x : Gh}, [gk, gb, p][i]? = some x → (i = 0 ∧ x = gk) ∨ (i = 1 ∧ x = gb) ∨ (i = 2 ∧ x = p) := by
    intro i x hx
    match i with
    | 0 => simp at hx; exact .inl ⟨rfl, hx.symm⟩
    | 1 => simp at hx; exact .inr (.inl ⟨rfl, hx.symm⟩)
    | 2 => simp at hx; exact .inr (.inr ⟨rfl, hx.symm⟩)
    | i + 3 => simp at hx
  have go : ∀ {i : Nat} {x : AO}, [AO.keep 2 K, .bx T [.own 2], .sls e e2 L][i]? = some x → (i = 0 ∧ x = .keep 2 K) ∨ (i = 1 ∧ x = .bx T [.own 2]) ∨ (i = 2 ∧ x = .sls e e2 L) := by
    intro i x hx
    match i with
    | 0 => simp at hx; exact .inl ⟨rfl, hx.symm⟩
    | 1 => simp at hx; exact .inr (.inl ⟨rfl, hx.symm⟩)
    | 2 => simp at hx; exact .inr (.inr ⟨rfl, hx.symm⟩)
    | i + 3 => simp at hx
  have hrel : Rel base w [gk, gb, p] (Env.start args' n) [.keep 2 K, .bx T [.own 2], .sls e e2 L] ((g.v :: as0).toArray ++ Array.replicate n undef) := by
    refine ⟨hbase, rfl, by simp [Env.start, ha], fun i => start_rv args' n _ (fun i => ?_) i, ?_, ?_, ?_⟩
    · rw [ha]
      match i with
      | 0 =>
        have : RV w (okOf [gk, gb, p] [.keep 2 K, .bx T [.own 2], .sls e e2 L]) [gk, gb, p] (.pointer (some ⟨gb.b, 0, none⟩)) (.optr 1 0) := .optr (by simp)
        simpa [a3, gb] using this
      | i + 1 =>
        simp only [Array.getD_eq_getD_getElem?, List.getElem?_toArray, List.getElem?_cons_succ, List.getD_eq_getElem?_getD, List.getElem?_map]
        cases as0[i]? with
        | none => exact .any _
        | some u => exact .val _
    · intro i x y hx hy
      rcases gg hx with ⟨rfl, rfl⟩ | ⟨rfl, rfl⟩ | ⟨rfl, rfl⟩
      · rcases go hy with ⟨_, rfl⟩ | ⟨h0, _⟩ | ⟨h0, _⟩
        · exact ⟨fun b _ => rfl, rfl, fun i x h => by
            match i with
            | 0 => exact h
            | 1 => exact h
            | i + 2 => simp [K] at h⟩
        · omega
        · omega
      · rcases go hy with ⟨h0, _⟩ | ⟨_, rfl⟩ | ⟨h0, _⟩
        · omega
        · refine ⟨[p.v], a1, a2, rfl, a3, rfl, fun c hc => by simp at hc; subst hc; exact a4.one.1, fun j => ?_⟩
          match j with
          | 0 => exact .own (by simp)
          | j + 1 => exact .any _
        · omega
      · rcases go hy with ⟨h0, _⟩ | ⟨h0, _⟩ | ⟨_, rfl⟩
        · omega
        · omega
        · exact a4.ro
    · intro i j g1 g2 o1 o2 hij hg1 hg2 ho1 ho2 _ _ b hb1 hb2
      rcases gg hg1 with ⟨rfl, rfl⟩ | ⟨rfl, rfl⟩ | ⟨rfl, rfl⟩
      · rcases gg hg2 with ⟨rfl, rfl⟩ | ⟨rfl, rfl⟩ | ⟨rfl, rfl⟩
        · exact hij rfl
        · exact ((hbl b).1 hb1).2.2 (subB b hb2)
        · exact ((hbl b).1 hb1).2.2 (subP b hb2)
      · rcases gg hg2 with ⟨rfl, rfl⟩ | ⟨rfl, rfl⟩ | ⟨rfl, rfl⟩
        · exact ((hbl b).1 hb2).2.2 (subB b hb1)
        · exact hij rfl
        · simp [gb] at hb1; subst hb1; exact a6 hb2
      · rcases gg hg2 with ⟨rfl, rfl⟩ | ⟨rfl, rfl⟩ | ⟨rfl, rfl⟩
        · exact ((hbl b).1 hb2).2.2 (subP b hb1)
        · simp [gb] at hb2; subst hb2; exact a6 hb1
        · exact hij rfl
    · intro i x y hx hy _ b hb
      rcases gg hx with ⟨rfl, rfl⟩ | ⟨rfl, rfl⟩ | ⟨rfl, rfl⟩
      · exact ⟨((hbl b).1 hb).2.1, ((hbl b).1 hb).1⟩
      · exact hgn b (subB b hb)
      · exact hgn b (subP b hb)
  have fin : ∀ {env : Env} {os1 : List AO} {gs2 : List Gh} {a : Act} {w' : World}, Rel base w' gs2 env os1 a.tmps → Below base w w' → CntEnd P fn T e e2 L' v K env os1 →
      ∃ u, (results fn a.tmps).run P w' = .ok u w' ∧ ∃ g' : Gh, Exit.ret = Exit.ret ∧ u = v ∧ g'.v = g.v ∧ g'.b = g.b ∧ CntP T e e2 L' base w' g' ∧ (∀ b, b ∈ g'.bl → (b ∈ g.bl ∨ w.heap.size ≤ b) ∧ b < w'.heap.size) ∧ Below base w w' ∧ ∀ b, b < w.heap.size → b ∉ g.bl → w'.heap[b]? = w.heap[b]? := by
    intro env os1 gs2 a w' hr hbel ⟨k, hres, hbx, hok, hk1, hkp⟩
    obtain ⟨u, hu, hv⟩ := hres _ _ _ _ hr
    cases hv
    have hgt : ∀ {i : Nat} {o : AO}, os1[i]? = some o → ∃ x, gs2[i]? = some x := fun {i o} hi => by
      have : i < gs2.length := by rw [hr.hl]; exact (List.getElem?_eq_some_iff.1 hi).1
      exact ⟨_, List.getElem?_eq_getElem this⟩
    obtain ⟨g0, hg0⟩ := hgt hkp
    obtain ⟨g1, hg1⟩ := hgt hbx
    obtain ⟨gx, hgx⟩ := hgt hok
    obtain ⟨r1, r2, r3⟩ := hr.ho _ _ _ hg0 hkp
    have e0 : g0 = gk := by have := r3 0 gk rfl; rw [hg0] at this; exact Option.some.inj this
    have e1 : g1 = gb := by have := r3 1 gb rfl; rw [hg1] at this; exact Option.some.inj this
    subst e0 e1
    have hk0 : k ≠ 0 := fun e => by subst e; rw [hkp] at hok; cases hok
    have hk1' : k ≠ 1 := fun e => by subst e; simp at hk1
    obtain ⟨cs, c1, c2, c3, c4, c5, c6, c7⟩ := hr.ho _ _ _ hg1 hbx
    match cs, c5 with
    | [c0], _ =>
    have h0 := c7 0
    simp only [List.getD_cons_zero] at h0
    have ec : c0 = gx.v := by
      cases h0 with
      | own hh => rw [hgx] at hh; cases hh; rfl
    subst ec
    have hpx : PartP e e2 L' base w' gx := PartP.of (hr.ho _ _ _ hgx hok)
    have hxn := hr.hn _ _ _ hgx hok (by simp)
    have hbn := hr.hn _ _ _ hg1 hbx (by simp)
    refine ⟨v, hu, ⟨g.v, g.b, g.b :: gx.bl, []⟩, rfl, rfl, rfl, rfl, ⟨gx, c1, c2, a3, hpx, rfl, fun hm => ?_⟩, fun b hb => ?_, hbel, fun b hb hnot => ?_⟩
    · exact hr.hd k 1 gx gb _ _ hk1' hgx hg1 hok hbx (by simp) (by simp) g.b hm (by simp [gb])
    · simp only [List.mem_cons] at hb
      rcases hb with rfl | hb
      · exact ⟨.inl (subB _ (by simp [gb])), (hbn _ (by simp [gb])).2⟩
      · have hbn2 := hxn b hb
        refine ⟨?_, hbn2.2⟩
        by_cases hbw : b < w.heap.size
        · left
          apply Classical.byContradiction
          intro hnb
          exact hr.hd k 0 gx gk _ _ hk0 hgx hg0 hok hkp (by simp) (by simp) b hb ((hbl b).2 ⟨hbw, hbn2.1, hnb⟩)
        · right; omega
    · rcases Nat.lt_or_ge b base with h6 | h6
      · exact hbel.block b h6
      · exact r1 b ((hbl b).2 ⟨hb, h6, hnot⟩)
  refine wp_mono (h K base w w _ _ hrel (Below.refl _ _)) ?_
  intro ev a w' hq
  cases ev with
  | normal =>
    obtain ⟨env, os1, gs1, hr, hd, hbel, hx⟩ := hq
    obtain ⟨u, hu, g', _, rfl, r⟩ := fin hr hbel hx
    exact ⟨hd, _, hu, g', rfl, r⟩
  | exit j => obtain ⟨_, _, _, _, _, _, hx⟩ := hq; exact hx.elim
  | ret =>
    obtain ⟨env, os1, gs1, hr, hd, hbel, hx⟩ := hq
    obtain ⟨u, hu, g', _, rfl, r⟩ := fin hr hbel hx
    exact ⟨hd, _, hu, g', rfl, r⟩
  | goto l => exact (hq : False).elim
  | panic ch => exact (hq : False).elim
  | outgrown => exact (hq : False).elim
theorem AFnP.start {P : Program} {f : FuncId} {fn : Func} {nt : Nat} {as0 : List Value} {T e e2 : TypeId} {L L' : List (List Int)} {v : Value} (hf : P.funcs[f]? = some fn) (hnt : fn.ntmps = nt) {c : Code} (hb : fn.body = some c) (hnm : (fn.name == "runtime.NumGoroutine") = false)
    (h : ∀ K, AWp P c (CntEnd P fn T e e2 L' v K) (fun _ _ _ => False) (CntEnd P fn T e e2 L' v K) (Env.start (.optr 1 0 :: as0.map AV.val) (nt - (as0.length + 1))) [.keep 2 K, .bx T [.own 2], .sls e e2 L]) :
    AFnP P f as0 T e e2 L L' v := AFnP.of hf hb hnm (by rw [hnt]) rfl h

section
variable {P : Program} {env : Env} {os : List AO} {d : Option Tmp} {ty : TypeId} {pos : String} {af : Array Edge} {g : Option (Nat × Bool)}
end
section
variable {P : Program} {env : Env} {os : List AO} {d : Tmp} {ty : TypeId} {pos : String} {af : Array Edge} {g : Option (Nat × Bool)} {l rest : List Oper} {K : APost} {q : Md}
end
end Go.Proofs.Ytlkhcelodcneiaa
/-
  A nil check, a shift by one, a conversion back from uint. No condition.
-/
namespace Go.Proofs.Ytlkhcelodcneiaa
open Go Go.RowKit
set_option linter.unusedSimpArgs false
section
variable {P : Program} {wl : Bool} {env : Env} {os : List AO} {d : Option Tmp} {ty : TypeId} {pos : String} {af : Array Edge} {g : Option (Nat × Bool)}
theorem q_nilck {x : Operand} {h i : Nat} (hx : AV.ev env x = .optr h i) : QOp P wl ⟨d, .nilCheck x, ty, pos, af, g⟩ env os (.optr h i) :=
  .of_run fun _ w gs tm hr => by
    have hh := hr.ev x
    rw [hx] at hh
    generalize hv : Act.eval ⟨tm, []⟩ x = v at hh
    cases hh with
    | optr hg => exact ⟨_, .optr hg, fun w' _ => by simp [execOp, hv]⟩
theorem q_convu {src dst : TypeId} [hs : TKind P src .i64] [hd : TKind P dst .u64] {x : Operand} {a : Int} (ha : AV.ev env x = .i a) (h0 : 0 ≤ a) (h1 : a ≤ 9223372036854775807) :
    QOp P wl ⟨d, .convert src dst x, ty, pos, af, g⟩ env os (.val (.int .u64 a)) :=
  .of_run fun _ _ _ tm hr => ⟨_, .val _, fun w' _ => by
    have e : IntKind.u64.wrap a = a := by simp [IntKind.wrap, IntKind.bits, IntKind.signed]; omega
    simp [execOp, hr.evv ha, convert, run_underlying hs.und, run_underlying hd.und, Conv.intToInt, e]⟩
end
section
variable {P : Program} {env : Env} {os : List AO} {d : Tmp} {ty : TypeId} {pos : String} {af : Array Edge} {g : Option (Nat × Bool)} {l rest : List Oper} {K : APost} {q : Md}
theorem w_nilck {x : Operand} {h i : Nat} (hw : wantedA l env ⟨some d, .nilCheck x, ty, pos, af, g⟩ = some true) (hx : evo env x = some (.optr h i)) (h' : AOps P q l rest K (env.up d (.optr h i)) os) : AOps P q l (⟨some d, .nilCheck x, ty, pos, af, g⟩ :: rest) K env os := AOps.qo hw (q_nilck (ev_of hx)) h'
theorem w_convu {src dst : TypeId} [TKind P src .i64] [TKind P dst .u64] {x : Operand} {a : Int} (hw : wantedA l env ⟨some d, .convert src dst x, ty, pos, af, g⟩ = some true) (ha : evo env x = some (.i a)) (h0 : 0 ≤ a) (h1 : a ≤ 9223372036854775807) (h' : AOps P q l rest K (env.up d (.val (.int .u64 a))) os) :
    AOps P q l (⟨some d, .convert src dst x, ty, pos, af, g⟩ :: rest) K env os := AOps.qo hw (q_convu (ev_of ha) h0 h1) h'
end
end Go.Proofs.Ytlkhcelodcneiaa
/-
  Products that are not too large, one step of a determinant, comparisons. Condition: numbers of moderate size.
-/
namespace Go.Proofs.Ytlkhcelodcneiaa
open Go Go.RowKit
attribute [local irreducible] AWp AOps ResIs Ret1 QOp LOp COp AFnV AFn Imms LeE LeO
set_option maxHeartbeats 1000000
set_option linter.unusedSimpArgs false
set_option linter.unusedVariables false

theorem abs_m (a : Int) (ha : inM a) : AFnV Try.prog 73 [.i a] (.int .i64 a.natAbs) := by
  unfold inM at ha
  (refine AFnV.start Try.func73 Try.ntmps73 rfl (by kernel_rfl) fun hk => ?_; simp only [Env.start, enumF, List.length_cons, List.length_nil, Nat.reduceAdd, Nat.reduceSub, List.cons_append, List.nil_append])
  repeat' (first | (apply AOps.nil; try simp only [List.nil_append, List.cons_append, List.set_cons_zero, List.set_cons_succ, List.length_cons, List.length_nil, Nat.reduceAdd, AV.sh, AV.sh1, AV.sh0, AO.sh, List.map_cons, List.map_nil, Nat.zero_add, Nat.add_zero, setAll]) | (apply w_move; exact rfl; exact rfl) | (apply w_assign; exact rfl; exact rfl) | apply AWp.seq | apply AWp.region | ((apply AWp.condP; exact rfl) <;> intro h) | apply AWp.ret | apply AWp.skip | ((apply w_lss); iterate 3 exact rfl) | ((apply w_neg); iterate 2 exact rfl) | (apply inI_of <;> omega))
  all_goals exact .int Try.results73 rfl (by omega)
theorem tok0 {a b : Int} (h : a = 0 ∨ b = 0) : tok a b = true := by unfold tok; exact decide_eq_true (by omega)
theorem tok_iff {a b : Int} (ha : a ≠ 0) (hb : b ≠ 0) : tok a b = decide ((a.natAbs : Int) ≤ 1000000000000 / (b.natAbs : Int)) := by
  unfold tok
  rw [Bool.eq_iff_iff, decide_eq_true_iff, decide_eq_true_iff]
  constructor
  · rintro (h | h | h)
    · exact absurd h ha
    · exact absurd h hb
    · exact h
  · exact fun h => .inr (.inr h)
def tmV (a b : Int) : Int := if tok a b = true then a * b else 0
theorem tmV_in (a b : Int) : inM (tmV a b) := by
  unfold tmV
  split
  · exact tok_in ‹_›
  · exact inM0'
where
  inM0' : inM 0 := by unfold inM; omega
theorem ResIs.intboolA {P : Program} {env : Env} {os : List AO} {fn : Func} {t u : Tmp} (h : fn.results = #[.tmp t, .tmp u]) {a a' : Int} {b b' : Bool} (ht : env.fd t = some (.i a)) (hu : env.fd u = some (.b b)) (e : a = a') (e2 : b = b') : ResIs P fn env os (.val (.tuple #[.int .i64 a', .bool b'])) := by
  subst e; subst e2; exact .vv2 h ht hu
theorem times_c (a b : Int) (ha : inM a) (hb : inM b) : AFnV Try.prog 59 [.i a, .i b] (.tuple #[.int .i64 (tmV a b), .bool (tok a b)]) := by
  have c1 := abs_m a ha
  have c2 := abs_m b hb
  unfold inM at ha hb
  by_cases h0 : a = 0 ∨ b = 0
  · have ht := tok0 h0
    have hv : tmV a b = 0 := by unfold tmV; rw [if_pos ht]; rcases h0 with h | h <;> simp [h]
    rw [ht, hv]
    (refine AFnV.start Try.func59 Try.ntmps59 rfl (by kernel_rfl) fun hk => ?_; simp only [Env.start, enumF, List.length_cons, List.length_nil, Nat.reduceAdd, Nat.reduceSub, List.cons_append, List.nil_append])
    repeat' (first | (apply AOps.nil; try simp only [List.nil_append, List.cons_append, List.set_cons_zero, List.set_cons_succ, List.length_cons, List.length_nil, Nat.reduceAdd, AV.sh, AV.sh1, AV.sh0, AO.sh, List.map_cons, List.map_nil, Nat.zero_add, Nat.add_zero, setAll]) | ((apply AOps.splitP; exact rfl; exact rfl) <;> intro h) | (apply w_move; exact rfl; exact rfl) | (apply w_assign; exact rfl; exact rfl) | apply AWp.seq | apply AWp.region | ((apply AWp.condP; exact rfl) <;> intro h) | (apply AWp.condT; exact rfl) | apply AWp.ret | apply AWp.skip | (apply w_skip; exact rfl) | (apply w_pickT; exact rfl; exact rfl; exact rfl) | (apply w_pickF; exact rfl; exact rfl; exact rfl) | (apply w_call (c1); exact rfl; exact rfl; focus ((repeat (first | exact im_nil | refine im_cons rfl (.val _) ?_)); done)) | (apply w_call (c2); exact rfl; exact rfl; focus ((repeat (first | exact im_nil | refine im_cons rfl (.val _) ?_)); done)) | omega | ((apply w_eql); iterate 3 exact rfl))
    all_goals first | exact .intboolA Try.results59 rfl rfl rfl rfl | (exfalso; simp_all; done)
  · have h1 : a ≠ 0 := fun h => h0 (.inl h)
    have h2 : b ≠ 0 := fun h => h0 (.inr h)
    have hd := Int.ediv_le_self (b := (b.natAbs : Int)) (a := 1000000000000) (by omega)
    have hd0 := Int.ediv_nonneg (a := 1000000000000) (b := (b.natAbs : Int)) (by omega) (by omega)
    by_cases ht : (a.natAbs : Int) ≤ 1000000000000 / (b.natAbs : Int)
    · have ht' : tok a b = true := by rw [tok_iff h1 h2]; exact decide_eq_true ht
      have hv : tmV a b = a * b := by unfold tmV; rw [if_pos ht']
      have hp := tok_in ht'
      unfold inM at hp
      rw [ht', hv]
      (refine AFnV.start Try.func59 Try.ntmps59 rfl (by kernel_rfl) fun hk => ?_; simp only [Env.start, enumF, List.length_cons, List.length_nil, Nat.reduceAdd, Nat.reduceSub, List.cons_append, List.nil_append])
      repeat' (first | (apply AOps.nil; try simp only [List.nil_append, List.cons_append, List.set_cons_zero, List.set_cons_succ, List.length_cons, List.length_nil, Nat.reduceAdd, AV.sh, AV.sh1, AV.sh0, AO.sh, List.map_cons, List.map_nil, Nat.zero_add, Nat.add_zero, setAll]) | ((apply AOps.splitP; exact rfl; exact rfl) <;> intro h) | (apply w_move; exact rfl; exact rfl) | (apply w_assign; exact rfl; exact rfl) | apply AWp.seq | apply AWp.region | ((apply AWp.condP; exact rfl) <;> intro h) | (apply AWp.condT; exact rfl) | apply AWp.ret | apply AWp.skip | (apply w_skip; exact rfl) | (apply w_pickT; exact rfl; exact rfl; exact rfl) | (apply w_pickF; exact rfl; exact rfl; exact rfl) | (apply w_call (c1); exact rfl; exact rfl; focus ((repeat (first | exact im_nil | refine im_cons rfl (.val _) ?_)); done)) | (apply w_call (c2); exact rfl; exact rfl; focus ((repeat (first | exact im_nil | refine im_cons rfl (.val _) ?_)); done)) | omega | ((first | apply w_gtr | apply w_eql | apply w_mul); iterate 3 exact rfl) | (apply w_quo; exact rfl; exact rfl; exact rfl; (focus (omega; done)); (focus (omega; done))) | (apply inI_of <;> omega))
      all_goals first | exact .intboolA Try.results59 rfl rfl rfl rfl | (exfalso; simp_all; done) | (exfalso; simp_all; omega)
    · have ht' : tok a b = false := by rw [tok_iff h1 h2]; exact decide_eq_false ht
      have hv : tmV a b = 0 := by unfold tmV; rw [if_neg (by rw [ht']; simp)]
      rw [ht', hv]
      (refine AFnV.start Try.func59 Try.ntmps59 rfl (by kernel_rfl) fun hk => ?_; simp only [Env.start, enumF, List.length_cons, List.length_nil, Nat.reduceAdd, Nat.reduceSub, List.cons_append, List.nil_append])
      repeat' (first | (apply AOps.nil; try simp only [List.nil_append, List.cons_append, List.set_cons_zero, List.set_cons_succ, List.length_cons, List.length_nil, Nat.reduceAdd, AV.sh, AV.sh1, AV.sh0, AO.sh, List.map_cons, List.map_nil, Nat.zero_add, Nat.add_zero, setAll]) | ((apply AOps.splitP; exact rfl; exact rfl) <;> intro h) | (apply w_move; exact rfl; exact rfl) | (apply w_assign; exact rfl; exact rfl) | apply AWp.seq | apply AWp.region | ((apply AWp.condP; exact rfl) <;> intro h) | (apply AWp.condT; exact rfl) | apply AWp.ret | apply AWp.skip | (apply w_skip; exact rfl) | (apply w_pickT; exact rfl; exact rfl; exact rfl) | (apply w_pickF; exact rfl; exact rfl; exact rfl) | (apply w_call (c1); exact rfl; exact rfl; focus ((repeat (first | exact im_nil | refine im_cons rfl (.val _) ?_)); done)) | (apply w_call (c2); exact rfl; exact rfl; focus ((repeat (first | exact im_nil | refine im_cons rfl (.val _) ?_)); done)) | omega | ((first | apply w_gtr | apply w_eql); iterate 3 exact rfl) | (apply w_quo; exact rfl; exact rfl; exact rfl; (focus (omega; done)); (focus (omega; done))) | (apply inI_of <;> omega))
      all_goals first | exact .intboolA Try.results59 rfl rfl rfl rfl | (exfalso; simp_all; done) | (exfalso; simp_all; omega)
theorem l11Times_c (a b : Int) (ha : inM a) (hb : inM b) : AFnV Try.prog 54 [.i a, .i b] (.tuple #[.int .i64 (tmV a b), .bool (tok a b)]) := by
  unfold inM at ha hb
  have ea : max a (-a) = (a.natAbs : Int) := by omega
  have eb : max b (-b) = (b.natAbs : Int) := by omega
  by_cases h0 : a = 0 ∨ b = 0
  · have ht := tok0 h0
    have hv : tmV a b = 0 := by unfold tmV; rw [if_pos ht]; rcases h0 with h | h <;> simp [h]
    rw [ht, hv]
    (refine AFnV.start Try.func54 Try.ntmps54 rfl (by kernel_rfl) fun hk => ?_; simp only [Env.start, enumF, List.length_cons, List.length_nil, Nat.reduceAdd, Nat.reduceSub, List.cons_append, List.nil_append])
    repeat' (first | (apply AOps.nil; try simp only [List.nil_append, List.cons_append, List.set_cons_zero, List.set_cons_succ, List.length_cons, List.length_nil, Nat.reduceAdd, AV.sh, AV.sh1, AV.sh0, AO.sh, List.map_cons, List.map_nil, Nat.zero_add, Nat.add_zero, setAll]) | ((apply AOps.splitP; exact rfl; exact rfl) <;> intro h) | (apply w_move; exact rfl; exact rfl) | (apply w_assign; exact rfl; exact rfl) | apply AWp.seq | apply AWp.region | ((apply AWp.condP; exact rfl) <;> intro h) | (apply AWp.condT; exact rfl) | apply AWp.ret | apply AWp.skip | (apply w_skip; exact rfl) | (apply w_pickT; exact rfl; exact rfl; exact rfl) | (apply w_pickF; exact rfl; exact rfl; exact rfl) | omega | ((apply w_eql); iterate 3 exact rfl))
    all_goals first | exact .intboolA Try.results54 rfl rfl rfl rfl | (exfalso; simp_all; done)
  · have h1 : a ≠ 0 := fun h => h0 (.inl h)
    have h2 : b ≠ 0 := fun h => h0 (.inr h)
    have hd := Int.ediv_le_self (b := (b.natAbs : Int)) (a := 1000000000000) (by omega)
    have hd0 := Int.ediv_nonneg (a := 1000000000000) (b := (b.natAbs : Int)) (by omega) (by omega)
    rw [← eb] at hd hd0
    by_cases ht : (a.natAbs : Int) ≤ 1000000000000 / (b.natAbs : Int)
    · have ht' : tok a b = true := by rw [tok_iff h1 h2]; exact decide_eq_true ht
      have hv : tmV a b = a * b := by unfold tmV; rw [if_pos ht']
      have hp := tok_in ht'
      unfold inM at hp
      rw [ht', hv]
      rw [← ea, ← eb] at ht
      (refine AFnV.start Try.func54 Try.ntmps54 rfl (by kernel_rfl) fun hk => ?_; simp only [Env.start, enumF, List.length_cons, List.length_nil, Nat.reduceAdd, Nat.reduceSub, List.cons_append, List.nil_append])
      repeat' (first | (apply AOps.nil; try simp only [List.nil_append, List.cons_append, List.set_cons_zero, List.set_cons_succ, List.length_cons, List.length_nil, Nat.reduceAdd, AV.sh, AV.sh1, AV.sh0, AO.sh, List.map_cons, List.map_nil, Nat.zero_add, Nat.add_zero, setAll]) | ((apply AOps.splitP; exact rfl; exact rfl) <;> intro h) | (apply w_move; exact rfl; exact rfl) | (apply w_assign; exact rfl; exact rfl) | apply AWp.seq | apply AWp.region | ((apply AWp.condP; exact rfl) <;> intro h) | (apply AWp.condT; exact rfl) | apply AWp.ret | apply AWp.skip | (apply w_skip; exact rfl) | (apply w_pickT; exact rfl; exact rfl; exact rfl) | (apply w_pickF; exact rfl; exact rfl; exact rfl) | omega | ((first | apply w_gtr | apply w_eql | apply w_mul | apply w_max); iterate 3 exact rfl) | (apply w_quo; exact rfl; exact rfl; exact rfl; (focus (omega; done)); (focus (omega; done))) | ((apply w_neg); iterate 2 exact rfl) | (apply inI_of <;> omega))
      all_goals first | exact .intboolA Try.results54 rfl rfl rfl rfl | (exfalso; simp_all; done) | (exfalso; simp_all; omega)
    · have ht' : tok a b = false := by rw [tok_iff h1 h2]; exact decide_eq_false ht
      have hv : tmV a b = 0 := by unfold tmV; rw [if_neg (by rw [ht']; simp)]
      rw [ht', hv]
      rw [← ea, ← eb] at ht
      (refine AFnV.start Try.func54 Try.ntmps54 rfl (by kernel_rfl) fun hk => ?_; simp only [Env.start, enumF, List.length_cons, List.length_nil, Nat.reduceAdd, Nat.reduceSub, List.cons_append, List.nil_append])
      repeat' (first | (apply AOps.nil; try simp only [List.nil_append, List.cons_append, List.set_cons_zero, List.set_cons_succ, List.length_cons, List.length_nil, Nat.reduceAdd, AV.sh, AV.sh1, AV.sh0, AO.sh, List.map_cons, List.map_nil, Nat.zero_add, Nat.add_zero, setAll]) | ((apply AOps.splitP; exact rfl; exact rfl) <;> intro h) | (apply w_move; exact rfl; exact rfl) | (apply w_assign; exact rfl; exact rfl) | apply AWp.seq | apply AWp.region | ((apply AWp.condP; exact rfl) <;> intro h) | (apply AWp.condT; exact rfl) | apply AWp.ret | apply AWp.skip | (apply w_skip; exact rfl) | (apply w_pickT; exact rfl; exact rfl; exact rfl) | (apply w_pickF; exact rfl; exact rfl; exact rfl) | omega | ((first | apply w_gtr | apply w_eql | apply w_mul | apply w_max); iterate 3 exact rfl) | (apply w_quo; exact rfl; exact rfl; exact rfl; (focus (omega; done)); (focus (omega; done))) | ((apply w_neg); iterate 2 exact rfl) | (apply inI_of <;> omega))
      all_goals first | exact .intboolA Try.results54 rfl rfl rfl rfl | (exfalso; simp_all; done) | (exfalso; simp_all; omega)
theorem isValue_c (n : Int) : AFnV Try.prog 81 [.i n] (.bool (decide (-1000000000000 ≤ n ∧ n ≤ 1000000000000))) := by
  (refine AFnV.start Try.func81 Try.ntmps81 rfl (by kernel_rfl) fun hk => ?_; simp only [Env.start, enumF, List.length_cons, List.length_nil, Nat.reduceAdd, Nat.reduceSub, List.cons_append, List.nil_append])
  repeat' (first | (apply AOps.nil; try simp only [List.nil_append, List.cons_append, List.set_cons_zero, List.set_cons_succ, List.length_cons, List.length_nil, Nat.reduceAdd, AV.sh, AV.sh1, AV.sh0, AO.sh, List.map_cons, List.map_nil, Nat.zero_add, Nat.add_zero, setAll]) | (apply w_move; exact rfl; exact rfl) | (apply w_assign; exact rfl; exact rfl) | apply AWp.seq | apply AWp.region | apply AWp.ret | (apply w_call (inRange_c _ _ _); exact rfl; exact rfl; focus ((repeat (first | exact im_nil | refine im_cons rfl (.val _) ?_)); done)))
  all_goals exact .bool Try.results81 rfl rfl

/-! ### Comparisons -/
open Classical in
noncomputable def cmpR (a b : List Int) : Int := if lx a b then -1 else if lx b a then 1 else 0
theorem isNaN_c (x : Int) : AFnV Try.prog 60 [.i x] (.bool false) := by
  (refine AFnV.start Try.func60 Try.ntmps60 rfl (by kernel_rfl) fun hk => ?_; simp only [Env.start, enumF, List.length_cons, List.length_nil, Nat.reduceAdd, Nat.reduceSub, List.cons_append, List.nil_append])
  repeat' (first | (apply AOps.nil; try simp only [List.nil_append, List.cons_append, List.set_cons_zero, List.set_cons_succ, List.length_cons, List.length_nil, Nat.reduceAdd, AV.sh, AV.sh1, AV.sh0, AO.sh, List.map_cons, List.map_nil, Nat.zero_add, Nat.add_zero, setAll]) | (apply w_move; exact rfl; exact rfl) | (apply w_assign; exact rfl; exact rfl) | apply AWp.seq | apply AWp.region | apply AWp.ret | ((apply w_neq); iterate 3 exact rfl))
  all_goals exact .bool Try.results60 rfl (by simp)
theorem cmpCompare_c (x y : Int) : AFnV Try.prog 55 [.i x, .i y] (.int .i64 (if x < y then -1 else if y < x then 1 else 0)) := by
  (refine AFnV.start Try.func55 Try.ntmps55 rfl (by kernel_rfl) fun hk => ?_; simp only [Env.start, enumF, List.length_cons, List.length_nil, Nat.reduceAdd, Nat.reduceSub, List.cons_append, List.nil_append])
  repeat' (first | (apply AOps.nil; try simp only [List.nil_append, List.cons_append, List.set_cons_zero, List.set_cons_succ, List.length_cons, List.length_nil, Nat.reduceAdd, AV.sh, AV.sh1, AV.sh0, AO.sh, List.map_cons, List.map_nil, Nat.zero_add, Nat.add_zero, setAll]) | (apply w_move; exact rfl; exact rfl) | (apply w_assign; exact rfl; exact rfl) | apply AWp.seq | apply AWp.region | ((apply AWp.condP; exact rfl) <;> intro h) | (apply AWp.condF; exact rfl) | apply AWp.ret | apply AWp.skip | (apply w_call (isNaN_c _); exact rfl; exact rfl; focus ((repeat (first | exact im_nil | refine im_cons rfl (.val _) ?_)); done)) | ((first | apply w_lss | apply w_gtr); iterate 3 exact rfl))
  all_goals exact .int Try.results55 rfl (by first | (split <;> first | omega | (split <;> omega)) | omega)
theorem compare_c (a b : List Int) (ha : a.length = 2) (hb : b.length = 2) : AFnV Try.prog 44 [.ints a, .ints b] (.int .i64 (cmpR a b)) := by
  (refine AFnV.start Try.func44 Try.ntmps44 rfl (by kernel_rfl) fun hk => ?_; simp only [Env.start, enumF, List.length_cons, List.length_nil, Nat.reduceAdd, Nat.reduceSub, List.cons_append, List.nil_append])
  repeat' (first | (apply AOps.nil; try simp only [List.nil_append, List.cons_append, List.set_cons_zero, List.set_cons_succ, List.length_cons, List.length_nil, Nat.reduceAdd, AV.sh, AV.sh1, AV.sh0, AO.sh, List.map_cons, List.map_nil, Nat.zero_add, Nat.add_zero, setAll]) | (apply w_move; exact rfl; exact rfl) | (apply w_assign; exact rfl; exact rfl) | apply AWp.seq | apply AWp.region | apply AWp.block | (apply w_len; exact rfl; exact rfl; first | exact .ints _ | exact .intss _ | exact .sli rfl | exact .sls rfl | exact .slr rfl | exact .orow rfl | exact .nil))
  refine AWp.loop (ι := Nat) (fun i => ⟨36, [(0, .ints a), (1, .ints b), (9, .ints a), (10, .i a.length), (11, .i i)]⟩) (fun _ => []) (fun i => i ≤ 2 ∧ (1 ≤ i → geti a 0 = geti b 0) ∧ (2 ≤ i → geti a 1 = geti b 1)) (fun i => 2 - i) 0 ⟨by omega, fun h => by omega, fun h => by omega⟩ ⟨lee rfl (by (repeat (first | exact le_nil | refine le_eq rfl rfl ?_))), by (repeat (exact lo_nil)), rfl, rfl⟩ ?_
  rintro i ⟨h0, h1, h2⟩
  have hc := cmpCompare_c (geti a i) (geti b i)
  rcases (show i = 0 ∨ i = 1 ∨ i = 2 by omega) with rfl | rfl | rfl
  · simp only [Int.natCast_zero] at hc
    by_cases hlt : geti a 0 < geti b 0
    · rw [if_pos hlt] at hc
      repeat' (first | (apply AOps.nil; try simp only [List.nil_append, List.cons_append, List.set_cons_zero, List.set_cons_succ, List.length_cons, List.length_nil, Nat.reduceAdd, AV.sh, AV.sh1, AV.sh0, AO.sh, List.map_cons, List.map_nil, Nat.zero_add, Nat.add_zero, setAll]) | (apply w_move; exact rfl; exact rfl) | (apply w_assign; exact rfl; exact rfl) | apply AWp.seq | apply AWp.region | ((apply AWp.condP; exact rfl) <;> intro h) | apply AWp.block | apply AWp.ret | apply AWp.exit | apply AWp.skip | (apply w_len; exact rfl; exact rfl; first | exact .ints _ | exact .intss _ | exact .sli rfl | exact .sls rfl | exact .slr rfl | exact .orow rfl | exact .nil) | (apply w_call (hc); exact rfl; exact rfl; focus ((repeat (first | exact im_nil | refine im_cons rfl (.val _) ?_)); done)) | omega | ((first | apply w_lss | apply w_geq | apply w_neq | apply w_idx | apply w_ld); iterate 3 exact rfl))
      exact .int Try.results44 rfl (by unfold cmpR; rw [if_pos (by unfold lx; omega)])
    · rw [if_neg hlt] at hc
      by_cases hgt : geti b 0 < geti a 0
      · rw [if_pos hgt] at hc
        repeat' (first | (apply AOps.nil; try simp only [List.nil_append, List.cons_append, List.set_cons_zero, List.set_cons_succ, List.length_cons, List.length_nil, Nat.reduceAdd, AV.sh, AV.sh1, AV.sh0, AO.sh, List.map_cons, List.map_nil, Nat.zero_add, Nat.add_zero, setAll]) | (apply w_move; exact rfl; exact rfl) | (apply w_assign; exact rfl; exact rfl) | apply AWp.seq | apply AWp.region | ((apply AWp.condP; exact rfl) <;> intro h) | apply AWp.block | apply AWp.ret | apply AWp.exit | apply AWp.skip | (apply w_len; exact rfl; exact rfl; first | exact .ints _ | exact .intss _ | exact .sli rfl | exact .sls rfl | exact .slr rfl | exact .orow rfl | exact .nil) | (apply w_call (hc); exact rfl; exact rfl; focus ((repeat (first | exact im_nil | refine im_cons rfl (.val _) ?_)); done)) | omega | ((first | apply w_lss | apply w_geq | apply w_neq | apply w_idx | apply w_ld); iterate 3 exact rfl))
        exact .int Try.results44 rfl (by unfold cmpR; rw [if_neg (by unfold lx; omega), if_pos (by unfold lx; omega)])
      · rw [if_neg hgt] at hc
        repeat' (first | (apply AOps.nil; try simp only [List.nil_append, List.cons_append, List.set_cons_zero, List.set_cons_succ, List.length_cons, List.length_nil, Nat.reduceAdd, AV.sh, AV.sh1, AV.sh0, AO.sh, List.map_cons, List.map_nil, Nat.zero_add, Nat.add_zero, setAll]) | (apply w_move; exact rfl; exact rfl) | (apply w_assign; exact rfl; exact rfl) | apply AWp.seq | apply AWp.region | ((apply AWp.condP; exact rfl) <;> intro h) | apply AWp.block | apply AWp.ret | apply AWp.exit | apply AWp.skip | (apply w_len; exact rfl; exact rfl; first | exact .ints _ | exact .intss _ | exact .sli rfl | exact .sls rfl | exact .slr rfl | exact .orow rfl | exact .nil) | (apply w_call (hc); exact rfl; exact rfl; focus ((repeat (first | exact im_nil | refine im_cons rfl (.val _) ?_)); done)) | omega | ((first | apply w_lss | apply w_geq | apply w_neq | apply w_add | apply w_idx | apply w_ld); iterate 3 exact rfl) | (apply inI_of <;> omega))
        exact ⟨1, ⟨by omega, fun _ => by omega, fun h => by omega⟩, by omega, ⟨lee rfl (by (repeat (first | exact le_nil | refine le_eq rfl rfl ?_))), by (repeat (exact lo_nil)), rfl, rfl⟩⟩
  · simp only [Int.natCast_one] at hc
    have e0 := h1 (by omega)
    by_cases hlt : geti a 1 < geti b 1
    · rw [if_pos hlt] at hc
      repeat' (first | (apply AOps.nil; try simp only [List.nil_append, List.cons_append, List.set_cons_zero, List.set_cons_succ, List.length_cons, List.length_nil, Nat.reduceAdd, AV.sh, AV.sh1, AV.sh0, AO.sh, List.map_cons, List.map_nil, Nat.zero_add, Nat.add_zero, setAll]) | (apply w_move; exact rfl; exact rfl) | (apply w_assign; exact rfl; exact rfl) | apply AWp.seq | apply AWp.region | ((apply AWp.condP; exact rfl) <;> intro h) | apply AWp.block | apply AWp.ret | apply AWp.exit | apply AWp.skip | (apply w_len; exact rfl; exact rfl; first | exact .ints _ | exact .intss _ | exact .sli rfl | exact .sls rfl | exact .slr rfl | exact .orow rfl | exact .nil) | (apply w_call (hc); exact rfl; exact rfl; focus ((repeat (first | exact im_nil | refine im_cons rfl (.val _) ?_)); done)) | omega | ((first | apply w_lss | apply w_geq | apply w_neq | apply w_idx | apply w_ld); iterate 3 exact rfl))
      exact .int Try.results44 rfl (by unfold cmpR; rw [if_pos (by unfold lx; omega)])
    · rw [if_neg hlt] at hc
      by_cases hgt : geti b 1 < geti a 1
      · rw [if_pos hgt] at hc
        repeat' (first | (apply AOps.nil; try simp only [List.nil_append, List.cons_append, List.set_cons_zero, List.set_cons_succ, List.length_cons, List.length_nil, Nat.reduceAdd, AV.sh, AV.sh1, AV.sh0, AO.sh, List.map_cons, List.map_nil, Nat.zero_add, Nat.add_zero, setAll]) | (apply w_move; exact rfl; exact rfl) | (apply w_assign; exact rfl; exact rfl) | apply AWp.seq | apply AWp.region | ((apply AWp.condP; exact rfl) <;> intro h) | apply AWp.block | apply AWp.ret | apply AWp.exit | apply AWp.skip | (apply w_len; exact rfl; exact rfl; first | exact .ints _ | exact .intss _ | exact .sli rfl | exact .sls rfl | exact .slr rfl | exact .orow rfl | exact .nil) | (apply w_call (hc); exact rfl; exact rfl; focus ((repeat (first | exact im_nil | refine im_cons rfl (.val _) ?_)); done)) | omega | ((first | apply w_lss | apply w_geq | apply w_neq | apply w_idx | apply w_ld); iterate 3 exact rfl))
        exact .int Try.results44 rfl (by unfold cmpR; rw [if_neg (by unfold lx; omega), if_pos (by unfold lx; omega)])
      · rw [if_neg hgt] at hc
        repeat' (first | (apply AOps.nil; try simp only [List.nil_append, List.cons_append, List.set_cons_zero, List.set_cons_succ, List.length_cons, List.length_nil, Nat.reduceAdd, AV.sh, AV.sh1, AV.sh0, AO.sh, List.map_cons, List.map_nil, Nat.zero_add, Nat.add_zero, setAll]) | (apply w_move; exact rfl; exact rfl) | (apply w_assign; exact rfl; exact rfl) | apply AWp.seq | apply AWp.region | ((apply AWp.condP; exact rfl) <;> intro h) | apply AWp.block | apply AWp.ret | apply AWp.exit | apply AWp.skip | (apply w_len; exact rfl; exact rfl; first | exact .ints _ | exact .intss _ | exact .sli rfl | exact .sls rfl | exact .slr rfl | exact .orow rfl | exact .nil) | (apply w_call (hc); exact rfl; exact rfl; focus ((repeat (first | exact im_nil | refine im_cons rfl (.val _) ?_)); done)) | omega | ((first | apply w_lss | apply w_geq | apply w_neq | apply w_add | apply w_idx | apply w_ld); iterate 3 exact rfl) | (apply inI_of <;> omega))
        exact ⟨2, ⟨by omega, fun _ => by omega, fun h => by omega⟩, by omega, ⟨lee rfl (by (repeat (first | exact le_nil | refine le_eq rfl rfl ?_))), by (repeat (exact lo_nil)), rfl, rfl⟩⟩
  · have e0 := h1 (by omega)
    have e1 := h2 (by omega)
    repeat' (first | (apply AOps.nil; try simp only [List.nil_append, List.cons_append, List.set_cons_zero, List.set_cons_succ, List.length_cons, List.length_nil, Nat.reduceAdd, AV.sh, AV.sh1, AV.sh0, AO.sh, List.map_cons, List.map_nil, Nat.zero_add, Nat.add_zero, setAll]) | (apply w_move; exact rfl; exact rfl) | (apply w_assign; exact rfl; exact rfl) | apply AWp.seq | apply AWp.region | ((apply AWp.condP; exact rfl) <;> intro h) | apply AWp.block | apply AWp.ret | apply AWp.exit | apply AWp.skip | (apply w_len; exact rfl; exact rfl; first | exact .ints _ | exact .intss _ | exact .sli rfl | exact .sls rfl | exact .slr rfl | exact .orow rfl | exact .nil) | omega | ((apply w_lss); iterate 3 exact rfl))
    exact .int Try.results44 rfl (by unfold cmpR; rw [if_neg (by unfold lx; omega), if_neg (by unfold lx; omega)])

/-! ### Greatest and least numbers -/
def maxL : List Int → Int → Int
  | [], m => m
  | x :: xs, m => maxL xs (max m x)
theorem take_geti {xs : List Int} {i : Nat} (h : i < xs.length) : xs.take (i + 1) = xs.take i ++ [geti xs (i : Nat)] := by
  rw [List.take_add_one, List.getElem?_eq_getElem h]; simp [geti, List.getD_eq_getElem?_getD, List.getElem?_eq_getElem h]
theorem maxL_app : ∀ (a b : List Int) (m : Int), maxL (a ++ b) m = maxL b (maxL a m)
  | [], b, m => rfl
  | x :: a, b, m => maxL_app a b _
theorem slicesMax_c (xs : List Int) (h : 0 < xs.length) (hl : xs.length ≤ 1000000) : AFnV Try.prog 45 [.ints xs] (.int .i64 (maxL xs (geti xs 0))) := by
  (refine AFnV.start Try.func45 Try.ntmps45 rfl (by kernel_rfl) fun hk => ?_; simp only [Env.start, enumF, List.length_cons, List.length_nil, Nat.reduceAdd, Nat.reduceSub, List.cons_append, List.nil_append])
  repeat' (first | (apply AOps.nil; try simp only [List.nil_append, List.cons_append, List.set_cons_zero, List.set_cons_succ, List.length_cons, List.length_nil, Nat.reduceAdd, AV.sh, AV.sh1, AV.sh0, AO.sh, List.map_cons, List.map_nil, Nat.zero_add, Nat.add_zero, setAll]) | (apply w_move; exact rfl; exact rfl) | (apply w_assign; exact rfl; exact rfl) | apply AWp.seq | apply AWp.region | ((apply AWp.condP; exact rfl) <;> intro h) | apply AWp.block | apply AWp.skip | (apply w_len; exact rfl; exact rfl; first | exact .ints _ | exact .intss _ | exact .sli rfl | exact .sls rfl | exact .slr rfl | exact .orow rfl | exact .nil) | omega | ((first | apply w_lss | apply w_idx | apply w_ld); iterate 3 exact rfl))
  refine AWp.loop (ι := Nat) (fun i => ⟨25, [(0, .ints xs), (3, .i (maxL (xs.take i) (geti xs 0))), (4, .i i)]⟩) (fun _ => []) (fun i => 1 ≤ i ∧ i ≤ xs.length) (fun i => xs.length - i) 1 (by omega) ⟨lee rfl (by
    refine le_eq rfl rfl ?_
    refine le_eq rfl (congrArg AV.i ?_) ?_
    · obtain ⟨x, xs, rfl⟩ : ∃ x xs', xs = x :: xs' := by cases xs with
        | nil => simp at h
        | cons x xs => exact ⟨x, xs, rfl⟩
      simp [maxL, geti]
    refine le_eq rfl rfl ?_
    exact le_nil), by (repeat (exact lo_nil)), rfl, rfl⟩ ?_
  rintro i ⟨i1, i2⟩
  by_cases hi : i < xs.length
  · have e1 : maxL (xs.take (i + 1)) (geti xs 0) = max (maxL (xs.take i) (geti xs 0)) (geti xs (i : Nat)) := by rw [take_geti hi, maxL_app]; rfl
    repeat' (first | (apply AOps.nil; try simp only [List.nil_append, List.cons_append, List.set_cons_zero, List.set_cons_succ, List.length_cons, List.length_nil, Nat.reduceAdd, AV.sh, AV.sh1, AV.sh0, AO.sh, List.map_cons, List.map_nil, Nat.zero_add, Nat.add_zero, setAll]) | (apply w_move; exact rfl; exact rfl) | (apply w_assign; exact rfl; exact rfl) | apply AWp.seq | apply AWp.region | ((apply AWp.condP; exact rfl) <;> intro h) | apply AWp.block | apply AWp.ret | apply AWp.exit | apply AWp.skip | (apply w_len; exact rfl; exact rfl; first | exact .ints _ | exact .intss _ | exact .sli rfl | exact .sls rfl | exact .slr rfl | exact .orow rfl | exact .nil) | omega | ((first | apply w_lss | apply w_add | apply w_idx | apply w_ld | apply w_max); iterate 3 exact rfl) | (apply inI_of <;> omega))
    exact ⟨i + 1, by omega, by omega, ⟨lee rfl (by (repeat (first | exact le_nil | refine le_eq rfl rfl ?_ | refine le_eq rfl (congrArg AV.i (by omega)) ?_))), by (repeat (exact lo_nil)), rfl, rfl⟩⟩
  · have e : i = xs.length := by omega
    subst e
    repeat' (first | (apply AOps.nil; try simp only [List.nil_append, List.cons_append, List.set_cons_zero, List.set_cons_succ, List.length_cons, List.length_nil, Nat.reduceAdd, AV.sh, AV.sh1, AV.sh0, AO.sh, List.map_cons, List.map_nil, Nat.zero_add, Nat.add_zero, setAll]) | (apply w_move; exact rfl; exact rfl) | (apply w_assign; exact rfl; exact rfl) | apply AWp.seq | apply AWp.region | ((apply AWp.condP; exact rfl) <;> intro h) | apply AWp.block | apply AWp.ret | apply AWp.exit | apply AWp.skip | (apply w_len; exact rfl; exact rfl; first | exact .ints _ | exact .intss _ | exact .sli rfl | exact .sls rfl | exact .slr rfl | exact .orow rfl | exact .nil) | omega | ((apply w_lss); iterate 3 exact rfl))
    exact .int Try.results45 rfl (by rw [List.take_length])
end Go.Proofs.Ytlkhcelodcneiaa
/-
  Contracts of the laws' own helpers over lists of integers. No condition.
-/
namespace Go.Proofs.Ytlkhcelodcneiaa
open Go Go.RowKit
attribute [local irreducible] AWp AOps ResIs Ret1 QOp LOp COp AFnV AFn Imms LeE LeO
set_option maxHeartbeats 1000000
set_option linter.unusedSimpArgs false
set_option linter.unusedVariables false

def szI (xs : List Int) (left : Int) : Int := if left - xs.length < 0 then -1 else left - xs.length

theorem szInt64S_c (xs : List Int) (left : Int) (h0 : -1 ≤ left) (h1 : left ≤ 1048576) : AFnV Try.prog 9 [.ints xs, .i left] (.int .i64 (szI xs left)) := by
  (refine AFnV.start Try.func9 Try.ntmps9 rfl (by kernel_rfl) fun hk => ?_; simp only [Env.start, enumF, List.length_cons, List.length_nil, Nat.reduceAdd, Nat.reduceSub, List.cons_append, List.nil_append])
  obtain ⟨hk, hl⟩ : ArgOk (.ints xs) := hk _ (by simp)
  repeat' (first
  | (apply AOps.nil; try simp only [List.nil_append, List.cons_append, List.set_cons_zero, List.set_cons_succ, List.length_cons, List.length_nil, Nat.reduceAdd, AV.sh, AV.sh1, AV.sh0, AO.sh, List.map_cons, List.map_nil, Nat.zero_add, Nat.add_zero, setAll])
  | ((apply AOps.splitP; exact rfl; exact rfl) <;> intro h)
  | ((apply AOps.splitN; exact rfl; exact rfl) <;> intro h)
  | (apply w_move; exact rfl; exact rfl)
  | (apply w_assign; exact rfl; exact rfl)
  | apply AWp.seq
  | apply AWp.region
  | ((apply AWp.condP; exact rfl) <;> intro h)
  | ((apply AWp.condN; exact rfl) <;> intro h)
  | (apply AWp.condT; exact rfl)
  | (apply AWp.condF; exact rfl)
  | ((apply AWp.condB; exact rfl) <;> intro h)
  | apply AWp.block
  | apply AWp.ret
  | apply AWp.exit
  | apply AWp.skip
  | (apply AWp.regionQ; kernel_rfl; kernel_rfl)
  | (apply if_pos'; exact rfl)
  | (apply if_neg'; decide)
  | (apply w_skip; exact rfl)
  | (apply w_pickT; exact rfl; exact rfl; exact rfl)
  | (apply w_pickF; exact rfl; exact rfl; exact rfl)
  | (apply w_len; exact rfl; exact rfl; first | exact .ints _ | exact .intss _ | exact .sli rfl | exact .sls rfl | exact .slr rfl | exact .orow rfl | exact .nil)
  | ((first | apply w_lss | apply w_leq | apply w_gtr | apply w_geq | apply w_eql | apply w_neq | apply w_add | apply w_sub | apply w_mul | apply w_idx | apply w_ld | apply w_fld | apply w_fa | apply w_extv | apply w_min | apply w_max | apply w_slhi | apply w_sllo | apply w_bs2); iterate 3 exact rfl)
  | ((first | apply w_eqlb | apply w_neqb | apply w_idxs | apply w_lds | apply w_ext); iterate 3 exact rfl)
  | (apply w_rem; exact rfl; exact rfl; exact rfl; (focus (omega; done)); (focus (omega; done)))
  | (apply w_quo; exact rfl; exact rfl; exact rfl; (focus (omega; done)); (focus (omega; done)))
  | (apply w_remT; exact rfl; exact rfl; exact rfl)
  | (apply w_quoT; exact rfl; exact rfl; exact rfl)
  | ((first | apply w_not | apply w_neg | apply w_conv | apply w_build0 | apply w_bs1 | apply w_boxa); iterate 2 exact rfl)
  | (apply w_idxo; exact rfl; exact rfl; (first | exact .sli rfl | exact .sls rfl | exact .slr rfl); exact rfl)
  | ((first | apply w_idxr | apply w_ldr); iterate 4 exact rfl)
  | (apply w_ldo; iterate 4 exact rfl)
  | (apply w_ldls; iterate 4 exact rfl)
  | (apply w_ldrp; iterate 4 exact rfl)
  | (apply w_ldb; iterate 5 exact rfl)
  | (apply w_ldst; iterate 5 exact rfl)
  | ((first | apply w_sllh | apply w_stbi); iterate 4 exact rfl)
  | ((first | apply w_oslo | apply w_oshi | apply w_stbii); iterate 4 exact rfl)
  | (apply w_copy; exact rfl; (first | exact .own rfl rfl rfl | exact .osub); exact rfl; rotate_left 1; exact rfl; (first | exact .ints _ | exact .sli rfl | exact .orow rfl | exact .nil | exact .osub rfl (by simp; omega)))
  | (apply w_build1; exact rfl; exact rfl; (first | exact one_val rfl rfl | exact one_ints | exact one_intss | exact one_own rfl True.intro))
  | (apply w_build2; exact rfl; exact rfl; exact rfl; (first | exact one_val rfl rfl | exact one_ints | exact one_intss | exact one_own rfl True.intro); (first | exact one_val rfl rfl | exact one_ints | exact one_intss | exact one_own rfl True.intro))
  | (apply w_bs0; iterate 1 exact rfl)
  | (apply w_appn; exact rfl; exact rfl; (first | exact .ints _ | exact .sli rfl | exact .orow rfl | exact .nil | exact .osub rfl (by simp; omega)); exact rfl)
  | (apply w_app; exact rfl; exact rfl; exact rfl; exact rfl; (first | exact .ints _ | exact .sli rfl | exact .orow rfl | exact .nil | exact .osub rfl (by simp; omega)); rotate_left 1; simp only [Env.mp, List.map_cons, List.map_nil, List.set_cons_zero, List.set_cons_succ, AV.kill, AV.kill1, AO.kill, AV.noRow, AV.noRow1, AO.via, reduceIte, Nat.reduceEqDiff, Nat.reduceLT, Env.up, Nat.zero_ne_one, Nat.one_ne_zero, Nat.reduceAdd, List.cons_append, List.nil_append]; rotate_left 1)
  | (apply w_alst; iterate 2 exact rfl)
  | (apply w_alone; iterate 3 exact rfl)
  | (apply w_mki; exact rfl; exact rfl; rotate_left 3; exact rfl; rotate_left 1)
  | (apply w_mkr; exact rfl; exact rfl; rotate_left 3; exact rfl; rotate_left 1)
  | (apply w_strow; exact rfl; exact rfl; rotate_left 1; exact rfl; exact rfl; exact rfl; exact rfl; simp only [Env.mp, List.map_cons, List.map_nil, List.set_cons_zero, List.set_cons_succ, AV.kill, AV.kill1, AO.kill, AV.noRow, AV.noRow1, AO.via, reduceIte, Nat.reduceEqDiff, Nat.reduceLT, Env.up, Nat.zero_ne_one, Nat.one_ne_zero, Nat.reduceAdd, List.cons_append, List.nil_append]; rotate_left 1)
  | (apply w_sti; exact rfl; exact rfl; rotate_left 1; exact rfl; rotate_left 2)
  | (apply w_stst; iterate 5 exact rfl)
  | (apply w_stbv; iterate 6 exact rfl)
  | (apply w_stbo; exact rfl; exact rfl; exact rfl; exact rfl; exact rfl; exact True.intro)
  | ((apply AOps.splitB; exact rfl; exact rfl) <;> intro h)
  | apply AllOf.nil
  | (apply AllOf.cons; exact rfl)
  | (apply AAny.take; exact rfl; exact rfl; kernel_rfl; kernel_rfl)
  | (apply AAny.all; exact rfl)
  | (apply AAny.done; exact rfl)
  | (apply inI_of <;> omega)
  | omega
  | (simp <;> omega))
  · exact .int Try.results9 rfl (by simp [szI, h])
  · exact .int Try.results9 rfl (by simp [szI, h])

/-- The new slice of integers that a function hands back alone. -/
def IsInts (e : TypeId) (xs : List Int) (r : AV) (os : List AO) : Prop := r = .own 0 ∧ os = [.sli e xs]

theorem take_set_snoc (xs : List Int) (i : Nat) (h : i < xs.length) : (xs.take i ++ List.replicate (xs.length - i) 0).set i (geti xs i) = xs.take (i + 1) ++ List.replicate (xs.length - (i + 1)) 0 := by
  apply List.ext_getElem?
  intro j
  rw [List.getElem?_set]
  by_cases hj : i = j
  · subst hj
    have : (xs.take i ++ List.replicate (xs.length - i) 0).length = xs.length := by simp; omega
    simp only [this, h, if_true]
    rw [List.getElem?_append_left (by simp; omega), List.getElem?_take_of_lt (by omega)]
    simp [geti, h]
  · rw [if_neg hj, List.getElem?_append, List.getElem?_append, List.getElem?_take, List.getElem?_take]
    simp only [List.length_take, Nat.min_eq_left (Nat.le_of_lt h), Nat.min_eq_left h, List.getElem?_replicate]
    by_cases h2 : j < i
    · simp [h2, show j < i + 1 by omega]
    · have : ¬ j < i + 1 := by omega
      simp only [h2, this, if_false]
      by_cases h3 : j < xs.length
      · rw [if_pos (by omega), if_pos (by omega)]
      · rw [if_neg (by omega), if_neg (by omega)]

theorem toInt64S_c (xs : List Int) (hb : xs.length ≤ 1048576) : AFn Try.prog 15 [.ints xs] (IsInts 2 xs) := by
  (refine AFn.start Try.func15 Try.ntmps15 rfl (by kernel_rfl) fun hk => ?_; simp only [Env.start, enumF, List.length_cons, List.length_nil, Nat.reduceAdd, Nat.reduceSub, List.cons_append, List.nil_append])
  obtain ⟨hk, hl⟩ : ArgOk (.ints xs) := hk _ (by simp)
  repeat' (first
  | (apply AOps.nil; try simp only [List.nil_append, List.cons_append, List.set_cons_zero, List.set_cons_succ, List.length_cons, List.length_nil, Nat.reduceAdd, AV.sh, AV.sh1, AV.sh0, AO.sh, List.map_cons, List.map_nil, Nat.zero_add, Nat.add_zero, setAll])
  | ((apply AOps.splitP; exact rfl; exact rfl) <;> intro h)
  | ((apply AOps.splitN; exact rfl; exact rfl) <;> intro h)
  | (apply w_move; exact rfl; exact rfl)
  | (apply w_assign; exact rfl; exact rfl)
  | apply AWp.seq
  | apply AWp.region
  | ((apply AWp.condP; exact rfl) <;> intro h)
  | ((apply AWp.condN; exact rfl) <;> intro h)
  | (apply AWp.condT; exact rfl)
  | (apply AWp.condF; exact rfl)
  | ((apply AWp.condB; exact rfl) <;> intro h)
  | apply AWp.block
  | apply AWp.ret
  | apply AWp.exit
  | apply AWp.skip
  | (apply AWp.regionQ; kernel_rfl; kernel_rfl)
  | (apply if_pos'; exact rfl)
  | (apply if_neg'; decide)
  | (apply w_skip; exact rfl)
  | (apply w_pickT; exact rfl; exact rfl; exact rfl)
  | (apply w_pickF; exact rfl; exact rfl; exact rfl)
  | (apply w_len; exact rfl; exact rfl; first | exact .ints _ | exact .intss _ | exact .sli rfl | exact .sls rfl | exact .slr rfl | exact .orow rfl | exact .nil)
  | ((first | apply w_lss | apply w_leq | apply w_gtr | apply w_geq | apply w_eql | apply w_neq | apply w_add | apply w_sub | apply w_mul | apply w_idx | apply w_ld | apply w_fld | apply w_fa | apply w_extv | apply w_min | apply w_max | apply w_slhi | apply w_sllo | apply w_bs2); iterate 3 exact rfl)
  | ((first | apply w_eqlb | apply w_neqb | apply w_idxs | apply w_lds | apply w_ext); iterate 3 exact rfl)
  | (apply w_rem; exact rfl; exact rfl; exact rfl; (focus (omega; done)); (focus (omega; done)))
  | (apply w_quo; exact rfl; exact rfl; exact rfl; (focus (omega; done)); (focus (omega; done)))
  | (apply w_remT; exact rfl; exact rfl; exact rfl)
  | (apply w_quoT; exact rfl; exact rfl; exact rfl)
  | ((first | apply w_not | apply w_neg | apply w_conv | apply w_build0 | apply w_bs1 | apply w_boxa); iterate 2 exact rfl)
  | (apply w_idxo; exact rfl; exact rfl; (first | exact .sli rfl | exact .sls rfl | exact .slr rfl); exact rfl)
  | ((first | apply w_idxr | apply w_ldr); iterate 4 exact rfl)
  | (apply w_ldo; iterate 4 exact rfl)
  | (apply w_ldls; iterate 4 exact rfl)
  | (apply w_ldrp; iterate 4 exact rfl)
  | (apply w_ldb; iterate 5 exact rfl)
  | (apply w_ldst; iterate 5 exact rfl)
  | ((first | apply w_sllh | apply w_stbi); iterate 4 exact rfl)
  | ((first | apply w_oslo | apply w_oshi | apply w_stbii); iterate 4 exact rfl)
  | (apply w_copy; exact rfl; (first | exact .own rfl rfl rfl | exact .osub); exact rfl; rotate_left 1; exact rfl; (first | exact .ints _ | exact .sli rfl | exact .orow rfl | exact .nil | exact .osub rfl (by simp; omega)))
  | (apply w_build1; exact rfl; exact rfl; (first | exact one_val rfl rfl | exact one_ints | exact one_intss | exact one_own rfl True.intro))
  | (apply w_build2; exact rfl; exact rfl; exact rfl; (first | exact one_val rfl rfl | exact one_ints | exact one_intss | exact one_own rfl True.intro); (first | exact one_val rfl rfl | exact one_ints | exact one_intss | exact one_own rfl True.intro))
  | (apply w_bs0; iterate 1 exact rfl)
  | (apply w_appn; exact rfl; exact rfl; (first | exact .ints _ | exact .sli rfl | exact .orow rfl | exact .nil | exact .osub rfl (by simp; omega)); exact rfl)
  | (apply w_app; exact rfl; exact rfl; exact rfl; exact rfl; (first | exact .ints _ | exact .sli rfl | exact .orow rfl | exact .nil | exact .osub rfl (by simp; omega)); rotate_left 1; simp only [Env.mp, List.map_cons, List.map_nil, List.set_cons_zero, List.set_cons_succ, AV.kill, AV.kill1, AO.kill, AV.noRow, AV.noRow1, AO.via, reduceIte, Nat.reduceEqDiff, Nat.reduceLT, Env.up, Nat.zero_ne_one, Nat.one_ne_zero, Nat.reduceAdd, List.cons_append, List.nil_append]; rotate_left 1)
  | (apply w_alst; iterate 2 exact rfl)
  | (apply w_alone; iterate 3 exact rfl)
  | (apply w_mki; exact rfl; exact rfl; rotate_left 3; exact rfl; rotate_left 1)
  | (apply w_mkr; exact rfl; exact rfl; rotate_left 3; exact rfl; rotate_left 1)
  | (apply w_strow; exact rfl; exact rfl; rotate_left 1; exact rfl; exact rfl; exact rfl; exact rfl; simp only [Env.mp, List.map_cons, List.map_nil, List.set_cons_zero, List.set_cons_succ, AV.kill, AV.kill1, AO.kill, AV.noRow, AV.noRow1, AO.via, reduceIte, Nat.reduceEqDiff, Nat.reduceLT, Env.up, Nat.zero_ne_one, Nat.one_ne_zero, Nat.reduceAdd, List.cons_append, List.nil_append]; rotate_left 1)
  | (apply w_sti; exact rfl; exact rfl; rotate_left 1; exact rfl; rotate_left 2)
  | (apply w_stst; iterate 5 exact rfl)
  | (apply w_stbv; iterate 6 exact rfl)
  | (apply w_stbo; exact rfl; exact rfl; exact rfl; exact rfl; exact rfl; exact True.intro)
  | ((apply AOps.splitB; exact rfl; exact rfl) <;> intro h)
  | apply AllOf.nil
  | (apply AllOf.cons; exact rfl)
  | (apply AAny.take; exact rfl; exact rfl; kernel_rfl; kernel_rfl)
  | (apply AAny.all; exact rfl)
  | (apply AAny.done; exact rfl)
  | (apply inI_of <;> omega)
  | omega
  | (simp <;> omega))
  refine AWp.loop (ι := Nat) (fun i => ⟨22, [(0, .ints xs), (3, .own 0), (4, .i i)]⟩) (fun i => [.sli 2 (xs.take i ++ List.replicate (xs.length - i) 0)]) (fun i => i ≤ xs.length) (fun i => xs.length - i) 0 (Nat.zero_le _) ⟨lee rfl (by (repeat (first | exact le_nil | refine le_eq rfl rfl ?_))), lo_eq (by simp) lo_nil, rfl, rfl⟩ ?_
  intro i hi
  repeat' (first
  | (apply AOps.nil; try simp only [List.nil_append, List.cons_append, List.set_cons_zero, List.set_cons_succ, List.length_cons, List.length_nil, Nat.reduceAdd, AV.sh, AV.sh1, AV.sh0, AO.sh, List.map_cons, List.map_nil, Nat.zero_add, Nat.add_zero, setAll])
  | ((apply AOps.splitP; exact rfl; exact rfl) <;> intro h)
  | ((apply AOps.splitN; exact rfl; exact rfl) <;> intro h)
  | (apply w_move; exact rfl; exact rfl)
  | (apply w_assign; exact rfl; exact rfl)
  | apply AWp.seq
  | apply AWp.region
  | ((apply AWp.condP; exact rfl) <;> intro h)
  | ((apply AWp.condN; exact rfl) <;> intro h)
  | (apply AWp.condT; exact rfl)
  | (apply AWp.condF; exact rfl)
  | ((apply AWp.condB; exact rfl) <;> intro h)
  | apply AWp.block
  | apply AWp.ret
  | apply AWp.exit
  | apply AWp.skip
  | (apply AWp.regionQ; kernel_rfl; kernel_rfl)
  | (apply if_pos'; exact rfl)
  | (apply if_neg'; decide)
  | (apply w_skip; exact rfl)
  | (apply w_pickT; exact rfl; exact rfl; exact rfl)
  | (apply w_pickF; exact rfl; exact rfl; exact rfl)
  | (apply w_len; exact rfl; exact rfl; first | exact .ints _ | exact .intss _ | exact .sli rfl | exact .sls rfl | exact .slr rfl | exact .orow rfl | exact .nil)
  | ((first | apply w_lss | apply w_leq | apply w_gtr | apply w_geq | apply w_eql | apply w_neq | apply w_add | apply w_sub | apply w_mul | apply w_idx | apply w_ld | apply w_fld | apply w_fa | apply w_extv | apply w_min | apply w_max | apply w_slhi | apply w_sllo | apply w_bs2); iterate 3 exact rfl)
  | ((first | apply w_eqlb | apply w_neqb | apply w_idxs | apply w_lds | apply w_ext); iterate 3 exact rfl)
  | (apply w_rem; exact rfl; exact rfl; exact rfl; (focus (omega; done)); (focus (omega; done)))
  | (apply w_quo; exact rfl; exact rfl; exact rfl; (focus (omega; done)); (focus (omega; done)))
  | (apply w_remT; exact rfl; exact rfl; exact rfl)
  | (apply w_quoT; exact rfl; exact rfl; exact rfl)
  | ((first | apply w_not | apply w_neg | apply w_conv | apply w_build0 | apply w_bs1 | apply w_boxa); iterate 2 exact rfl)
  | (apply w_idxo; exact rfl; exact rfl; (first | exact .sli rfl | exact .sls rfl | exact .slr rfl); exact rfl)
  | ((first | apply w_idxr | apply w_ldr); iterate 4 exact rfl)
  | (apply w_ldo; iterate 4 exact rfl)
  | (apply w_ldls; iterate 4 exact rfl)
  | (apply w_ldrp; iterate 4 exact rfl)
  | (apply w_ldb; iterate 5 exact rfl)
  | (apply w_ldst; iterate 5 exact rfl)
  | ((first | apply w_sllh | apply w_stbi); iterate 4 exact rfl)
  | ((first | apply w_oslo | apply w_oshi | apply w_stbii); iterate 4 exact rfl)
  | (apply w_copy; exact rfl; (first | exact .own rfl rfl rfl | exact .osub); exact rfl; rotate_left 1; exact rfl; (first | exact .ints _ | exact .sli rfl | exact .orow rfl | exact .nil | exact .osub rfl (by simp; omega)))
  | (apply w_build1; exact rfl; exact rfl; (first | exact one_val rfl rfl | exact one_ints | exact one_intss | exact one_own rfl True.intro))
  | (apply w_build2; exact rfl; exact rfl; exact rfl; (first | exact one_val rfl rfl | exact one_ints | exact one_intss | exact one_own rfl True.intro); (first | exact one_val rfl rfl | exact one_ints | exact one_intss | exact one_own rfl True.intro))
  | (apply w_bs0; iterate 1 exact rfl)
  | (apply w_appn; exact rfl; exact rfl; (first | exact .ints _ | exact .sli rfl | exact .orow rfl | exact .nil | exact .osub rfl (by simp; omega)); exact rfl)
  | (apply w_app; exact rfl; exact rfl; exact rfl; exact rfl; (first | exact .ints _ | exact .sli rfl | exact .orow rfl | exact .nil | exact .osub rfl (by simp; omega)); rotate_left 1; simp only [Env.mp, List.map_cons, List.map_nil, List.set_cons_zero, List.set_cons_succ, AV.kill, AV.kill1, AO.kill, AV.noRow, AV.noRow1, AO.via, reduceIte, Nat.reduceEqDiff, Nat.reduceLT, Env.up, Nat.zero_ne_one, Nat.one_ne_zero, Nat.reduceAdd, List.cons_append, List.nil_append]; rotate_left 1)
  | (apply w_alst; iterate 2 exact rfl)
  | (apply w_alone; iterate 3 exact rfl)
  | (apply w_mki; exact rfl; exact rfl; rotate_left 3; exact rfl; rotate_left 1)
  | (apply w_mkr; exact rfl; exact rfl; rotate_left 3; exact rfl; rotate_left 1)
  | (apply w_strow; exact rfl; exact rfl; rotate_left 1; exact rfl; exact rfl; exact rfl; exact rfl; simp only [Env.mp, List.map_cons, List.map_nil, List.set_cons_zero, List.set_cons_succ, AV.kill, AV.kill1, AO.kill, AV.noRow, AV.noRow1, AO.via, reduceIte, Nat.reduceEqDiff, Nat.reduceLT, Env.up, Nat.zero_ne_one, Nat.one_ne_zero, Nat.reduceAdd, List.cons_append, List.nil_append]; rotate_left 1)
  | (apply w_sti; exact rfl; exact rfl; rotate_left 1; exact rfl; rotate_left 2)
  | (apply w_stst; iterate 5 exact rfl)
  | (apply w_stbv; iterate 6 exact rfl)
  | (apply w_stbo; exact rfl; exact rfl; exact rfl; exact rfl; exact rfl; exact True.intro)
  | ((apply AOps.splitB; exact rfl; exact rfl) <;> intro h)
  | apply AllOf.nil
  | (apply AllOf.cons; exact rfl)
  | (apply AAny.take; exact rfl; exact rfl; kernel_rfl; kernel_rfl)
  | (apply AAny.all; exact rfl)
  | (apply AAny.done; exact rfl)
  | (apply inI_of <;> omega)
  | omega
  | (simp <;> omega))
  · exact hk _ (geti_mem (by omega) (by omega))
  · refine ⟨i + 1, by omega, by omega, ⟨lee rfl (by (repeat (first | exact le_nil | refine le_eq rfl (by simp) ?_))), lo_eq ?_ lo_nil, rfl, rfl⟩⟩
    rw [← take_set_snoc xs i (by omega)]; rfl
  · have e : i = xs.length := by omega
    subst e
    refine ⟨_, _, _, .v1 Try.results15 rfl, .sli rfl, rfl, ?_⟩
    simp

theorem eqInt64S_c (xs ys : List Int) : AFnV Try.prog 21 [.ints xs, .ints ys] (.bool (decide (xs = ys))) := by
  (refine AFnV.start Try.func21 Try.ntmps21 rfl (by kernel_rfl) fun hk0 => ?_; simp only [Env.start, enumF, List.length_cons, List.length_nil, Nat.reduceAdd, Nat.reduceSub, List.cons_append, List.nil_append])
  obtain ⟨hk, hl⟩ : ArgOk (.ints xs) := hk0 _ (by simp)
  repeat' (first
  | (apply AOps.nil; try simp only [List.nil_append, List.cons_append, List.set_cons_zero, List.set_cons_succ, List.length_cons, List.length_nil, Nat.reduceAdd, AV.sh, AV.sh1, AV.sh0, AO.sh, List.map_cons, List.map_nil, Nat.zero_add, Nat.add_zero, setAll])
  | ((apply AOps.splitP; exact rfl; exact rfl) <;> intro h)
  | ((apply AOps.splitN; exact rfl; exact rfl) <;> intro h)
  | (apply w_move; exact rfl; exact rfl)
  | (apply w_assign; exact rfl; exact rfl)
  | apply AWp.seq
  | apply AWp.region
  | ((apply AWp.condP; exact rfl) <;> intro h)
  | ((apply AWp.condN; exact rfl) <;> intro h)
  | (apply AWp.condT; exact rfl)
  | (apply AWp.condF; exact rfl)
  | ((apply AWp.condB; exact rfl) <;> intro h)
  | apply AWp.block
  | apply AWp.ret
  | apply AWp.exit
  | apply AWp.skip
  | (apply AWp.regionQ; kernel_rfl; kernel_rfl)
  | (apply if_pos'; exact rfl)
  | (apply if_neg'; decide)
  | (apply w_skip; exact rfl)
  | (apply w_pickT; exact rfl; exact rfl; exact rfl)
  | (apply w_pickF; exact rfl; exact rfl; exact rfl)
  | (apply w_len; exact rfl; exact rfl; first | exact .ints _ | exact .intss _ | exact .sli rfl | exact .sls rfl | exact .slr rfl | exact .orow rfl | exact .nil)
  | ((first | apply w_lss | apply w_leq | apply w_gtr | apply w_geq | apply w_eql | apply w_neq | apply w_add | apply w_sub | apply w_mul | apply w_idx | apply w_ld | apply w_fld | apply w_fa | apply w_extv | apply w_min | apply w_max | apply w_slhi | apply w_sllo | apply w_bs2); iterate 3 exact rfl)
  | ((first | apply w_eqlb | apply w_neqb | apply w_idxs | apply w_lds | apply w_ext); iterate 3 exact rfl)
  | (apply w_rem; exact rfl; exact rfl; exact rfl; (focus (omega; done)); (focus (omega; done)))
  | (apply w_quo; exact rfl; exact rfl; exact rfl; (focus (omega; done)); (focus (omega; done)))
  | (apply w_remT; exact rfl; exact rfl; exact rfl)
  | (apply w_quoT; exact rfl; exact rfl; exact rfl)
  | ((first | apply w_not | apply w_neg | apply w_conv | apply w_build0 | apply w_bs1 | apply w_boxa); iterate 2 exact rfl)
  | (apply w_idxo; exact rfl; exact rfl; (first | exact .sli rfl | exact .sls rfl | exact .slr rfl); exact rfl)
  | ((first | apply w_idxr | apply w_ldr); iterate 4 exact rfl)
  | (apply w_ldo; iterate 4 exact rfl)
  | (apply w_ldls; iterate 4 exact rfl)
  | (apply w_ldrp; iterate 4 exact rfl)
  | (apply w_ldb; iterate 5 exact rfl)
  | (apply w_ldst; iterate 5 exact rfl)
  | ((first | apply w_sllh | apply w_stbi); iterate 4 exact rfl)
  | ((first | apply w_oslo | apply w_oshi | apply w_stbii); iterate 4 exact rfl)
  | (apply w_copy; exact rfl; (first | exact .own rfl rfl rfl | exact .osub); exact rfl; rotate_left 1; exact rfl; (first | exact .ints _ | exact .sli rfl | exact .orow rfl | exact .nil | exact .osub rfl (by simp; omega)))
  | (apply w_build1; exact rfl; exact rfl; (first | exact one_val rfl rfl | exact one_ints | exact one_intss | exact one_own rfl True.intro))
  | (apply w_build2; exact rfl; exact rfl; exact rfl; (first | exact one_val rfl rfl | exact one_ints | exact one_intss | exact one_own rfl True.intro); (first | exact one_val rfl rfl | exact one_ints | exact one_intss | exact one_own rfl True.intro))
  | (apply w_bs0; iterate 1 exact rfl)
  | (apply w_appn; exact rfl; exact rfl; (first | exact .ints _ | exact .sli rfl | exact .orow rfl | exact .nil | exact .osub rfl (by simp; omega)); exact rfl)
  | (apply w_app; exact rfl; exact rfl; exact rfl; exact rfl; (first | exact .ints _ | exact .sli rfl | exact .orow rfl | exact .nil | exact .osub rfl (by simp; omega)); rotate_left 1; simp only [Env.mp, List.map_cons, List.map_nil, List.set_cons_zero, List.set_cons_succ, AV.kill, AV.kill1, AO.kill, AV.noRow, AV.noRow1, AO.via, reduceIte, Nat.reduceEqDiff, Nat.reduceLT, Env.up, Nat.zero_ne_one, Nat.one_ne_zero, Nat.reduceAdd, List.cons_append, List.nil_append]; rotate_left 1)
  | (apply w_alst; iterate 2 exact rfl)
  | (apply w_alone; iterate 3 exact rfl)
  | (apply w_mki; exact rfl; exact rfl; rotate_left 3; exact rfl; rotate_left 1)
  | (apply w_mkr; exact rfl; exact rfl; rotate_left 3; exact rfl; rotate_left 1)
  | (apply w_strow; exact rfl; exact rfl; rotate_left 1; exact rfl; exact rfl; exact rfl; exact rfl; simp only [Env.mp, List.map_cons, List.map_nil, List.set_cons_zero, List.set_cons_succ, AV.kill, AV.kill1, AO.kill, AV.noRow, AV.noRow1, AO.via, reduceIte, Nat.reduceEqDiff, Nat.reduceLT, Env.up, Nat.zero_ne_one, Nat.one_ne_zero, Nat.reduceAdd, List.cons_append, List.nil_append]; rotate_left 1)
  | (apply w_sti; exact rfl; exact rfl; rotate_left 1; exact rfl; rotate_left 2)
  | (apply w_stst; iterate 5 exact rfl)
  | (apply w_stbv; iterate 6 exact rfl)
  | (apply w_stbo; exact rfl; exact rfl; exact rfl; exact rfl; exact rfl; exact True.intro)
  | ((apply AOps.splitB; exact rfl; exact rfl) <;> intro h)
  | apply AllOf.nil
  | (apply AllOf.cons; exact rfl)
  | (apply AAny.take; exact rfl; exact rfl; kernel_rfl; kernel_rfl)
  | (apply AAny.all; exact rfl)
  | (apply AAny.done; exact rfl)
  | (apply inI_of <;> omega)
  | omega
  | (simp <;> omega))
  · exact .bool Try.results21 rfl (by simp; intro e; subst e; simp at h)
  have hl2 : xs.length = ys.length := by simp at h; omega
  refine AWp.loop (ι := Nat) (fun i => ⟨26, [(0, .ints xs), (1, .ints ys), (5, .i i)]⟩) (fun i => []) (fun i => i ≤ xs.length ∧ xs.take i = ys.take i) (fun i => xs.length - i) 0 ⟨Nat.zero_le _, rfl⟩ ⟨lee rfl (by (repeat (first | exact le_nil | refine le_eq rfl rfl ?_ | refine le_eq rfl (congrArg AV.i (by omega)) ?_))), by (repeat (first | exact lo_nil | refine lo_dead ?_ | refine lo_eq rfl ?_)), rfl, rfl⟩ ?_
  intro i hi
  obtain ⟨hi, he⟩ := hi
  repeat' (first
  | (apply AOps.nil; try simp only [List.nil_append, List.cons_append, List.set_cons_zero, List.set_cons_succ, List.length_cons, List.length_nil, Nat.reduceAdd, AV.sh, AV.sh1, AV.sh0, AO.sh, List.map_cons, List.map_nil, Nat.zero_add, Nat.add_zero, setAll])
  | ((apply AOps.splitP; exact rfl; exact rfl) <;> intro h)
  | ((apply AOps.splitN; exact rfl; exact rfl) <;> intro h)
  | (apply w_move; exact rfl; exact rfl)
  | (apply w_assign; exact rfl; exact rfl)
  | apply AWp.seq
  | apply AWp.region
  | ((apply AWp.condP; exact rfl) <;> intro h)
  | ((apply AWp.condN; exact rfl) <;> intro h)
  | (apply AWp.condT; exact rfl)
  | (apply AWp.condF; exact rfl)
  | ((apply AWp.condB; exact rfl) <;> intro h)
  | apply AWp.block
  | apply AWp.ret
  | apply AWp.exit
  | apply AWp.skip
  | (apply AWp.regionQ; kernel_rfl; kernel_rfl)
  | (apply if_pos'; exact rfl)
  | (apply if_neg'; decide)
  | (apply w_skip; exact rfl)
  | (apply w_pickT; exact rfl; exact rfl; exact rfl)
  | (apply w_pickF; exact rfl; exact rfl; exact rfl)
  | (apply w_len; exact rfl; exact rfl; first | exact .ints _ | exact .intss _ | exact .sli rfl | exact .sls rfl | exact .slr rfl | exact .orow rfl | exact .nil)
  | ((first | apply w_lss | apply w_leq | apply w_gtr | apply w_geq | apply w_eql | apply w_neq | apply w_add | apply w_sub | apply w_mul | apply w_idx | apply w_ld | apply w_fld | apply w_fa | apply w_extv | apply w_min | apply w_max | apply w_slhi | apply w_sllo | apply w_bs2); iterate 3 exact rfl)
  | ((first | apply w_eqlb | apply w_neqb | apply w_idxs | apply w_lds | apply w_ext); iterate 3 exact rfl)
  | (apply w_rem; exact rfl; exact rfl; exact rfl; (focus (omega; done)); (focus (omega; done)))
  | (apply w_quo; exact rfl; exact rfl; exact rfl; (focus (omega; done)); (focus (omega; done)))
  | (apply w_remT; exact rfl; exact rfl; exact rfl)
  | (apply w_quoT; exact rfl; exact rfl; exact rfl)
  | ((first | apply w_not | apply w_neg | apply w_conv | apply w_build0 | apply w_bs1 | apply w_boxa); iterate 2 exact rfl)
  | (apply w_idxo; exact rfl; exact rfl; (first | exact .sli rfl | exact .sls rfl | exact .slr rfl); exact rfl)
  | ((first | apply w_idxr | apply w_ldr); iterate 4 exact rfl)
  | (apply w_ldo; iterate 4 exact rfl)
  | (apply w_ldls; iterate 4 exact rfl)
  | (apply w_ldrp; iterate 4 exact rfl)
  | (apply w_ldb; iterate 5 exact rfl)
  | (apply w_ldst; iterate 5 exact rfl)
  | ((first | apply w_sllh | apply w_stbi); iterate 4 exact rfl)
  | ((first | apply w_oslo | apply w_oshi | apply w_stbii); iterate 4 exact rfl)
  | (apply w_copy; exact rfl; (first | exact .own rfl rfl rfl | exact .osub); exact rfl; rotate_left 1; exact rfl; (first | exact .ints _ | exact .sli rfl | exact .orow rfl | exact .nil | exact .osub rfl (by simp; omega)))
  | (apply w_build1; exact rfl; exact rfl; (first | exact one_val rfl rfl | exact one_ints | exact one_intss | exact one_own rfl True.intro))
  | (apply w_build2; exact rfl; exact rfl; exact rfl; (first | exact one_val rfl rfl | exact one_ints | exact one_intss | exact one_own rfl True.intro); (first | exact one_val rfl rfl | exact one_ints | exact one_intss | exact one_own rfl True.intro))
  | (apply w_bs0; iterate 1 exact rfl)
  | (apply w_appn; exact rfl; exact rfl; (first | exact .ints _ | exact .sli rfl | exact .orow rfl | exact .nil | exact .osub rfl (by simp; omega)); exact rfl)
  | (apply w_app; exact rfl; exact rfl; exact rfl; exact rfl; (first | exact .ints _ | exact .sli rfl | exact .orow rfl | exact .nil | exact .osub rfl (by simp; omega)); rotate_left 1; simp only [Env.mp, List.map_cons, List.map_nil, List.set_cons_zero, List.set_cons_succ, AV.kill, AV.kill1, AO.kill, AV.noRow, AV.noRow1, AO.via, reduceIte, Nat.reduceEqDiff, Nat.reduceLT, Env.up, Nat.zero_ne_one, Nat.one_ne_zero, Nat.reduceAdd, List.cons_append, List.nil_append]; rotate_left 1)
  | (apply w_alst; iterate 2 exact rfl)
  | (apply w_alone; iterate 3 exact rfl)
  | (apply w_mki; exact rfl; exact rfl; rotate_left 3; exact rfl; rotate_left 1)
  | (apply w_mkr; exact rfl; exact rfl; rotate_left 3; exact rfl; rotate_left 1)
  | (apply w_strow; exact rfl; exact rfl; rotate_left 1; exact rfl; exact rfl; exact rfl; exact rfl; simp only [Env.mp, List.map_cons, List.map_nil, List.set_cons_zero, List.set_cons_succ, AV.kill, AV.kill1, AO.kill, AV.noRow, AV.noRow1, AO.via, reduceIte, Nat.reduceEqDiff, Nat.reduceLT, Env.up, Nat.zero_ne_one, Nat.one_ne_zero, Nat.reduceAdd, List.cons_append, List.nil_append]; rotate_left 1)
  | (apply w_sti; exact rfl; exact rfl; rotate_left 1; exact rfl; rotate_left 2)
  | (apply w_stst; iterate 5 exact rfl)
  | (apply w_stbv; iterate 6 exact rfl)
  | (apply w_stbo; exact rfl; exact rfl; exact rfl; exact rfl; exact rfl; exact True.intro)
  | ((apply AOps.splitB; exact rfl; exact rfl) <;> intro h)
  | apply AllOf.nil
  | (apply AllOf.cons; exact rfl)
  | (apply AAny.take; exact rfl; exact rfl; kernel_rfl; kernel_rfl)
  | (apply AAny.all; exact rfl)
  | (apply AAny.done; exact rfl)
  | (apply inI_of <;> omega)
  | omega
  | (simp <;> omega))
  · exact .bool Try.results21 rfl (by simp; intro e; subst e; simp at h)
  · refine ⟨i + 1, ⟨by omega, ?_⟩, by omega, ⟨lee rfl (by (repeat (first | exact le_nil | refine le_eq rfl rfl ?_ | refine le_eq rfl (congrArg AV.i (by omega)) ?_))), by (repeat (first | exact lo_nil | refine lo_dead ?_ | refine lo_eq rfl ?_)), rfl, rfl⟩⟩
    have h1 : i < xs.length := by omega
    have h2 : i < ys.length := by omega
    rw [List.take_succ_eq_append_getElem h1, List.take_succ_eq_append_getElem h2, he, List.append_cancel_left_eq]
    have : geti xs i = geti ys i := by simpa using h
    simpa [geti, h1, h2] using this
  · have e : i = xs.length := by omega
    subst e
    rw [List.take_length, hl2, List.take_length] at he
    exact .bool Try.results21 rfl (by simp [he])
end Go.Proofs.Ytlkhcelodcneiaa
/-
  bits.Len, by the library's own contract laid at this dump in plain words. No condition.
-/
namespace Go.Proofs.Ytlkhcelodcneiaa
open Go Go.RowKit Go.Shelf
def lays125_ren : Go.Shelf.Ren := ⟨fun | 125 => 57 | 128 => 70 | 129 => 71 | n => n, fun | 46 => 80 | 3 => 3 | 51 => 94 | 53 => 96 | 4 => 4 | 5 => 5 | 9 => 9 | n => n, fun | n => n⟩
theorem lays125 : Go.Proofs.Lays.n125 Try.prog lays125_ren := {
  mixed := by kernel_rfl
  f125 := Try.func57.trans (congrArg some (by kernel_rfl))
  f128 := Try.func70.trans (congrArg some (by kernel_rfl))
  f129 := Try.func71.trans (congrArg some (by kernel_rfl))
  t3 := Try.underlying3
  a3 := Try.isAgg3
  z3 := Try.sizeOf3
  v3 := Try.zeroValue3
  t4 := Try.underlying4
  a4 := Try.isAgg4
  z4 := Try.sizeOf4
  v4 := Try.zeroValue4
  t5 := Try.underlying5
  a5 := Try.isAgg5
  z5 := Try.sizeOf5
  v5 := Try.zeroValue5
  t9 := Try.underlying9
  a9 := Try.isAgg9
  z9 := Try.sizeOf9
  v9 := Try.zeroValue9
  t46 := Try.underlying80
  a46 := Try.isAgg80
  z46 := Try.sizeOf80
  v46 := Try.zeroValue80
  t51 := Try.underlying94
  a51 := Try.isAgg94
  z51 := Try.sizeOf94
  v51 := Try.zeroValue94
  t53 := Try.underlying96
  a53 := Try.isAgg96
  z53 := Try.sizeOf96
  v53 := Try.zeroValue96 }
theorem bits_Len (x : Int) (w : World) (h0 : 0 ≤ x) (h1 : x ≤ 18446744073709551615) :
    Calls Try.prog 57 #[.int .u64 x] w fun e w' => e = .returned (.int .i64 (Lib.bitLen x.toNat)) ∧ w' = w := Any.bits_Len lays125 x w h0 h1
theorem bitsLen_c (n : Int) (h0 : 0 ≤ n) (h1 : n ≤ 18446744073709551615) : AFnV Try.prog 57 [.val (.int .u64 n)] (.int .i64 (Lib.bitLen n.toNat)) := by
  refine ⟨⟨_, _, Try.func57, by kernel_rfl, rfl⟩, fun w vs ⟨h2, h3⟩ => ?_⟩
  have e0 := h3 0
  obtain ⟨l⟩ := vs
  match l, h2 with
  | [v], _ =>
    have e1 : RV w (fun _ => True) [] v (.val (.int .u64 n)) := by simpa using e0
    cases e1
    exact (bits_Len n w h0 h1).mono fun e w' ⟨he, hw⟩ => ⟨he, hw ▸ Below.refl _ _⟩
end Go.Proofs.Ytlkhcelodcneiaa
/-
  Functions without results that write to what they are handed. No condition.
-/
namespace Go.Proofs.Ytlkhcelodcneiaa
open Go Go.RowKit
theorem AFnUN.of {P : Program} {f : FuncId} {fn : Func} {c : Code} {args : List AV} {os : List AO} {Q : Value → List AO → Prop} {n : Nat} (hf : P.funcs[f]? = some fn) (hb : fn.body = some c) (hnm : (fn.name == "runtime.NumGoroutine") = false) (hn : fn.ntmps - args.length = n)
    (h : ∀ K, AWp P c (fun env os1 => ∃ v os', ResIs P fn env os1 (.val v) ∧ Q v os' ∧ os1.take os.length = os' ∧ os1[os.length]? = some (.keep (os.length + 1) K) ∧ ∀ o ∈ os', o.plain) (fun _ _ _ => False) (fun env os1 => ∃ v os', ResIs P fn env os1 (.val v) ∧ Q v os' ∧ os1.take os.length = os' ∧ os1[os.length]? = some (.keep (os.length + 1) K) ∧ ∀ o ∈ os', o.plain) (Env.start args n) (os ++ [.keep (os.length + 1) K])) :
    AFnU P f args os Q := by
  refine ⟨⟨fn, c, hf, hnm, hb⟩, fun base w gs vs hbase hO hsz hvs => calls_of_wp hf hb ?_⟩
  rw [show fn.ntmps - vs.size = n by rw [hsz]; exact hn]
  let bl : List Nat := (List.range w.heap.size).filter fun b => decide (base ≤ b) && gs.all fun g => !g.bl.contains b
  let gk : Gh := ⟨undef, 0, bl, []⟩
  let K : Kp := ⟨fun b => w.heap[b]?, gs ++ [gk]⟩
  have hbl : ∀ b, b ∈ bl ↔ b < w.heap.size ∧ base ≤ b ∧ ∀ (h : Nat) g, gs[h]? = some g → b ∉ g.bl := by
    intro b
    simp only [bl, List.mem_filter, List.mem_range, Bool.and_eq_true, decide_eq_true_eq, List.all_eq_true, Bool.not_eq_true', List.contains_eq_mem, decide_eq_false_iff_not]
    constructor
    · rintro ⟨h1, h2, h3⟩
      exact ⟨h1, h2, fun h g hg => h3 g (List.mem_of_getElem? hg)⟩
    · rintro ⟨h1, h2, h3⟩
      exact ⟨h1, h2, fun g hg => by obtain ⟨i, hi⟩ := List.getElem?_of_mem hg; exact h3 i g hi⟩
  have hl := hO.hl
  have part : ∀ {i : Nat} {x : Gh} {y : AO}, (gs ++ [gk])[i]? = some x → (os ++ [.keep (os.length + 1) K])[i]? = some y → (gs[i]? = some x ∧ os[i]? = some y) ∨ (i = os.length ∧ x = gk ∧ y = .keep (os.length + 1) K) := by
    intro i x y hx hy
    rcases append_one hx with ⟨h1, h2⟩ | ⟨h1, rfl⟩
    · rcases append_one hy with ⟨h3, h4⟩ | ⟨h3, rfl⟩
      · exact .inl ⟨h2, h4⟩
      · omega
    · rcases append_one hy with ⟨h3, h4⟩ | ⟨h3, rfl⟩
      · omega
      · exact .inr ⟨h3, rfl, rfl⟩
  have gl : ∀ (i : Nat) x, gs[i]? = some x → (gs ++ [gk])[i]? = some x := fun i x e => by
    rw [List.getElem?_append_left (List.getElem?_eq_some_iff.1 e).1]; exact e
  have kp : Keeps (okOf gs os) (okOf (gs ++ [gk]) (os ++ [.keep (os.length + 1) K])) w w := by
    intro b hbk _
    refine ⟨fun i x y hx hy hny hm => ?_, rfl⟩
    rcases part hx hy with ⟨h1, h2⟩ | ⟨_, _, rfl⟩
    · exact hbk i x y h1 h2 hny hm
    · exact hny.elim
  have hrel : Rel base w (gs ++ [gk]) (Env.start args n) (os ++ [.keep (os.length + 1) K]) (vs ++ Array.replicate n undef) := by
    refine ⟨hbase, by simp [hl], by simp [Env.start, hsz], fun i => ?_, ?_, ?_, ?_⟩
    · exact start_rv args n vs (fun i => (hvs i).mono kp gl) i
    · intro i x y hx hy
      rcases part hx hy with ⟨h1, h2⟩ | ⟨_, rfl, rfl⟩
      · exact (hO.hp y (List.mem_of_getElem? h2)).ro (hO.ho i x y h1 h2)
      · exact ⟨fun b _ => rfl, by simp [K, hl], fun i x h => h⟩
    · intro i j g1 g2 o1 o2 hij hg1 hg2 ho1 ho2 _ _ b hb1 hb2
      rcases part hg1 ho1 with ⟨a1, a2⟩ | ⟨a1, rfl, _⟩
      · rcases part hg2 ho2 with ⟨b1, b2⟩ | ⟨_, rfl, _⟩
        · exact hO.hd i j g1 g2 hij a1 b1 b hb1 hb2
        · exact ((hbl b).1 hb2).2.2 i g1 a1 hb1
      · rcases part hg2 ho2 with ⟨b1, b2⟩ | ⟨b1, _, _⟩
        · exact ((hbl b).1 hb1).2.2 j g2 b1 hb2
        · omega
    · intro i x y hx hy _ b hb
      rcases part hx hy with ⟨h1, h2⟩ | ⟨_, rfl, _⟩
      · exact hO.hn i x h1 b hb
      · exact ⟨((hbl b).1 hb).2.1, ((hbl b).1 hb).1⟩
  refine wp_mono (h K base w w _ _ hrel (Below.refl _ _)) ?_
  intro e a w' hq
  cases e with
  | normal =>
    obtain ⟨env, os1, gs1, hr, hd, hbel, v, os', h1, h2, h3, h4, h5⟩ := hq
    obtain ⟨u, hu, hv⟩ := h1 _ _ _ _ hr
    cases hv
    have hlt : os.length < os1.length := (List.getElem?_eq_some_iff.1 h4).1
    have hltg : os.length < gs1.length := by have := hr.hl; omega
    obtain ⟨g1, hg1⟩ : ∃ g1, gs1[os.length]? = some g1 := ⟨_, List.getElem?_eq_getElem hltg⟩
    obtain ⟨r1, r2, r3⟩ := hr.ho _ _ _ hg1 h4
    have pin : ∀ (i : Nat) x, gs[i]? = some x → gs1[i]? = some x := fun i x e => r3 i x (gl i x e)
    have egk : g1 = gk := by
      have := r3 os.length gk (by show (gs ++ [gk])[os.length]? = some gk; rw [← hl]; simp)
      rw [hg1] at this
      exact Option.some.inj this
    rw [egk] at r1
    have get' : ∀ {i : Nat} {y : AO}, os'[i]? = some y → os1[i]? = some y ∧ i < os.length := by
      intro i y hy
      rw [← h3, List.getElem?_take] at hy
      split at hy
      · exact ⟨hy, ‹_›⟩
      · cases hy
    refine ⟨hd, v, hu, v, os', rfl, h2, ⟨?_, h5, ?_, hO.hd, ?_⟩, hbel, ?_⟩
    · rw [← h3, List.length_take]; omega
    · intro i x y hx hy
      obtain ⟨h6, h7⟩ := get' hy
      exact (h5 y (List.mem_of_getElem? hy)).ro (hr.ho i x y (pin i x hx) h6)
    · intro i x hx b hb
      have := hO.hn i x hx b hb
      exact ⟨this.1, Nat.lt_of_lt_of_le this.2 hbel.size⟩
    · intro b hb hnot
      rcases Nat.lt_or_ge b base with h6 | h6
      · exact hbel.block b h6
      · exact r1 b ((hbl b).2 ⟨hb, h6, hnot⟩)
  | exit j => obtain ⟨_, _, _, _, _, _, hx⟩ := hq; exact hx.elim
  | ret =>
    obtain ⟨env, os1, gs1, hr, hd, hbel, v, os', h1, h2, h3, h4, h5⟩ := hq
    obtain ⟨u, hu, hv⟩ := h1 _ _ _ _ hr
    cases hv
    have hlt : os.length < os1.length := (List.getElem?_eq_some_iff.1 h4).1
    have hltg : os.length < gs1.length := by have := hr.hl; omega
    obtain ⟨g1, hg1⟩ : ∃ g1, gs1[os.length]? = some g1 := ⟨_, List.getElem?_eq_getElem hltg⟩
    obtain ⟨r1, r2, r3⟩ := hr.ho _ _ _ hg1 h4
    have pin : ∀ (i : Nat) x, gs[i]? = some x → gs1[i]? = some x := fun i x e => r3 i x (gl i x e)
    have egk : g1 = gk := by
      have := r3 os.length gk (by show (gs ++ [gk])[os.length]? = some gk; rw [← hl]; simp)
      rw [hg1] at this
      exact Option.some.inj this
    rw [egk] at r1
    have get' : ∀ {i : Nat} {y : AO}, os'[i]? = some y → os1[i]? = some y ∧ i < os.length := by
      intro i y hy
      rw [← h3, List.getElem?_take] at hy
      split at hy
      · exact ⟨hy, ‹_›⟩
      · cases hy
    refine ⟨hd, v, hu, v, os', rfl, h2, ⟨?_, h5, ?_, hO.hd, ?_⟩, hbel, ?_⟩
    · rw [← h3, List.length_take]; omega
    · intro i x y hx hy
      obtain ⟨h6, h7⟩ := get' hy
      exact (h5 y (List.mem_of_getElem? hy)).ro (hr.ho i x y (pin i x hx) h6)
    · intro i x hx b hb
      have := hO.hn i x hx b hb
      exact ⟨this.1, Nat.lt_of_lt_of_le this.2 hbel.size⟩
    · intro b hb hnot
      rcases Nat.lt_or_ge b base with h6 | h6
      · exact hbel.block b h6
      · exact r1 b ((hbl b).2 ⟨hb, h6, hnot⟩)
  | goto l => exact (hq : False).elim
  | panic ch => exact (hq : False).elim
  | outgrown => exact (hq : False).elim


theorem AFnUN.start {P : Program} {f : FuncId} {fn : Func} {c : Code} {args : List AV} {objs : List AO} {Q : Value → List AO → Prop} {m : Nat} (hf : P.funcs[f]? = some fn) (hn : fn.ntmps = m) (hb : fn.body = some c) (hnm : (fn.name == "runtime.NumGoroutine") = false)
    (h : ∀ K, AWp P c (fun env os1 => ∃ v os', ResIs P fn env os1 (.val v) ∧ Q v os' ∧ os1.take objs.length = os' ∧ os1[objs.length]? = some (.keep (objs.length + 1) K) ∧ ∀ o ∈ os', o.plain) (fun _ _ _ => False) (fun env os1 => ∃ v os', ResIs P fn env os1 (.val v) ∧ Q v os' ∧ os1.take objs.length = os' ∧ os1[objs.length]? = some (.keep (objs.length + 1) K) ∧ ∀ o ∈ os', o.plain) (Env.start args (m - args.length)) (objs ++ [.keep (objs.length + 1) K])) :
    AFnU P f args objs Q := AFnUN.of hf hb hnm (by rw [hn]) h
theorem ResIs.unit {P : Program} {fn : Func} {env : Env} {os : List AO} (h : fn.results = #[]) : ResIs P fn env os (.val (.tuple #[])) :=
  fun _ _ _ tm hr => ⟨.tuple #[], by unfold results; rw [h]; simp, .val _⟩
end Go.Proofs.Ytlkhcelodcneiaa
/-
  Sorting what is in order already: nothing is written. Condition: few numbers.
-/
namespace Go.Proofs.Ytlkhcelodcneiaa
open Go Go.RowKit
attribute [local irreducible] AWp AOps ResIs Ret1 QOp LOp COp AFnV AFn Imms LeE LeO
set_option maxHeartbeats 1000000
set_option linter.unusedSimpArgs false
set_option linter.unusedVariables false

def Srt (xs : List Int) : Prop := ∀ i j : Nat, i ≤ j → j < xs.length → geti xs (i : Nat) ≤ geti xs (j : Nat)
theorem srt_of {xs : List Int} (h : xs.Pairwise (· < ·)) : Srt xs := by
  intro i j hij hj
  rcases Nat.lt_or_eq_of_le hij with h1 | rfl
  · have := List.pairwise_iff_getElem.1 h i j (by omega) hj h1
    simp only [geti, Int.toNat_natCast, List.getD_eq_getElem?_getD, List.getElem?_eq_getElem hj, List.getElem?_eq_getElem (show i < xs.length by omega), Option.getD_some]
    omega
  · omega
theorem less_c (a b : Int) : AFnV Try.prog 67 [.i a, .i b] (.bool (decide (a < b))) := by
  (refine AFnV.start Try.func67 Try.ntmps67 rfl (by kernel_rfl) fun hk => ?_; simp only [Env.start, enumF, List.length_cons, List.length_nil, Nat.reduceAdd, Nat.reduceSub, List.cons_append, List.nil_append])
  repeat' (first | (apply AOps.nil; try simp only [List.nil_append, List.cons_append, List.set_cons_zero, List.set_cons_succ, List.length_cons, List.length_nil, Nat.reduceAdd, AV.sh, AV.sh1, AV.sh0, AO.sh, List.map_cons, List.map_nil, Nat.zero_add, Nat.add_zero, setAll]) | (apply w_move; exact rfl; exact rfl) | (apply w_assign; exact rfl; exact rfl) | apply AWp.seq | apply AWp.region | apply AWp.ret | (apply w_skip; exact rfl) | (apply w_pickF; exact rfl; exact rfl; exact rfl) | (apply w_call (isNaN_c _); exact rfl; exact rfl; focus ((repeat (first | exact im_nil | refine im_cons rfl (.val _) ?_)); done)) | ((apply w_lss); iterate 3 exact rfl))
  all_goals exact .bool Try.results67 rfl (by simp)
theorem insertionSort_s (xs : List Int) (hs : Srt xs) (hl : xs.length ≤ 12) : AFnU Try.prog 61 [.ints xs, .i 0, .i xs.length] [] (fun v os => v = .tuple #[] ∧ os = []) := by
  (refine AFnUN.start Try.func61 Try.ntmps61 rfl (by kernel_rfl) fun K => ?_; simp only [Env.start, enumF, List.length_cons, List.length_nil, Nat.reduceAdd, Nat.reduceSub, List.cons_append, List.nil_append])
  repeat' (first | (apply AOps.nil; try simp only [List.nil_append, List.cons_append, List.set_cons_zero, List.set_cons_succ, List.length_cons, List.length_nil, Nat.reduceAdd, AV.sh, AV.sh1, AV.sh0, AO.sh, List.map_cons, List.map_nil, Nat.zero_add, Nat.add_zero, setAll]) | (apply w_move; exact rfl; exact rfl) | (apply w_assign; exact rfl; exact rfl) | apply AWp.seq | apply AWp.region | apply AWp.block | ((apply w_add); iterate 3 exact rfl) | (apply inI_of <;> omega))
  refine AWp.loop (ι := Nat) (fun p => ⟨49, [(0, .ints xs), (1, .i 0), (2, .i xs.length), (6, .i (p + 1))]⟩) (fun p => [.keep 1 K]) (fun p => p ≤ xs.length) (fun p => xs.length - p) 0 (by omega) ⟨lee rfl (by (repeat (first | exact le_nil | refine le_eq rfl rfl ?_))), by (repeat (first | exact lo_nil | refine lo_eq rfl ?_)), rfl, rfl⟩ ?_
  rintro p p0
  by_cases hp : p + 1 < xs.length
  · have hle := hs p (p + 1) (by omega) hp
    have e1 : ((p : Int) + 1 - 1) = (p : Nat) := by omega
    have e2 : ((p : Int) + 1) = ((p + 1 : Nat) : Int) := by omega
    rw [← e1, ← e2] at hle
    repeat' (first | (apply AOps.nil; try simp only [List.nil_append, List.cons_append, List.set_cons_zero, List.set_cons_succ, List.length_cons, List.length_nil, Nat.reduceAdd, AV.sh, AV.sh1, AV.sh0, AO.sh, List.map_cons, List.map_nil, Nat.zero_add, Nat.add_zero, setAll]) | (apply w_move; exact rfl; exact rfl) | (apply w_assign; exact rfl; exact rfl) | apply AWp.seq | apply AWp.region | ((apply AWp.condP; exact rfl) <;> intro h) | apply AWp.block | apply AWp.exit | apply AWp.skip | (apply if_pos'; exact rfl) | omega | ((apply w_lss); iterate 3 exact rfl))
    refine AWp.loop (ι := Unit) (fun _ => ⟨49, [(0, .ints xs), (1, .i 0), (2, .i xs.length), (6, .i (p + 1)), (7, .i (p + 1))]⟩) (fun _ => [.keep 1 K]) (fun _ => True) (fun _ => 0) () trivial ⟨lee rfl (by (repeat (first | exact le_nil | refine le_eq rfl rfl ?_))), by (repeat (first | exact lo_nil | refine lo_eq rfl ?_)), rfl, rfl⟩ ?_
    rintro _ _
    have hc := less_c (geti xs ((p : Int) + 1)) (geti xs ((p : Int) + 1 - 1))
    rw [decide_eq_false (by omega)] at hc
    repeat' (first | (apply AOps.nil; try simp only [List.nil_append, List.cons_append, List.set_cons_zero, List.set_cons_succ, List.length_cons, List.length_nil, Nat.reduceAdd, AV.sh, AV.sh1, AV.sh0, AO.sh, List.map_cons, List.map_nil, Nat.zero_add, Nat.add_zero, setAll]) | ((apply AOps.splitP; exact rfl; exact rfl) <;> intro h) | (apply w_move; exact rfl; exact rfl) | (apply w_assign; exact rfl; exact rfl) | apply AWp.seq | apply AWp.region | (apply AWp.condF; exact rfl) | apply AWp.exit | (apply AWp.regionQ; kernel_rfl; kernel_rfl) | (apply w_skip; exact rfl) | (apply w_pickT; exact rfl; exact rfl; exact rfl) | (apply w_pickF; exact rfl; exact rfl; exact rfl) | (apply w_call (hc); exact rfl; exact rfl; focus ((repeat (first | exact im_nil | refine im_cons rfl (.val _) ?_)); done)) | omega | ((first | apply w_gtr | apply w_add | apply w_sub | apply w_idx | apply w_ld); iterate 3 exact rfl) | (apply inI_of <;> omega))
    all_goals exact ⟨p + 1, by omega, by omega, ⟨lee rfl (by (repeat (first | exact le_nil | refine le_eq rfl rfl ?_))), by (repeat (first | exact lo_nil | refine lo_eq rfl ?_)), rfl, rfl⟩⟩
  · repeat' (first | (apply AOps.nil; try simp only [List.nil_append, List.cons_append, List.set_cons_zero, List.set_cons_succ, List.length_cons, List.length_nil, Nat.reduceAdd, AV.sh, AV.sh1, AV.sh0, AO.sh, List.map_cons, List.map_nil, Nat.zero_add, Nat.add_zero, setAll]) | (apply w_move; exact rfl; exact rfl) | (apply w_assign; exact rfl; exact rfl) | apply AWp.seq | apply AWp.region | ((apply AWp.condP; exact rfl) <;> intro h) | apply AWp.block | apply AWp.exit | apply AWp.skip | (apply if_pos'; exact rfl) | omega | ((apply w_lss); iterate 3 exact rfl))
    exact ⟨_, _, .unit Try.results61, ⟨rfl, rfl⟩, rfl, rfl, by simp⟩
theorem order2_s (xs : List Int) (hs : Srt xs) (a b : Nat) (hab : a ≤ b) (hb : b < xs.length) : AFnV Try.prog 80 [.ints xs, .i a, .i b, .any] (.tuple #[.int .i64 a, .int .i64 b]) := by
  have hle := hs a b hab hb
  have hc := less_c (geti xs (b : Nat)) (geti xs (a : Nat))
  rw [decide_eq_false (by omega)] at hc
  (refine AFnV.start Try.func80 Try.ntmps80 rfl (by kernel_rfl) fun hk0 => ?_; simp only [Env.start, enumF, List.length_cons, List.length_nil, Nat.reduceAdd, Nat.reduceSub, List.cons_append, List.nil_append])
  obtain ⟨hk, hl⟩ : ArgOk (.ints xs) := hk0 _ (by simp)
  repeat' (first | (apply AOps.nil; try simp only [List.nil_append, List.cons_append, List.set_cons_zero, List.set_cons_succ, List.length_cons, List.length_nil, Nat.reduceAdd, AV.sh, AV.sh1, AV.sh0, AO.sh, List.map_cons, List.map_nil, Nat.zero_add, Nat.add_zero, setAll]) | (apply w_move; exact rfl; exact rfl) | (apply w_assign; exact rfl; exact rfl) | apply AWp.seq | apply AWp.region | (apply AWp.condF; exact rfl) | apply AWp.ret | apply AWp.skip | (apply AWp.regionQ; kernel_rfl; kernel_rfl) | (apply w_call (hc); exact rfl; exact rfl; focus ((repeat (first | exact im_nil | refine im_cons rfl (.val _) ?_)); done)) | omega | ((first | apply w_idx | apply w_ld); iterate 3 exact rfl))
  all_goals exact .intint Try.results80 rfl rfl rfl rfl
theorem median_s (xs : List Int) (hs : Srt xs) (a b c : Nat) (hab : a ≤ b) (hbc : b ≤ c) (hc : c < xs.length) : AFnV Try.prog 78 [.ints xs, .i a, .i b, .i c, .any] (.int .i64 b) := by
  have h1 := order2_s xs hs a b hab (by omega)
  have h2 := order2_s xs hs b c hbc hc
  (refine AFnV.start Try.func78 Try.ntmps78 rfl (by kernel_rfl) fun hk => ?_; simp only [Env.start, enumF, List.length_cons, List.length_nil, Nat.reduceAdd, Nat.reduceSub, List.cons_append, List.nil_append])
  repeat' (first | (apply AOps.nil; try simp only [List.nil_append, List.cons_append, List.set_cons_zero, List.set_cons_succ, List.length_cons, List.length_nil, Nat.reduceAdd, AV.sh, AV.sh1, AV.sh0, AO.sh, List.map_cons, List.map_nil, Nat.zero_add, Nat.add_zero, setAll]) | (apply w_move; exact rfl; exact rfl) | (apply w_assign; exact rfl; exact rfl) | apply AWp.seq | apply AWp.region | apply AWp.ret | (apply w_call (h1); exact rfl; exact rfl; focus ((repeat (first | exact im_nil | refine im_cons rfl (.any _) ?_ | refine im_cons rfl (.val _) ?_ | refine im_cons rfl (.ints _) ?_)); done)) | (apply w_call (h2); exact rfl; exact rfl; focus ((repeat (first | exact im_nil | refine im_cons rfl (.any _) ?_ | refine im_cons rfl (.val _) ?_ | refine im_cons rfl (.ints _) ?_)); done)) | ((apply w_extv); iterate 3 exact rfl))
  all_goals exact .int Try.results78 rfl rfl
theorem choosePivot_s (xs : List Int) (hs : Srt xs) (h0 : 12 < xs.length) (h1 : xs.length < 50) : AFnV Try.prog 64 [.ints xs, .i 0, .i xs.length] (.tuple #[.int .i64 ((xs.length / 4 * 2 : Nat) : Int), .int .i64 1]) := by
  have hm := median_s xs hs (xs.length / 4) (xs.length / 4 * 2) (xs.length / 4 * 3) (by omega) (by omega) (by omega)
  have e0 : ((xs.length : Int) - 0) = (xs.length : Int) := by omega
  have e1 : (0 : Int) + ((xs.length : Int) - 0) / 4 * 1 = ((xs.length / 4 : Nat) : Int) := by omega
  have e2 : (0 : Int) + ((xs.length : Int) - 0) / 4 * 2 = ((xs.length / 4 * 2 : Nat) : Int) := by omega
  have e3 : (0 : Int) + ((xs.length : Int) - 0) / 4 * 3 = ((xs.length / 4 * 3 : Nat) : Int) := by omega
  rw [← e1, ← e2, ← e3] at hm
  rw [← e2]
  (refine AFnV.start Try.func64 Try.ntmps64 rfl (by kernel_rfl) fun hk => ?_; simp only [Env.start, enumF, List.length_cons, List.length_nil, Nat.reduceAdd, Nat.reduceSub, List.cons_append, List.nil_append])
  repeat' (first | (apply AOps.nil; try simp only [List.nil_append, List.cons_append, List.set_cons_zero, List.set_cons_succ, List.length_cons, List.length_nil, Nat.reduceAdd, AV.sh, AV.sh1, AV.sh0, AO.sh, List.map_cons, List.map_nil, Nat.zero_add, Nat.add_zero, setAll]) | (apply w_move; exact rfl; exact rfl) | (apply w_assign; exact rfl; exact rfl) | apply AWp.seq | apply AWp.region | ((apply AWp.condP; exact rfl) <;> intro h) | apply AWp.block | apply AWp.ret | apply AWp.skip | (apply w_call (hm); exact rfl; exact rfl; focus ((repeat (first | exact im_nil | refine im_cons rfl (.any _) ?_ | refine im_cons rfl (.val _) ?_ | refine im_cons rfl (.ints _) ?_)); done)) | omega | ((first | apply w_geq | apply w_eql | apply w_add | apply w_sub | apply w_mul | apply w_ld); iterate 3 exact rfl) | (apply w_quo; exact rfl; exact rfl; exact rfl; (focus (omega; done)); (focus (omega; done))) | (apply w_ldb; iterate 5 exact rfl) | (apply w_alone; iterate 3 exact rfl) | (apply inI_of <;> omega))
  all_goals first | exact .intint Try.results64 rfl rfl rfl rfl | (exfalso; simp_all; done) | (exfalso; omega)
theorem partial_s (xs : List Int) (hs : Srt xs) (h0 : 12 < xs.length) (h1 : xs.length < 50) : AFnV Try.prog 66 [.ints xs, .i 0, .i xs.length] (.bool true) := by
  (refine AFnV.start Try.func66 Try.ntmps66 rfl (by kernel_rfl) fun hk => ?_; simp only [Env.start, enumF, List.length_cons, List.length_nil, Nat.reduceAdd, Nat.reduceSub, List.cons_append, List.nil_append])
  repeat' (first | (apply AOps.nil; try simp only [List.nil_append, List.cons_append, List.set_cons_zero, List.set_cons_succ, List.length_cons, List.length_nil, Nat.reduceAdd, AV.sh, AV.sh1, AV.sh0, AO.sh, List.map_cons, List.map_nil, Nat.zero_add, Nat.add_zero, setAll]) | (apply w_move; exact rfl; exact rfl) | (apply w_assign; exact rfl; exact rfl) | apply AWp.seq | apply AWp.region | apply AWp.block | ((apply w_add); iterate 3 exact rfl) | (apply inI_of <;> omega))
  refine AWp.loop (ι := Unit) (fun _ => ⟨133, [(0, .ints xs), (1, .i 0), (2, .i xs.length), (7, .i 1), (8, .i 0)]⟩) (fun _ => []) (fun _ => True) (fun _ => 0) () trivial ⟨lee rfl (by (repeat (first | exact le_nil | refine le_eq rfl rfl ?_))), by (repeat (exact lo_nil)), rfl, rfl⟩ ?_
  rintro _ _
  repeat' (first | (apply AOps.nil; try simp only [List.nil_append, List.cons_append, List.set_cons_zero, List.set_cons_succ, List.length_cons, List.length_nil, Nat.reduceAdd, AV.sh, AV.sh1, AV.sh0, AO.sh, List.map_cons, List.map_nil, Nat.zero_add, Nat.add_zero, setAll]) | (apply w_move; exact rfl; exact rfl) | (apply w_assign; exact rfl; exact rfl) | apply AWp.seq | apply AWp.region | ((apply AWp.condP; exact rfl) <;> intro h) | apply AWp.block | apply AWp.ret | apply AWp.exit | apply AWp.skip | omega | ((apply w_lss); iterate 3 exact rfl))
  refine AWp.loop (ι := Nat) (fun p => ⟨133, [(0, .ints xs), (1, .i 0), (2, .i xs.length), (7, .i (p + 1)), (8, .i 0)]⟩) (fun p => []) (fun p => p + 1 ≤ xs.length) (fun p => xs.length - p) 0 (by omega) ⟨lee rfl (by (repeat (first | exact le_nil | refine le_eq rfl rfl ?_))), by (repeat (exact lo_nil)), rfl, rfl⟩ ?_
  rintro p p0
  by_cases hp : p + 1 < xs.length
  · have hle := hs p (p + 1) (by omega) hp
    have e1 : ((p : Int) + 1 - 1) = (p : Nat) := by omega
    have e2 : ((p : Int) + 1) = ((p + 1 : Nat) : Int) := by omega
    rw [← e1, ← e2] at hle
    have hc := less_c (geti xs ((p : Int) + 1)) (geti xs ((p : Int) + 1 - 1))
    rw [decide_eq_false (by omega)] at hc
    repeat' (first | (apply AOps.nil; try simp only [List.nil_append, List.cons_append, List.set_cons_zero, List.set_cons_succ, List.length_cons, List.length_nil, Nat.reduceAdd, AV.sh, AV.sh1, AV.sh0, AO.sh, List.map_cons, List.map_nil, Nat.zero_add, Nat.add_zero, setAll]) | ((apply AOps.splitP; exact rfl; exact rfl) <;> intro h) | (apply w_move; exact rfl; exact rfl) | (apply w_assign; exact rfl; exact rfl) | apply AWp.seq | apply AWp.region | (apply AWp.condT; exact rfl) | (apply AWp.condF; exact rfl) | apply AWp.block | apply AWp.exit | apply AWp.skip | (apply AWp.regionQ; kernel_rfl; kernel_rfl) | (apply w_skip; exact rfl) | (apply w_pickT; exact rfl; exact rfl; exact rfl) | (apply w_pickF; exact rfl; exact rfl; exact rfl) | (apply w_call (hc); exact rfl; exact rfl; focus ((repeat (first | exact im_nil | refine im_cons rfl (.val _) ?_)); done)) | omega | ((first | apply w_lss | apply w_add | apply w_sub | apply w_idx | apply w_ld); iterate 3 exact rfl) | ((apply w_not); iterate 2 exact rfl) | (apply inI_of <;> omega))
    all_goals exact ⟨p + 1, by omega, by omega, ⟨lee rfl (by (repeat (first | exact le_nil | refine le_eq rfl rfl ?_))), by (repeat (exact lo_nil)), rfl, rfl⟩⟩
  · repeat' (first | (apply AOps.nil; try simp only [List.nil_append, List.cons_append, List.set_cons_zero, List.set_cons_succ, List.length_cons, List.length_nil, Nat.reduceAdd, AV.sh, AV.sh1, AV.sh0, AO.sh, List.map_cons, List.map_nil, Nat.zero_add, Nat.add_zero, setAll]) | ((apply AOps.splitP; exact rfl; exact rfl) <;> intro h) | (apply w_move; exact rfl; exact rfl) | (apply w_assign; exact rfl; exact rfl) | apply AWp.seq | apply AWp.region | ((apply AWp.condP; exact rfl) <;> intro h) | (apply AWp.condF; exact rfl) | apply AWp.ret | apply AWp.exit | apply AWp.skip | (apply AWp.regionQ; kernel_rfl; kernel_rfl) | (apply w_skip; exact rfl) | (apply w_pickF; exact rfl; exact rfl; exact rfl) | omega | ((first | apply w_lss | apply w_eql); iterate 3 exact rfl))
    all_goals exact .bool Try.results66 rfl rfl
theorem pdq_s (xs : List Int) (hs : Srt xs) (lim : Int) (hl : 12 < xs.length → 0 < lim) (h1 : xs.length < 50) : AFnU Try.prog 56 [.ints xs, .i 0, .i xs.length, .i lim] [] (fun v os => v = .tuple #[] ∧ os = []) := by
  by_cases h0 : xs.length ≤ 12
  · have hi := insertionSort_s xs hs h0
    (refine AFnUN.start Try.func56 Try.ntmps56 rfl (by kernel_rfl) fun K => ?_; simp only [Env.start, enumF, List.length_cons, List.length_nil, Nat.reduceAdd, Nat.reduceSub, List.cons_append, List.nil_append])
    repeat' (first | (apply AOps.nil; try simp only [List.nil_append, List.cons_append, List.set_cons_zero, List.set_cons_succ, List.length_cons, List.length_nil, Nat.reduceAdd, AV.sh, AV.sh1, AV.sh0, AO.sh, List.map_cons, List.map_nil, Nat.zero_add, Nat.add_zero, setAll]) | (apply w_assign; exact rfl; exact rfl) | apply AWp.seq | apply AWp.region | apply AWp.block)
    refine AWp.loop (ι := Unit) (fun _ => ⟨134, [(0, .ints xs), (1, .i 0), (2, .i xs.length), (3, .i lim), (8, .b true), (9, .b true)]⟩) (fun _ => [.keep 1 K]) (fun _ => True) (fun _ => 0) () trivial ⟨lee rfl (by (repeat (first | exact le_nil | refine le_eq rfl rfl ?_))), by (repeat (first | exact lo_nil | refine lo_eq rfl ?_)), rfl, rfl⟩ ?_
    rintro _ _
    repeat' (first | (apply AOps.nil; try simp only [List.nil_append, List.cons_append, List.set_cons_zero, List.set_cons_succ, List.length_cons, List.length_nil, Nat.reduceAdd, AV.sh, AV.sh1, AV.sh0, AO.sh, List.map_cons, List.map_nil, Nat.zero_add, Nat.add_zero, setAll]) | (apply w_move; exact rfl; exact rfl) | (apply w_assign; exact rfl; exact rfl) | apply AWp.seq | apply AWp.region | ((apply AWp.condP; exact rfl) <;> intro h) | apply AWp.block | apply AWp.ret | apply AWp.skip | (apply w_callu [] (hi); (exact handed0); (focus ((repeat (first | exact imu_nil | refine imu_cons rfl (.val _) ?_ | refine imu_cons rfl (.ints _) ?_)); done)); rintro v os0 ⟨rfl, rfl⟩; try simp only [List.nil_append, List.cons_append, List.set_cons_zero, List.set_cons_succ, List.length_cons, List.length_nil, Nat.reduceAdd, AV.sh, AV.sh1, AV.sh0, AO.sh, List.map_cons, List.map_nil, Nat.zero_add, Nat.add_zero, setAll]) | omega | ((first | apply w_leq | apply w_sub); iterate 3 exact rfl) | (apply inI_of <;> omega))
    all_goals exact ⟨_, _, .unit Try.results56, ⟨rfl, rfl⟩, rfl, rfl, by simp⟩
  · have hc := choosePivot_s xs hs (by omega) h1
    have hp := partial_s xs hs (by omega) h1
    have hl := hl (by omega)
    (refine AFnUN.start Try.func56 Try.ntmps56 rfl (by kernel_rfl) fun K => ?_; simp only [Env.start, enumF, List.length_cons, List.length_nil, Nat.reduceAdd, Nat.reduceSub, List.cons_append, List.nil_append])
    repeat' (first | (apply AOps.nil; try simp only [List.nil_append, List.cons_append, List.set_cons_zero, List.set_cons_succ, List.length_cons, List.length_nil, Nat.reduceAdd, AV.sh, AV.sh1, AV.sh0, AO.sh, List.map_cons, List.map_nil, Nat.zero_add, Nat.add_zero, setAll]) | (apply w_assign; exact rfl; exact rfl) | apply AWp.seq | apply AWp.region | apply AWp.block)
    refine AWp.loop (ι := Unit) (fun _ => ⟨134, [(0, .ints xs), (1, .i 0), (2, .i xs.length), (3, .i lim), (8, .b true), (9, .b true)]⟩) (fun _ => [.keep 1 K]) (fun _ => True) (fun _ => 0) () trivial ⟨lee rfl (by (repeat (first | exact le_nil | refine le_eq rfl rfl ?_))), by (repeat (first | exact lo_nil | refine lo_eq rfl ?_)), rfl, rfl⟩ ?_
    rintro _ _
    repeat' (first | (apply AOps.nil; try simp only [List.nil_append, List.cons_append, List.set_cons_zero, List.set_cons_succ, List.length_cons, List.length_nil, Nat.reduceAdd, AV.sh, AV.sh1, AV.sh0, AO.sh, List.map_cons, List.map_nil, Nat.zero_add, Nat.add_zero, setAll]) | ((apply AOps.splitP; exact rfl; exact rfl) <;> intro h) | (apply w_move; exact rfl; exact rfl) | (apply w_assign; exact rfl; exact rfl) | apply AWp.seq | apply AWp.region | ((apply AWp.condP; exact rfl) <;> intro h) | (apply AWp.condT; exact rfl) | (apply AWp.condF; exact rfl) | apply AWp.block | apply AWp.ret | apply AWp.skip | (apply AWp.regionQ; kernel_rfl; kernel_rfl) | (apply w_skip; exact rfl) | (apply w_pickT; exact rfl; exact rfl; exact rfl) | (apply w_pickF; exact rfl; exact rfl; exact rfl) | (apply w_call (hc); exact rfl; exact rfl; focus ((repeat (first | exact im_nil | refine im_cons rfl (.val _) ?_ | refine im_cons rfl (.ints _) ?_)); done)) | (apply w_call (hp); exact rfl; exact rfl; focus ((repeat (first | exact im_nil | refine im_cons rfl (.val _) ?_ | refine im_cons rfl (.ints _) ?_)); done)) | omega | ((first | apply w_leq | apply w_gtr | apply w_eql | apply w_sub | apply w_extv); iterate 3 exact rfl) | ((apply w_not); iterate 2 exact rfl) | (apply inI_of <;> omega))
    all_goals first | exact ⟨_, _, .unit Try.results56, ⟨rfl, rfl⟩, rfl, rfl, by simp⟩ | (exfalso; simp_all; done)
theorem bitLen_pos {n : Nat} (h : 0 < n) : 0 < Lib.bitLen n := by
  unfold Lib.bitLen
  rw [Lib.bitLenAux]
  split
  · omega
  · omega
theorem sort_s (xs : List Int) (hs : Srt xs) (h1 : xs.length < 50) : AFnU Try.prog 48 [.ints xs] [] (fun v os => v = .tuple #[] ∧ os = []) := by
  have hb := bitsLen_c (xs.length : Int) (by omega) (by omega)
  have hp := pdq_s xs hs (Lib.bitLen (xs.length : Int).toNat) (fun h => by
    have := bitLen_pos (n := (xs.length : Int).toNat) (by omega)
    omega) h1
  (refine AFnUN.start Try.func48 Try.ntmps48 rfl (by kernel_rfl) fun K => ?_; simp only [Env.start, enumF, List.length_cons, List.length_nil, Nat.reduceAdd, Nat.reduceSub, List.cons_append, List.nil_append])
  repeat' (first | (apply AOps.nil; try simp only [List.nil_append, List.cons_append, List.set_cons_zero, List.set_cons_succ, List.length_cons, List.length_nil, Nat.reduceAdd, AV.sh, AV.sh1, AV.sh0, AO.sh, List.map_cons, List.map_nil, Nat.zero_add, Nat.add_zero, setAll]) | (apply w_move; exact rfl; exact rfl) | (apply w_assign; exact rfl; exact rfl) | apply AWp.seq | apply AWp.region | (apply w_len; exact rfl; exact rfl; first | exact .ints _ | exact .intss _ | exact .sli rfl | exact .sls rfl | exact .slr rfl | exact .orow rfl | exact .nil) | ((apply w_convu); iterate 2 exact rfl) | (apply w_call (hb); exact rfl; exact rfl; focus ((repeat (first | exact im_nil | refine im_cons rfl (.val _) ?_)); done)) | (apply w_callu [] (hp); (exact handed0); (focus ((repeat (first | exact imu_nil | refine imu_cons rfl (.val _) ?_ | refine imu_cons rfl (.ints _) ?_)); done)); rintro v os0 ⟨rfl, rfl⟩; try simp only [List.nil_append, List.cons_append, List.set_cons_zero, List.set_cons_succ, List.length_cons, List.length_nil, Nat.reduceAdd, AV.sh, AV.sh1, AV.sh0, AO.sh, List.map_cons, List.map_nil, Nat.zero_add, Nat.add_zero, setAll]) | omega)
  all_goals exact ⟨_, _, .unit Try.results48, ⟨rfl, rfl⟩, rfl, rfl, by simp⟩
end Go.Proofs.Ytlkhcelodcneiaa
/-
  Contracts of the laws' own helpers over lists of lists. No condition but a bound on the sizes.
-/
namespace Go.Proofs.Ytlkhcelodcneiaa
open Go Go.RowKit
attribute [local irreducible] AWp AOps ResIs Ret1 QOp LOp COp AFnV AFn Imms LeE LeO
set_option maxHeartbeats 1000000
set_option linter.unusedSimpArgs false
set_option linter.unusedVariables false

def szR : List (List Int) → Int → Int
  | [], l => l
  | xs :: r, l => if szI xs l < 0 then -1 else szR r (szI xs l)
def szSS (xss : List (List Int)) (left : Int) : Int := if left - xss.length < 0 then -1 else szR xss (left - xss.length)

theorem szR_ok : ∀ (xss : List (List Int)) (l : Int), 0 ≤ szR xss l → 0 ≤ l → szR xss l ≤ l ∧ ∀ xs ∈ xss, (xs.length : Int) ≤ l
  | [], l, _, _ => ⟨Int.le_refl _, by simp⟩
  | xs :: r, l, h, h0 => by
    simp only [szR] at h ⊢
    by_cases e : szI xs l < 0
    · rw [if_pos e] at h; omega
    · rw [if_neg e] at h ⊢
      have ih := szR_ok r (szI xs l) h (by omega)
      have hx : szI xs l = l - xs.length := by unfold szI at e ⊢; split <;> simp_all
      refine ⟨by omega, fun ys hy => ?_⟩
      rcases List.mem_cons.1 hy with rfl | hy
      · omega
      · have := ih.2 ys hy; omega
theorem szSS_ok {xss : List (List Int)} {left : Int} (h : 0 ≤ szSS xss left) (h0 : 0 ≤ left) : (xss.length : Int) ≤ left ∧ ∀ xs ∈ xss, (xs.length : Int) ≤ left := by
  unfold szSS at h
  split at h
  · omega
  · have := szR_ok xss _ h (by omega)
    exact ⟨by omega, fun xs hx => by have := this.2 xs hx; omega⟩

theorem drop_gets {xss : List (List Int)} {i : Nat} (h : i < xss.length) : xss.drop i = gets xss i :: xss.drop (i + 1) := by
  rw [List.drop_eq_getElem_cons h]; simp [gets, h]

theorem szInt64SS_c (xss : List (List Int)) (left : Int) (h0 : -1 ≤ left) (h1 : left ≤ 1048576) : AFnV Try.prog 10 [.intss xss, .i left] (.int .i64 (szSS xss left)) := by
  (refine AFnV.start Try.func10 Try.ntmps10 rfl (by kernel_rfl) fun hk0 => ?_; simp only [Env.start, enumF, List.length_cons, List.length_nil, Nat.reduceAdd, Nat.reduceSub, List.cons_append, List.nil_append])
  obtain ⟨hk, hl⟩ : ArgOk (.intss xss) := hk0 _ (by simp)
  repeat' (first
  | (apply AOps.nil; try simp only [List.nil_append, List.cons_append, List.set_cons_zero, List.set_cons_succ, List.length_cons, List.length_nil, Nat.reduceAdd, AV.sh, AV.sh1, AV.sh0, AO.sh, List.map_cons, List.map_nil, Nat.zero_add, Nat.add_zero, setAll])
  | ((apply AOps.splitP; exact rfl; exact rfl) <;> intro h)
  | ((apply AOps.splitN; exact rfl; exact rfl) <;> intro h)
  | (apply w_move; exact rfl; exact rfl)
  | (apply w_assign; exact rfl; exact rfl)
  | apply AWp.seq
  | apply AWp.region
  | ((apply AWp.condP; exact rfl) <;> intro h)
  | ((apply AWp.condN; exact rfl) <;> intro h)
  | (apply AWp.condT; exact rfl)
  | (apply AWp.condF; exact rfl)
  | ((apply AWp.condB; exact rfl) <;> intro h)
  | apply AWp.block
  | apply AWp.ret
  | apply AWp.exit
  | apply AWp.skip
  | (apply AWp.regionQ; kernel_rfl; kernel_rfl)
  | (apply if_pos'; exact rfl)
  | (apply if_neg'; decide)
  | (apply w_skip; exact rfl)
  | (apply w_pickT; exact rfl; exact rfl; exact rfl)
  | (apply w_pickF; exact rfl; exact rfl; exact rfl)
  | (apply w_len; exact rfl; exact rfl; first | exact .ints _ | exact .intss _ | exact .sli rfl | exact .sls rfl | exact .slr rfl | exact .orow rfl | exact .nil)
  | ((first | apply w_lss | apply w_leq | apply w_gtr | apply w_geq | apply w_eql | apply w_neq | apply w_add | apply w_sub | apply w_mul | apply w_idx | apply w_ld | apply w_fld | apply w_fa | apply w_extv | apply w_min | apply w_max | apply w_slhi | apply w_sllo | apply w_bs2); iterate 3 exact rfl)
  | ((first | apply w_eqlb | apply w_neqb | apply w_idxs | apply w_lds | apply w_ext); iterate 3 exact rfl)
  | (apply w_rem; exact rfl; exact rfl; exact rfl; (focus (omega; done)); (focus (omega; done)))
  | (apply w_quo; exact rfl; exact rfl; exact rfl; (focus (omega; done)); (focus (omega; done)))
  | (apply w_remT; exact rfl; exact rfl; exact rfl)
  | (apply w_quoT; exact rfl; exact rfl; exact rfl)
  | ((first | apply w_not | apply w_neg | apply w_conv | apply w_build0 | apply w_bs1 | apply w_boxa); iterate 2 exact rfl)
  | (apply w_idxo; exact rfl; exact rfl; (first | exact .sli rfl | exact .sls rfl | exact .slr rfl); exact rfl)
  | ((first | apply w_idxr | apply w_ldr); iterate 4 exact rfl)
  | (apply w_ldo; iterate 4 exact rfl)
  | (apply w_ldls; iterate 4 exact rfl)
  | (apply w_ldrp; iterate 4 exact rfl)
  | (apply w_ldb; iterate 5 exact rfl)
  | (apply w_ldst; iterate 5 exact rfl)
  | ((first | apply w_sllh | apply w_stbi); iterate 4 exact rfl)
  | ((first | apply w_oslo | apply w_oshi | apply w_stbii); iterate 4 exact rfl)
  | (apply w_copy; exact rfl; (first | exact .own rfl rfl rfl | exact .osub); exact rfl; rotate_left 1; exact rfl; (first | exact .ints _ | exact .sli rfl | exact .orow rfl | exact .nil | exact .osub rfl (by simp; omega)))
  | (apply w_build1; exact rfl; exact rfl; (first | exact one_val rfl rfl | exact one_ints | exact one_intss | exact one_own rfl True.intro))
  | (apply w_build2; exact rfl; exact rfl; exact rfl; (first | exact one_val rfl rfl | exact one_ints | exact one_intss | exact one_own rfl True.intro); (first | exact one_val rfl rfl | exact one_ints | exact one_intss | exact one_own rfl True.intro))
  | (apply w_bs0; iterate 1 exact rfl)
  | (apply w_appn; exact rfl; exact rfl; (first | exact .ints _ | exact .sli rfl | exact .orow rfl | exact .nil | exact .osub rfl (by simp; omega)); exact rfl)
  | (apply w_app; exact rfl; exact rfl; exact rfl; exact rfl; (first | exact .ints _ | exact .sli rfl | exact .orow rfl | exact .nil | exact .osub rfl (by simp; omega)); rotate_left 1; simp only [Env.mp, List.map_cons, List.map_nil, List.set_cons_zero, List.set_cons_succ, AV.kill, AV.kill1, AO.kill, AV.noRow, AV.noRow1, AO.via, reduceIte, Nat.reduceEqDiff, Nat.reduceLT, Env.up, Nat.zero_ne_one, Nat.one_ne_zero, Nat.reduceAdd, List.cons_append, List.nil_append]; rotate_left 1)
  | (apply w_alst; iterate 2 exact rfl)
  | (apply w_alone; iterate 3 exact rfl)
  | (apply w_mki; exact rfl; exact rfl; rotate_left 3; exact rfl; rotate_left 1)
  | (apply w_mkr; exact rfl; exact rfl; rotate_left 3; exact rfl; rotate_left 1)
  | (apply w_strow; exact rfl; exact rfl; rotate_left 1; exact rfl; exact rfl; exact rfl; exact rfl; simp only [Env.mp, List.map_cons, List.map_nil, List.set_cons_zero, List.set_cons_succ, AV.kill, AV.kill1, AO.kill, AV.noRow, AV.noRow1, AO.via, reduceIte, Nat.reduceEqDiff, Nat.reduceLT, Env.up, Nat.zero_ne_one, Nat.one_ne_zero, Nat.reduceAdd, List.cons_append, List.nil_append]; rotate_left 1)
  | (apply w_sti; exact rfl; exact rfl; rotate_left 1; exact rfl; rotate_left 2)
  | (apply w_stst; iterate 5 exact rfl)
  | (apply w_stbv; iterate 6 exact rfl)
  | (apply w_stbo; exact rfl; exact rfl; exact rfl; exact rfl; exact rfl; exact True.intro)
  | ((apply AOps.splitB; exact rfl; exact rfl) <;> intro h)
  | apply AllOf.nil
  | (apply AllOf.cons; exact rfl)
  | (apply AAny.take; exact rfl; exact rfl; kernel_rfl; kernel_rfl)
  | (apply AAny.all; exact rfl)
  | (apply AAny.done; exact rfl)
  | (apply inI_of <;> omega)
  | omega
  | (simp <;> omega))
  · exact .int Try.results10 rfl (by simp [szSS, h])
  refine AWp.loop (ι := Nat × Int) (fun s => ⟨27, [(0, .intss xss), (1, .i s.2), (5, .i s.1)]⟩) (fun _ => []) (fun s => s.1 ≤ xss.length ∧ 0 ≤ s.2 ∧ s.2 ≤ 1048576 ∧ szR (xss.drop s.1) s.2 = szSS xss left) (fun s => xss.length - s.1) (0, left - xss.length) ⟨by simp, by simp only; omega, by simp only; omega, by simp [szSS, h]⟩ ⟨lee rfl (by (repeat (first | exact le_nil | refine le_eq rfl rfl ?_ | refine le_eq rfl (congrArg AV.i (by omega)) ?_))), by (repeat (first | exact lo_nil | refine lo_dead ?_ | refine lo_eq rfl ?_)), rfl, rfl⟩ ?_
  rintro ⟨i, l⟩ ⟨a0, a1, a2, a3⟩
  simp only at a0 a1 a2 a3
  repeat' (first
  | (apply AOps.nil; try simp only [List.nil_append, List.cons_append, List.set_cons_zero, List.set_cons_succ, List.length_cons, List.length_nil, Nat.reduceAdd, AV.sh, AV.sh1, AV.sh0, AO.sh, List.map_cons, List.map_nil, Nat.zero_add, Nat.add_zero, setAll])
  | ((apply AOps.splitP; exact rfl; exact rfl) <;> intro h)
  | ((apply AOps.splitN; exact rfl; exact rfl) <;> intro h)
  | (apply w_move; exact rfl; exact rfl)
  | (apply w_assign; exact rfl; exact rfl)
  | apply AWp.seq
  | apply AWp.region
  | ((apply AWp.condP; exact rfl) <;> intro h)
  | ((apply AWp.condN; exact rfl) <;> intro h)
  | (apply AWp.condT; exact rfl)
  | (apply AWp.condF; exact rfl)
  | ((apply AWp.condB; exact rfl) <;> intro h)
  | apply AWp.block
  | apply AWp.ret
  | apply AWp.exit
  | apply AWp.skip
  | (apply AWp.regionQ; kernel_rfl; kernel_rfl)
  | (apply if_pos'; exact rfl)
  | (apply if_neg'; decide)
  | (apply w_skip; exact rfl)
  | (apply w_pickT; exact rfl; exact rfl; exact rfl)
  | (apply w_pickF; exact rfl; exact rfl; exact rfl)
  | (apply w_len; exact rfl; exact rfl; first | exact .ints _ | exact .intss _ | exact .sli rfl | exact .sls rfl | exact .slr rfl | exact .orow rfl | exact .nil)
  | (apply w_call (szInt64S_c _ _ (show -1 ≤ l by omega) a2); exact rfl; exact rfl; focus ((repeat (first | exact im_nil | refine im_cons rfl (.val _) ?_ | refine im_cons rfl (.ints _) ?_ | refine im_cons rfl (.intss _) ?_ | refine im_cons rfl (.sli rfl) ?_ | refine im_cons rfl (.sls rfl) ?_ | refine im_cons rfl (.orow rfl) ?_ | refine im_cons rfl (.osub rfl (by simp; omega)) ?_ | refine im_cons rfl (.nil) ?_ | refine im_cons rfl (.nils) ?_ | refine im_cons rfl (im_agg2 (.val _) (.ints _)) ?_ | refine im_cons rfl (im_agg2 (.val _) (.sli rfl)) ?_ | refine im_cons rfl (im_agg2 (.val _) (.nil)) ?_ | refine im_cons rfl (im_agg2 (.ints _) (.intss _)) ?_ | refine im_cons rfl (im_agg2 (.ints _) (.sls rfl)) ?_ | refine im_cons rfl (im_agg2 (.sli rfl) (.intss _)) ?_ | refine im_cons rfl (im_agg2 (.sli rfl) (.sls rfl)) ?_ | refine im_cons rfl (im_agg1 (.ints _)) ?_ | refine im_cons rfl (im_agg1 (.sli rfl)) ?_ | refine im_cons rfl (im_agg1 (.intss _)) ?_ | refine im_cons rfl (im_agg1 (.sls rfl)) ?_ | refine im_cons rfl (im_agg1 (.nil)) ?_ | refine im_cons rfl (im_agg1 (.nils)) ?_)); done))
  | ((first | apply w_lss | apply w_leq | apply w_gtr | apply w_geq | apply w_eql | apply w_neq | apply w_add | apply w_sub | apply w_mul | apply w_idx | apply w_ld | apply w_fld | apply w_fa | apply w_extv | apply w_min | apply w_max | apply w_slhi | apply w_sllo | apply w_bs2); iterate 3 exact rfl)
  | ((first | apply w_eqlb | apply w_neqb | apply w_idxs | apply w_lds | apply w_ext); iterate 3 exact rfl)
  | (apply w_rem; exact rfl; exact rfl; exact rfl; (focus (omega; done)); (focus (omega; done)))
  | (apply w_quo; exact rfl; exact rfl; exact rfl; (focus (omega; done)); (focus (omega; done)))
  | (apply w_remT; exact rfl; exact rfl; exact rfl)
  | (apply w_quoT; exact rfl; exact rfl; exact rfl)
  | ((first | apply w_not | apply w_neg | apply w_conv | apply w_build0 | apply w_bs1 | apply w_boxa); iterate 2 exact rfl)
  | (apply w_idxo; exact rfl; exact rfl; (first | exact .sli rfl | exact .sls rfl | exact .slr rfl); exact rfl)
  | ((first | apply w_idxr | apply w_ldr); iterate 4 exact rfl)
  | (apply w_ldo; iterate 4 exact rfl)
  | (apply w_ldls; iterate 4 exact rfl)
  | (apply w_ldrp; iterate 4 exact rfl)
  | (apply w_ldb; iterate 5 exact rfl)
  | (apply w_ldst; iterate 5 exact rfl)
  | ((first | apply w_sllh | apply w_stbi); iterate 4 exact rfl)
  | ((first | apply w_oslo | apply w_oshi | apply w_stbii); iterate 4 exact rfl)
  | (apply w_copy; exact rfl; (first | exact .own rfl rfl rfl | exact .osub); exact rfl; rotate_left 1; exact rfl; (first | exact .ints _ | exact .sli rfl | exact .orow rfl | exact .nil | exact .osub rfl (by simp; omega)))
  | (apply w_build1; exact rfl; exact rfl; (first | exact one_val rfl rfl | exact one_ints | exact one_intss | exact one_own rfl True.intro))
  | (apply w_build2; exact rfl; exact rfl; exact rfl; (first | exact one_val rfl rfl | exact one_ints | exact one_intss | exact one_own rfl True.intro); (first | exact one_val rfl rfl | exact one_ints | exact one_intss | exact one_own rfl True.intro))
  | (apply w_bs0; iterate 1 exact rfl)
  | (apply w_appn; exact rfl; exact rfl; (first | exact .ints _ | exact .sli rfl | exact .orow rfl | exact .nil | exact .osub rfl (by simp; omega)); exact rfl)
  | (apply w_app; exact rfl; exact rfl; exact rfl; exact rfl; (first | exact .ints _ | exact .sli rfl | exact .orow rfl | exact .nil | exact .osub rfl (by simp; omega)); rotate_left 1; simp only [Env.mp, List.map_cons, List.map_nil, List.set_cons_zero, List.set_cons_succ, AV.kill, AV.kill1, AO.kill, AV.noRow, AV.noRow1, AO.via, reduceIte, Nat.reduceEqDiff, Nat.reduceLT, Env.up, Nat.zero_ne_one, Nat.one_ne_zero, Nat.reduceAdd, List.cons_append, List.nil_append]; rotate_left 1)
  | (apply w_alst; iterate 2 exact rfl)
  | (apply w_alone; iterate 3 exact rfl)
  | (apply w_mki; exact rfl; exact rfl; rotate_left 3; exact rfl; rotate_left 1)
  | (apply w_mkr; exact rfl; exact rfl; rotate_left 3; exact rfl; rotate_left 1)
  | (apply w_strow; exact rfl; exact rfl; rotate_left 1; exact rfl; exact rfl; exact rfl; exact rfl; simp only [Env.mp, List.map_cons, List.map_nil, List.set_cons_zero, List.set_cons_succ, AV.kill, AV.kill1, AO.kill, AV.noRow, AV.noRow1, AO.via, reduceIte, Nat.reduceEqDiff, Nat.reduceLT, Env.up, Nat.zero_ne_one, Nat.one_ne_zero, Nat.reduceAdd, List.cons_append, List.nil_append]; rotate_left 1)
  | (apply w_sti; exact rfl; exact rfl; rotate_left 1; exact rfl; rotate_left 2)
  | (apply w_stst; iterate 5 exact rfl)
  | (apply w_stbv; iterate 6 exact rfl)
  | (apply w_stbo; exact rfl; exact rfl; exact rfl; exact rfl; exact rfl; exact True.intro)
  | ((apply AOps.splitB; exact rfl; exact rfl) <;> intro h)
  | apply AllOf.nil
  | (apply AllOf.cons; exact rfl)
  | (apply AAny.take; exact rfl; exact rfl; kernel_rfl; kernel_rfl)
  | (apply AAny.all; exact rfl)
  | (apply AAny.done; exact rfl)
  | (apply inI_of <;> omega)
  | omega
  | (simp <;> omega))
  · rw [drop_gets (by omega)] at a3
    exact .int Try.results10 rfl (by rw [← a3]; simp [szR, h])
  · rw [drop_gets (by omega)] at a3
    have e1 : szI (gets xss i) l = l - (gets xss i).length := by unfold szI at h ⊢; split <;> simp_all
    exact ⟨(i + 1, szI (gets xss i) l), ⟨by simp only; omega, by simp only; omega, by simp only; omega, by simp only; rw [← a3]; simp [szR, h]⟩, by simp only; omega, ⟨lee rfl (by (repeat (first | exact le_nil | refine le_eq rfl rfl ?_ | refine le_eq rfl (congrArg AV.i (by omega)) ?_))), by (repeat (first | exact lo_nil | refine lo_dead ?_ | refine lo_eq rfl ?_)), rfl, rfl⟩⟩
  · have e : i = xss.length := by omega
    subst e
    exact .int Try.results10 rfl (by rw [← a3]; simp [szR])

theorem take_set_snocs (xs : List (List Int)) (i : Nat) (h : i < xs.length) : (xs.take i ++ List.replicate (xs.length - i) []).set i (gets xs i) = xs.take (i + 1) ++ List.replicate (xs.length - (i + 1)) [] := by
  rw [List.set_append_right _ _ (by simp; omega), List.length_take, Nat.min_eq_left (by omega), Nat.sub_self, show xs.length - i = (xs.length - (i + 1)) + 1 by omega, List.replicate_succ, List.set_cons_zero, List.take_succ_eq_append_getElem h, show gets xs i = xs[i] by simp [gets, h]]
  simp only [List.append_assoc, List.cons_append, List.nil_append]

/-- The new slice of rows that a function hands back alone. -/
def IsIntss (e e2 : TypeId) (xss : List (List Int)) (r : AV) (os : List AO) : Prop := r = .own 0 ∧ os = [.sls e e2 xss]

theorem toInt64SS_c (xss : List (List Int)) (hb : xss.length ≤ 1048576) (hr : ∀ xs ∈ xss, xs.length ≤ 1048576) : AFn Try.prog 16 [.intss xss] (IsIntss 22 2 xss) := by
  (refine AFn.start Try.func16 Try.ntmps16 rfl (by kernel_rfl) fun hk => ?_; simp only [Env.start, enumF, List.length_cons, List.length_nil, Nat.reduceAdd, Nat.reduceSub, List.cons_append, List.nil_append])
  repeat' (first
  | (apply AOps.nil; try simp only [List.nil_append, List.cons_append, List.set_cons_zero, List.set_cons_succ, List.length_cons, List.length_nil, Nat.reduceAdd, AV.sh, AV.sh1, AV.sh0, AO.sh, List.map_cons, List.map_nil, Nat.zero_add, Nat.add_zero, setAll])
  | ((apply AOps.splitP; exact rfl; exact rfl) <;> intro h)
  | ((apply AOps.splitN; exact rfl; exact rfl) <;> intro h)
  | (apply w_move; exact rfl; exact rfl)
  | (apply w_assign; exact rfl; exact rfl)
  | apply AWp.seq
  | apply AWp.region
  | ((apply AWp.condP; exact rfl) <;> intro h)
  | ((apply AWp.condN; exact rfl) <;> intro h)
  | (apply AWp.condT; exact rfl)
  | (apply AWp.condF; exact rfl)
  | ((apply AWp.condB; exact rfl) <;> intro h)
  | apply AWp.block
  | apply AWp.ret
  | apply AWp.exit
  | apply AWp.skip
  | (apply AWp.regionQ; kernel_rfl; kernel_rfl)
  | (apply if_pos'; exact rfl)
  | (apply if_neg'; decide)
  | (apply w_skip; exact rfl)
  | (apply w_pickT; exact rfl; exact rfl; exact rfl)
  | (apply w_pickF; exact rfl; exact rfl; exact rfl)
  | (apply w_len; exact rfl; exact rfl; first | exact .ints _ | exact .intss _ | exact .sli rfl | exact .sls rfl | exact .slr rfl | exact .orow rfl | exact .nil)
  | ((first | apply w_lss | apply w_leq | apply w_gtr | apply w_geq | apply w_eql | apply w_neq | apply w_add | apply w_sub | apply w_mul | apply w_idx | apply w_ld | apply w_fld | apply w_fa | apply w_extv | apply w_min | apply w_max | apply w_slhi | apply w_sllo | apply w_bs2); iterate 3 exact rfl)
  | ((first | apply w_eqlb | apply w_neqb | apply w_idxs | apply w_lds | apply w_ext); iterate 3 exact rfl)
  | (apply w_rem; exact rfl; exact rfl; exact rfl; (focus (omega; done)); (focus (omega; done)))
  | (apply w_quo; exact rfl; exact rfl; exact rfl; (focus (omega; done)); (focus (omega; done)))
  | (apply w_remT; exact rfl; exact rfl; exact rfl)
  | (apply w_quoT; exact rfl; exact rfl; exact rfl)
  | ((first | apply w_not | apply w_neg | apply w_conv | apply w_build0 | apply w_bs1 | apply w_boxa); iterate 2 exact rfl)
  | (apply w_idxo; exact rfl; exact rfl; (first | exact .sli rfl | exact .sls rfl | exact .slr rfl); exact rfl)
  | ((first | apply w_idxr | apply w_ldr); iterate 4 exact rfl)
  | (apply w_ldo; iterate 4 exact rfl)
  | (apply w_ldls; iterate 4 exact rfl)
  | (apply w_ldrp; iterate 4 exact rfl)
  | (apply w_ldb; iterate 5 exact rfl)
  | (apply w_ldst; iterate 5 exact rfl)
  | ((first | apply w_sllh | apply w_stbi); iterate 4 exact rfl)
  | ((first | apply w_oslo | apply w_oshi | apply w_stbii); iterate 4 exact rfl)
  | (apply w_copy; exact rfl; (first | exact .own rfl rfl rfl | exact .osub); exact rfl; rotate_left 1; exact rfl; (first | exact .ints _ | exact .sli rfl | exact .orow rfl | exact .nil | exact .osub rfl (by simp; omega)))
  | (apply w_build1; exact rfl; exact rfl; (first | exact one_val rfl rfl | exact one_ints | exact one_intss | exact one_own rfl True.intro))
  | (apply w_build2; exact rfl; exact rfl; exact rfl; (first | exact one_val rfl rfl | exact one_ints | exact one_intss | exact one_own rfl True.intro); (first | exact one_val rfl rfl | exact one_ints | exact one_intss | exact one_own rfl True.intro))
  | (apply w_bs0; iterate 1 exact rfl)
  | (apply w_appn; exact rfl; exact rfl; (first | exact .ints _ | exact .sli rfl | exact .orow rfl | exact .nil | exact .osub rfl (by simp; omega)); exact rfl)
  | (apply w_app; exact rfl; exact rfl; exact rfl; exact rfl; (first | exact .ints _ | exact .sli rfl | exact .orow rfl | exact .nil | exact .osub rfl (by simp; omega)); rotate_left 1; simp only [Env.mp, List.map_cons, List.map_nil, List.set_cons_zero, List.set_cons_succ, AV.kill, AV.kill1, AO.kill, AV.noRow, AV.noRow1, AO.via, reduceIte, Nat.reduceEqDiff, Nat.reduceLT, Env.up, Nat.zero_ne_one, Nat.one_ne_zero, Nat.reduceAdd, List.cons_append, List.nil_append]; rotate_left 1)
  | (apply w_alst; iterate 2 exact rfl)
  | (apply w_alone; iterate 3 exact rfl)
  | (apply w_mki; exact rfl; exact rfl; rotate_left 3; exact rfl; rotate_left 1)
  | (apply w_mkr; exact rfl; exact rfl; rotate_left 3; exact rfl; rotate_left 1)
  | (apply w_strow; exact rfl; exact rfl; rotate_left 1; exact rfl; exact rfl; exact rfl; exact rfl; simp only [Env.mp, List.map_cons, List.map_nil, List.set_cons_zero, List.set_cons_succ, AV.kill, AV.kill1, AO.kill, AV.noRow, AV.noRow1, AO.via, reduceIte, Nat.reduceEqDiff, Nat.reduceLT, Env.up, Nat.zero_ne_one, Nat.one_ne_zero, Nat.reduceAdd, List.cons_append, List.nil_append]; rotate_left 1)
  | (apply w_sti; exact rfl; exact rfl; rotate_left 1; exact rfl; rotate_left 2)
  | (apply w_stst; iterate 5 exact rfl)
  | (apply w_stbv; iterate 6 exact rfl)
  | (apply w_stbo; exact rfl; exact rfl; exact rfl; exact rfl; exact rfl; exact True.intro)
  | ((apply AOps.splitB; exact rfl; exact rfl) <;> intro h)
  | apply AllOf.nil
  | (apply AllOf.cons; exact rfl)
  | (apply AAny.take; exact rfl; exact rfl; kernel_rfl; kernel_rfl)
  | (apply AAny.all; exact rfl)
  | (apply AAny.done; exact rfl)
  | (apply inI_of <;> omega)
  | omega
  | (simp <;> omega))
  refine AWp.loop (ι := Nat) (fun i => ⟨23, [(0, .intss xss), (3, .own 0), (4, .i i)]⟩) (fun i => [.sls 22 2 (xss.take i ++ List.replicate (xss.length - i) [])]) (fun i => i ≤ xss.length) (fun i => xss.length - i) 0 (by omega) ⟨lee rfl (by (repeat (first | exact le_nil | refine le_eq rfl rfl ?_))), lo_eq (by simp) lo_nil, rfl, rfl⟩ ?_
  rintro i h0
  have e1 : (xss.take i ++ List.replicate (xss.length - i) []).length = xss.length := by simp; omega
  have hb2 : (gets xss i).length ≤ 1048576 := by
    by_cases hi : i < xss.length
    · exact hr _ (gets_mem (by omega) (by omega))
    · simp [gets, List.getElem?_eq_none (show xss.length ≤ i by omega)]
  repeat' (first
  | (apply AOps.nil; try simp only [List.nil_append, List.cons_append, List.set_cons_zero, List.set_cons_succ, List.length_cons, List.length_nil, Nat.reduceAdd, AV.sh, AV.sh1, AV.sh0, AO.sh, List.map_cons, List.map_nil, Nat.zero_add, Nat.add_zero, setAll])
  | ((apply AOps.splitP; exact rfl; exact rfl) <;> intro h)
  | ((apply AOps.splitN; exact rfl; exact rfl) <;> intro h)
  | (apply w_move; exact rfl; exact rfl)
  | (apply w_assign; exact rfl; exact rfl)
  | apply AWp.seq
  | apply AWp.region
  | ((apply AWp.condP; exact rfl) <;> intro h)
  | ((apply AWp.condN; exact rfl) <;> intro h)
  | (apply AWp.condT; exact rfl)
  | (apply AWp.condF; exact rfl)
  | ((apply AWp.condB; exact rfl) <;> intro h)
  | apply AWp.block
  | apply AWp.ret
  | apply AWp.exit
  | apply AWp.skip
  | (apply AWp.regionQ; kernel_rfl; kernel_rfl)
  | (apply if_pos'; exact rfl)
  | (apply if_neg'; decide)
  | (apply w_skip; exact rfl)
  | (apply w_pickT; exact rfl; exact rfl; exact rfl)
  | (apply w_pickF; exact rfl; exact rfl; exact rfl)
  | (apply w_len; exact rfl; exact rfl; first | exact .ints _ | exact .intss _ | exact .sli rfl | exact .sls rfl | exact .slr rfl | exact .orow rfl | exact .nil)
  | (apply w_callm (toInt64S_c _ hb2); (focus ((repeat (first | exact im_nil | refine im_cons rfl (.val _) ?_ | refine im_cons rfl (.ints _) ?_ | refine im_cons rfl (.intss _) ?_ | refine im_cons rfl (.sli rfl) ?_ | refine im_cons rfl (.sls rfl) ?_ | refine im_cons rfl (.orow rfl) ?_ | refine im_cons rfl (.osub rfl (by simp; omega)) ?_ | refine im_cons rfl (.nil) ?_ | refine im_cons rfl (.nils) ?_ | refine im_cons rfl (im_agg2 (.val _) (.ints _)) ?_ | refine im_cons rfl (im_agg2 (.val _) (.sli rfl)) ?_ | refine im_cons rfl (im_agg2 (.val _) (.nil)) ?_ | refine im_cons rfl (im_agg2 (.ints _) (.intss _)) ?_ | refine im_cons rfl (im_agg2 (.ints _) (.sls rfl)) ?_ | refine im_cons rfl (im_agg2 (.sli rfl) (.intss _)) ?_ | refine im_cons rfl (im_agg2 (.sli rfl) (.sls rfl)) ?_ | refine im_cons rfl (im_agg1 (.ints _)) ?_ | refine im_cons rfl (im_agg1 (.sli rfl)) ?_ | refine im_cons rfl (im_agg1 (.intss _)) ?_ | refine im_cons rfl (im_agg1 (.sls rfl)) ?_ | refine im_cons rfl (im_agg1 (.nil)) ?_ | refine im_cons rfl (im_agg1 (.nils)) ?_)); done)); rintro r os0 ⟨rfl, rfl⟩; try simp only [List.nil_append, List.cons_append, List.set_cons_zero, List.set_cons_succ, List.length_cons, List.length_nil, Nat.reduceAdd, AV.sh, AV.sh1, AV.sh0, AO.sh, List.map_cons, List.map_nil, Nat.zero_add, Nat.add_zero, setAll])
  | ((first | apply w_lss | apply w_leq | apply w_gtr | apply w_geq | apply w_eql | apply w_neq | apply w_add | apply w_sub | apply w_mul | apply w_idx | apply w_ld | apply w_fld | apply w_fa | apply w_extv | apply w_min | apply w_max | apply w_slhi | apply w_sllo | apply w_bs2); iterate 3 exact rfl)
  | ((first | apply w_eqlb | apply w_neqb | apply w_idxs | apply w_lds | apply w_ext); iterate 3 exact rfl)
  | (apply w_rem; exact rfl; exact rfl; exact rfl; (focus (omega; done)); (focus (omega; done)))
  | (apply w_quo; exact rfl; exact rfl; exact rfl; (focus (omega; done)); (focus (omega; done)))
  | (apply w_remT; exact rfl; exact rfl; exact rfl)
  | (apply w_quoT; exact rfl; exact rfl; exact rfl)
  | ((first | apply w_not | apply w_neg | apply w_conv | apply w_build0 | apply w_bs1 | apply w_boxa); iterate 2 exact rfl)
  | (apply w_idxo; exact rfl; exact rfl; (first | exact .sli rfl | exact .sls rfl | exact .slr rfl); exact rfl)
  | ((first | apply w_idxr | apply w_ldr); iterate 4 exact rfl)
  | (apply w_ldo; iterate 4 exact rfl)
  | (apply w_ldls; iterate 4 exact rfl)
  | (apply w_ldrp; iterate 4 exact rfl)
  | (apply w_ldb; iterate 5 exact rfl)
  | (apply w_ldst; iterate 5 exact rfl)
  | ((first | apply w_sllh | apply w_stbi); iterate 4 exact rfl)
  | ((first | apply w_oslo | apply w_oshi | apply w_stbii); iterate 4 exact rfl)
  | (apply w_copy; exact rfl; (first | exact .own rfl rfl rfl | exact .osub); exact rfl; rotate_left 1; exact rfl; (first | exact .ints _ | exact .sli rfl | exact .orow rfl | exact .nil | exact .osub rfl (by simp; omega)))
  | (apply w_build1; exact rfl; exact rfl; (first | exact one_val rfl rfl | exact one_ints | exact one_intss | exact one_own rfl True.intro))
  | (apply w_build2; exact rfl; exact rfl; exact rfl; (first | exact one_val rfl rfl | exact one_ints | exact one_intss | exact one_own rfl True.intro); (first | exact one_val rfl rfl | exact one_ints | exact one_intss | exact one_own rfl True.intro))
  | (apply w_bs0; iterate 1 exact rfl)
  | (apply w_appn; exact rfl; exact rfl; (first | exact .ints _ | exact .sli rfl | exact .orow rfl | exact .nil | exact .osub rfl (by simp; omega)); exact rfl)
  | (apply w_app; exact rfl; exact rfl; exact rfl; exact rfl; (first | exact .ints _ | exact .sli rfl | exact .orow rfl | exact .nil | exact .osub rfl (by simp; omega)); rotate_left 1; simp only [Env.mp, List.map_cons, List.map_nil, List.set_cons_zero, List.set_cons_succ, AV.kill, AV.kill1, AO.kill, AV.noRow, AV.noRow1, AO.via, reduceIte, Nat.reduceEqDiff, Nat.reduceLT, Env.up, Nat.zero_ne_one, Nat.one_ne_zero, Nat.reduceAdd, List.cons_append, List.nil_append]; rotate_left 1)
  | (apply w_alst; iterate 2 exact rfl)
  | (apply w_alone; iterate 3 exact rfl)
  | (apply w_mki; exact rfl; exact rfl; rotate_left 3; exact rfl; rotate_left 1)
  | (apply w_mkr; exact rfl; exact rfl; rotate_left 3; exact rfl; rotate_left 1)
  | (apply w_strow; exact rfl; exact rfl; rotate_left 1; exact rfl; exact rfl; exact rfl; exact rfl; simp only [Env.mp, List.map_cons, List.map_nil, List.set_cons_zero, List.set_cons_succ, AV.kill, AV.kill1, AO.kill, AV.noRow, AV.noRow1, AO.via, reduceIte, Nat.reduceEqDiff, Nat.reduceLT, Env.up, Nat.zero_ne_one, Nat.one_ne_zero, Nat.reduceAdd, List.cons_append, List.nil_append]; rotate_left 1)
  | (apply w_sti; exact rfl; exact rfl; rotate_left 1; exact rfl; rotate_left 2)
  | (apply w_stst; iterate 5 exact rfl)
  | (apply w_stbv; iterate 6 exact rfl)
  | (apply w_stbo; exact rfl; exact rfl; exact rfl; exact rfl; exact rfl; exact True.intro)
  | ((apply AOps.splitB; exact rfl; exact rfl) <;> intro h)
  | apply AllOf.nil
  | (apply AllOf.cons; exact rfl)
  | (apply AAny.take; exact rfl; exact rfl; kernel_rfl; kernel_rfl)
  | (apply AAny.all; exact rfl)
  | (apply AAny.done; exact rfl)
  | (apply inI_of <;> omega)
  | omega
  | (simp <;> omega))
  · have e2 := take_set_snocs xss i (by omega)
    have e3 : (xss.take i ++ List.replicate (xss.length - i) []).set ((i : Int)).toNat (gets xss i) = xss.take (i + 1) ++ List.replicate (xss.length - (i + 1)) [] := e2
    exact ⟨i + 1, by omega, by omega, ⟨lee rfl (by (repeat (first | exact le_nil | refine le_eq rfl rfl ?_ | refine le_eq rfl (congrArg AV.i (by omega)) ?_ | refine le_eq rfl (congrArg AV.i (e3)) ?_))), by (repeat (first | exact lo_nil | refine lo_dead ?_ | refine lo_eq rfl ?_ | refine lo_eq (congrArg (AO.sli _) (e3)) ?_ | refine lo_eq (congrArg (AO.sls _ _) (e3)) ?_)), rfl, rfl⟩⟩
  · have e : i = xss.length := by omega
    subst e
    exact ⟨_, _, _, .v1 Try.results16 rfl, .sls rfl, rfl, by simp⟩

theorem eqInt64SS_c (xss yss : List (List Int)) : AFnV Try.prog 22 [.intss xss, .intss yss] (.bool (decide (xss = yss))) := by
  (refine AFnV.start Try.func22 Try.ntmps22 rfl (by kernel_rfl) fun hk0 => ?_; simp only [Env.start, enumF, List.length_cons, List.length_nil, Nat.reduceAdd, Nat.reduceSub, List.cons_append, List.nil_append])
  obtain ⟨hk, hl⟩ : ArgOk (.intss xss) := hk0 _ (by simp)
  repeat' (first
  | (apply AOps.nil; try simp only [List.nil_append, List.cons_append, List.set_cons_zero, List.set_cons_succ, List.length_cons, List.length_nil, Nat.reduceAdd, AV.sh, AV.sh1, AV.sh0, AO.sh, List.map_cons, List.map_nil, Nat.zero_add, Nat.add_zero, setAll])
  | ((apply AOps.splitP; exact rfl; exact rfl) <;> intro h)
  | ((apply AOps.splitN; exact rfl; exact rfl) <;> intro h)
  | (apply w_move; exact rfl; exact rfl)
  | (apply w_assign; exact rfl; exact rfl)
  | apply AWp.seq
  | apply AWp.region
  | ((apply AWp.condP; exact rfl) <;> intro h)
  | ((apply AWp.condN; exact rfl) <;> intro h)
  | (apply AWp.condT; exact rfl)
  | (apply AWp.condF; exact rfl)
  | ((apply AWp.condB; exact rfl) <;> intro h)
  | apply AWp.block
  | apply AWp.ret
  | apply AWp.exit
  | apply AWp.skip
  | (apply AWp.regionQ; kernel_rfl; kernel_rfl)
  | (apply if_pos'; exact rfl)
  | (apply if_neg'; decide)
  | (apply w_skip; exact rfl)
  | (apply w_pickT; exact rfl; exact rfl; exact rfl)
  | (apply w_pickF; exact rfl; exact rfl; exact rfl)
  | (apply w_len; exact rfl; exact rfl; first | exact .ints _ | exact .intss _ | exact .sli rfl | exact .sls rfl | exact .slr rfl | exact .orow rfl | exact .nil)
  | ((first | apply w_lss | apply w_leq | apply w_gtr | apply w_geq | apply w_eql | apply w_neq | apply w_add | apply w_sub | apply w_mul | apply w_idx | apply w_ld | apply w_fld | apply w_fa | apply w_extv | apply w_min | apply w_max | apply w_slhi | apply w_sllo | apply w_bs2); iterate 3 exact rfl)
  | ((first | apply w_eqlb | apply w_neqb | apply w_idxs | apply w_lds | apply w_ext); iterate 3 exact rfl)
  | (apply w_rem; exact rfl; exact rfl; exact rfl; (focus (omega; done)); (focus (omega; done)))
  | (apply w_quo; exact rfl; exact rfl; exact rfl; (focus (omega; done)); (focus (omega; done)))
  | (apply w_remT; exact rfl; exact rfl; exact rfl)
  | (apply w_quoT; exact rfl; exact rfl; exact rfl)
  | ((first | apply w_not | apply w_neg | apply w_conv | apply w_build0 | apply w_bs1 | apply w_boxa); iterate 2 exact rfl)
  | (apply w_idxo; exact rfl; exact rfl; (first | exact .sli rfl | exact .sls rfl | exact .slr rfl); exact rfl)
  | ((first | apply w_idxr | apply w_ldr); iterate 4 exact rfl)
  | (apply w_ldo; iterate 4 exact rfl)
  | (apply w_ldls; iterate 4 exact rfl)
  | (apply w_ldrp; iterate 4 exact rfl)
  | (apply w_ldb; iterate 5 exact rfl)
  | (apply w_ldst; iterate 5 exact rfl)
  | ((first | apply w_sllh | apply w_stbi); iterate 4 exact rfl)
  | ((first | apply w_oslo | apply w_oshi | apply w_stbii); iterate 4 exact rfl)
  | (apply w_copy; exact rfl; (first | exact .own rfl rfl rfl | exact .osub); exact rfl; rotate_left 1; exact rfl; (first | exact .ints _ | exact .sli rfl | exact .orow rfl | exact .nil | exact .osub rfl (by simp; omega)))
  | (apply w_build1; exact rfl; exact rfl; (first | exact one_val rfl rfl | exact one_ints | exact one_intss | exact one_own rfl True.intro))
  | (apply w_build2; exact rfl; exact rfl; exact rfl; (first | exact one_val rfl rfl | exact one_ints | exact one_intss | exact one_own rfl True.intro); (first | exact one_val rfl rfl | exact one_ints | exact one_intss | exact one_own rfl True.intro))
  | (apply w_bs0; iterate 1 exact rfl)
  | (apply w_appn; exact rfl; exact rfl; (first | exact .ints _ | exact .sli rfl | exact .orow rfl | exact .nil | exact .osub rfl (by simp; omega)); exact rfl)
  | (apply w_app; exact rfl; exact rfl; exact rfl; exact rfl; (first | exact .ints _ | exact .sli rfl | exact .orow rfl | exact .nil | exact .osub rfl (by simp; omega)); rotate_left 1; simp only [Env.mp, List.map_cons, List.map_nil, List.set_cons_zero, List.set_cons_succ, AV.kill, AV.kill1, AO.kill, AV.noRow, AV.noRow1, AO.via, reduceIte, Nat.reduceEqDiff, Nat.reduceLT, Env.up, Nat.zero_ne_one, Nat.one_ne_zero, Nat.reduceAdd, List.cons_append, List.nil_append]; rotate_left 1)
  | (apply w_alst; iterate 2 exact rfl)
  | (apply w_alone; iterate 3 exact rfl)
  | (apply w_mki; exact rfl; exact rfl; rotate_left 3; exact rfl; rotate_left 1)
  | (apply w_mkr; exact rfl; exact rfl; rotate_left 3; exact rfl; rotate_left 1)
  | (apply w_strow; exact rfl; exact rfl; rotate_left 1; exact rfl; exact rfl; exact rfl; exact rfl; simp only [Env.mp, List.map_cons, List.map_nil, List.set_cons_zero, List.set_cons_succ, AV.kill, AV.kill1, AO.kill, AV.noRow, AV.noRow1, AO.via, reduceIte, Nat.reduceEqDiff, Nat.reduceLT, Env.up, Nat.zero_ne_one, Nat.one_ne_zero, Nat.reduceAdd, List.cons_append, List.nil_append]; rotate_left 1)
  | (apply w_sti; exact rfl; exact rfl; rotate_left 1; exact rfl; rotate_left 2)
  | (apply w_stst; iterate 5 exact rfl)
  | (apply w_stbv; iterate 6 exact rfl)
  | (apply w_stbo; exact rfl; exact rfl; exact rfl; exact rfl; exact rfl; exact True.intro)
  | ((apply AOps.splitB; exact rfl; exact rfl) <;> intro h)
  | apply AllOf.nil
  | (apply AllOf.cons; exact rfl)
  | (apply AAny.take; exact rfl; exact rfl; kernel_rfl; kernel_rfl)
  | (apply AAny.all; exact rfl)
  | (apply AAny.done; exact rfl)
  | (apply inI_of <;> omega)
  | omega
  | (simp <;> omega))
  · exact .bool Try.results22 rfl (by simp; intro e; subst e; simp at h)
  refine AWp.loop (ι := Nat) (fun i => ⟨27, [(0, .intss xss), (1, .intss yss), (5, .i i)]⟩) (fun _ => []) (fun i => i ≤ xss.length ∧ xss.take i = yss.take i) (fun i => xss.length - i) 0 ⟨by omega, by simp⟩ ⟨lee rfl (by (repeat (first | exact le_nil | refine le_eq rfl rfl ?_ | refine le_eq rfl (congrArg AV.i (by omega)) ?_))), by (repeat (first | exact lo_nil | refine lo_dead ?_ | refine lo_eq rfl ?_)), rfl, rfl⟩ ?_
  rintro i ⟨h0, h1⟩
  have hlen : xss.length = yss.length := by omega
  repeat' (first
  | (apply AOps.nil; try simp only [List.nil_append, List.cons_append, List.set_cons_zero, List.set_cons_succ, List.length_cons, List.length_nil, Nat.reduceAdd, AV.sh, AV.sh1, AV.sh0, AO.sh, List.map_cons, List.map_nil, Nat.zero_add, Nat.add_zero, setAll])
  | ((apply AOps.splitP; exact rfl; exact rfl) <;> intro h)
  | ((apply AOps.splitN; exact rfl; exact rfl) <;> intro h)
  | (apply w_move; exact rfl; exact rfl)
  | (apply w_assign; exact rfl; exact rfl)
  | apply AWp.seq
  | apply AWp.region
  | ((apply AWp.condP; exact rfl) <;> intro h)
  | ((apply AWp.condN; exact rfl) <;> intro h)
  | (apply AWp.condT; exact rfl)
  | (apply AWp.condF; exact rfl)
  | ((apply AWp.condB; exact rfl) <;> intro h)
  | apply AWp.block
  | apply AWp.ret
  | apply AWp.exit
  | apply AWp.skip
  | (apply AWp.regionQ; kernel_rfl; kernel_rfl)
  | (apply if_pos'; exact rfl)
  | (apply if_neg'; decide)
  | (apply w_skip; exact rfl)
  | (apply w_pickT; exact rfl; exact rfl; exact rfl)
  | (apply w_pickF; exact rfl; exact rfl; exact rfl)
  | (apply w_len; exact rfl; exact rfl; first | exact .ints _ | exact .intss _ | exact .sli rfl | exact .sls rfl | exact .slr rfl | exact .orow rfl | exact .nil)
  | (apply w_call (eqInt64S_c _ _); exact rfl; exact rfl; focus ((repeat (first | exact im_nil | refine im_cons rfl (.val _) ?_ | refine im_cons rfl (.ints _) ?_ | refine im_cons rfl (.intss _) ?_ | refine im_cons rfl (.sli rfl) ?_ | refine im_cons rfl (.sls rfl) ?_ | refine im_cons rfl (.orow rfl) ?_ | refine im_cons rfl (.osub rfl (by simp; omega)) ?_ | refine im_cons rfl (.nil) ?_ | refine im_cons rfl (.nils) ?_ | refine im_cons rfl (im_agg2 (.val _) (.ints _)) ?_ | refine im_cons rfl (im_agg2 (.val _) (.sli rfl)) ?_ | refine im_cons rfl (im_agg2 (.val _) (.nil)) ?_ | refine im_cons rfl (im_agg2 (.ints _) (.intss _)) ?_ | refine im_cons rfl (im_agg2 (.ints _) (.sls rfl)) ?_ | refine im_cons rfl (im_agg2 (.sli rfl) (.intss _)) ?_ | refine im_cons rfl (im_agg2 (.sli rfl) (.sls rfl)) ?_ | refine im_cons rfl (im_agg1 (.ints _)) ?_ | refine im_cons rfl (im_agg1 (.sli rfl)) ?_ | refine im_cons rfl (im_agg1 (.intss _)) ?_ | refine im_cons rfl (im_agg1 (.sls rfl)) ?_ | refine im_cons rfl (im_agg1 (.nil)) ?_ | refine im_cons rfl (im_agg1 (.nils)) ?_)); done))
  | ((first | apply w_lss | apply w_leq | apply w_gtr | apply w_geq | apply w_eql | apply w_neq | apply w_add | apply w_sub | apply w_mul | apply w_idx | apply w_ld | apply w_fld | apply w_fa | apply w_extv | apply w_min | apply w_max | apply w_slhi | apply w_sllo | apply w_bs2); iterate 3 exact rfl)
  | ((first | apply w_eqlb | apply w_neqb | apply w_idxs | apply w_lds | apply w_ext); iterate 3 exact rfl)
  | (apply w_rem; exact rfl; exact rfl; exact rfl; (focus (omega; done)); (focus (omega; done)))
  | (apply w_quo; exact rfl; exact rfl; exact rfl; (focus (omega; done)); (focus (omega; done)))
  | (apply w_remT; exact rfl; exact rfl; exact rfl)
  | (apply w_quoT; exact rfl; exact rfl; exact rfl)
  | ((first | apply w_not | apply w_neg | apply w_conv | apply w_build0 | apply w_bs1 | apply w_boxa); iterate 2 exact rfl)
  | (apply w_idxo; exact rfl; exact rfl; (first | exact .sli rfl | exact .sls rfl | exact .slr rfl); exact rfl)
  | ((first | apply w_idxr | apply w_ldr); iterate 4 exact rfl)
  | (apply w_ldo; iterate 4 exact rfl)
  | (apply w_ldls; iterate 4 exact rfl)
  | (apply w_ldrp; iterate 4 exact rfl)
  | (apply w_ldb; iterate 5 exact rfl)
  | (apply w_ldst; iterate 5 exact rfl)
  | ((first | apply w_sllh | apply w_stbi); iterate 4 exact rfl)
  | ((first | apply w_oslo | apply w_oshi | apply w_stbii); iterate 4 exact rfl)
  | (apply w_copy; exact rfl; (first | exact .own rfl rfl rfl | exact .osub); exact rfl; rotate_left 1; exact rfl; (first | exact .ints _ | exact .sli rfl | exact .orow rfl | exact .nil | exact .osub rfl (by simp; omega)))
  | (apply w_build1; exact rfl; exact rfl; (first | exact one_val rfl rfl | exact one_ints | exact one_intss | exact one_own rfl True.intro))
  | (apply w_build2; exact rfl; exact rfl; exact rfl; (first | exact one_val rfl rfl | exact one_ints | exact one_intss | exact one_own rfl True.intro); (first | exact one_val rfl rfl | exact one_ints | exact one_intss | exact one_own rfl True.intro))
  | (apply w_bs0; iterate 1 exact rfl)
  | (apply w_appn; exact rfl; exact rfl; (first | exact .ints _ | exact .sli rfl | exact .orow rfl | exact .nil | exact .osub rfl (by simp; omega)); exact rfl)
  | (apply w_app; exact rfl; exact rfl; exact rfl; exact rfl; (first | exact .ints _ | exact .sli rfl | exact .orow rfl | exact .nil | exact .osub rfl (by simp; omega)); rotate_left 1; simp only [Env.mp, List.map_cons, List.map_nil, List.set_cons_zero, List.set_cons_succ, AV.kill, AV.kill1, AO.kill, AV.noRow, AV.noRow1, AO.via, reduceIte, Nat.reduceEqDiff, Nat.reduceLT, Env.up, Nat.zero_ne_one, Nat.one_ne_zero, Nat.reduceAdd, List.cons_append, List.nil_append]; rotate_left 1)
  | (apply w_alst; iterate 2 exact rfl)
  | (apply w_alone; iterate 3 exact rfl)
  | (apply w_mki; exact rfl; exact rfl; rotate_left 3; exact rfl; rotate_left 1)
  | (apply w_mkr; exact rfl; exact rfl; rotate_left 3; exact rfl; rotate_left 1)
  | (apply w_strow; exact rfl; exact rfl; rotate_left 1; exact rfl; exact rfl; exact rfl; exact rfl; simp only [Env.mp, List.map_cons, List.map_nil, List.set_cons_zero, List.set_cons_succ, AV.kill, AV.kill1, AO.kill, AV.noRow, AV.noRow1, AO.via, reduceIte, Nat.reduceEqDiff, Nat.reduceLT, Env.up, Nat.zero_ne_one, Nat.one_ne_zero, Nat.reduceAdd, List.cons_append, List.nil_append]; rotate_left 1)
  | (apply w_sti; exact rfl; exact rfl; rotate_left 1; exact rfl; rotate_left 2)
  | (apply w_stst; iterate 5 exact rfl)
  | (apply w_stbv; iterate 6 exact rfl)
  | (apply w_stbo; exact rfl; exact rfl; exact rfl; exact rfl; exact rfl; exact True.intro)
  | ((apply AOps.splitB; exact rfl; exact rfl) <;> intro h)
  | apply AllOf.nil
  | (apply AllOf.cons; exact rfl)
  | (apply AAny.take; exact rfl; exact rfl; kernel_rfl; kernel_rfl)
  | (apply AAny.all; exact rfl)
  | (apply AAny.done; exact rfl)
  | (apply inI_of <;> omega)
  | omega
  | (simp <;> omega))
  · refine .bool Try.results22 rfl ?_
    have : ¬ xss = yss := fun e => h (by rw [e])
    simp [this]
  · refine ⟨i + 1, ⟨by omega, ?_⟩, by omega, ⟨lee rfl (by (repeat (first | exact le_nil | refine le_eq rfl rfl ?_ | refine le_eq rfl (congrArg AV.i (by omega)) ?_))), by (repeat (first | exact lo_nil | refine lo_dead ?_ | refine lo_eq rfl ?_)), rfl, rfl⟩⟩
    have a1 : i < xss.length := by omega
    have a2 : i < yss.length := by omega
    have a3 : xss[i] = yss[i] := by simpa [gets, a1, a2] using h
    rw [List.take_succ_eq_append_getElem a1, List.take_succ_eq_append_getElem a2, h1, a3]
  · have e : i = xss.length := by omega
    subst e
    rw [List.take_length, hlen, List.take_length] at h1
    exact .bool Try.results22 rfl (by simp [h1])

theorem eqInt64SS_t (xss : List (List Int)) : AFnV Try.prog 22 [.intss xss, .intss xss] (.bool true) := by
  have := eqInt64SS_c xss xss
  simpa using this
end Go.Proofs.Ytlkhcelodcneiaa
