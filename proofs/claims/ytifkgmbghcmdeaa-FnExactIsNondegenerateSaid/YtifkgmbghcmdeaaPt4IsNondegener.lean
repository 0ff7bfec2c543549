/-
  Parts of the proof, one behind the other: contracts of functions and plain laws. No condition.
-/
import Derived.WalkKit
import Derived.Deep.LoopGhost
import Derived.Deep.Draws
import Derived.Lib.Walk
import Derived.Lib.Small
import Derived.Lib.Slices
import Derived.Shelf.RegionOpenPlain
import Derived.Test.YtifkgmbghcmdeaaProg
import Derived.Test.YtifkgmbghcmdeaaPt3IsNondegener
/-
  Functions without results that write to what they are handed. No condition.
-/
namespace Go.Proofs.Ytifkgmbghcmdeaa
open Go Go.RowKit
theorem AFnUN.of {P : Program} {f : FuncId} {fn : Func} {c : Code} {args : List AV} {os : List AO} {Q : Value → List AO → Prop} {n : Nat} (hf : P.funcs[f]? = some fn) (hb : fn.body = some c) (hnm : (fn.name == "runtime.NumGoroutine") = false) (hn : fn.ntmps - args.length = n)
    (h : ∀ K, AWp P c (fun env os1 => ∃ v os', ResIs P fn env os1 (.val v) ∧ Q v os' ∧ os1.take os.length = os' ∧ os1[os.length]? = some (.keep (os.length + 1) K) ∧ ∀ o ∈ os', o.plain) (fun _ _ _ => False) (fun env os1 => ∃ v os', ResIs P fn env os1 (.val v) ∧ Q v os' ∧ os1.take os.length = os' ∧ os1[os.length]? = some (.keep (os.length + 1) K) ∧ ∀ o ∈ os', o.plain) (Env.start args n) (os ++ [.keep (os.length + 1) K])) :
    AFnU P f args os Q := by
  refine ⟨⟨fn, c, hf, hnm, hb⟩, fun base w gs vs hbase hO hsz hvs => calls_of_wp hf hb ?_⟩
  rw [show fn.ntmps - vs.size = n by rw [hsz]; exact hn]
  let bl : List Nat := (List.range w.heap.size).filter fun b => decide (base ≤ b) && gs.all fun g => !g.bl.contains b
  let gk : Gh := ⟨undef, 0, bl, []⟩
  let K : Kp := ⟨fun b => w.heap[b]?, gs ++ [gk]⟩
  have hbl : ∀ b, b ∈ bl ↔ b < w.heap.size ∧ base ≤ b ∧ ∀ (h : Nat) g, gs[h]? = some g → b ∉ g.bl := by
    intro b
    simp only [bl, List.mem_filter, List.mem_range, Bool.and_eq_true, decide_eq_true_eq, List.all_eq_true, Bool.not_eq_true', List.contains_eq_mem, decide_eq_false_iff_not]
    constructor
    · rintro ⟨h1, h2, h3⟩
      exact ⟨h1, h2, fun h g hg => h3 g (List.mem_of_getElem? hg)⟩
    · rintro ⟨h1, h2, h3⟩
      exact ⟨h1, h2, fun g hg => by obtain ⟨i, hi⟩ := List.getElem?_of_mem hg; exact h3 i g hi⟩
  have hl := hO.hl
  have part : ∀ {i : Nat} {x : Gh} {y : AO}, (gs ++ [gk])[i]? = some x → (os ++ [.keep (os.length + 1) K])[i]? = some y → (gs[i]? = some x ∧ os[i]? = some y) ∨ (i = os.length ∧ x = gk ∧ y = .keep (os.length + 1) K) := by
    intro i x y hx hy
    rcases append_one hx with ⟨h1, h2⟩ | ⟨h1, rfl⟩
    · rcases append_one hy with ⟨h3, h4⟩ | ⟨h3, rfl⟩
      · exact .inl ⟨h2, h4⟩
      · omega
    · rcases append_one hy with ⟨h3, h4⟩ | ⟨h3, rfl⟩
      · omega
      · exact .inr ⟨h3, rfl, rfl⟩
  have gl : ∀ (i : Nat) x, gs[i]? = some x → (gs ++ [gk])[i]? = some x := fun i x e => by
    rw [List.getElem?_append_left (List.getElem?_eq_some_iff.1 e).1]; exact e
  have kp : Keeps (okOf gs os) (okOf (gs ++ [gk]) (os ++ [.keep (os.length + 1) K])) w w := by
    intro b hbk _
    refine ⟨fun i x y hx hy hny hm => ?_, rfl⟩
    rcases part hx hy with ⟨h1, h2⟩ | ⟨_, _, rfl⟩
    · exact hbk i x y h1 h2 hny hm
    · exact hny.elim
  have hrel : Rel base w (gs ++ [gk]) (Env.start args n) (os ++ [.keep (os.length + 1) K]) (vs ++ Array.replicate n undef) := by
    refine ⟨hbase, by simp [hl], by simp [Env.start, hsz], fun i => ?_, ?_, ?_, ?_⟩
    · exact start_rv args n vs (fun i => (hvs i).mono kp gl) i
    · intro i x y hx hy
      rcases part hx hy with ⟨h1, h2⟩ | ⟨_, rfl, rfl⟩
      · exact (hO.hp y (List.mem_of_getElem? h2)).ro (hO.ho i x y h1 h2)
      · exact ⟨fun b _ => rfl, by simp [K, hl], fun i x h => h⟩
    · intro i j g1 g2 o1 o2 hij hg1 hg2 ho1 ho2 _ _ b hb1 hb2
      rcases part hg1 ho1 with ⟨a1, a2⟩ | ⟨a1, rfl, _⟩
      · rcases part hg2 ho2 with ⟨b1, b2⟩ | ⟨_, rfl, _⟩
        · exact hO.hd i j g1 g2 hij a1 b1 b hb1 hb2
        · exact ((hbl b).1 hb2).2.2 i g1 a1 hb1
      · rcases part hg2 ho2 with ⟨b1, b2⟩ | ⟨b1, _, _⟩
        · exact ((hbl b).1 hb1).2.2 j g2 b1 hb2
        · omega
    · intro i x y hx hy _ b hb
      rcases part hx hy with ⟨h1, h2⟩ | ⟨_, rfl, _⟩
      · exact hO.hn i x h1 b hb
      · exact ⟨((hbl b).1 hb).2.1, ((hbl b).1 hb).1⟩
  refine wp_mono (h K base w w _ _ hrel (Below.refl _ _)) ?_
  intro e a w' hq
  cases e with
  | normal =>
    obtain ⟨env, os1, gs1, hr, hd, hbel, v, os', h1, h2, h3, h4, h5⟩ := hq
    obtain ⟨u, hu, hv⟩ := h1 _ _ _ _ hr
    cases hv
    have hlt : os.length < os1.length := (List.getElem?_eq_some_iff.1 h4).1
    have hltg : os.length < gs1.length := by have := hr.hl; omega
    obtain ⟨g1, hg1⟩ : ∃ g1, gs1[os.length]? = some g1 := ⟨_, List.getElem?_eq_getElem hltg⟩
    obtain ⟨r1, r2, r3⟩ := hr.ho _ _ _ hg1 h4
    have pin : ∀ (i : Nat) x, gs[i]? = some x → gs1[i]? = some x := fun i x e => r3 i x (gl i x e)
    have egk : g1 = gk := by
      have := r3 os.length gk (by show (gs ++ [gk])[os.length]? = some gk; rw [← hl]; simp)
      rw [hg1] at this
      exact Option.some.inj this
    rw [egk] at r1
    have get' : ∀ {i : Nat} {y : AO}, os'[i]? = some y → os1[i]? = some y ∧ i < os.length := by
      intro i y hy
      rw [← h3, List.getElem?_take] at hy
      split at hy
      · exact ⟨hy, ‹_›⟩
      · cases hy
    refine ⟨hd, v, hu, v, os', rfl, h2, ⟨?_, h5, ?_, hO.hd, ?_⟩, hbel, ?_⟩
    · rw [← h3, List.length_take]; omega
    · intro i x y hx hy
      obtain ⟨h6, h7⟩ := get' hy
      exact (h5 y (List.mem_of_getElem? hy)).ro (hr.ho i x y (pin i x hx) h6)
    · intro i x hx b hb
      have := hO.hn i x hx b hb
      exact ⟨this.1, Nat.lt_of_lt_of_le this.2 hbel.size⟩
    · intro b hb hnot
      rcases Nat.lt_or_ge b base with h6 | h6
      · exact hbel.block b h6
      · exact r1 b ((hbl b).2 ⟨hb, h6, hnot⟩)
  | exit j => obtain ⟨_, _, _, _, _, _, hx⟩ := hq; exact hx.elim
  | ret =>
    obtain ⟨env, os1, gs1, hr, hd, hbel, v, os', h1, h2, h3, h4, h5⟩ := hq
    obtain ⟨u, hu, hv⟩ := h1 _ _ _ _ hr
    cases hv
    have hlt : os.length < os1.length := (List.getElem?_eq_some_iff.1 h4).1
    have hltg : os.length < gs1.length := by have := hr.hl; omega
    obtain ⟨g1, hg1⟩ : ∃ g1, gs1[os.length]? = some g1 := ⟨_, List.getElem?_eq_getElem hltg⟩
    obtain ⟨r1, r2, r3⟩ := hr.ho _ _ _ hg1 h4
    have pin : ∀ (i : Nat) x, gs[i]? = some x → gs1[i]? = some x := fun i x e => r3 i x (gl i x e)
    have egk : g1 = gk := by
      have := r3 os.length gk (by show (gs ++ [gk])[os.length]? = some gk; rw [← hl]; simp)
      rw [hg1] at this
      exact Option.some.inj this
    rw [egk] at r1
    have get' : ∀ {i : Nat} {y : AO}, os'[i]? = some y → os1[i]? = some y ∧ i < os.length := by
      intro i y hy
      rw [← h3, List.getElem?_take] at hy
      split at hy
      · exact ⟨hy, ‹_›⟩
      · cases hy
    refine ⟨hd, v, hu, v, os', rfl, h2, ⟨?_, h5, ?_, hO.hd, ?_⟩, hbel, ?_⟩
    · rw [← h3, List.length_take]; omega
    · intro i x y hx hy
      obtain ⟨h6, h7⟩ := get' hy
      exact (h5 y (List.mem_of_getElem? hy)).ro (hr.ho i x y (pin i x hx) h6)
    · intro i x hx b hb
      have := hO.hn i x hx b hb
      exact ⟨this.1, Nat.lt_of_lt_of_le this.2 hbel.size⟩
    · intro b hb hnot
      rcases Nat.lt_or_ge b base with h6 | h6
      · exact hbel.block b h6
      · exact r1 b ((hbl b).2 ⟨hb, h6, hnot⟩)
  | goto l => exact (hq : False).elim
  | panic ch => exact (hq : False).elim
  | outgrown => exact (hq : False).elim


theorem AFnUN.start {P : Program} {f : FuncId} {fn : Func} {c : Code} {args : List AV} {objs : List AO} {Q : Value → List AO → Prop} {m : Nat} (hf : P.funcs[f]? = some fn) (hn : fn.ntmps = m) (hb : fn.body = some c) (hnm : (fn.name == "runtime.NumGoroutine") = false)
    (h : ∀ K, AWp P c (fun env os1 => ∃ v os', ResIs P fn env os1 (.val v) ∧ Q v os' ∧ os1.take objs.length = os' ∧ os1[objs.length]? = some (.keep (objs.length + 1) K) ∧ ∀ o ∈ os', o.plain) (fun _ _ _ => False) (fun env os1 => ∃ v os', ResIs P fn env os1 (.val v) ∧ Q v os' ∧ os1.take objs.length = os' ∧ os1[objs.length]? = some (.keep (objs.length + 1) K) ∧ ∀ o ∈ os', o.plain) (Env.start args (m - args.length)) (objs ++ [.keep (objs.length + 1) K])) :
    AFnU P f args objs Q := AFnUN.of hf hb hnm (by rw [hn]) h
theorem ResIs.unit {P : Program} {fn : Func} {env : Env} {os : List AO} (h : fn.results = #[]) : ResIs P fn env os (.val (.tuple #[])) :=
  fun _ _ _ tm hr => ⟨.tuple #[], by unfold results; rw [h]; simp, .val _⟩
end Go.Proofs.Ytifkgmbghcmdeaa
/-
  Sparse polynomials: a number added to the coefficient of a monomial. No condition.
-/
namespace Go.Proofs.Ytifkgmbghcmdeaa
open Go Go.RowKit
attribute [local irreducible] AWp AOps ResIs Ret1 QOp LOp COp AFnV AFn Imms LeE LeO
set_option maxHeartbeats 1000000
set_option linter.unusedSimpArgs false
set_option linter.unusedVariables false

/-- The coefficients are numbers of the field. -/
def CoOk (L : List (Int × Int × Int)) : Prop := ∀ t ∈ L, 0 ≤ t.2.2 ∧ t.2.2 ≤ 55440
theorem lookM_ok {L : List (Int × Int × Int)} (h : CoOk L) (i j : Int) : 0 ≤ lookM L i j ∧ lookM L i j ≤ 55440 := by
  unfold lookM
  cases e : L.find? (isK i j) with
  | none => simp
  | some t => exact h t (List.mem_of_find?_eq_some e)
/-- c added to the coefficient of (i, j). -/
def addS (L : List (Int × Int × Int)) (i j c : Int) : List (Int × Int × Int) := putM L i j ((lookM L i j + c) % 55441)

theorem add_c (L : List (Int × Int × Int)) (i j c : Int) (hL : CoOk L) (hc : 0 ≤ c ∧ c ≤ 1000000000000) :
    AFnU Try.prog 94 [.own 0, .i i, .i j, .i c] [.ob (mapOb L)] (fun v os => v = .tuple #[] ∧ os = [.ob (mapOb (addS L i j c))]) := by
  have hl := lookM_ok hL i j
  (refine AFnUN.start Try.func94 Try.ntmps94 rfl (by kernel_rfl) fun K => ?_; simp only [Env.start, enumF, List.length_cons, List.length_nil, Nat.reduceAdd, Nat.reduceSub, List.cons_append, List.nil_append])
  repeat' (first
  | (apply AOps.nil; try simp only [List.nil_append, List.cons_append, List.set_cons_zero, List.set_cons_succ, List.length_cons, List.length_nil, Nat.reduceAdd, AV.sh, AV.sh1, AV.sh0, AO.sh, List.map_cons, List.map_nil, Nat.zero_add, Nat.add_zero, setAll])
  | ((apply AOps.splitP; exact rfl; exact rfl) <;> intro h)
  | ((apply AOps.splitN; exact rfl; exact rfl) <;> intro h)
  | (apply w_move; exact rfl; exact rfl)
  | (apply w_assign; exact rfl; exact rfl)
  | apply AWp.seq
  | apply AWp.region
  | ((apply AWp.condP; exact rfl) <;> intro h)
  | ((apply AWp.condN; exact rfl) <;> intro h)
  | (apply AWp.condT; exact rfl)
  | (apply AWp.condF; exact rfl)
  | ((apply AWp.condB; exact rfl) <;> intro h)
  | apply AWp.block
  | apply AWp.ret
  | apply AWp.exit
  | apply AWp.skip
  | (apply AWp.regionQ; kernel_rfl; kernel_rfl)
  | (apply if_pos'; exact rfl)
  | (apply if_neg'; decide)
  | (apply w_skip; exact rfl)
  | (apply w_pickT; exact rfl; exact rfl; exact rfl)
  | (apply w_pickF; exact rfl; exact rfl; exact rfl)
  | (apply w_len; exact rfl; exact rfl; first | exact .ints _ | exact .intss _ | exact .sli rfl | exact .sls rfl | exact .slr rfl | exact .orow rfl | exact .nil)
  | ((first | apply w_makemap | apply w_bs0); iterate 1 exact rfl)
  | ((first | apply w_mapset | apply w_sllh | apply w_stbi); iterate 4 exact rfl)
  | (apply w_maplook; iterate 5 exact rfl)
  | (apply w_idxarr; exact rfl; exact rfl; exact rfl; decide; decide; exact rfl)
  | omega
  | ((first | apply w_lss | apply w_leq | apply w_gtr | apply w_geq | apply w_eql | apply w_neq | apply w_add | apply w_sub | apply w_mul | apply w_idx | apply w_ld | apply w_fld | apply w_fa | apply w_extv | apply w_min | apply w_max | apply w_slhi | apply w_sllo | apply w_bs2); iterate 3 exact rfl)
  | ((first | apply w_eqlb | apply w_neqb | apply w_idxs | apply w_lds | apply w_ext); iterate 3 exact rfl)
  | (apply w_rem; exact rfl; exact rfl; exact rfl; (focus (omega; done)); (focus (omega; done)))
  | (apply w_quo; exact rfl; exact rfl; exact rfl; (focus (omega; done)); (focus (omega; done)))
  | (apply w_remT; exact rfl; exact rfl; exact rfl)
  | (apply w_quoT; exact rfl; exact rfl; exact rfl)
  | ((first | apply w_not | apply w_neg | apply w_conv | apply w_build0 | apply w_bs1 | apply w_boxa); iterate 2 exact rfl)
  | (apply w_idxo; exact rfl; exact rfl; (first | exact .sli rfl | exact .sls rfl | exact .slr rfl); exact rfl)
  | ((first | apply w_idxr | apply w_ldr); iterate 4 exact rfl)
  | (apply w_ldo; iterate 4 exact rfl)
  | (apply w_ldls; iterate 4 exact rfl)
  | (apply w_ldrp; iterate 4 exact rfl)
  | (apply w_ldb; iterate 5 exact rfl)
  | (apply w_ldst; iterate 5 exact rfl)
  | ((first | apply w_oslo | apply w_oshi | apply w_stbii); iterate 4 exact rfl)
  | (apply w_build1; exact rfl; exact rfl; (first | exact one_val rfl rfl | exact one_ints | exact one_intss | exact one_own rfl True.intro))
  | (apply w_build2; exact rfl; exact rfl; exact rfl; (first | exact one_val rfl rfl | exact one_ints | exact one_intss | exact one_own rfl True.intro); (first | exact one_val rfl rfl | exact one_ints | exact one_intss | exact one_own rfl True.intro))
  | (apply w_appn; exact rfl; exact rfl; (first | exact .ints _ | exact .sli rfl | exact .orow rfl | exact .nil | exact .osub rfl (by simp; omega)); exact rfl)
  | (apply w_app; exact rfl; exact rfl; exact rfl; exact rfl; (first | exact .ints _ | exact .sli rfl | exact .orow rfl | exact .nil | exact .osub rfl (by simp; omega)); rotate_left 1; simp only [Env.mp, List.map_cons, List.map_nil, List.set_cons_zero, List.set_cons_succ, AV.kill, AV.kill1, AO.kill, AV.noRow, AV.noRow1, AO.via, reduceIte, Nat.reduceEqDiff, Nat.reduceLT, Env.up, Nat.zero_ne_one, Nat.one_ne_zero, Nat.reduceAdd, List.cons_append, List.nil_append]; rotate_left 1)
  | (apply w_alst; iterate 2 exact rfl)
  | (apply w_alone; iterate 3 exact rfl)
  | (apply w_sti; exact rfl; exact rfl; rotate_left 1; exact rfl; rotate_left 2)
  | (apply w_stst; iterate 5 exact rfl)
  | (apply w_stbv; iterate 6 exact rfl)
  | (apply w_stbo; exact rfl; exact rfl; exact rfl; exact rfl; exact rfl; exact True.intro)
  | ((apply AOps.splitB; exact rfl; exact rfl) <;> intro h)
  | apply AllOf.nil
  | (apply AllOf.cons; exact rfl)
  | (apply AAny.take; exact rfl; exact rfl; kernel_rfl; kernel_rfl)
  | (apply AAny.all; exact rfl)
  | (apply AAny.done; exact rfl)
  | (apply inI_of <;> omega)
  | omega
  | (simp <;> omega))
  exact ⟨_, _, .unit Try.results94, ⟨rfl, rfl⟩, rfl, rfl, by simp [AO.plain]⟩
end Go.Proofs.Ytifkgmbghcmdeaa
/-
  Polynomials as functions of their monomials: the plain law of putting in, of adding, of order. No program.
-/
namespace Go.Proofs.Ytifkgmbghcmdeaa
open Go Go.RowKit

/-- The coefficient of (a, b). -/
def cof : List (List Int) → Int → Int → Int
  | [], _, _ => 0
  | t :: ts, a, b => if geti t 0 = a ∧ geti t 1 = b then geti t 2 else cof ts a b
/-- In strict order. -/
def Srt (ts : List (List Int)) : Prop := ts.Pairwise fun x y => bef (geti y 0) (geti y 1) x
/-- Terms with coefficients other than 0. -/
def TNz (ts : List (List Int)) : Prop := ∀ t ∈ ts, TOk t ∧ 1 ≤ geti t 2

/-! ### A list of terms is known by its coefficients -/
def KeyN (ts : List (List Int)) : Prop := ts.Pairwise fun x y => ¬ (geti x 0 = geti y 0 ∧ geti x 1 = geti y 1)
theorem srt_key {ts : List (List Int)} (h : Srt ts) : KeyN ts := h.imp fun {a b} hb => by unfold bef at hb; omega
theorem cof_mem {a b : Int} : ∀ {ts : List (List Int)}, KeyN ts → (∀ t ∈ ts, geti t 2 ≠ 0) → ∀ t ∈ ts, geti t 0 = a → geti t 1 = b → cof ts a b = geti t 2
  | [], _, _, t, ht, _, _ => by simp at ht
  | x :: ts, hk, hn, t, ht, ha, hb => by
    rw [cof]
    rcases List.mem_cons.1 ht with rfl | ht
    · rw [if_pos ⟨ha, hb⟩]
    · have := (List.pairwise_cons.1 hk).1 t ht
      rw [if_neg (by rw [← ha, ← hb]; exact this)]
      exact cof_mem (List.pairwise_cons.1 hk).2 (fun y hy => hn y (by simp [hy])) t ht ha hb
theorem mem_cof {a b : Int} : ∀ {ts : List (List Int)}, cof ts a b ≠ 0 → ∃ t ∈ ts, geti t 0 = a ∧ geti t 1 = b ∧ geti t 2 = cof ts a b
  | [], h => by simp [cof] at h
  | x :: ts, h => by
    rw [cof] at h ⊢
    split
    · rename_i he; exact ⟨x, by simp, he.1, he.2, rfl⟩
    · rename_i he
      rw [if_neg he] at h
      obtain ⟨t, h1, h2⟩ := mem_cof h
      exact ⟨t, by simp [h1], h2⟩
/-! ### Maps -/
theorem lookM_cons (t : Int × Int × Int) (L : List (Int × Int × Int)) (a b : Int) : lookM (t :: L) a b = if a = t.1 ∧ b = t.2.1 then t.2.2 else lookM L a b := by
  unfold lookM
  rw [List.find?_cons]
  by_cases h : a = t.1 ∧ b = t.2.1
  · simp [isK, h]
  · simp [isK, h]
theorem putM_cons (t : Int × Int × Int) (L : List (Int × Int × Int)) (i j c : Int) : putM (t :: L) i j c = if i = t.1 ∧ j = t.2.1 then (i, j, c) :: L else t :: putM L i j c := by
  unfold putM
  rw [List.findIdx?_cons]
  by_cases h : i = t.1 ∧ j = t.2.1
  · simp [isK, h]
  · simp only [isK, h, decide_false, Bool.false_eq_true, if_false]
    cases L.findIdx? (isK i j) <;> simp
end Go.Proofs.Ytifkgmbghcmdeaa
/-
  Sparse polynomials: made of terms. No condition.
-/
namespace Go.Proofs.Ytifkgmbghcmdeaa
open Go Go.RowKit
attribute [local irreducible] AWp AOps ResIs Ret1 QOp LOp COp AFnV AFn Imms LeE LeO
set_option maxHeartbeats 1000000
set_option linter.unusedSimpArgs false
set_option linter.unusedVariables false

def toT (t : List Int) : Int × Int × Int := (geti t 0, geti t 1, geti t 2)
theorem po_srt {ts : List (List Int)} (h : isPo ts = true) : Srt ts := by
  unfold Srt
  rw [List.pairwise_iff_getElem]
  intro i j hi hj hij
  have := po_lt h hij hj
  simp only [gets, Int.toNat_natCast, List.getD_eq_getElem?_getD, List.getElem?_eq_getElem hi, List.getElem?_eq_getElem hj, Option.getD_some] at this
  unfold Bef at this
  unfold bef
  omega
theorem po_nz {ts : List (List Int)} (h : isPo ts = true) : TNz ts ∧ ∀ t ∈ ts, geti t 0 ≤ 60 ∧ geti t 1 ≤ 60 ∧ geti t 2 ≤ 55440 := by
  have hh : ∀ t ∈ ts, (t.length = 3 ∧ (0 ≤ geti t 0 ∧ geti t 0 ≤ 60) ∧ (0 ≤ geti t 1 ∧ geti t 1 ≤ 60) ∧ (1 ≤ geti t 2 ∧ geti t 2 ≤ 55440)) := fun t ht => by
    obtain ⟨j, hj⟩ := List.getElem?_of_mem ht
    have hl := (List.getElem?_eq_some_iff.1 hj).1
    obtain ⟨q1, q2, q3, q4, _⟩ := (isPo_of h).2 j hl
    have e : gets ts (j : Nat) = t := by simp [gets, List.getD_eq_getElem?_getD, hj]
    rw [e] at q1 q2 q3 q4
    exact ⟨q1, q2, q3, q4⟩
  refine ⟨fun t ht => ?_, fun t ht => ?_⟩
  · obtain ⟨q1, q2, q3, q4⟩ := hh t ht
    unfold TOk
    omega
  · obtain ⟨q1, q2, q3, q4⟩ := hh t ht
    omega
theorem putM_new {i j c : Int} : ∀ {L : List (Int × Int × Int)}, (∀ t ∈ L, ¬ (i = t.1 ∧ j = t.2.1)) → putM L i j c = L ++ [(i, j, c)] ∧ lookM L i j = 0
  | [], _ => ⟨rfl, rfl⟩
  | t :: L, h => by
    have ih := putM_new (i := i) (j := j) (c := c) (fun x hx => h x (List.mem_cons_of_mem _ hx))
    rw [putM_cons, lookM_cons, if_neg (h t (by simp)), if_neg (h t (by simp)), ih.1, ih.2]
    exact ⟨rfl, rfl⟩
theorem look_toT (ts : List (List Int)) (a b : Int) : lookM (ts.map toT) a b = cof ts a b := by
  induction ts with
  | nil => rfl
  | cons t ts ih =>
    rw [List.map_cons, lookM_cons, cof, ih]
    have : (a = geti t 0 ∧ b = geti t 1) ↔ (geti t 0 = a ∧ geti t 1 = b) := ⟨fun h => ⟨h.1.symm, h.2.symm⟩, fun h => ⟨h.1.symm, h.2.symm⟩⟩
    simp only [toT, this]
theorem co_toT {ts : List (List Int)} (h : isPo ts = true) : CoOk (ts.map toT) := by
  intro x hx
  obtain ⟨t, ht, rfl⟩ := List.mem_map.1 hx
  have h1 := (po_nz h).1 t ht
  have h2 := (po_nz h).2 t ht
  exact ⟨by show 0 ≤ geti t 2; omega, h2.2.2⟩
theorem sp_step {ts : List (List Int)} (h : isPo ts = true) {n : Nat} (hn : n < ts.length) : addS ((ts.take n).map toT) (geti (gets ts (n : Nat)) 0) (geti (gets ts (n : Nat)) 1) (geti (gets ts (n : Nat)) 2) = (ts.take (n + 1)).map toT := by
  have e : gets ts (n : Nat) = ts[n] := by simp [gets, List.getD_eq_getElem?_getD, hn]
  have hnew : ∀ t ∈ (ts.take n).map toT, ¬ (geti (gets ts (n : Nat)) 0 = t.1 ∧ geti (gets ts (n : Nat)) 1 = t.2.1) := by
    intro x hx
    obtain ⟨t, ht, rfl⟩ := List.mem_map.1 hx
    obtain ⟨m, hm⟩ := List.getElem?_of_mem ht
    rw [List.getElem?_take] at hm
    split at hm
    · rename_i hmn
      have hml := (List.getElem?_eq_some_iff.1 hm).1
      have := po_lt h hmn hn
      have e2 : gets ts (m : Nat) = t := by simp [gets, List.getD_eq_getElem?_getD, hm]
      rw [e2] at this
      unfold Bef at this
      show ¬ (_ = geti t 0 ∧ _ = geti t 1)
      omega
    · cases hm
  obtain ⟨q1, q2, q3, q4, _⟩ := (isPo_of h).2 n hn
  have h0 := (putM_new (c := (0 + geti (gets ts (n : Nat)) 2) % 55441) hnew)
  unfold addS
  rw [h0.2, h0.1, List.take_succ_eq_append_getElem hn, List.map_append, List.map_cons, List.map_nil, ← e]
  have : (0 + geti (gets ts (n : Nat)) 2) % 55441 = geti (gets ts (n : Nat)) 2 := by omega
  rw [this]
  rfl

set_option maxHeartbeats 4000000 in
theorem sparseOf_c (ts : List (List Int)) (h : isPo ts = true) : AFn Try.prog 70 [.agg [.intss ts]] (fun r os => r = .own 0 ∧ os = [.ob (mapOb (ts.map toT))]) := by
  have hlen := (isPo_of h).1
  (refine AFn.start Try.func70 Try.ntmps70 rfl (by kernel_rfl) fun hk => ?_; simp only [Env.start, enumF, List.length_cons, List.length_nil, Nat.reduceAdd, Nat.reduceSub, List.cons_append, List.nil_append])
  repeat' (first | (apply AOps.nil; try simp only [List.nil_append, List.cons_append, List.set_cons_zero, List.set_cons_succ, List.length_cons, List.length_nil, Nat.reduceAdd, AV.sh, AV.sh1, AV.sh0, AO.sh, List.map_cons, List.map_nil, Nat.zero_add, Nat.add_zero, setAll]) | (apply w_move; exact rfl; exact rfl) | (apply w_assign; exact rfl; exact rfl) | apply AWp.seq | apply AWp.region | apply AWp.block | (apply w_len; exact rfl; exact rfl; first | exact .ints _ | exact .intss _ | exact .sli rfl | exact .sls rfl | exact .slr rfl | exact .orow rfl | exact .nil) | ((apply w_makemap); iterate 1 exact rfl) | ((first | apply w_ld | apply w_fa); iterate 3 exact rfl) | ((apply w_boxa); iterate 2 exact rfl) | (apply w_ldb; iterate 5 exact rfl))
  refine AWp.loop (ι := Nat) (fun n => ⟨27, [(3, .own 1), (8, .intss ts), (9, .i ts.length), (10, .i n)]⟩) (fun n => [.bx 50 [.intss ts], .ob (mapOb ((ts.take n).map toT))]) (fun n => n ≤ ts.length) (fun n => ts.length - n) 0 (by omega) ⟨lee rfl (by (repeat (first | exact le_nil | refine le_eq rfl rfl ?_))), by (repeat (first | exact lo_nil | refine lo_eq rfl ?_)), rfl, rfl⟩ ?_
  rintro n n0
  by_cases hn : n < ts.length
  · obtain ⟨q1, q2, q3, q4, _⟩ := (isPo_of h).2 n hn
    have hco : CoOk ((ts.take n).map toT) := fun x hx => by
      obtain ⟨t, ht, rfl⟩ := List.mem_map.1 hx
      exact co_toT h _ (List.mem_map_of_mem (List.mem_of_mem_take ht))
    have hadd := add_c ((ts.take n).map toT) (geti (gets ts (n : Nat)) 0) (geti (gets ts (n : Nat)) 1) (geti (gets ts (n : Nat)) 2) hco (by omega)
    rw [sp_step h hn] at hadd
    repeat' (first | (apply AOps.nil; try simp only [List.nil_append, List.cons_append, List.set_cons_zero, List.set_cons_succ, List.length_cons, List.length_nil, Nat.reduceAdd, AV.sh, AV.sh1, AV.sh0, AO.sh, List.map_cons, List.map_nil, Nat.zero_add, Nat.add_zero, setAll]) | (apply w_move; exact rfl; exact rfl) | (apply w_assign; exact rfl; exact rfl) | apply AWp.seq | apply AWp.region | ((apply AWp.condP; exact rfl) <;> intro h) | apply AWp.block | apply AWp.ret | apply AWp.exit | apply AWp.skip | omega | ((first | apply w_lss | apply w_idx | apply w_ld); iterate 3 exact rfl) | ((first | apply w_idxs | apply w_lds); iterate 3 exact rfl))
    refine AWp.regionG [] (by kernel_rfl) (envC := ⟨27, [(3, .own 1), (8, .intss ts), (9, .i ts.length), (10, .i n)]⟩) (osC := [.bx 50 [.intss ts], .ob (mapOb ((ts.take (n + 1)).map toT))]) rfl rfl ?_ ?_
    · repeat' (first | (apply AOps.nil; try simp only [List.nil_append, List.cons_append, List.set_cons_zero, List.set_cons_succ, List.length_cons, List.length_nil, Nat.reduceAdd, AV.sh, AV.sh1, AV.sh0, AO.sh, List.map_cons, List.map_nil, Nat.zero_add, Nat.add_zero, setAll]) | (apply w_move; exact rfl; exact rfl) | apply AllOfG.nil | (apply AllOfG.consS; exact rfl; exact rfl) | (apply AAnyG.takeW; exact rfl; exact rfl; kernel_rfl; kernel_rfl) | (apply AAnyG.takeL; exact rfl; exact rfl; kernel_rfl) | (apply AAnyG.all; exact rfl) | (apply AAnyG.done; exact rfl) | (apply w_callu [1] (hadd); (exact handed1 rfl True.intro); (focus ((repeat (first | exact imu_nil | refine imu_cons rfl (.val _) ?_ | refine imu_cons rfl (.own rfl) ?_)); done)); rintro v os0 ⟨rfl, rfl⟩; try simp only [List.nil_append, List.cons_append, List.set_cons_zero, List.set_cons_succ, List.length_cons, List.length_nil, Nat.reduceAdd, AV.sh, AV.sh1, AV.sh0, AO.sh, List.map_cons, List.map_nil, Nat.zero_add, Nat.add_zero, setAll]) | omega | ((first | apply w_idx | apply w_ld); iterate 3 exact rfl))
      all_goals (apply Or.inl; refine ⟨lee rfl ?_, ?_, rfl, rfl⟩; (focus ((repeat (first | exact le_nil | refine le_eq rfl rfl ?_)); done)); (focus ((repeat (first | exact lo_nil | refine lo_eq rfl ?_)); done)))
    repeat' (first | (apply AOps.nil; try simp only [List.nil_append, List.cons_append, List.set_cons_zero, List.set_cons_succ, List.length_cons, List.length_nil, Nat.reduceAdd, AV.sh, AV.sh1, AV.sh0, AO.sh, List.map_cons, List.map_nil, Nat.zero_add, Nat.add_zero, setAll]) | (apply w_move; exact rfl; exact rfl) | apply AWp.region | ((apply w_add); iterate 3 exact rfl) | (apply inI_of <;> omega))
    exact ⟨n + 1, hn, by omega, ⟨lee rfl (by (repeat (first | exact le_nil | refine le_eq rfl rfl ?_))), by (repeat (first | exact lo_nil | refine lo_eq rfl ?_)), rfl, rfl⟩⟩
  · have e : n = ts.length := by omega
    subst e
    rw [List.take_length]
    repeat' (first | (apply AOps.nil; try simp only [List.nil_append, List.cons_append, List.set_cons_zero, List.set_cons_succ, List.length_cons, List.length_nil, Nat.reduceAdd, AV.sh, AV.sh1, AV.sh0, AO.sh, List.map_cons, List.map_nil, Nat.zero_add, Nat.add_zero, setAll]) | (apply w_move; exact rfl; exact rfl) | (apply w_assign; exact rfl; exact rfl) | apply AWp.seq | apply AWp.region | ((apply AWp.condP; exact rfl) <;> intro h) | apply AWp.block | apply AWp.ret | apply AWp.exit | apply AWp.skip | omega | ((apply w_lss); iterate 3 exact rfl))
    exact ⟨_, _, _, .v1 Try.results70 rfl, .ob rfl, rfl, rfl⟩
end Go.Proofs.Ytifkgmbghcmdeaa
/-
  Lower left hulls of sets of pairs: the chain built from the sorted pairs and the one that is wrapped from vertex to vertex are the same. No condition.
-/
namespace Go.Proofs.Ytifkgmbghcmdeaa.Hl
section
variable {α : Type} (X Y : α → Int)

def cr (a b q : α) : Int := (X b - X a) * (Y q - Y a) - (Y b - Y a) * (X q - X a)
def lexle (a b : α) : Prop := X a < X b ∨ (X a = X b ∧ Y a ≤ Y b)

theorem tr {sx sy ux uy wx wy : Int} (h1 : uy < 0) (h2 : wy ≤ 0) (h3 : sy ≤ 0) (h4 : 0 ≤ sx*uy - sy*ux) (h5 : 0 ≤ ux*wy - uy*wx) : 0 ≤ sx*wy - sy*wx := by
  have e : uy * (sx*wy - sy*wx) = wy*(sx*uy-sy*ux) + sy*(ux*wy-uy*wx) := by grind
  have := Int.mul_nonneg (show 0 ≤ -wy by omega) h4
  have := Int.mul_nonneg (show 0 ≤ -sy by omega) h5
  apply Classical.byContradiction
  intro hn
  have := Int.mul_pos (show 0 < -uy by omega) (show 0 < -(sx*wy - sy*wx) by omega)
  grind
theorem trs {sx sy ux uy wx wy : Int} (h1 : uy < 0) (h2 : wy < 0) (h3 : sy ≤ 0) (h4 : 0 < sx*uy - sy*ux) (h5 : 0 ≤ ux*wy - uy*wx) : 0 < sx*wy - sy*wx := by
  have e : uy * (sx*wy - sy*wx) = wy*(sx*uy-sy*ux) + sy*(ux*wy-uy*wx) := by grind
  have := Int.mul_pos (show 0 < -wy by omega) h4
  have := Int.mul_nonneg (show 0 ≤ -sy by omega) h5
  apply Classical.byContradiction
  intro hn
  have := Int.mul_nonneg (show 0 ≤ -uy by omega) (show 0 ≤ -(sx*wy - sy*wx) by omega)
  grind
theorem tre {sx sy ux uy wx wy : Int} (h3 : sy < 0) (h4 : sx*uy - sy*ux = 0) (h5 : sx*wy - sy*wx = 0) : ux*wy-uy*wx = 0 := by
  have e : uy * (sx*wy - sy*wx) = wy*(sx*uy-sy*ux) + sy*(ux*wy-uy*wx) := by grind
  rw [h4, h5] at e
  have : sy * (ux*wy-uy*wx) = 0 := by grind
  rcases Int.mul_eq_zero.1 this with h | h
  · omega
  · exact h

/-- A direct one: q lies behind b and above it. -/
theorem cr_up {a b q : α} (h1 : X a ≤ X b) (h2 : Y b ≤ Y a) (h3 : X b ≤ X q) (h4 : Y b ≤ Y q) : 0 ≤ cr X Y a b q := by
  have e : cr X Y a b q = (X b - X a) * (Y q - Y b) + (Y a - Y b) * (X q - X b) := by unfold cr; grind
  have := Int.mul_nonneg (show 0 ≤ X b - X a by omega) (show 0 ≤ Y q - Y b by omega)
  have := Int.mul_nonneg (show 0 ≤ Y a - Y b by omega) (show 0 ≤ X q - X b by omega)
  omega
theorem cr_sh (a b q : α) : cr X Y a b q = (X b - X a) * (Y q - Y b) - (Y b - Y a) * (X q - X b) := by unfold cr; grind

/-- A stack, its top first. -/
def Hull (S : α → Prop) : List α → Prop
  | [] => False
  | [a] => S a ∧ ∀ q, S q → lexle X Y a q
  | b :: a :: r => S b ∧ Y b < Y a ∧ X a ≤ X b ∧ (∀ q, S q → Y q ≤ Y a → 0 ≤ cr X Y a b q) ∧ (∀ z r', r = z :: r' → 0 < cr X Y z a b) ∧ Hull S (a :: r)
def Low (S : α → Prop) (t : α) : Prop := ∀ q, S q → Y t ≤ Y q ∧ (Y q = Y t → X t ≤ X q)
def Aft (S : α → Prop) (t p : α) : Prop := ∀ q, S q → Y q ≤ Y t → 0 ≤ cr X Y t p q
def plus (S : α → Prop) (p : α) (q : α) : Prop := S q ∨ q = p

variable {X Y}
theorem Hull.top {S : α → Prop} {t : α} : ∀ {r : List α}, Hull X Y S (t :: r) → S t
  | [], h => h.1
  | _ :: _, h => h.1
theorem Hull.rest {S : α → Prop} {t a : α} {r : List α} (h : Hull X Y S (t :: a :: r)) : Hull X Y S (a :: r) := h.2.2.2.2.2

theorem Hull.ep {S : α → Prop} {p : α} (hs : ∀ q, S q → lexle X Y q p) : ∀ {r : List α} {a b : α}, Hull X Y S (b :: a :: r) → 0 ≤ cr X Y a b p → Hull X Y (plus S p) (b :: a :: r)
  | [], a, b, h, hc => by
    obtain ⟨h1, h2, h3, h4, h5, h6, h7⟩ := h
    refine ⟨.inl h1, h2, h3, fun q hq hy => ?_, fun z r' e => (by cases e), ⟨.inl h6, fun q hq => ?_⟩⟩
    · rcases hq with hq | rfl
      · exact h4 q hq hy
      · exact hc
    · rcases hq with hq | rfl
      · exact h7 q hq
      · exact hs _ h6
  | z :: r, a, b, h, hc => by
    obtain ⟨h1, h2, h3, h4, h5, h6⟩ := h
    have h6' := h6
    obtain ⟨g1, g2, g3, g4, g5, g6⟩ := h6
    have hz := h5 z r rfl
    refine ⟨.inl h1, h2, h3, fun q hq hy => ?_, fun z r' e => by cases e; exact hz, Hull.ep hs h6' ?_⟩
    · rcases hq with hq | rfl
      · exact h4 q hq hy
      · exact hc
    · by_cases hy : Y p ≤ Y a
      · rw [cr_sh] at hz ⊢
        refine tr (ux := X b - X a) (uy := Y b - Y a) (by omega) (by omega) (by omega) ?_ ?_
        · omega
        · unfold cr at hc; omega
      · have := hs a g1
        unfold lexle at this
        exact cr_up X Y (by omega) (by omega) (by omega) (by omega)

theorem Hull.skip {S : α → Prop} {p t : α} {r : List α} (hs : ∀ q, S q → lexle X Y q p) (h : Hull X Y S (t :: r)) (hl : Low X Y S t) (hp : Y t ≤ Y p) : Hull X Y (plus S p) (t :: r) ∧ Low X Y (plus S p) t := by
  have ht := hs t h.top
  unfold lexle at ht
  refine ⟨?_, fun q hq => ?_⟩
  · cases r with
    | nil =>
      refine ⟨.inl h.1, fun q hq => ?_⟩
      rcases hq with hq | rfl
      · exact h.2 q hq
      · exact hs _ h.1
    | cons a r =>
      refine h.ep hs (cr_up X Y h.2.2.1 ?_ ?_ hp)
      · have := h.2.1; omega
      · omega
  · rcases hq with hq | rfl
    · exact hl q hq
    · omega

theorem aft_low {S : α → Prop} {p t : α} (hl : Low X Y S t) (hp : Y p < Y t) : Aft X Y S t p := by
  intro q hq hy
  have := hl q hq
  have e : Y q = Y t := by omega
  unfold cr
  rw [e]
  have := Int.mul_nonneg (show 0 ≤ Y t - Y p by omega) (show 0 ≤ X q - X t by omega)
  grind

theorem Hull.pop {S : α → Prop} {p a b : α} {r : List α} (h : Hull X Y S (b :: a :: r)) (hc : ¬ 0 < cr X Y a b p) (hp : Y p < Y b) : Aft X Y S a p := by
  intro q hq hy
  have hb := h.2.2.2.1 q hq hy
  have h2 := h.2.1
  unfold cr at hb hc ⊢
  exact tr (ux := X b - X a) (uy := Y b - Y a) (by omega) (by omega) (by omega) (by grind) hb

theorem Hull.push {S : α → Prop} {p t : α} {r : List α} (hs : ∀ q, S q → lexle X Y q p) (h : Hull X Y S (t :: r)) (ha : Aft X Y S t p) (hp : Y p < Y t) (hall : ∀ q, S q → Y p < Y q) (hz : ∀ z r', r = z :: r' → 0 < cr X Y z t p) :
    Hull X Y (plus S p) (p :: t :: r) ∧ Low X Y (plus S p) p := by
  have ht := hs t h.top
  unfold lexle at ht
  refine ⟨⟨.inr rfl, hp, by omega, fun q hq hy => ?_, hz, ?_⟩, fun q hq => ?_⟩
  · rcases hq with hq | rfl
    · exact ha q hq hy
    · unfold cr; grind
  · cases r with
    | nil =>
      refine ⟨.inl h.1, fun q hq => ?_⟩
      rcases hq with hq | rfl
      · exact h.2 q hq
      · exact hs _ h.1
    | cons z r => exact h.ep hs (Int.le_of_lt (hz z r rfl))
  · rcases hq with hq | rfl
    · have := hall q hq; omega
    · omega

theorem Hull.one {S : α → Prop} {p : α} (h : ∀ q, ¬ S q) : Hull X Y (plus S p) [p] ∧ Low X Y (plus S p) p := by
  refine ⟨⟨.inr rfl, fun q hq => ?_⟩, fun q hq => ?_⟩
  · rcases hq with hq | rfl
    · exact absurd hq (h q)
    · unfold lexle; omega
  · rcases hq with hq | rfl
    · exact absurd hq (h q)
    · omega

theorem Hull.congr {S S' : α → Prop} (hS : ∀ q, S q ↔ S' q) {R : List α} (h : Hull X Y S R) : Hull X Y S' R := by
  have : S = S' := funext fun q => propext (hS q)
  rw [← this]; exact h
theorem Low.congr {S S' : α → Prop} (hS : ∀ q, S q ↔ S' q) {t : α} (h : Low X Y S t) : Low X Y S' t := by
  have : S = S' := funext fun q => propext (hS q)
  rw [← this]; exact h

/-! ### The wrapped chain -/
variable (X Y)
def isNext (S : α → Prop) (a b : α) : Prop := S b ∧ Y b < Y a ∧ ∀ q, S q → Y q < Y a → 0 ≤ cr X Y a b q ∧ (cr X Y a b q = 0 → Y b ≤ Y q)
def GWf (S : α → Prop) : List α → Prop
  | [] => False
  | [a] => ∀ q, S q → Y a ≤ Y q
  | a :: b :: r => isNext X Y S a b ∧ GWf S (b :: r)
def GW (S : α → Prop) (V : List α) : Prop := ∃ m r, V = m :: r ∧ S m ∧ (∀ q, S q → lexle X Y m q) ∧ GWf X Y S (m :: r)

variable {X Y}
theorem gwf_unique {S : α → Prop} (he : ∀ a b, S a → S b → X a = X b → Y a = Y b → a = b) : ∀ {r r' : List α} {a : α}, GWf X Y S (a :: r) → GWf X Y S (a :: r') → r = r'
  | [], [], _, _, _ => rfl
  | [], c :: r', a, h, h' => by
    have := h c h'.1.1
    have := h'.1.2.1
    omega
  | c :: r, [], a, h, h' => by
    have := h' c h.1.1
    have := h.1.2.1
    omega
  | b :: r, c :: r', a, h, h' => by
    obtain ⟨⟨b1, b2, b3⟩, b4⟩ := h
    obtain ⟨⟨c1, c2, c3⟩, c4⟩ := h'
    have p := b3 c c1 c2
    have q := c3 b b1 b2
    have e0 : cr X Y a c b = - cr X Y a b c := by unfold cr; grind
    have z : cr X Y a b c = 0 := by omega
    have ey : Y b = Y c := by have := p.2 z; have := q.2 (by omega); omega
    have ex : X b = X c := by
      unfold cr at z
      rw [← ey] at z
      have : (Y b - Y a) * (X b - X c) = 0 := by grind
      rcases Int.mul_eq_zero.1 this with h | h <;> omega
    obtain rfl := he b c b1 c1 ex ey
    rw [gwf_unique he b4 c4]

theorem gw_unique {S : α → Prop} (he : ∀ a b, S a → S b → X a = X b → Y a = Y b → a = b) {V V' : List α} (h : GW X Y S V) (h' : GW X Y S V') : V = V' := by
  obtain ⟨m, r, rfl, a1, a2, a3⟩ := h
  obtain ⟨m', r', rfl, b1, b2, b3⟩ := h'
  have p := a2 m' b1
  have q := b2 m a1
  unfold lexle at p q
  obtain rfl := he m m' a1 b1 (by omega) (by omega)
  rw [gwf_unique he a3 b3]

theorem Hull.conv {S : α → Prop} : ∀ {r : List α} {t : α} {l : List α}, Hull X Y S (t :: r) → GWf X Y S (t :: l) → (∀ c l', l = c :: l' → Y c < Y t ∧ (∀ q, S q → Y q ≤ Y t → 0 ≤ cr X Y t c q) ∧ (∀ z r', r = z :: r' → 0 < cr X Y z t c)) →
    GW X Y S (r.reverse ++ t :: l)
  | [], t, l, h, hg, _ => ⟨t, l, rfl, h.1, h.2, hg⟩
  | a :: r, t, l, h, hg, hl => by
    obtain ⟨h1, h2, h3, h4, h5, h6⟩ := h
    rw [List.reverse_cons, List.append_assoc]
    refine Hull.conv (l := t :: l) h6 ⟨⟨h1, h2, fun q hq hy => ⟨h4 q hq (by omega), fun h0 => ?_⟩⟩, hg⟩ ?_
    · apply Classical.byContradiction
      intro hn
      cases l with
      | nil => have := hg q hq; omega
      | cons c l' =>
        obtain ⟨c1, c2, c3⟩ := hl c l' rfl
        have k1 := c2 q hq (by omega)
        have k2 := c3 a r rfl
        rw [cr_sh] at h0 k2
        have := trs (sx := X t - X a) (sy := Y t - Y a) (ux := X c - X t) (uy := Y c - Y t) (wx := X q - X t) (wy := Y q - Y t) (by omega) (by omega) (by omega) k2 (by unfold cr at k1; omega)
        omega
    · intro c l' e
      cases e
      exact ⟨h2, h4, h5⟩

theorem Hull.gw {S : α → Prop} {t : α} {r : List α} (h : Hull X Y S (t :: r)) (hl : Low X Y S t) : GW X Y S (t :: r).reverse := by
  rw [List.reverse_cons]
  exact h.conv (l := []) (fun q hq => (hl q hq).1) (fun c l' e => by cases e)

/-! ### What is to come -/
variable (X Y)
def Pre (S : α → Prop) (V : List α) (a : α) : Prop := ∀ l, GWf X Y S (a :: l) → GW X Y S (V ++ a :: l)
variable {X Y}
theorem Pre.start {S : α → Prop} {a : α} (h : S a) (h1 : ∀ q, S q → lexle X Y a q) : Pre X Y S [] a := fun l hl => ⟨a, l, rfl, h, h1, hl⟩
theorem Pre.step {S : α → Prop} {a b : α} {V : List α} (h : Pre X Y S V a) (hn : isNext X Y S a b) : Pre X Y S (V ++ [a]) b := fun l hl => by
  rw [List.append_assoc]; exact h (b :: l) ⟨hn, hl⟩
theorem Pre.done {S : α → Prop} {a : α} {V : List α} (h : Pre X Y S V a) (hn : ∀ q, S q → Y a ≤ Y q) : GW X Y S (V ++ [a]) := h [] hn

/-- b is the best of S so far. -/
theorem next_keep {S : α → Prop} {a b p : α} (h : isNext X Y S a b) (hp : Y p < Y a → 0 ≤ cr X Y a b p ∧ (cr X Y a b p = 0 → Y b ≤ Y p)) : isNext X Y (plus S p) a b :=
  ⟨.inl h.1, h.2.1, fun q hq hy => by
    rcases hq with hq | rfl
    · exact h.2.2 q hq hy
    · exact hp hy⟩
theorem next_new {S : α → Prop} {a b p : α} (h : isNext X Y S a b) (hy : Y p < Y a) (hp : cr X Y a b p < 0 ∨ (cr X Y a b p = 0 ∧ Y p < Y b)) : isNext X Y (plus S p) a p := by
  obtain ⟨h1, h2, h3⟩ := h
  have e0 : cr X Y a p b = - cr X Y a b p := by unfold cr; grind
  refine ⟨.inr rfl, hy, fun q hq hyq => ?_⟩
  rcases hq with hq | rfl
  · obtain ⟨k1, k2⟩ := h3 q hq hyq
    rcases hp with hp | ⟨hp, hpy⟩
    · have := trs (sx := X p - X a) (sy := Y p - Y a) (ux := X b - X a) (uy := Y b - Y a) (wx := X q - X a) (wy := Y q - Y a) (by omega) (by omega) (by omega) (by unfold cr at e0 hp; omega) (by unfold cr at k1; omega)
      unfold cr
      omega
    · have := tr (sx := X p - X a) (sy := Y p - Y a) (ux := X b - X a) (uy := Y b - Y a) (wx := X q - X a) (wy := Y q - Y a) (by omega) (by omega) (by omega) (by unfold cr at e0 hp; omega) (by unfold cr at k1; omega)
      refine ⟨by unfold cr; omega, fun hz => ?_⟩
      have := tre (sx := X p - X a) (sy := Y p - Y a) (ux := X b - X a) (uy := Y b - Y a) (wx := X q - X a) (wy := Y q - Y a) (by omega) (by unfold cr at e0 hp; omega) (by unfold cr at hz; omega)
      have := k2 (by unfold cr; omega)
      omega
  · refine ⟨by unfold cr; grind, fun _ => Int.le_refl _⟩
theorem next_first {S : α → Prop} {a p : α} (h : ∀ q, S q → Y a ≤ Y q) (hy : Y p < Y a) : isNext X Y (plus S p) a p :=
  ⟨.inr rfl, hy, fun q hq hyq => by
    rcases hq with hq | rfl
    · have := h q hq; omega
    · exact ⟨by unfold cr; grind, fun _ => Int.le_refl _⟩⟩
end
end Go.Proofs.Ytifkgmbghcmdeaa.Hl
/-
  Slices made empty, with room. No condition.
-/
namespace Go.Proofs.Ytifkgmbghcmdeaa
open Go Go.RowKit
section
variable {P : Program} {env : Env} {os : List AO} {d : Option Tmp} {ty : TypeId} {pos : String} {af : Array Edge} {g : Option (Nat × Bool)}

theorem l_mkr0 {t e : TypeId} {bytes : Nat} [ht : TSlice P t e] [he : TElem P e (.slice none 0 0) bytes] (e2 : TypeId) {x y : Operand} {n : Int} (hx : AV.ev env x = .i 0) (hy : AV.ev env y = .i n) (h0 : 0 ≤ n) (hb : (bytes : Int) * n ≤ 281474976710656) (hm : n ≤ 9223372036854775807) :
    LOp P ⟨d, .makeSlice t x y, ty, pos, af, g⟩ env os (.own os.length) env (os ++ [.sls e e2 []]) := by
  refine l_new fun base w gs tm hr => ?_
  obtain ⟨ii, hi, hs, hz, hby⟩ := he.info
  obtain ⟨m, rfl⟩ := Int.eq_ofNat_of_zero_le h0
  have hb' : ii.bytes * m ≤ 281474976710656 := by
    have : ((bytes * m : Nat) : Int) ≤ 281474976710656 := by rw [Int.natCast_mul]; exact hb
    rw [hby]; omega
  obtain ⟨w', h1, h2, h3⟩ := run_make_own (P := P) w base t e ii _ 1 ht.und hi hz hs .i64 .i64 m hb' (by simp [maxLen]; omega) hr.hb
  have hbel : Below w.heap.size w w' := (Below.refl _ _).grown h3 (Nat.le_refl _) (fun k hk => by cases hk)
  have hlt := h2.lt w.heap.size rfl
  exact ⟨w', ⟨.slice (some ⟨w.heap.size, 0, none⟩) 0 m, w.heap.size, [w.heap.size], []⟩, by simp only [execOp, hr.evv hx, hr.evv hy, Sem.run_bind, h1, Result.andThen_ok, Sem.run_pure], hbel,
    fun b hb => by simp at hb; omega, fun ok gs' => ⟨[], [], [w.heap.size], by simpa using h2, rfl, rfl, rfl, fun i u hu => by simp at hu, .inr ⟨rfl, rfl⟩, by simp, by simp⟩⟩
end
section
variable {P : Program} {env : Env} {os : List AO} {d : Tmp} {ty : TypeId} {pos : String} {af : Array Edge} {l rest : List Oper} {K : APost}
theorem w_mkr0 {t e e2 : TypeId} {bytes : Nat} [TSlice P t e] [TSlice P e e2] [TElem P e (.slice none 0 0) bytes] {x y : Operand} {n : Int} {m : Nat} (hx : evo env x = some (.i 0)) (hy : evo env y = some (.i n)) (h0 : 0 ≤ n) (hb : (bytes : Int) * n ≤ 281474976710656) (h63 : n ≤ 9223372036854775807) (hm : os.length = m)
    (h' : AOps P .seq l rest K (env.up d (.own m)) (os ++ [.sls e e2 []])) : AOps P .seq l (⟨some d, .makeSlice t x y, ty, pos, af, none⟩ :: rest) K env os := AOps.lo (hm ▸ l_mkr0 e2 (ev_of hx) (ev_of hy) h0 hb h63) h'
end
end Go.Proofs.Ytifkgmbghcmdeaa
/-
  Supports: copies of lists, the order of pairs, turns. No condition but a bound on the sizes.
-/
namespace Go.Proofs.Ytifkgmbghcmdeaa
open Go Go.RowKit
attribute [local irreducible] AWp AOps ResIs Ret1 QOp LOp COp AFnV AFn Imms LeE LeO
set_option maxHeartbeats 1000000
set_option linter.unusedSimpArgs false
set_option linter.unusedVariables false


theorem copyLists_c (xss : List (List Int)) (hb : xss.length ≤ 1048576) (hr : ∀ xs ∈ xss, 0 < xs.length ∧ xs.length ≤ 1048576) : AFn Try.prog 95 [.intss xss] (IsIntss 22 2 xss) := by
  (refine AFn.start Try.func95 Try.ntmps95 rfl (by kernel_rfl) fun hk => ?_; simp only [Env.start, enumF, List.length_cons, List.length_nil, Nat.reduceAdd, Nat.reduceSub, List.cons_append, List.nil_append])
  repeat' (first | (apply AOps.nil; try simp only [List.nil_append, List.cons_append, List.set_cons_zero, List.set_cons_succ, List.length_cons, List.length_nil, Nat.reduceAdd, AV.sh, AV.sh1, AV.sh0, AO.sh, List.map_cons, List.map_nil, Nat.zero_add, Nat.add_zero, setAll]) | (apply w_move; exact rfl; exact rfl) | (apply w_assign; exact rfl; exact rfl) | apply AWp.seq | apply AWp.region | apply AWp.block | (apply w_len; exact rfl; exact rfl; first | exact .ints _ | exact .intss _ | exact .sli rfl | exact .sls rfl | exact .slr rfl | exact .orow rfl | exact .nil) | (apply w_mkr0; exact rfl; exact rfl; rotate_left 3; exact rfl; rotate_left 1) | omega)
  refine AWp.loop (ι := Nat) (fun i => ⟨22, [(3, .own 0), (9, .intss xss), (10, .i xss.length), (11, .i i)]⟩) (fun i => [.sls 22 2 (xss.take i)]) (fun i => i ≤ xss.length) (fun i => xss.length - i) 0 (by omega) ⟨lee rfl (by (repeat (first | exact le_nil | refine le_eq rfl rfl ?_))), by (repeat (first | exact lo_nil | refine lo_eq rfl ?_)), rfl, rfl⟩ ?_
  rintro i h0
  have e1 : (xss.take i).length = i := by simp; omega
  by_cases hi : i < xss.length
  · have hb2 := hr (gets xss i) (gets_mem (by omega) (by omega))
    have e2 : xss.take i ++ [gets xss i] = xss.take (i + 1) := by rw [List.take_succ_eq_append_getElem hi]; simp [gets, hi]
    repeat' (first | (apply AOps.nil; try simp only [List.nil_append, List.cons_append, List.set_cons_zero, List.set_cons_succ, List.length_cons, List.length_nil, Nat.reduceAdd, AV.sh, AV.sh1, AV.sh0, AO.sh, List.map_cons, List.map_nil, Nat.zero_add, Nat.add_zero, setAll]) | (apply w_move; exact rfl; exact rfl) | (apply w_assign; exact rfl; exact rfl) | apply AWp.seq | apply AWp.region | ((apply AWp.condP; exact rfl) <;> intro h) | apply AWp.block | apply AWp.ret | apply AWp.exit | apply AWp.skip | ((first | apply w_bsr1 | apply w_lss | apply w_add | apply w_idx | apply w_ld); iterate 3 exact rfl) | (apply w_appr; exact rfl; exact rfl; exact rfl; exact rfl; exact rfl; exact rfl; exact rfl; rotate_left 1; simp only [Env.mp, List.map_cons, List.map_nil, List.set_cons_zero, List.set_cons_succ, AV.kill, AV.kill1, AO.kill, AV.rin, AV.rin1, AV.noRow, AV.noRow1, AO.via, reduceIte, Nat.reduceEqDiff, Nat.reduceLT, Env.up, Nat.zero_ne_one, Nat.one_ne_zero, Nat.reduceAdd, List.cons_append, List.nil_append]; rotate_left 1) | (apply w_callm (clone_c _ hb2.1 hb2.2); (focus ((repeat (first | exact im_nil | refine im_cons rfl (.ints _) ?_)); done)); rintro r os0 ⟨rfl, rfl⟩; try simp only [List.nil_append, List.cons_append, List.set_cons_zero, List.set_cons_succ, List.length_cons, List.length_nil, Nat.reduceAdd, AV.sh, AV.sh1, AV.sh0, AO.sh, List.map_cons, List.map_nil, Nat.zero_add, Nat.add_zero, setAll]) | omega | ((first | apply w_idxs | apply w_lds); iterate 3 exact rfl) | (apply inI_of <;> omega))
    all_goals exact ⟨i + 1, by omega, by omega, ⟨lee rfl (by (repeat (first | exact le_nil | refine le_eq rfl rfl ?_))), by (repeat (first | exact lo_nil | refine lo_eq (congrArg (AO.sls _ _) (e2)) ?_)), rfl, rfl⟩⟩
  · repeat' (first | (apply AOps.nil; try simp only [List.nil_append, List.cons_append, List.set_cons_zero, List.set_cons_succ, List.length_cons, List.length_nil, Nat.reduceAdd, AV.sh, AV.sh1, AV.sh0, AO.sh, List.map_cons, List.map_nil, Nat.zero_add, Nat.add_zero, setAll]) | (apply w_move; exact rfl; exact rfl) | (apply w_assign; exact rfl; exact rfl) | apply AWp.seq | apply AWp.region | ((apply AWp.condP; exact rfl) <;> intro h) | apply AWp.block | apply AWp.ret | apply AWp.exit | apply AWp.skip | omega | ((apply w_lss); iterate 3 exact rfl))
    have e : i = xss.length := by omega
    subst e
    exact ⟨_, _, _, .v1 Try.results95 rfl, .sls rfl, rfl, by simp⟩

/-- A row of two numbers of moderate size. -/
def PB (r : List Int) : Prop := r.length = 2 ∧ (0 ≤ geti r 0 ∧ geti r 0 ≤ 100000) ∧ (0 ≤ geti r 1 ∧ geti r 1 ≤ 100000)
theorem mulPB {x y : Int} (hx : -100000 ≤ x ∧ x ≤ 100000) (hy : -100000 ≤ y ∧ y ≤ 100000) : -10000000000 ≤ x * y ∧ x * y ≤ 10000000000 := by
  have := Int.mul_nonneg (show 0 ≤ 100000 - x by omega) (show 0 ≤ 100000 + y by omega)
  have := Int.mul_nonneg (show 0 ≤ 100000 + x by omega) (show 0 ≤ 100000 - y by omega)
  have := Int.mul_nonneg (show 0 ≤ 100000 - x by omega) (show 0 ≤ 100000 - y by omega)
  have := Int.mul_nonneg (show 0 ≤ 100000 + x by omega) (show 0 ≤ 100000 + y by omega)
  constructor <;> grind
abbrev gX : List Int → Int := fun r => geti r 0
abbrev gY : List Int → Int := fun r => geti r 1

theorem turns_c (a b c : List Int) (ha : PB a) (hb : PB b) (hc : PB c) : AFnV Try.prog 98 [.ints a, .ints b, .ints c] (.bool (decide (0 < Hl.cr gX gY a b c))) := by
  obtain ⟨a1, a2, a3⟩ := ha
  obtain ⟨b1, b2, b3⟩ := hb
  obtain ⟨c1, c2, c3⟩ := hc
  have m1 := mulPB (x := geti b 0 - geti a 0) (y := geti c 1 - geti a 1) (by omega) (by omega)
  have m2 := mulPB (x := geti b 1 - geti a 1) (y := geti c 0 - geti a 0) (by omega) (by omega)
  (refine AFnV.start Try.func98 Try.ntmps98 rfl (by kernel_rfl) fun hk => ?_; simp only [Env.start, enumF, List.length_cons, List.length_nil, Nat.reduceAdd, Nat.reduceSub, List.cons_append, List.nil_append])
  repeat' (first | (apply AOps.nil; try simp only [List.nil_append, List.cons_append, List.set_cons_zero, List.set_cons_succ, List.length_cons, List.length_nil, Nat.reduceAdd, AV.sh, AV.sh1, AV.sh0, AO.sh, List.map_cons, List.map_nil, Nat.zero_add, Nat.add_zero, setAll]) | (apply w_move; exact rfl; exact rfl) | (apply w_assign; exact rfl; exact rfl) | apply AWp.seq | apply AWp.region | apply AWp.ret | (apply AWp.regionQ; kernel_rfl; kernel_rfl) | ((first | apply w_gtr | apply w_sub | apply w_mul | apply w_idx | apply w_ld); iterate 3 exact rfl) | (apply inI_of <;> omega) | omega)
  all_goals exact .bool Try.results98 rfl rfl

def less2 (a b : List Int) : Bool := decide (geti a 0 < geti b 0 ∨ (geti a 0 = geti b 0 ∧ geti a 1 < geti b 1))
theorem l01Less_c (a b : List Int) (ha : a.length = 2) (hb : b.length = 2) : AFnV Try.prog 91 [.ints a, .ints b] (.bool (less2 a b)) := by
  (refine AFnV.start Try.func91 Try.ntmps91 rfl (by kernel_rfl) fun hk => ?_; simp only [Env.start, enumF, List.length_cons, List.length_nil, Nat.reduceAdd, Nat.reduceSub, List.cons_append, List.nil_append])
  repeat' (first | (apply AOps.nil; try simp only [List.nil_append, List.cons_append, List.set_cons_zero, List.set_cons_succ, List.length_cons, List.length_nil, Nat.reduceAdd, AV.sh, AV.sh1, AV.sh0, AO.sh, List.map_cons, List.map_nil, Nat.zero_add, Nat.add_zero, setAll]) | (apply w_assign; exact rfl; exact rfl) | apply AWp.seq | apply AWp.region | apply AWp.block)
  refine AWp.loop (ι := Nat) (fun i => ⟨41, [(0, .ints a), (1, .ints b), (5, .i i)]⟩) (fun _ => []) (fun i => i ≤ 2 ∧ (1 ≤ i → geti a 0 = geti b 0) ∧ (2 ≤ i → geti a 1 = geti b 1)) (fun i => 2 - i) 0 ⟨by omega, fun h => by omega, fun h => by omega⟩ ⟨lee rfl (by (repeat (first | exact le_nil | refine le_eq rfl rfl ?_))), by (repeat (exact lo_nil)), rfl, rfl⟩ ?_
  rintro i ⟨h0, h1, h2⟩
  rcases (show i = 0 ∨ i = 1 ∨ i = 2 by omega) with rfl | rfl | rfl
  all_goals repeat' (first | (apply AOps.nil; try simp only [List.nil_append, List.cons_append, List.set_cons_zero, List.set_cons_succ, List.length_cons, List.length_nil, Nat.reduceAdd, AV.sh, AV.sh1, AV.sh0, AO.sh, List.map_cons, List.map_nil, Nat.zero_add, Nat.add_zero, setAll]) | ((apply AOps.splitP; exact rfl; exact rfl) <;> intro h) | (apply w_move; exact rfl; exact rfl) | (apply w_assign; exact rfl; exact rfl) | apply AWp.seq | apply AWp.region | ((apply AWp.condP; exact rfl) <;> intro h) | (apply AWp.condF; exact rfl) | apply AWp.block | apply AWp.ret | apply AWp.exit | apply AWp.skip | (apply AWp.regionQ; kernel_rfl; kernel_rfl) | (apply w_skip; exact rfl) | (apply w_pickT; exact rfl; exact rfl; exact rfl) | (apply w_pickF; exact rfl; exact rfl; exact rfl) | (apply w_len; exact rfl; exact rfl; first | exact .ints _ | exact .intss _ | exact .sli rfl | exact .sls rfl | exact .slr rfl | exact .orow rfl | exact .nil) | ((first | apply w_lss | apply w_neq | apply w_add | apply w_idx | apply w_ld); iterate 3 exact rfl) | (apply inI_of <;> omega) | omega)
  all_goals try simp only [Int.natCast_zero, Int.natCast_one] at *
  all_goals first
    | exact ⟨1, ⟨by omega, fun _ => by omega, fun h => by omega⟩, by omega, ⟨lee rfl (by (repeat (first | exact le_nil | refine le_eq rfl rfl ?_))), by (repeat (exact lo_nil)), rfl, rfl⟩⟩
    | exact ⟨2, ⟨by omega, fun _ => by omega, fun _ => by omega⟩, by omega, ⟨lee rfl (by (repeat (first | exact le_nil | refine le_eq rfl rfl ?_))), by (repeat (exact lo_nil)), rfl, rfl⟩⟩
    | (refine .bool Try.results91 rfl ?_
       unfold less2
       rw [Bool.eq_iff_iff, decide_eq_true_iff, decide_eq_true_iff]
       omega)
end Go.Proofs.Ytifkgmbghcmdeaa
/-
  The vertices of a support: the reference's, wrapped from vertex to vertex. No condition but a bound on the sizes.
-/
namespace Go.Proofs.Ytifkgmbghcmdeaa
open Go Go.RowKit
attribute [local irreducible] AWp AOps ResIs Ret1 QOp LOp COp AFnV AFn Imms LeE LeO
set_option maxHeartbeats 1000000
set_option linter.unusedSimpArgs false
set_option linter.unusedVariables false

/-- The vertices: the list that leads from the first pair to the lowest one, each the next of the one before. -/
def HasV (xss V : List (List Int)) : Prop := Hl.GW gX gY (· ∈ xss) V
noncomputable def verts (xss : List (List Int)) : List (List Int) := open Classical in if h : ∃ V, HasV xss V then h.choose else []

theorem row2_ext {a b : List Int} (ha : a.length = 2) (hb : b.length = 2) (h0 : geti a 0 = geti b 0) (h1 : geti a 1 = geti b 1) : a = b := by
  match a, b, ha, hb with
  | [x, y], [z, u], _, _ => simp [geti] at h0 h1; rw [h0, h1]
theorem verts_eq {xss V : List (List Int)} (hp : ∀ r ∈ xss, r.length = 2) (hv : HasV xss V) : verts xss = V := by
  unfold verts
  rw [dif_pos ⟨V, hv⟩]
  exact Hl.gw_unique (fun a b ha hb h0 h1 => row2_ext (hp a ha) (hp b hb) h0 h1) (Exists.choose_spec (⟨V, hv⟩ : ∃ V, HasV xss V)) hv

/-- One of the first i rows. -/
def Sp (xss : List (List Int)) (i : Nat) (q : List Int) : Prop := ∃ j : Nat, j < i ∧ q = gets xss j
theorem sp_succ (xss : List (List Int)) (i : Nat) : Hl.plus (Sp xss i) (gets xss i) = Sp xss (i + 1) := by
  funext q
  apply propext
  constructor
  · rintro (⟨j, hj, rfl⟩ | rfl)
    · exact ⟨j, by omega, rfl⟩
    · exact ⟨i, by omega, rfl⟩
  · rintro ⟨j, hj, rfl⟩
    by_cases e : j = i
    · subst e; exact .inr rfl
    · exact .inl ⟨j, by omega, rfl⟩
theorem sp_all (xss : List (List Int)) (q : List Int) : Sp xss xss.length q ↔ q ∈ xss := by
  constructor
  · rintro ⟨j, hj, rfl⟩; exact gets_mem (by omega) (by omega)
  · intro h
    obtain ⟨j, hj⟩ := List.getElem?_of_mem h
    have := (List.getElem?_eq_some_iff.1 hj).1
    exact ⟨j, this, by simp [gets, hj]⟩

def bestA (xss : List (List Int)) : Option Nat → AV
  | none => .own 2
  | some k => .ints (gets xss (k : Nat))
def BestOk (xss : List (List Int)) (a : List Int) (i : Nat) : Option Nat → Prop
  | none => ∀ q, Sp xss i q → gY a ≤ gY q
  | some k => k < xss.length ∧ Hl.isNext gX gY (Sp xss i) a (gets xss (k : Nat))

set_option maxHeartbeats 4000000 in
theorem l15Vertices_c (xss : List (List Int)) (h0 : 0 < xss.length) (h1 : xss.length ≤ 1048576) (hp : ∀ r ∈ xss, PB r) : AFn Try.prog 63 [.intss xss] (IsIntss 22 2 (verts xss)) := by
  have hpi : ∀ i : Nat, i < xss.length → PB (gets xss (i : Nat)) := fun i hi => hp _ (gets_mem (by omega) (by omega))
  have hp0 := (hpi 0 h0).1
  simp only [Int.natCast_zero] at hp0
  (refine AFn.start Try.func63 Try.ntmps63 rfl (by kernel_rfl) fun hk => ?_; simp only [Env.start, enumF, List.length_cons, List.length_nil, Nat.reduceAdd, Nat.reduceSub, List.cons_append, List.nil_append])
  repeat' (first | (apply AOps.nil; try simp only [List.nil_append, List.cons_append, List.set_cons_zero, List.set_cons_succ, List.length_cons, List.length_nil, Nat.reduceAdd, AV.sh, AV.sh1, AV.sh0, AO.sh, List.map_cons, List.map_nil, Nat.zero_add, Nat.add_zero, setAll]) | (apply w_move; exact rfl; exact rfl) | (apply w_assign; exact rfl; exact rfl) | apply AWp.seq | apply AWp.region | apply AWp.block | ((first | apply w_idxs | apply w_lds); iterate 3 exact rfl) | omega)
  refine AWp.loop (ι := Nat × Nat) (fun x => ⟨113, [(0, .intss xss), (3, .ints (gets xss (x.2 : Nat))), (4, .i x.1)]⟩) (fun _ => []) (fun x => x.1 ≤ xss.length ∧ x.2 < xss.length ∧ ∀ q, Sp xss x.1 q → Hl.lexle gX gY (gets xss (x.2 : Nat)) q) (fun x => xss.length - x.1) (0, 0) ⟨Nat.zero_le _, h0, fun q hq => by obtain ⟨j, hj, _⟩ := hq; omega⟩ ⟨lee rfl (by (repeat (first | exact le_nil | refine le_eq rfl rfl ?_))), by (repeat (exact lo_nil)), rfl, rfl⟩ ?_
  rintro ⟨i, m⟩ ⟨i0, i1, i2⟩
  simp only at i0 i1 i2
  obtain ⟨m1, m2, m3⟩ := hpi m i1
  by_cases hi : i < xss.length
  · obtain ⟨p1, p2, p3⟩ := hpi i hi
    have cl := l01Less_c (gets xss (i : Nat)) (gets xss (m : Nat)) p1 m1
    by_cases hc : less2 (gets xss (i : Nat)) (gets xss (m : Nat)) = true
    · rw [hc] at cl
      simp [less2] at hc
      repeat' (first | (apply AOps.nil; try simp only [List.nil_append, List.cons_append, List.set_cons_zero, List.set_cons_succ, List.length_cons, List.length_nil, Nat.reduceAdd, AV.sh, AV.sh1, AV.sh0, AO.sh, List.map_cons, List.map_nil, Nat.zero_add, Nat.add_zero, setAll]) | (apply w_move; exact rfl; exact rfl) | (apply w_assign; exact rfl; exact rfl) | apply AWp.seq | apply AWp.region | ((apply AWp.condP; exact rfl) <;> intro h) | (apply AWp.condT; exact rfl) | apply AWp.block | apply AWp.exit | apply AWp.skip | (apply w_len; exact rfl; exact rfl; first | exact .ints _ | exact .intss _ | exact .sli rfl | exact .sls rfl | exact .slr rfl | exact .orow rfl | exact .nil) | (apply w_call (cl); exact rfl; exact rfl; focus ((repeat (first | exact im_nil | refine im_cons rfl (.ints _) ?_)); done)) | omega | ((first | apply w_lss | apply w_add | apply w_idx | apply w_ld); iterate 3 exact rfl) | ((first | apply w_idxs | apply w_lds); iterate 3 exact rfl) | (apply inI_of <;> omega))
      refine ⟨(i + 1, i), ⟨by simp only; omega, hi, ?_⟩, by simp only; omega, ⟨lee rfl (by (repeat (first | exact le_nil | refine le_eq rfl rfl ?_))), by (repeat (exact lo_nil)), rfl, rfl⟩⟩
      simp only
      rw [← sp_succ]
      rintro q (hq | rfl)
      · have := i2 q hq
        unfold Hl.lexle at *
        simp only [gX, gY] at *
        omega
      · unfold Hl.lexle; omega
    · rw [Bool.not_eq_true] at hc
      rw [hc] at cl
      simp [less2] at hc
      repeat' (first | (apply AOps.nil; try simp only [List.nil_append, List.cons_append, List.set_cons_zero, List.set_cons_succ, List.length_cons, List.length_nil, Nat.reduceAdd, AV.sh, AV.sh1, AV.sh0, AO.sh, List.map_cons, List.map_nil, Nat.zero_add, Nat.add_zero, setAll]) | (apply w_move; exact rfl; exact rfl) | (apply w_assign; exact rfl; exact rfl) | apply AWp.seq | apply AWp.region | ((apply AWp.condP; exact rfl) <;> intro h) | (apply AWp.condF; exact rfl) | apply AWp.block | apply AWp.exit | apply AWp.skip | (apply w_len; exact rfl; exact rfl; first | exact .ints _ | exact .intss _ | exact .sli rfl | exact .sls rfl | exact .slr rfl | exact .orow rfl | exact .nil) | (apply w_call (cl); exact rfl; exact rfl; focus ((repeat (first | exact im_nil | refine im_cons rfl (.ints _) ?_)); done)) | omega | ((first | apply w_lss | apply w_add | apply w_idx | apply w_ld); iterate 3 exact rfl) | ((first | apply w_idxs | apply w_lds); iterate 3 exact rfl) | (apply inI_of <;> omega))
      refine ⟨(i + 1, m), ⟨by simp only; omega, i1, ?_⟩, by simp only; omega, ⟨lee rfl (by (repeat (first | exact le_nil | refine le_eq rfl rfl ?_))), by (repeat (exact lo_nil)), rfl, rfl⟩⟩
      simp only
      rw [← sp_succ]
      rintro q (hq | rfl)
      · exact i2 q hq
      · unfold Hl.lexle; simp only [gX, gY]; omega
  · have e : i = xss.length := by omega
    subst e
    have i3 : ∀ q, q ∈ xss → Hl.lexle gX gY (gets xss (m : Nat)) q := fun q hq => i2 q ((sp_all xss q).2 hq)
    have hown := l01Own_c (gets xss (m : Nat)) (by omega)
    repeat' (first | (apply AOps.nil; try simp only [List.nil_append, List.cons_append, List.set_cons_zero, List.set_cons_succ, List.length_cons, List.length_nil, Nat.reduceAdd, AV.sh, AV.sh1, AV.sh0, AO.sh, List.map_cons, List.map_nil, Nat.zero_add, Nat.add_zero, setAll]) | (apply w_move; exact rfl; exact rfl) | (apply w_assign; exact rfl; exact rfl) | apply AWp.seq | apply AWp.region | ((apply AWp.condP; exact rfl) <;> intro h) | apply AWp.block | apply AWp.exit | apply AWp.skip | (apply w_len; exact rfl; exact rfl; first | exact .ints _ | exact .intss _ | exact .sli rfl | exact .sls rfl | exact .slr rfl | exact .orow rfl | exact .nil) | (apply w_bsr1s; exact rfl; exact rfl; exact rfl; exact rfl; simp only [Env.mp, List.map_cons, List.map_nil, List.set_cons_zero, List.set_cons_succ, AV.kill, AV.kill1, AO.kill, AV.rin, AV.rin1, AV.noRow, AV.noRow1, AO.via, reduceIte, Nat.reduceEqDiff, Nat.reduceLT, Env.up, Nat.zero_ne_one, Nat.one_ne_zero, Nat.reduceAdd, List.cons_append, List.nil_append]) | (apply w_callm (hown); (focus ((repeat (first | exact im_nil | refine im_cons rfl (.ints _) ?_)); done)); rintro r os0 ⟨rfl, rfl⟩; try simp only [List.nil_append, List.cons_append, List.set_cons_zero, List.set_cons_succ, List.length_cons, List.length_nil, Nat.reduceAdd, AV.sh, AV.sh1, AV.sh0, AO.sh, List.map_cons, List.map_nil, Nat.zero_add, Nat.add_zero, setAll]) | omega | ((apply w_lss); iterate 3 exact rfl))
    refine AWp.loop (ι := List (List Int) × Nat) (fun x => ⟨113, [(0, .intss xss), (3, .ints (gets xss (x.2 : Nat))), (5, .own 1)]⟩) (fun x => [.dead, .sls 22 2 (x.1 ++ [gets xss (x.2 : Nat)])]) (fun x => x.2 < xss.length ∧ Hl.Pre gX gY (· ∈ xss) x.1 (gets xss (x.2 : Nat)) ∧ x.1.length + gY (gets xss (x.2 : Nat)) ≤ 100001) (fun x => (gY (gets xss (x.2 : Nat))).toNat) ([], m) ⟨i1, Hl.Pre.start (gets_mem (by omega) (by omega)) i3, by simp only [List.length_nil, gY]; omega⟩ ⟨lee rfl (by (repeat (first | exact le_nil | refine le_eq rfl rfl ?_))), by (repeat (first | exact lo_nil | refine lo_dead ?_ | refine lo_eq rfl ?_)), rfl, rfl⟩ ?_
    clear hown i3 m1 m2 m3 i0 i1 i2 hi m
    rintro ⟨V, m⟩ ⟨i1, i2, i3⟩
    simp only at i1 i2 i3
    obtain ⟨m1, m2, m3⟩ := hpi m i1
    obtain ⟨a, ea⟩ : ∃ a, a = gets xss (m : Nat) := ⟨_, rfl⟩
    rw [← ea] at i2 i3 m1 m2 m3
    simp only [← ea]
    repeat' (first | (apply AOps.nil; try simp only [List.nil_append, List.cons_append, List.set_cons_zero, List.set_cons_succ, List.length_cons, List.length_nil, Nat.reduceAdd, AV.sh, AV.sh1, AV.sh0, AO.sh, List.map_cons, List.map_nil, Nat.zero_add, Nat.add_zero, setAll]) | (apply w_assign; exact rfl; exact rfl) | apply AWp.seq | apply AWp.region | apply AWp.block | (apply w_bs0; iterate 1 exact rfl))
    refine AWp.loop (ι := Nat × Option Nat) (fun x => ⟨113, [(0, .intss xss), (3, .ints a), (5, .own 1), (6, bestA xss x.2), (7, .i x.1)]⟩) (fun _ => [.dead, .sls 22 2 (V ++ [a]), .sli 2 []]) (fun x => x.1 ≤ xss.length ∧ BestOk xss a x.1 x.2) (fun x => xss.length - x.1) (0, none) ⟨Nat.zero_le _, fun q hq => by obtain ⟨j, hj, _⟩ := hq; omega⟩ ⟨lee rfl (by (repeat (first | exact le_nil | refine le_eq rfl rfl ?_))), by (repeat (first | exact lo_nil | refine lo_dead ?_ | refine lo_eq rfl ?_)), rfl, rfl⟩ ?_
    rintro ⟨i, o⟩ ⟨j0, j1⟩
    simp only at j0 j1
    by_cases hi : i < xss.length
    · obtain ⟨p1, p2, p3⟩ := hpi i hi
      have esp := sp_succ xss i
      cases o with
      | none =>
        simp only [bestA]
        by_cases hy : geti a 1 ≤ geti (gets xss (i : Nat)) 1
        · repeat' (first | (apply AOps.nil; try simp only [List.nil_append, List.cons_append, List.set_cons_zero, List.set_cons_succ, List.length_cons, List.length_nil, Nat.reduceAdd, AV.sh, AV.sh1, AV.sh0, AO.sh, List.map_cons, List.map_nil, Nat.zero_add, Nat.add_zero, setAll]) | (apply w_move; exact rfl; exact rfl) | (apply w_assign; exact rfl; exact rfl) | apply AWp.seq | apply AWp.region | ((apply AWp.condP; exact rfl) <;> intro h) | apply AWp.block | apply AWp.exit | apply AWp.skip | (apply AWp.regionQ; kernel_rfl; kernel_rfl) | (apply w_len; exact rfl; exact rfl; first | exact .ints _ | exact .intss _ | exact .sli rfl | exact .sls rfl | exact .slr rfl | exact .orow rfl | exact .nil) | omega | ((first | apply w_lss | apply w_geq | apply w_add | apply w_idx | apply w_ld); iterate 3 exact rfl) | ((first | apply w_idxs | apply w_lds); iterate 3 exact rfl) | (apply inI_of <;> omega))
          all_goals first
            | (exfalso; omega)
            | (refine ⟨(i + 1, none), ⟨by simp only; omega, ?_⟩, by simp only; omega, ⟨lee rfl (by (repeat (first | exact le_nil | refine le_eq rfl rfl ?_))), by (repeat (first | exact lo_nil | refine lo_dead ?_ | refine lo_eq rfl ?_)), rfl, rfl⟩⟩
               simp only [BestOk, ← esp]
               rintro q (hq | rfl)
               · exact j1 q hq
               · exact hy)
        · repeat' (first | (apply AOps.nil; try simp only [List.nil_append, List.cons_append, List.set_cons_zero, List.set_cons_succ, List.length_cons, List.length_nil, Nat.reduceAdd, AV.sh, AV.sh1, AV.sh0, AO.sh, List.map_cons, List.map_nil, Nat.zero_add, Nat.add_zero, setAll]) | (apply w_move; exact rfl; exact rfl) | (apply w_assign; exact rfl; exact rfl) | apply AWp.seq | apply AWp.region | ((apply AWp.condP; exact rfl) <;> intro h) | apply AWp.block | apply AWp.exit | apply AWp.skip | (apply AWp.regionQ; kernel_rfl; kernel_rfl) | (apply w_len; exact rfl; exact rfl; first | exact .ints _ | exact .intss _ | exact .sli rfl | exact .sls rfl | exact .slr rfl | exact .orow rfl | exact .nil) | omega | ((first | apply w_lss | apply w_geq | apply w_eql | apply w_add | apply w_idx | apply w_ld); iterate 3 exact rfl) | ((first | apply w_idxs | apply w_lds); iterate 3 exact rfl) | (apply inI_of <;> omega))
          all_goals first
            | (exfalso; omega)
            | (refine ⟨(i + 1, some i), ⟨by simp only; omega, ?_⟩, by simp only; omega, ⟨lee rfl (by (repeat (first | exact le_nil | refine le_eq rfl rfl ?_))), by (repeat (first | exact lo_nil | refine lo_dead ?_ | refine lo_eq rfl ?_)), rfl, rfl⟩⟩
               simp only [BestOk, ← esp]
               exact ⟨hi, Hl.next_first j1 (by simp only [gY]; omega)⟩)
      | some k =>
        obtain ⟨j1, j2⟩ := j1
        obtain ⟨b1, b2, b3⟩ := hpi k j1
        obtain ⟨b, eb⟩ : ∃ b, b = gets xss (k : Nat) := ⟨_, rfl⟩
        simp only [bestA]
        rw [← eb] at j2 b1 b2 b3
        simp only [← eb]
        have q1 := mulPB (x := geti a 1 - geti (gets xss (i : Nat)) 1) (y := geti b 0 - geti a 0) (by omega) (by omega)
        have q2 := mulPB (x := geti a 1 - geti b 1) (y := geti (gets xss (i : Nat)) 0 - geti a 0) (by omega) (by omega)
        have ecr : Hl.cr gX gY a b (gets xss (i : Nat)) = (geti a 1 - geti b 1) * (geti (gets xss (i : Nat)) 0 - geti a 0) - (geti a 1 - geti (gets xss (i : Nat)) 1) * (geti b 0 - geti a 0) := by unfold Hl.cr; simp only [gX, gY]; grind
        by_cases hy : geti a 1 ≤ geti (gets xss (i : Nat)) 1
        · repeat' (first | (apply AOps.nil; try simp only [List.nil_append, List.cons_append, List.set_cons_zero, List.set_cons_succ, List.length_cons, List.length_nil, Nat.reduceAdd, AV.sh, AV.sh1, AV.sh0, AO.sh, List.map_cons, List.map_nil, Nat.zero_add, Nat.add_zero, setAll]) | (apply w_move; exact rfl; exact rfl) | (apply w_assign; exact rfl; exact rfl) | apply AWp.seq | apply AWp.region | ((apply AWp.condP; exact rfl) <;> intro h) | apply AWp.block | apply AWp.exit | apply AWp.skip | (apply AWp.regionQ; kernel_rfl; kernel_rfl) | (apply w_len; exact rfl; exact rfl; first | exact .ints _ | exact .intss _ | exact .sli rfl | exact .sls rfl | exact .slr rfl | exact .orow rfl | exact .nil) | omega | ((first | apply w_lss | apply w_geq | apply w_add | apply w_idx | apply w_ld); iterate 3 exact rfl) | ((first | apply w_idxs | apply w_lds); iterate 3 exact rfl) | (apply inI_of <;> omega))
          all_goals first
            | (exfalso; omega)
            | (refine ⟨(i + 1, some k), ⟨by simp only; omega, ?_⟩, by simp only; omega, by simp only [bestA, ← eb]; exact ⟨lee rfl (by (repeat (first | exact le_nil | refine le_eq rfl rfl ?_))), by (repeat (first | exact lo_nil | refine lo_dead ?_ | refine lo_eq rfl ?_)), rfl, rfl⟩⟩
               simp only [BestOk, ← esp, ← eb]
               exact ⟨j1, Hl.next_keep j2 fun hz => by simp only [gY] at hz; omega⟩)
        · by_cases hbt : (geti a 1 - geti b 1) * (geti (gets xss (i : Nat)) 0 - geti a 0) < (geti a 1 - geti (gets xss (i : Nat)) 1) * (geti b 0 - geti a 0) ∨ ((geti a 1 - geti (gets xss (i : Nat)) 1) * (geti b 0 - geti a 0) = (geti a 1 - geti b 1) * (geti (gets xss (i : Nat)) 0 - geti a 0) ∧ geti (gets xss (i : Nat)) 1 < geti b 1)
          · repeat' (first | (apply AOps.nil; try simp only [List.nil_append, List.cons_append, List.set_cons_zero, List.set_cons_succ, List.length_cons, List.length_nil, Nat.reduceAdd, AV.sh, AV.sh1, AV.sh0, AO.sh, List.map_cons, List.map_nil, Nat.zero_add, Nat.add_zero, setAll]) | ((apply AOps.splitP; exact rfl; exact rfl) <;> intro h) | (apply w_move; exact rfl; exact rfl) | (apply w_assign; exact rfl; exact rfl) | apply AWp.seq | apply AWp.region | ((apply AWp.condP; exact rfl) <;> intro h) | (apply AWp.condT; exact rfl) | (apply AWp.condF; exact rfl) | apply AWp.block | apply AWp.exit | apply AWp.skip | (apply AWp.regionQ; kernel_rfl; kernel_rfl) | (apply w_skip; exact rfl) | (apply w_pickT; exact rfl; exact rfl; exact rfl) | (apply w_pickF; exact rfl; exact rfl; exact rfl) | (apply w_len; exact rfl; exact rfl; first | exact .ints _ | exact .intss _ | exact .sli rfl | exact .sls rfl | exact .slr rfl | exact .orow rfl | exact .nil) | omega | ((first | apply w_lss | apply w_gtr | apply w_geq | apply w_eql | apply w_add | apply w_sub | apply w_mul | apply w_idx | apply w_ld); iterate 3 exact rfl) | ((first | apply w_idxs | apply w_lds); iterate 3 exact rfl) | (apply inI_of <;> omega))
            all_goals first
              | (exfalso; omega)
              | (refine ⟨(i + 1, some i), ⟨by simp only; omega, ?_⟩, by simp only; omega, by simp only [bestA]; exact ⟨lee rfl (by (repeat (first | exact le_nil | refine le_eq rfl rfl ?_))), by (repeat (first | exact lo_nil | refine lo_dead ?_ | refine lo_eq rfl ?_)), rfl, rfl⟩⟩
                 simp only [BestOk, ← esp]
                 exact ⟨hi, Hl.next_new j2 (by simp only [gY]; omega) (by rw [ecr]; simp only [gY]; omega)⟩)
          · repeat' (first | (apply AOps.nil; try simp only [List.nil_append, List.cons_append, List.set_cons_zero, List.set_cons_succ, List.length_cons, List.length_nil, Nat.reduceAdd, AV.sh, AV.sh1, AV.sh0, AO.sh, List.map_cons, List.map_nil, Nat.zero_add, Nat.add_zero, setAll]) | ((apply AOps.splitP; exact rfl; exact rfl) <;> intro h) | (apply w_move; exact rfl; exact rfl) | (apply w_assign; exact rfl; exact rfl) | apply AWp.seq | apply AWp.region | ((apply AWp.condP; exact rfl) <;> intro h) | (apply AWp.condT; exact rfl) | (apply AWp.condF; exact rfl) | apply AWp.block | apply AWp.exit | apply AWp.skip | (apply AWp.regionQ; kernel_rfl; kernel_rfl) | (apply w_skip; exact rfl) | (apply w_pickT; exact rfl; exact rfl; exact rfl) | (apply w_pickF; exact rfl; exact rfl; exact rfl) | (apply w_len; exact rfl; exact rfl; first | exact .ints _ | exact .intss _ | exact .sli rfl | exact .sls rfl | exact .slr rfl | exact .orow rfl | exact .nil) | omega | ((first | apply w_lss | apply w_gtr | apply w_geq | apply w_eql | apply w_add | apply w_sub | apply w_mul | apply w_idx | apply w_ld); iterate 3 exact rfl) | ((first | apply w_idxs | apply w_lds); iterate 3 exact rfl) | (apply inI_of <;> omega))
            all_goals first
              | (exfalso; omega)
              | (refine ⟨(i + 1, some k), ⟨by simp only; omega, ?_⟩, by simp only; omega, by simp only [bestA, ← eb]; exact ⟨lee rfl (by (repeat (first | exact le_nil | refine le_eq rfl rfl ?_))), by (repeat (first | exact lo_nil | refine lo_dead ?_ | refine lo_eq rfl ?_)), rfl, rfl⟩⟩
                 simp only [BestOk, ← esp, ← eb]
                 exact ⟨j1, Hl.next_keep j2 fun hz => by rw [ecr]; simp only [gY]; omega⟩)
    · have e : i = xss.length := by omega
      subst e
      cases o with
      | none =>
        simp only [bestA]
        repeat' (first | (apply AOps.nil; try simp only [List.nil_append, List.cons_append, List.set_cons_zero, List.set_cons_succ, List.length_cons, List.length_nil, Nat.reduceAdd, AV.sh, AV.sh1, AV.sh0, AO.sh, List.map_cons, List.map_nil, Nat.zero_add, Nat.add_zero, setAll]) | (apply w_move; exact rfl; exact rfl) | (apply w_assign; exact rfl; exact rfl) | apply AWp.seq | apply AWp.region | ((apply AWp.condP; exact rfl) <;> intro h) | apply AWp.block | apply AWp.ret | apply AWp.exit | apply AWp.skip | (apply w_len; exact rfl; exact rfl; first | exact .ints _ | exact .intss _ | exact .sli rfl | exact .sls rfl | exact .slr rfl | exact .orow rfl | exact .nil) | omega | ((first | apply w_lss | apply w_eql); iterate 3 exact rfl))
        exact ⟨_, _, _, .v1 Try.results63 rfl, .sls rfl, rfl, by rw [verts_eq (fun r hr => (hp r hr).1) (i2.done fun q hq => j1 q ((sp_all xss q).2 hq))]⟩
      | some k =>
        obtain ⟨j1, j2⟩ := j1
        obtain ⟨b1, b2, b3⟩ := hpi k j1
        have hn : Hl.isNext gX gY (· ∈ xss) a (gets xss (k : Nat)) := by
          have : Sp xss xss.length = (· ∈ xss) := funext fun q => propext (sp_all xss q)
          rw [← this]; exact j2
        have hlt := hn.2.1
        simp only [gY] at hlt i3
        simp only [bestA]
        have hown := l01Own_c (gets xss (k : Nat)) (by omega)
        have el : (V ++ [a]).length = V.length + 1 := by simp
        repeat' (first | (apply AOps.nil; try simp only [List.nil_append, List.cons_append, List.set_cons_zero, List.set_cons_succ, List.length_cons, List.length_nil, Nat.reduceAdd, AV.sh, AV.sh1, AV.sh0, AO.sh, List.map_cons, List.map_nil, Nat.zero_add, Nat.add_zero, setAll]) | (apply w_move; exact rfl; exact rfl) | (apply w_assign; exact rfl; exact rfl) | apply AWp.seq | apply AWp.region | ((apply AWp.condP; exact rfl) <;> intro h) | apply AWp.block | apply AWp.ret | apply AWp.exit | apply AWp.skip | (apply w_len; exact rfl; exact rfl; first | exact .ints _ | exact .intss _ | exact .sli rfl | exact .sls rfl | exact .slr rfl | exact .orow rfl | exact .nil) | ((first | apply w_bsr1 | apply w_lss | apply w_eql | apply w_idx); iterate 3 exact rfl) | (apply w_appr; exact rfl; exact rfl; exact rfl; exact rfl; exact rfl; exact rfl; exact rfl; rotate_left 1; simp only [Env.mp, List.map_cons, List.map_nil, List.set_cons_zero, List.set_cons_succ, AV.kill, AV.kill1, AO.kill, AV.rin, AV.rin1, AV.noRow, AV.noRow1, AO.via, reduceIte, Nat.reduceEqDiff, Nat.reduceLT, Env.up, Nat.zero_ne_one, Nat.one_ne_zero, Nat.reduceAdd, List.cons_append, List.nil_append]; rotate_left 1) | (apply w_callm (hown); (focus ((repeat (first | exact im_nil | refine im_cons rfl (.ints _) ?_)); done)); rintro r os0 ⟨rfl, rfl⟩; try simp only [List.nil_append, List.cons_append, List.set_cons_zero, List.set_cons_succ, List.length_cons, List.length_nil, Nat.reduceAdd, AV.sh, AV.sh1, AV.sh0, AO.sh, List.map_cons, List.map_nil, Nat.zero_add, Nat.add_zero, setAll]) | omega)
        exact ⟨(V ++ [a], k), ⟨j1, i2.step hn, by simp only [gY, el]; omega⟩, by simp only [gY, ← ea]; omega, ⟨lee rfl (by (repeat (first | exact le_nil | refine le_eq rfl rfl ?_))), by (repeat (first | exact lo_nil | refine lo_dead ?_ | refine lo_eq rfl ?_)), rfl, rfl⟩⟩
end Go.Proofs.Ytifkgmbghcmdeaa
/-
  The comparison of pairs that the sort is handed, walked by the kit's own steps. No condition.
-/
namespace Go.Proofs.Ytifkgmbghcmdeaa
open Go Go.RowKit

/-- Pairs in lexicographic order. -/
def cmp2 (x0 x1 y0 y1 : Int) : Int := if x0 = y0 then Lib.compareInt x1 y1 else Lib.compareInt x0 y0

theorem cmpI_self (x : Int) : Lib.compareInt x x = 0 := by unfold Lib.compareInt; rw [if_neg (by omega), if_neg (by omega)]
theorem cmpI_ne {x y : Int} (h : ¬ x = y) : ¬ Lib.compareInt x y = 0 := by unfold Lib.compareInt; repeat' split
                                                                           all_goals omega

theorem isNaN_k (x : Int) (w : World) : Calls Try.prog 124 #[.int .i64 x] w fun e w' => e = .returned (.bool false) ∧ w' = w := by
  go_enter Try.func124, Try.ntmps124
  go_wp2
  go_ret
  exact ⟨by simp, rfl⟩

set_option maxHeartbeats 1000000 in
theorem cmpCompare_k (x y : Int) (w : World) : Calls Try.prog 113 #[.int .i64 x, .int .i64 y] w fun e w' => e = .returned (.int .i64 (Lib.compareInt x y)) ∧ w' = w := by
  go_enter Try.func113, Try.ntmps113
  go_wp2_with (go_at_call 124; refine (isNaN_k _ _).mono ?_; rintro e w' ⟨rfl, hw⟩; rw [hw])
  all_goals (go_ret; refine ⟨?_, rfl⟩; unfold Lib.compareInt; (repeat' split) <;> first | rfl | (exfalso; omega))

set_option maxHeartbeats 2000000 in
theorem compare_k (b1 o1 c1 b2 o2 c2 : Nat) (x0 x1 y0 y1 : Int) (w : World) (h0 : w.cell? ⟨b1, o1, none⟩ = some (.int .i64 x0)) (h1 : w.cell? ⟨b1, o1 + 1, none⟩ = some (.int .i64 x1)) (g0 : w.cell? ⟨b2, o2, none⟩ = some (.int .i64 y0)) (g1 : w.cell? ⟨b2, o2 + 1, none⟩ = some (.int .i64 y1)) :
    Calls Try.prog 97 #[.slice (some ⟨b1, o1, none⟩) 2 c1, .slice (some ⟨b2, o2, none⟩) 2 c2] w fun e w' => e = .returned (.int .i64 (cmp2 x0 x1 y0 y1)) ∧ w' = w := by
  go_enter Try.func97, Try.ntmps97
  go_wp2
  go_loopg [11] 2 (fun g s11 wr => ∃ k : Nat, k ≤ 2 ∧ 2 - k ≤ g ∧ s11 = .int .i64 k ∧ wr = w ∧ (1 ≤ k → x0 = y0) ∧ (2 ≤ k → x1 = y1))
  case atStart => exact ⟨0, by omega, by omega, rfl, rfl, fun h => by omega, fun h => by omega⟩
  case round =>
    obtain ⟨k, hk, hg, rfl, rfl, e0, e1⟩ := hrel
    rcases (show k = 0 ∨ k = 1 ∨ k = 2 by omega) with rfl | rfl | rfl
    · by_cases e : x0 = y0
      · subst e
        clear e0 e1
        go_wp2_with (go_at_call 113; refine (cmpCompare_k _ _ _).mono ?_; rintro e w' ⟨rfl, hw⟩; rw [hw, cmpI_self])
        go_roundg (2 - 1)
        case measure => omega
        case rel => exact ⟨1, by omega, by omega, rfl, rfl, by simp, by simp⟩
      · have hn := cmpI_ne e
        have A0 : cmp2 x0 x1 y0 y1 = Lib.compareInt x0 y0 := by unfold cmp2; rw [if_neg e]
        have A : Aside (cmp2 x0 x1 y0 y1 = Lib.compareInt x0 y0) := A0
        clear A0
        clear e0 e1 e
        generalize hr : Lib.compareInt x0 y0 = r at hn A
        have B : Aside (Lib.compareInt x0 y0 = r) := hr
        clear hr
        go_wp2_with (go_at_call 113; refine (cmpCompare_k _ _ _).mono ?_; rintro e w' ⟨rfl, hw⟩; rw [hw, B.out])
        go_ret
        exact ⟨by rw [A.out]; rfl, rfl⟩
    · have e := e0 (by omega)
      subst e
      clear e0
      by_cases e : x1 = y1
      · subst e
        clear e1
        go_wp2_with (go_at_call 113; refine (cmpCompare_k _ _ _).mono ?_; rintro e w' ⟨rfl, hw⟩; rw [hw, cmpI_self])
        go_roundg (2 - 2)
        case measure => omega
        case rel => exact ⟨2, by omega, by omega, rfl, rfl, by simp, by simp⟩
      · have hn := cmpI_ne e
        have A0 : cmp2 x0 x1 x0 y1 = Lib.compareInt x1 y1 := by unfold cmp2; rw [if_pos rfl]
        have A : Aside (cmp2 x0 x1 x0 y1 = Lib.compareInt x1 y1) := A0
        clear A0
        clear e1 e
        generalize hr : Lib.compareInt x1 y1 = r at hn A
        have B : Aside (Lib.compareInt x1 y1 = r) := hr
        clear hr
        go_wp2_with (go_at_call 113; refine (cmpCompare_k _ _ _).mono ?_; rintro e w' ⟨rfl, hw⟩; rw [hw, B.out])
        go_ret
        exact ⟨by rw [A.out]; rfl, rfl⟩
    · have e := e0 (by omega)
      have e' := e1 (by omega)
      subst e
      subst e'
      clear e0 e1
      have A0 : cmp2 x0 x1 x0 x1 = 0 := by unfold cmp2; rw [if_pos rfl, cmpI_self]
      have A : Aside (cmp2 x0 x1 x0 x1 = 0) := A0
      clear A0
      go_wp2
      go_ret
      exact ⟨by rw [A.out]; rfl, rfl⟩

/-- The closure. -/
theorem closure_k (b1 o1 c1 b2 o2 c2 : Nat) (x0 x1 y0 y1 : Int) (w : World) (h0 : w.cell? ⟨b1, o1, none⟩ = some (.int .i64 x0)) (h1 : w.cell? ⟨b1, o1 + 1, none⟩ = some (.int .i64 x1)) (g0 : w.cell? ⟨b2, o2, none⟩ = some (.int .i64 y0)) (g1 : w.cell? ⟨b2, o2 + 1, none⟩ = some (.int .i64 y1)) :
    Calls Try.prog 96 #[.slice (some ⟨b1, o1, none⟩) 2 c1, .slice (some ⟨b2, o2, none⟩) 2 c2] w fun e w' => e = .returned (.int .i64 (cmp2 x0 x1 y0 y1)) ∧ w' = w := by
  have hcon := compare_k b1 o1 c1 b2 o2 c2 x0 x1 y0 y1 w h0 h1 g0 g1
  clear h0 h1 g0 g1
  generalize cmp2 x0 x1 y0 y1 = r at hcon ⊢
  go_enter Try.func96, Try.ntmps96
  go_wp2_with (go_at_call 97; refine hcon.mono ?_; rintro e w' ⟨rfl, rfl⟩)
  go_ret
  exact ⟨rfl, rfl⟩
end Go.Proofs.Ytifkgmbghcmdeaa
/-
  slices.SortFunc at own slices of pairs: the rows in lexicographic order. No condition.
-/
namespace Go.Proofs.Ytifkgmbghcmdeaa
open Go Go.RowKit Go.Sort

/-- 'a' comes ahead of 'b'. -/
def lexLt (a b : List Int) : Prop := geti a 0 < geti b 0 ∨ (geti a 0 = geti b 0 ∧ geti a 1 < geti b 1)
theorem cmp2_lt (x0 x1 y0 y1 : Int) : cmp2 x0 x1 y0 y1 < 0 ↔ (x0 < y0 ∨ (x0 = y0 ∧ x1 < y1)) := by
  unfold cmp2 Lib.compareInt
  repeat' split
  all_goals omega
def cmpP (x y : List Int) : Int := cmp2 (geti x 0) (geti x 1) (geti y 0) (geti y 1)
theorem cmpP_lt {x y : List Int} : cmpP x y < 0 ↔ lexLt x y := cmp2_lt _ _ _ _
theorem pair_cells {w : World} {v : Value} {xs : List Int} (h : IntsAt w (fun _ => True) v xs) (h2 : xs.length = 2) : ∃ b o c, v = .slice (some ⟨b, o, none⟩) 2 c ∧ w.cell? ⟨b, o, none⟩ = some (.int .i64 (geti xs 0)) ∧ w.cell? ⟨b, o + 1, none⟩ = some (.int .i64 (geti xs 1)) := by
  obtain ⟨⟨a, cap, rfl, e1, e2, e3⟩, _⟩ := h
  obtain ⟨b, o, rfl, _, hc⟩ := e3 (by simp; omega)
  match xs, h2 with
  | [p, q], _ =>
    refine ⟨b, o, cap, rfl, ?_, ?_⟩
    · have := hc 0 (.int .i64 p) rfl; simpa [geti] using this
    · have := hc 1 (.int .i64 q) rfl; simpa [geti] using this
theorem cmpP_ok : CmpOk 96 cmpP (fun xs => xs.length = 2) := by
  refine ⟨⟨_, _, Try.func96, by kernel_rfl, rfl⟩, ?_, ?_, ?_, ?_⟩
  · intro w v1 v2 xs ys h1 h2 t1 t2
    obtain ⟨b1, o1, c1, rfl, p0, p1⟩ := pair_cells h1 t1
    obtain ⟨b2, o2, c2, rfl, q0, q1⟩ := pair_cells h2 t2
    refine (closure_k b1 o1 c1 b2 o2 c2 _ _ _ _ w p0 p1 q0 q1).mono ?_
    rintro e w' ⟨rfl, rfl⟩
    exact ⟨rfl, 0, #[], by rw [Go.Sort.grow_empty]; rfl⟩
  · intro x _; rw [cmpP_lt]; unfold lexLt; omega
  · intro x y z _ _ _ h1 h2; rw [cmpP_lt] at *; unfold lexLt at *; omega
  · intro x y z _ _ _ h1 h2; rw [cmpP_lt] at *; unfold lexLt at *; omega

section
variable {env : Env} {os : List AO} {d : Tmp} {ty : TypeId} {pos : String} {af : Array Edge} {l rest : List Oper} {K : APost}
theorem w_sort {x y : Operand} {ats : Array TypeId} {h : Nat} {e e2 : TypeId} {xss : List (List Int)} (hp : ∀ xs ∈ xss, xs.length = 2) (hn : 0 < xss.length ∧ xss.length ≤ 1048576) (hx : evo env x = some (.own h)) (hs : os[h]? = some (.sls e e2 xss)) (hy : evo env y = some (.val (.func (.func 96) #[] #[])))
    (h' : ∀ idx : List Nat, idx.Perm (List.range xss.length) → (∀ i j : Nat, i < j → j < idx.length → ¬ lexLt (xss.getD (idx.getD j 0) []) (xss.getD (idx.getD i 0) [])) → AOps Try.prog .seq l rest K (Env.up (env.mp (AV.noRow h)) d .any) ((((os ++ [AO.sli e2 []]).map (AO.via (AV.noRow h) h)).set h (.sls e e2 (idx.map fun i => xss.getD i []))).set os.length .dead)) :
    AOps Try.prog .seq l (⟨some d, .call { callee := .value (.func 90), args := #[x, y], argTypes := ats }, ty, pos, af, none⟩ :: rest) K env os :=
  w_sortg cmpP_ok hp hn hx hs hy fun idx h1 h2 => h' idx h1 fun i j hij hj => fun hlt => h2 i j hij hj (cmpP_lt.2 hlt)
end
end Go.Proofs.Ytifkgmbghcmdeaa
/-
  The vertices of a support: the program's, out of the sorted pairs. No condition but a bound on the sizes.
-/
namespace Go.Proofs.Ytifkgmbghcmdeaa
open Go Go.RowKit
attribute [local irreducible] AWp AOps ResIs Ret1 QOp LOp COp AFnV AFn Imms LeE LeO
set_option maxHeartbeats 1000000
set_option linter.unusedSimpArgs false
set_option linter.unusedVariables false

theorem lexle_of {a b : List Int} (h : ¬ lexLt b a) : Hl.lexle gX gY a b := by
  unfold lexLt at h
  unfold Hl.lexle
  simp only [gX, gY]
  omega
theorem rev_len {R : List Nat} : (R.reverse.map (AV.orow 0)).length = R.length := by simp
theorem rev_top {t : Nat} {r : List Nat} {n : Nat} (h : n = r.length) : (t :: r).reverse.getD n 0 = t := by
  subst h; simp [List.getD_eq_getElem?_getD]
theorem rev_top2 {t z : Nat} {r : List Nat} {n : Nat} (h : n = r.length) : (t :: z :: r).reverse.getD n 0 = z := by
  subst h; simp [List.getD_eq_getElem?_getD, List.getElem?_append]
theorem rev_cut {t : Nat} {r : List Nat} {n : Nat} (h : n = r.length) : (t :: r).reverse.take n = r.reverse := by
  subst h; simp [List.take_append]

theorem lim3 {e e2 e3 : TypeId} {ys : List (List Int)} (st : List Nat) : [AO.sls e e2 ys, .dead, .slr e3 (st.map (AV.orow 0))].map (AO.lim 3) = [AO.sls e e2 ys, .dead, .slr e3 (st.map (AV.orow 0))] := by
  have : (st.map (AV.orow 0)).map (AV.lim 3) = st.map (AV.orow 0) := by rw [List.map_map]; rfl
  simp only [List.map_cons, List.map_nil, AO.lim, this]

/-- The stack, its top first, over the first k rows. -/
def StkOk (ys : List (List Int)) (k : Nat) (R : List Nat) : Prop := R.Pairwise (· > ·) ∧ (∀ i ∈ R, i < k) ∧ R.length ≤ k
def CorOk (ys : List (List Int)) (k : Nat) : List Nat → Prop
  | [] => k = 0
  | t :: r => StkOk ys k (t :: r) ∧ Hl.Hull gX gY (Sp ys k) ((t :: r).map fun (i : Nat) => gets ys i) ∧ Hl.Low gX gY (Sp ys k) (gets ys (t : Nat))
def PopOk (ys : List (List Int)) (k : Nat) : List Nat → Prop
  | [] => False
  | t :: r => StkOk ys k (t :: r) ∧ Hl.Hull gX gY (Sp ys k) ((t :: r).map fun (i : Nat) => gets ys i) ∧ Hl.Aft gX gY (Sp ys k) (gets ys (t : Nat)) (gets ys (k : Nat)) ∧ geti (gets ys (k : Nat)) 1 < geti (gets ys (t : Nat)) 1

theorem StkOk.up {ys : List (List Int)} {k : Nat} {R : List Nat} (h : StkOk ys k R) : StkOk ys (k + 1) R := ⟨h.1, fun i hi => by have := h.2.1 i hi; omega, by have := h.2.2; omega⟩
theorem StkOk.push {ys : List (List Int)} {k : Nat} {R : List Nat} (h : StkOk ys k R) : StkOk ys (k + 1) (k :: R) :=
  ⟨List.pairwise_cons.2 ⟨fun i hi => h.2.1 i hi, h.1⟩, fun i hi => by
    rcases List.mem_cons.1 hi with rfl | hi
    · omega
    · have := h.2.1 i hi; omega, by have := h.2.2; rw [List.length_cons]; omega⟩
theorem StkOk.pop {ys : List (List Int)} {k t : Nat} {R : List Nat} (h : StkOk ys k (t :: R)) : StkOk ys k R :=
  ⟨(List.pairwise_cons.1 h.1).2, fun i hi => h.2.1 i (List.mem_cons_of_mem _ hi), by have := h.2.2; rw [List.length_cons] at this; omega⟩
theorem StkOk.nodup {ys : List (List Int)} {k : Nat} {R : List Nat} (h : StkOk ys k R) : R.reverse.Nodup := by
  have : R.Nodup := h.1.imp (fun h => Nat.ne_of_gt h)
  exact (List.reverse_perm R).nodup_iff.2 this
theorem gets_nat (ys : List (List Int)) (i : Nat) : ys.getD i [] = gets ys (i : Nat) := by simp [gets, List.getD_eq_getElem?_getD]

set_option maxHeartbeats 8000000 in
theorem corners_c (xss : List (List Int)) (h0 : 0 < xss.length) (h1 : xss.length ≤ 1048576) (hp : ∀ r ∈ xss, PB r) : AFn Try.prog 71 [.intss xss] (IsIntss 22 2 (verts xss)) := by
  have hcl := copyLists_c xss h1 (fun r hr => by have := (hp r hr).1; omega)
  (refine AFn.start Try.func71 Try.ntmps71 rfl (by kernel_rfl) fun hk => ?_; simp only [Env.start, enumF, List.length_cons, List.length_nil, Nat.reduceAdd, Nat.reduceSub, List.cons_append, List.nil_append])
  repeat' (first | (apply AOps.nil; try simp only [List.nil_append, List.cons_append, List.set_cons_zero, List.set_cons_succ, List.length_cons, List.length_nil, Nat.reduceAdd, AV.sh, AV.sh1, AV.sh0, AO.sh, List.map_cons, List.map_nil, Nat.zero_add, Nat.add_zero, setAll]) | (apply w_move; exact rfl; exact rfl) | (apply w_assign; exact rfl; exact rfl) | apply AWp.seq | apply AWp.region | (apply w_callm (hcl); (focus ((repeat (first | exact im_nil | refine im_cons rfl (.intss _) ?_)); done)); rintro r os0 ⟨rfl, rfl⟩; try simp only [List.nil_append, List.cons_append, List.set_cons_zero, List.set_cons_succ, List.length_cons, List.length_nil, Nat.reduceAdd, AV.sh, AV.sh1, AV.sh0, AO.sh, List.map_cons, List.map_nil, Nat.zero_add, Nat.add_zero, setAll]))
  refine w_sort (fun r hr => (hp r hr).1) ⟨h0, h1⟩ rfl rfl rfl fun idx hperm hsort => ?_
  simp only [Env.mp, List.map_cons, List.map_nil, List.set_cons_zero, List.set_cons_succ, AV.kill, AV.kill1, AO.kill, AV.noRow, AV.noRow1, AO.via, reduceIte, Nat.reduceEqDiff, Nat.reduceLT, Env.up, Nat.zero_ne_one, Nat.one_ne_zero, Nat.reduceAdd, List.cons_append, List.nil_append]
  have hil : idx.length = xss.length := by have := hperm.length_eq; simpa using this
  obtain ⟨ys, eys⟩ : ∃ ys, ys = idx.map fun i => xss.getD i [] := ⟨_, rfl⟩
  have hyl : ys.length = xss.length := by rw [eys]; simpa using hil
  have hmem : ∀ r, r ∈ ys ↔ r ∈ xss := by
    intro r
    rw [eys, List.mem_map]
    constructor
    · rintro ⟨i, hi, rfl⟩
      have := List.mem_range.1 (hperm.mem_iff.1 hi)
      rw [List.getD_eq_getElem?_getD, List.getElem?_eq_getElem this]
      exact List.getElem_mem this
    · intro hr
      obtain ⟨j, hj⟩ := List.getElem?_of_mem hr
      have := (List.getElem?_eq_some_iff.1 hj).1
      exact ⟨j, hperm.mem_iff.2 (List.mem_range.2 this), by rw [List.getD_eq_getElem?_getD, hj]; rfl⟩
  have hrow : ∀ i : Nat, i < ys.length → gets ys (i : Nat) = xss.getD (idx.getD i 0) [] := by
    intro i hi
    rw [← gets_nat, eys, List.getD_eq_getElem?_getD, List.getElem?_map, List.getD_eq_getElem?_getD (l := idx), List.getElem?_eq_getElem (by omega)]
    rfl
  have hs : ∀ k : Nat, k < ys.length → ∀ q, Sp ys k q → Hl.lexle gX gY q (gets ys (k : Nat)) := by
    rintro k hk q ⟨j, hj, rfl⟩
    have := hsort j k hj (by omega)
    rw [hrow j (by omega), hrow k hk]
    exact lexle_of this
  have hpi : ∀ i : Nat, i < ys.length → PB (gets ys (i : Nat)) := fun i hi => hp _ ((hmem _).1 (gets_mem (by omega) (by omega)))
  rw [← eys]
  clear hrow hsort hperm hcl hil eys idx
  repeat' (first | (apply AOps.nil; try simp only [List.nil_append, List.cons_append, List.set_cons_zero, List.set_cons_succ, List.length_cons, List.length_nil, Nat.reduceAdd, AV.sh, AV.sh1, AV.sh0, AO.sh, List.map_cons, List.map_nil, Nat.zero_add, Nat.add_zero, setAll]) | apply AWp.seq | apply AWp.region)
  refine w_bsx0 0 rfl ?_
  try simp only [List.nil_append, List.cons_append, List.set_cons_zero, List.set_cons_succ, List.length_cons, List.length_nil, Nat.reduceAdd, AV.sh, AV.sh1, AV.sh0, AO.sh, List.map_cons, List.map_nil, Nat.zero_add, Nat.add_zero, setAll]
  repeat' (first | (apply AOps.nil; try simp only [List.nil_append, List.cons_append, List.set_cons_zero, List.set_cons_succ, List.length_cons, List.length_nil, Nat.reduceAdd, AV.sh, AV.sh1, AV.sh0, AO.sh, List.map_cons, List.map_nil, Nat.zero_add, Nat.add_zero, setAll]) | (apply w_move; exact rfl; exact rfl) | (apply w_assign; exact rfl; exact rfl) | apply AWp.seq | apply AWp.region | apply AWp.block | (apply w_len; exact rfl; exact rfl; first | exact .ints _ | exact .intss _ | exact .sli rfl | exact .sls rfl | exact .slr rfl | exact .orow rfl | exact .nil))
  refine AWp.loop (ι := Nat × List Nat) (fun x => ⟨66, [(4, .own 2), (12, .own 0), (13, .i ys.length), (14, .i x.1)]⟩) (fun x => [.sls 22 2 ys, .dead, .slr 22 (x.2.reverse.map (AV.orow 0))]) (fun x => x.1 ≤ ys.length ∧ CorOk ys x.1 x.2) (fun x => ys.length - x.1) (0, []) ⟨Nat.zero_le _, rfl⟩ ⟨lee rfl (by (repeat (first | exact le_nil | refine le_eq rfl rfl ?_))), by (repeat (first | exact lo_nil | refine lo_dead ?_ | refine lo_eq rfl ?_)), rfl, (by first | exact rfl | exact lim3 _)⟩ ?_
  rintro ⟨k, R⟩ ⟨k0, k1⟩
  simp only at k0 k1
  have rl := rev_len (R := R)
  by_cases hk : k < ys.length
  · have hpk := hpi k hk
    obtain ⟨p1, p2, p3⟩ := hpk
    have esp := sp_succ ys k
    have hsk := hs k hk
    cases R with
    | nil =>
      obtain rfl : k = 0 := k1
      have rl0 : ((([] : List Nat).reverse).map (AV.orow 0)).length = 0 := rfl
      have rl1 : (([] : List Nat).reverse).length = 0 := rfl
      have rl2 : ([] : List Nat).reverse ++ [0] = [0].reverse := rfl
      generalize est : ([] : List Nat).reverse = st at *
      repeat' (first | (apply AOps.nil; try simp only [List.nil_append, List.cons_append, List.set_cons_zero, List.set_cons_succ, List.length_cons, List.length_nil, Nat.reduceAdd, AV.sh, AV.sh1, AV.sh0, AO.sh, List.map_cons, List.map_nil, Nat.zero_add, Nat.add_zero, setAll]) | ((apply AOps.splitP; exact rfl; exact rfl) <;> intro h) | (apply w_move; exact rfl; exact rfl) | (apply w_assign; exact rfl; exact rfl) | apply AWp.seq | apply AWp.region | ((apply AWp.condP; exact rfl) <;> intro h) | (apply AWp.condF; exact rfl) | apply AWp.block | apply AWp.ret | apply AWp.exit | apply AWp.skip | (apply AWp.regionQ; kernel_rfl; kernel_rfl) | (apply w_skip; exact rfl) | (apply w_pickF; exact rfl; exact rfl; exact rfl) | (apply w_len; exact rfl; exact rfl; first | exact .ints _ | exact .intss _ | exact .sli rfl | exact .sls rfl | exact .slr rfl | exact .orow rfl | exact .nil) | omega | ((first | apply w_lss | apply w_gtr | apply w_idx | apply w_ld); iterate 3 exact rfl) | (apply w_idxo; exact rfl; exact rfl; (exact .sls rfl); exact rfl) | (apply w_ldls; iterate 4 exact rfl))
      refine AWp.loop (ι := Unit) (fun _ => ⟨66, [(4, .own 2), (6, .orow 0 0), (12, .own 0), (13, .i ys.length), (14, .i 0)]⟩) (fun x => [.sls 22 2 ys, .dead, .slr 22 (st.map (AV.orow 0))]) (fun x => True) (fun x => 0) () trivial ⟨lee rfl (by (repeat (first | exact le_nil | refine le_eq rfl rfl ?_))), by (repeat (first | exact lo_nil | refine lo_dead ?_ | refine lo_eq rfl ?_)), rfl, (by first | exact rfl | exact lim3 _)⟩ ?_
      rintro _ _
      repeat' (first | (apply AOps.nil; try simp only [List.nil_append, List.cons_append, List.set_cons_zero, List.set_cons_succ, List.length_cons, List.length_nil, Nat.reduceAdd, AV.sh, AV.sh1, AV.sh0, AO.sh, List.map_cons, List.map_nil, Nat.zero_add, Nat.add_zero, setAll]) | ((apply AOps.splitP; exact rfl; exact rfl) <;> intro h) | (apply w_move; exact rfl; exact rfl) | (apply w_assign; exact rfl; exact rfl) | apply AWp.seq | apply AWp.region | (apply AWp.condF; exact rfl) | apply AWp.exit | (apply AWp.regionQ; kernel_rfl; kernel_rfl) | (apply w_skip; exact rfl) | (apply w_pickF; exact rfl; exact rfl; exact rfl) | (apply w_len; exact rfl; exact rfl; first | exact .ints _ | exact .intss _ | exact .sli rfl | exact .sls rfl | exact .slr rfl | exact .orow rfl | exact .nil) | ((first | apply w_bsx1 | apply w_gtr | apply w_add | apply w_sub | apply w_idx); iterate 3 exact rfl) | (apply w_appx; exact rfl; exact rfl; exact rfl; exact rfl; exact rfl; rotate_left 1; simp only [Env.mp, List.map_cons, List.map_nil, List.set_cons_zero, List.set_cons_succ, AV.kill, AV.kill1, AO.kill, AV.rin, AV.rin1, AV.noRow, AV.noRow1, AO.via, reduceIte, Nat.reduceEqDiff, Nat.reduceLT, Env.up, Nat.zero_ne_one, Nat.one_ne_zero, Nat.reduceAdd, List.cons_append, List.nil_append]; rotate_left 1) | omega | (apply inI_of <;> omega))
      refine ⟨(1, [0]), ⟨by simp only; omega, ⟨⟨by simp, by simp, by simp⟩, ?_⟩⟩, by simp only; omega, by simp only [← rl2]; exact ⟨lee rfl (by (repeat (first | exact le_nil | refine le_eq rfl rfl ?_))), by (repeat (first | exact lo_nil | refine lo_dead ?_ | refine lo_eq rfl ?_)), rfl, (by first | exact rfl | exact lim3 _)⟩⟩
      have := Hl.Hull.one (X := gX) (Y := gY) (S := Sp ys 0) (p := gets ys ((0 : Nat) : Int)) (fun q ⟨j, hj, _⟩ => by omega)
      rw [esp] at this
      exact this
    | cons t r =>
      obtain ⟨k2, k3, k4⟩ := k1
      have htk : t < k := k2.2.1 t (by simp)
      have e1 : (t :: r).reverse.getD (((((t :: r).reverse.map (AV.orow 0)).length : Nat) : Int) - 1).toNat 0 = t := rev_top (by rw [rl]; simp)
      have e2 : ys.getD ((t :: r).reverse.getD (((((t :: r).reverse.map (AV.orow 0)).length : Nat) : Int) - 1).toNat 0) [] = gets ys (t : Nat) := by rw [e1, gets_nat]
      have rl' : ((t :: r).reverse.map (AV.orow 0)).length = r.length + 1 := by rw [rl]; rfl
      have hpt := hpi t (by omega)
      have hl2 : (ys.getD ((t :: r).reverse.getD (((((t :: r).reverse.map (AV.orow 0)).length : Nat) : Int) - 1).toNat 0) []).length = 2 := by rw [e2]; exact hpt.1
      have hl1 : ((t :: r).reverse).length = r.length + 1 := by simp
      have hl3 : (ys.getD (k : Int).toNat []).length = 2 := p1
      by_cases hy : geti (gets ys (t : Nat)) 1 ≤ geti (gets ys (k : Nat)) 1
      · have hy' : geti (ys.getD ((t :: r).reverse.getD (((((t :: r).reverse.map (AV.orow 0)).length : Nat) : Int) - 1).toNat 0) []) ((Int.toNat 1 : Nat) : Int) ≤ geti (ys.getD (k : Int).toNat []) ((Int.toNat 1 : Nat) : Int) := by rw [e2]; exact hy
        have k20 := k2.2.2
        rw [List.length_cons] at k20
        generalize est : (t :: r).reverse = st at *
        repeat' (first | (apply AOps.nil; try simp only [List.nil_append, List.cons_append, List.set_cons_zero, List.set_cons_succ, List.length_cons, List.length_nil, Nat.reduceAdd, AV.sh, AV.sh1, AV.sh0, AO.sh, List.map_cons, List.map_nil, Nat.zero_add, Nat.add_zero, setAll]) | ((apply AOps.splitP; exact rfl; exact rfl) <;> intro h) | (apply w_move; exact rfl; exact rfl) | (apply w_assign; exact rfl; exact rfl) | apply AWp.seq | apply AWp.region | ((apply AWp.condP; exact rfl) <;> intro h) | (apply AWp.condF; exact rfl) | apply AWp.block | apply AWp.ret | apply AWp.exit | apply AWp.skip | (apply AWp.regionQ; kernel_rfl; kernel_rfl) | (apply w_skip; exact rfl) | (apply w_pickT; exact rfl; exact rfl; exact rfl) | (apply w_pickF; exact rfl; exact rfl; exact rfl) | (apply w_len; exact rfl; exact rfl; first | exact .ints _ | exact .intss _ | exact .sli rfl | exact .sls rfl | exact .slr rfl | exact .orow rfl | exact .nil) | omega | ((first | apply w_lss | apply w_gtr | apply w_geq | apply w_add | apply w_sub | apply w_idx | apply w_ld); iterate 3 exact rfl) | (apply w_idxo; exact rfl; exact rfl; (first | exact .sls rfl | exact .slr rfl); exact rfl) | ((first | apply w_idxr | apply w_ldr); iterate 4 exact rfl) | (apply w_ldls; iterate 4 exact rfl) | (apply w_ldrp; iterate 4 exact rfl) | (apply inI_of <;> omega))
        refine ⟨(k + 1, t :: r), ⟨by simp only; omega, ?_⟩, by simp only; omega, ?_⟩
        · have := k3.skip hsk k4 hy
          rw [esp] at this
          exact ⟨k2.up, this⟩
        · simp only [est]
          exact ⟨lee rfl (by (repeat (first | exact le_nil | refine le_eq rfl rfl ?_))), by (repeat (first | exact lo_nil | refine lo_dead ?_ | refine lo_eq rfl ?_)), rfl, (by first | exact rfl | exact lim3 _)⟩
      · have hall : ∀ q, Sp ys k q → geti (gets ys (k : Nat)) 1 < gY q := fun q hq => by have := (k4 q hq).1; simp only [gY] at *; omega
        have hy' : ¬ geti (ys.getD ((t :: r).reverse.getD (((((t :: r).reverse.map (AV.orow 0)).length : Nat) : Int) - 1).toNat 0) []) ((Int.toNat 1 : Nat) : Int) ≤ geti (ys.getD (k : Int).toNat []) ((Int.toNat 1 : Nat) : Int) := by rw [e2]; exact hy
        have k20 := k2.2.2
        rw [List.length_cons] at k20
        generalize est : (t :: r).reverse = st at *
        repeat' (first | (apply AOps.nil; try simp only [List.nil_append, List.cons_append, List.set_cons_zero, List.set_cons_succ, List.length_cons, List.length_nil, Nat.reduceAdd, AV.sh, AV.sh1, AV.sh0, AO.sh, List.map_cons, List.map_nil, Nat.zero_add, Nat.add_zero, setAll]) | ((apply AOps.splitP; exact rfl; exact rfl) <;> intro h) | (apply w_move; exact rfl; exact rfl) | (apply w_assign; exact rfl; exact rfl) | apply AWp.seq | apply AWp.region | ((apply AWp.condP; exact rfl) <;> intro h) | (apply AWp.condF; exact rfl) | apply AWp.block | apply AWp.ret | apply AWp.exit | apply AWp.skip | (apply AWp.regionQ; kernel_rfl; kernel_rfl) | (apply w_skip; exact rfl) | (apply w_pickT; exact rfl; exact rfl; exact rfl) | (apply w_pickF; exact rfl; exact rfl; exact rfl) | (apply w_len; exact rfl; exact rfl; first | exact .ints _ | exact .intss _ | exact .sli rfl | exact .sls rfl | exact .slr rfl | exact .orow rfl | exact .nil) | omega | ((first | apply w_lss | apply w_gtr | apply w_geq | apply w_sub | apply w_idx | apply w_ld); iterate 3 exact rfl) | (apply w_idxo; exact rfl; exact rfl; (first | exact .sls rfl | exact .slr rfl); exact rfl) | ((first | apply w_idxr | apply w_ldr); iterate 4 exact rfl) | (apply w_ldls; iterate 4 exact rfl) | (apply w_ldrp; iterate 4 exact rfl) | (apply inI_of <;> omega))
        refine AWp.loop (ι := List Nat) (fun _ => ⟨66, [(4, .own 2), (6, .orow 0 k), (12, .own 0), (13, .i ys.length), (14, .i k)]⟩) (fun x => [.sls 22 2 ys, .dead, .slr 22 (x.reverse.map (AV.orow 0))]) (fun x => PopOk ys k x) (fun x => x.length) (t :: r) ⟨k2, k3, Hl.aft_low k4 (by simp only [gY]; omega), by omega⟩ (by simp only [est]; exact ⟨lee rfl (by (repeat (first | exact le_nil | refine le_eq rfl rfl ?_))), by (repeat (first | exact lo_nil | refine lo_dead ?_ | refine lo_eq rfl ?_)), rfl, (by first | exact rfl | exact lim3 _)⟩) ?_
        clear e1 e2 rl' hpt hl2 hl1 hy hy' est k20 k2 k3 k4 rl htk
        rintro R k2
        cases R with
        | nil => exact k2.elim
        | cons t r =>
          obtain ⟨k2, k3, k4, k5⟩ := k2
          have htk : t < k := k2.2.1 t (by simp)
          have k20 := k2.2.2
          rw [List.length_cons] at k20
          have rl' : ((t :: r).reverse.map (AV.orow 0)).length = r.length + 1 := by rw [rev_len]; rfl
          have hl1 : ((t :: r).reverse).length = r.length + 1 := by simp
          have hpt := hpi t (by omega)
          have eapp : (t :: r).reverse ++ [k] = (k :: t :: r).reverse := by simp
          have eapp' : (t :: r).reverse ++ [(k : Int).toNat] = (k :: t :: r).reverse := eapp
          cases r with
          | nil =>
            simp only [List.length_nil] at rl' hl1
            generalize est : [t].reverse = st at *
            repeat' (first | (apply AOps.nil; try simp only [List.nil_append, List.cons_append, List.set_cons_zero, List.set_cons_succ, List.length_cons, List.length_nil, Nat.reduceAdd, AV.sh, AV.sh1, AV.sh0, AO.sh, List.map_cons, List.map_nil, Nat.zero_add, Nat.add_zero, setAll]) | ((apply AOps.splitP; exact rfl; exact rfl) <;> intro h) | (apply w_move; exact rfl; exact rfl) | (apply w_assign; exact rfl; exact rfl) | apply AWp.seq | apply AWp.region | (apply AWp.condF; exact rfl) | apply AWp.exit | (apply AWp.regionQ; kernel_rfl; kernel_rfl) | (apply w_skip; exact rfl) | (apply w_pickF; exact rfl; exact rfl; exact rfl) | (apply w_len; exact rfl; exact rfl; first | exact .ints _ | exact .intss _ | exact .sli rfl | exact .sls rfl | exact .slr rfl | exact .orow rfl | exact .nil) | ((first | apply w_bsx1 | apply w_gtr | apply w_add | apply w_sub | apply w_idx); iterate 3 exact rfl) | (apply w_appx; exact rfl; exact rfl; exact rfl; exact rfl; exact rfl; rotate_left 1; simp only [Env.mp, List.map_cons, List.map_nil, List.set_cons_zero, List.set_cons_succ, AV.kill, AV.kill1, AO.kill, AV.rin, AV.rin1, AV.noRow, AV.noRow1, AO.via, reduceIte, Nat.reduceEqDiff, Nat.reduceLT, Env.up, Nat.zero_ne_one, Nat.one_ne_zero, Nat.reduceAdd, List.cons_append, List.nil_append]; rotate_left 1) | omega | (apply inI_of <;> omega))
            refine ⟨(k + 1, [k, t]), ⟨by simp only; omega, ?_⟩, by simp only; omega, ?_⟩
            · have := Hl.Hull.push hsk k3 k4 k5 hall (fun z r' e => by cases e)
              rw [esp] at this
              exact ⟨k2.push, this⟩
            · simp only [← eapp]
              exact ⟨lee rfl (by (repeat (first | exact le_nil | refine le_eq rfl rfl ?_))), by (repeat (first | exact lo_nil | refine lo_dead ?_ | refine lo_eq rfl ?_)), rfl, (by first | exact rfl | exact lim3 _)⟩
          | cons z r =>
            have hzk : z < k := k2.2.1 z (by simp)
            have hpz := hpi z (by omega)
            have e1 : (t :: z :: r).reverse.getD (((((t :: z :: r).reverse.map (AV.orow 0)).length : Nat) : Int) - 1).toNat 0 = t := rev_top (by rw [rl']; simp)
            have e2 : (t :: z :: r).reverse.getD (((((t :: z :: r).reverse.map (AV.orow 0)).length : Nat) : Int) - 2).toNat 0 = z := rev_top2 (by rw [rl', List.length_cons]; omega)
            have ct := turns_c (gets ys (z : Nat)) (gets ys (t : Nat)) (gets ys (k : Nat)) hpz hpt ⟨p1, p2, p3⟩
            have ecut : (t :: z :: r).reverse.take (((((t :: z :: r).reverse.map (AV.orow 0)).length : Nat) : Int) - 1).toNat = (z :: r).reverse := rev_cut (by rw [rl']; simp)
            have ct' : AFnV Try.prog 98 [.ints (ys.getD ((t :: z :: r).reverse.getD (((((t :: z :: r).reverse.map (AV.orow 0)).length : Nat) : Int) - 2).toNat 0) []), .ints (ys.getD ((t :: z :: r).reverse.getD (((((t :: z :: r).reverse.map (AV.orow 0)).length : Nat) : Int) - 1).toNat 0) []), .ints (ys.getD k [])] (.bool (decide (0 < Hl.cr gX gY (gets ys (z : Nat)) (gets ys (t : Nat)) (gets ys (k : Nat))))) := by
              rw [e1, e2, gets_nat, gets_nat, gets_nat]; exact ct
            by_cases hcr : 0 < Hl.cr gX gY (gets ys (z : Nat)) (gets ys (t : Nat)) (gets ys (k : Nat))
            · rw [decide_eq_true hcr] at ct'
              simp only [List.length_cons] at rl' hl1 k20
              generalize est : (t :: z :: r).reverse = st at *
              repeat' (first | (apply AOps.nil; try simp only [List.nil_append, List.cons_append, List.set_cons_zero, List.set_cons_succ, List.length_cons, List.length_nil, Nat.reduceAdd, AV.sh, AV.sh1, AV.sh0, AO.sh, List.map_cons, List.map_nil, Nat.zero_add, Nat.add_zero, setAll]) | ((apply AOps.splitP; exact rfl; exact rfl) <;> intro h) | (apply w_move; exact rfl; exact rfl) | (apply w_assign; exact rfl; exact rfl) | apply AWp.seq | apply AWp.region | (apply AWp.condF; exact rfl) | apply AWp.exit | (apply AWp.regionQ; kernel_rfl; kernel_rfl) | (apply w_skip; exact rfl) | (apply w_pickT; exact rfl; exact rfl; exact rfl) | (apply w_pickF; exact rfl; exact rfl; exact rfl) | (apply w_len; exact rfl; exact rfl; first | exact .ints _ | exact .intss _ | exact .sli rfl | exact .sls rfl | exact .slr rfl | exact .orow rfl | exact .nil) | ((first | apply w_bsx1 | apply w_gtr | apply w_add | apply w_sub | apply w_idx | apply w_ld); iterate 3 exact rfl) | (apply w_appx; exact rfl; exact rfl; exact rfl; exact rfl; exact rfl; rotate_left 1; simp only [Env.mp, List.map_cons, List.map_nil, List.set_cons_zero, List.set_cons_succ, AV.kill, AV.kill1, AO.kill, AV.rin, AV.rin1, AV.noRow, AV.noRow1, AO.via, reduceIte, Nat.reduceEqDiff, Nat.reduceLT, Env.up, Nat.zero_ne_one, Nat.one_ne_zero, Nat.reduceAdd, List.cons_append, List.nil_append]; rotate_left 1) | (apply w_call (ct'); exact rfl; exact rfl; focus ((repeat (first | exact im_nil | refine im_cons rfl (.orow rfl) ?_)); done)) | omega | ((apply w_not); iterate 2 exact rfl) | (apply w_idxo; exact rfl; exact rfl; (exact .slr rfl); exact rfl) | ((apply w_ldr); iterate 4 exact rfl) | (apply inI_of <;> omega))
              refine ⟨(k + 1, k :: t :: z :: r), ⟨by simp only; omega, ?_⟩, by simp only; omega, ?_⟩
              · have := Hl.Hull.push hsk k3 k4 k5 hall (fun z' r' e => by cases e; exact hcr)
                rw [esp] at this
                exact ⟨k2.push, this⟩
              · simp only [← eapp]
                exact ⟨lee rfl (by (repeat (first | exact le_nil | refine le_eq rfl rfl ?_))), by (repeat (first | exact lo_nil | refine lo_dead ?_ | refine lo_eq rfl ?_)), rfl, (by first | exact rfl | exact lim3 _)⟩
            · rw [decide_eq_false hcr] at ct'
              simp only [List.length_cons] at rl' hl1 k20
              generalize est : (t :: z :: r).reverse = st at *
              repeat' (first | (apply AOps.nil; try simp only [List.nil_append, List.cons_append, List.set_cons_zero, List.set_cons_succ, List.length_cons, List.length_nil, Nat.reduceAdd, AV.sh, AV.sh1, AV.sh0, AO.sh, List.map_cons, List.map_nil, Nat.zero_add, Nat.add_zero, setAll]) | ((apply AOps.splitP; exact rfl; exact rfl) <;> intro h) | (apply w_move; exact rfl; exact rfl) | (apply w_assign; exact rfl; exact rfl) | apply AWp.seq | apply AWp.region | (apply AWp.condT; exact rfl) | (apply AWp.condF; exact rfl) | apply AWp.block | apply AWp.exit | apply AWp.skip | (apply AWp.regionQ; kernel_rfl; kernel_rfl) | (apply w_skip; exact rfl) | (apply w_pickT; exact rfl; exact rfl; exact rfl) | (apply w_pickF; exact rfl; exact rfl; exact rfl) | (apply w_len; exact rfl; exact rfl; first | exact .ints _ | exact .intss _ | exact .sli rfl | exact .sls rfl | exact .slr rfl | exact .orow rfl | exact .nil) | ((first | apply w_bsx1 | apply w_gtr | apply w_add | apply w_sub | apply w_idx | apply w_ld | apply w_slhi); iterate 3 exact rfl) | (apply w_appx; exact rfl; exact rfl; exact rfl; exact rfl; exact rfl; rotate_left 1; simp only [Env.mp, List.map_cons, List.map_nil, List.set_cons_zero, List.set_cons_succ, AV.kill, AV.kill1, AO.kill, AV.rin, AV.rin1, AV.noRow, AV.noRow1, AO.via, reduceIte, Nat.reduceEqDiff, Nat.reduceLT, Env.up, Nat.zero_ne_one, Nat.one_ne_zero, Nat.reduceAdd, List.cons_append, List.nil_append]; rotate_left 1) | (apply w_cutx; exact rfl; exact rfl; exact rfl; rotate_left 2; simp only [Env.mp, List.map_cons, List.map_nil, List.set_cons_zero, List.set_cons_succ, AV.kill, AV.kill1, AO.kill, AV.rin, AV.rin1, AV.noRow, AV.noRow1, AO.via, reduceIte, Nat.reduceEqDiff, Nat.reduceLT, Env.up, Nat.zero_ne_one, Nat.one_ne_zero, Nat.reduceAdd, List.cons_append, List.nil_append]; rotate_left 1) | (apply w_call (ct'); exact rfl; exact rfl; focus ((repeat (first | exact im_nil | refine im_cons rfl (.orow rfl) ?_)); done)) | omega | ((apply w_not); iterate 2 exact rfl) | (apply w_idxo; exact rfl; exact rfl; (exact .slr rfl); exact rfl) | ((apply w_ldr); iterate 4 exact rfl) | (apply inI_of <;> omega))
              refine ⟨z :: r, ⟨k2.pop, k3.rest, k3.pop hcr (by simp only [gY]; omega), ?_⟩, by simp only [List.length_cons]; omega, ?_⟩
              · have := k3.2.1
                simp only [gY] at this
                omega
              · simp only [← ecut]
                exact ⟨lee rfl (by (repeat (first | exact le_nil | refine le_eq rfl rfl ?_))), by (repeat (first | exact lo_nil | refine lo_dead ?_ | refine lo_eq rfl ?_)), rfl, (by first | exact rfl | exact lim3 _)⟩
  · have e : k = ys.length := by omega
    subst e
    cases R with
    | nil => simp only [CorOk] at k1; omega
    | cons t r =>
      obtain ⟨k2, k3, k4⟩ := k1
      have hv : verts xss = (t :: r).reverse.map fun i => ys.getD i [] := by
        refine verts_eq (fun r hr => (hp r hr).1) ?_
        have hg := k3.gw k4
        have e1 : Sp ys ys.length = (· ∈ xss) := funext fun q => propext ((sp_all ys q).trans (hmem q))
        rw [e1] at hg
        unfold HasV
        have e2 : (t :: r).reverse.map (fun i => ys.getD i []) = ((t :: r).map fun (i : Nat) => gets ys i).reverse := by
          rw [← List.map_reverse]
          congr 1
        rw [e2]
        exact hg
      refine AWp.merge (p := 2) (k := 0) rfl rfl k2.nodup ?_
      simp only [Env.mp, List.map_cons, List.map_nil, List.set_cons_zero, List.set_cons_succ, AV.kill, AV.kill1, AO.kill, AV.noRow, AV.noRow1, AO.via, reduceIte, Nat.reduceEqDiff, Nat.reduceLT, Env.up, Nat.zero_ne_one, Nat.one_ne_zero, Nat.reduceAdd, List.cons_append, List.nil_append]
      rw [hv]
      repeat' (first | (apply AOps.nil; try simp only [List.nil_append, List.cons_append, List.set_cons_zero, List.set_cons_succ, List.length_cons, List.length_nil, Nat.reduceAdd, AV.sh, AV.sh1, AV.sh0, AO.sh, List.map_cons, List.map_nil, Nat.zero_add, Nat.add_zero, setAll]) | (apply w_move; exact rfl; exact rfl) | (apply w_assign; exact rfl; exact rfl) | apply AWp.seq | apply AWp.region | ((apply AWp.condP; exact rfl) <;> intro h) | apply AWp.block | apply AWp.ret | apply AWp.exit | apply AWp.skip | omega | ((apply w_lss); iterate 3 exact rfl))
      exact ⟨_, _, _, .v1 Try.results71 rfl, .sls rfl, rfl, rfl⟩
end Go.Proofs.Ytifkgmbghcmdeaa
/-
  The laws' helpers that write marks into a result and look for them. No condition but a bound on the sizes.
-/
namespace Go.Proofs.Ytifkgmbghcmdeaa
open Go Go.RowKit
attribute [local irreducible] AWp AOps ResIs Ret1 QOp LOp COp AFnV AFn Imms LeE LeO
set_option maxHeartbeats 1000000
set_option linter.unusedSimpArgs false
set_option linter.unusedVariables false

end Go.Proofs.Ytifkgmbghcmdeaa
/-
  Marks written into lists of lists. No condition but a bound on the sizes.
-/
namespace Go.Proofs.Ytifkgmbghcmdeaa
open Go Go.RowKit
attribute [local irreducible] AWp AOps ResIs Ret1 QOp LOp COp AFnV AFn Imms LeE LeO
set_option maxHeartbeats 1000000
set_option linter.unusedSimpArgs false
set_option linter.unusedVariables false

/-! ### Marks -/
end Go.Proofs.Ytifkgmbghcmdeaa
/-
  Vertices of supports: their order, whether the polygon is convenient, edges, areas. No condition but a bound on the sizes.
-/
namespace Go.Proofs.Ytifkgmbghcmdeaa
open Go Go.RowKit
attribute [local irreducible] AWp AOps ResIs Ret1 QOp LOp COp AFnV AFn Imms LeE LeO
set_option maxHeartbeats 1000000
set_option linter.unusedSimpArgs false
set_option linter.unusedVariables false

/-! ### Chains -/
/-- To the right and down. -/
def Ch : List (List Int) → Prop
  | a :: b :: r => geti a 0 < geti b 0 ∧ geti b 1 < geti a 1 ∧ Ch (b :: r)
  | _ => True

theorem gwf_chain {S : List Int → Prop} : ∀ {r : List (List Int)} {a : List Int}, Hl.GWf gX gY S (a :: r) → (∀ q, S q → gY q < gY a → gX a < gX q) → Ch (a :: r) ∧ ∀ v ∈ r, S v
  | [], a, _, _ => ⟨trivial, fun v hv => by cases hv⟩
  | b :: r, a, h, hx => by
    obtain ⟨⟨h1, h2, h3⟩, h4⟩ := h
    have xb := hx b h1 h2
    have ih := gwf_chain h4 (fun q hq hy => by
      have h5 := (h3 q hq (by omega)).1
      unfold Hl.cr at h5
      simp only [gX, gY] at *
      apply Classical.byContradiction
      intro hn
      have p1 := Int.mul_pos (show 0 < geti b 0 - geti a 0 by omega) (show 0 < geti b 1 - geti q 1 by omega)
      have p2 := Int.mul_nonneg (show 0 ≤ geti a 1 - geti b 1 by omega) (show 0 ≤ geti b 0 - geti q 0 by omega)
      grind)
    refine ⟨⟨xb, h2, ih.1⟩, fun v hv => ?_⟩
    rcases List.mem_cons.1 hv with rfl | hv
    · exact h1
    · exact ih.2 v hv

theorem ch_len : ∀ {r : List (List Int)} {a : List Int}, Ch (a :: r) → (∀ v ∈ a :: r, 0 ≤ geti v 1) → (r.length : Int) ≤ geti a 1
  | [], a, _, h => by have := h a (by simp); simp; exact this
  | b :: r, a, hc, h => by
    have ih := ch_len hc.2.2 (fun v hv => h v (List.mem_cons_of_mem _ hv))
    have := hc.2.1
    rw [List.length_cons]
    omega
theorem ch_get : ∀ {V : List (List Int)}, Ch V → ∀ i : Nat, i + 1 < V.length → geti (gets V (i : Nat)) 0 < geti (gets V ((i : Nat) + 1 : Int)) 0 ∧ geti (gets V ((i : Nat) + 1 : Int)) 1 < geti (gets V (i : Nat)) 1
  | [], _, i, h => by simp at h
  | [a], _, i, h => by simp at h
  | a :: b :: r, hc, i, h => by
    cases i with
    | zero => exact ⟨hc.1, hc.2.1⟩
    | succ i => exact ch_get hc.2.2 i (by simpa using h)

/-- What is known of vertices. -/
structure VOk (B : Int) (V : List (List Int)) : Prop where
  pos : 0 < V.length
  len : (V.length : Int) ≤ B + 1
  row : ∀ v ∈ V, v.length = 2 ∧ (0 ≤ geti v 0 ∧ geti v 0 ≤ B) ∧ (0 ≤ geti v 1 ∧ geti v 1 ≤ B)
  inc : ∀ i : Nat, i + 1 < V.length → geti (gets V (i : Nat)) 0 < geti (gets V ((i : Nat) + 1 : Int)) 0 ∧ geti (gets V ((i : Nat) + 1 : Int)) 1 < geti (gets V (i : Nat)) 1
theorem VOk.at {B : Int} {V : List (List Int)} (h : VOk B V) (i : Nat) (hi : i < V.length) : (gets V (i : Nat)).length = 2 ∧ (0 ≤ geti (gets V (i : Nat)) 0 ∧ geti (gets V (i : Nat)) 0 ≤ B) ∧ (0 ≤ geti (gets V (i : Nat)) 1 ∧ geti (gets V (i : Nat)) 1 ≤ B) :=
  h.row _ (gets_mem (by omega) (by omega))

theorem hasV_ok {xss V : List (List Int)} {B : Int} (hp : ∀ v ∈ xss, v.length = 2 ∧ (0 ≤ geti v 0 ∧ geti v 0 ≤ B) ∧ (0 ≤ geti v 1 ∧ geti v 1 ≤ B)) (h : HasV xss V) : VOk B V := by
  obtain ⟨m, r, rfl, h1, h2, h3⟩ := h
  have hc := gwf_chain h3 (fun q hq hy => by
    have := h2 q hq
    unfold Hl.lexle at this
    simp only [gX, gY] at *
    omega)
  have hrow : ∀ v ∈ m :: r, v.length = 2 ∧ (0 ≤ geti v 0 ∧ geti v 0 ≤ B) ∧ (0 ≤ geti v 1 ∧ geti v 1 ≤ B) := fun v hv => by
    rcases List.mem_cons.1 hv with rfl | hv
    · exact hp _ h1
    · exact hp _ (hc.2 v hv)
  refine ⟨by simp, ?_, hrow, ch_get hc.1⟩
  have := ch_len hc.1 (fun v hv => (hrow v hv).2.2.1)
  have := (hp m h1).2.2.2
  rw [List.length_cons]
  omega

/-! ### The vertices exist -/
theorem best_ex (xss : List (List Int)) (a : List Int) : ∀ i, i ≤ xss.length → ∃ o, BestOk xss a i o
  | 0, _ => ⟨none, fun q hq => by obtain ⟨j, hj, _⟩ := hq; omega⟩
  | i + 1, hi => by
    obtain ⟨o, ho⟩ := best_ex xss a i (by omega)
    have esp := sp_succ xss i
    cases o with
    | none =>
      by_cases hy : gY (gets xss (i : Nat)) < gY a
      · refine ⟨some i, hi, ?_⟩
        rw [← esp]
        exact Hl.next_first ho hy
      · refine ⟨none, ?_⟩
        simp only [BestOk, ← esp]
        rintro q (hq | rfl)
        · exact ho q hq
        · omega
    | some k =>
      obtain ⟨h1, h2⟩ := ho
      by_cases hy : gY (gets xss (i : Nat)) < gY a ∧ (Hl.cr gX gY a (gets xss (k : Nat)) (gets xss (i : Nat)) < 0 ∨ (Hl.cr gX gY a (gets xss (k : Nat)) (gets xss (i : Nat)) = 0 ∧ gY (gets xss (i : Nat)) < gY (gets xss (k : Nat))))
      · refine ⟨some i, hi, ?_⟩
        rw [← esp]
        exact Hl.next_new h2 hy.1 hy.2
      · refine ⟨some k, h1, ?_⟩
        rw [← esp]
        exact Hl.next_keep h2 fun hz => by omega
theorem sp_mem (xss : List (List Int)) : Sp xss xss.length = (· ∈ xss) := funext fun q => propext (sp_all xss q)
theorem chain_ex {xss : List (List Int)} (hp : ∀ r ∈ xss, 0 ≤ geti r 1) : ∀ (n : Nat) (a : List Int), a ∈ xss → geti a 1 ≤ n → ∃ l, Hl.GWf gX gY (· ∈ xss) (a :: l)
  | n, a, ha, hn => by
    obtain ⟨o, ho⟩ := best_ex xss a xss.length (Nat.le_refl _)
    cases o with
    | none => exact ⟨[], fun q hq => ho q ((sp_all xss q).2 hq)⟩
    | some k =>
      obtain ⟨h1, h2⟩ := ho
      rw [sp_mem] at h2
      have hlt := h2.2.1
      have hpos := hp _ h2.1
      simp only [gY] at hlt
      match n with
      | 0 => omega
      | n + 1 =>
        obtain ⟨l, hl⟩ := chain_ex hp n _ h2.1 (by omega)
        exact ⟨_ :: l, h2, hl⟩
theorem first_ex (xss : List (List Int)) : ∀ i, i < xss.length → ∃ m, m < xss.length ∧ ∀ q, Sp xss (i + 1) q → Hl.lexle gX gY (gets xss (m : Nat)) q
  | 0, h => ⟨0, h, fun q hq => by obtain ⟨j, hj, rfl⟩ := hq; obtain rfl : j = 0 := by omega
                                  unfold Hl.lexle; omega⟩
  | i + 1, h => by
    obtain ⟨m, h1, h2⟩ := first_ex xss i (by omega)
    rw [← sp_succ]
    by_cases hc : Hl.lexle gX gY (gets xss (m : Nat)) (gets xss ((i + 1 : Nat) : Int))
    · refine ⟨m, h1, ?_⟩
      rintro q (hq | rfl)
      · exact h2 q hq
      · exact hc
    · refine ⟨i + 1, h, ?_⟩
      rintro q (hq | rfl)
      · have := h2 q hq
        unfold Hl.lexle at *
        simp only [gX, gY] at *
        omega
      · unfold Hl.lexle; omega
theorem verts_ex {xss : List (List Int)} (h0 : 0 < xss.length) (hp : ∀ r ∈ xss, 0 ≤ geti r 1) : ∃ V, HasV xss V := by
  obtain ⟨m, h1, h2⟩ := first_ex xss (xss.length - 1) (by omega)
  rw [show xss.length - 1 + 1 = xss.length by omega, sp_mem] at h2
  have hm : gets xss (m : Nat) ∈ xss := gets_mem (by omega) (by omega)
  obtain ⟨l, hl⟩ := chain_ex hp (geti (gets xss (m : Nat)) 1).toNat _ hm (by have := hp _ hm; omega)
  exact ⟨_ :: l, _, _, rfl, hm, h2, hl⟩
theorem verts_ok {xss : List (List Int)} {B : Int} (h0 : 0 < xss.length) (hp : ∀ v ∈ xss, v.length = 2 ∧ (0 ≤ geti v 0 ∧ geti v 0 ≤ B) ∧ (0 ≤ geti v 1 ∧ geti v 1 ≤ B)) : VOk B (verts xss) := by
  obtain ⟨V, hV⟩ := verts_ex h0 (fun r hr => (hp r hr).2.2.1)
  rw [verts_eq (fun r hr => (hp r hr).1) hV]
  exact hasV_ok hp hV
/-! ### Edges -/
def edL (V : List (List Int)) (n : Nat) : List (List Int) := (List.range n).map fun (k : Nat) => [geti (gets V ((k : Nat) + 1 : Int)) 0 - geti (gets V (k : Nat)) 0, geti (gets V (k : Nat)) 1 - geti (gets V ((k : Nat) + 1 : Int)) 1]
theorem edL_len (V : List (List Int)) (n : Nat) : (edL V n).length = n := by simp [edL]
theorem edL_succ (V : List (List Int)) (n : Nat) : edL V n ++ [[geti (gets V ((n : Nat) + 1 : Int)) 0 - geti (gets V (n : Nat)) 0, geti (gets V (n : Nat)) 1 - geti (gets V ((n : Nat) + 1 : Int)) 1]] = edL V (n + 1) := by simp [edL, List.range_succ]

theorem edgesBetween_c {B : Int} (hB : B ≤ 100000) (V : List (List Int)) (h : VOk B V) : AFn Try.prog 73 [.intss V] (IsIntss 22 2 (edL V (V.length - 1))) := by
  have hl := h.len
  have hp := h.pos
  (refine AFn.start Try.func73 Try.ntmps73 rfl (by kernel_rfl) fun hk => ?_; simp only [Env.start, enumF, List.length_cons, List.length_nil, Nat.reduceAdd, Nat.reduceSub, List.cons_append, List.nil_append])
  repeat' (first | (apply AOps.nil; try simp only [List.nil_append, List.cons_append, List.set_cons_zero, List.set_cons_succ, List.length_cons, List.length_nil, Nat.reduceAdd, AV.sh, AV.sh1, AV.sh0, AO.sh, List.map_cons, List.map_nil, Nat.zero_add, Nat.add_zero, setAll]) | (apply w_assign; exact rfl; exact rfl) | apply AWp.seq | apply AWp.region | apply AWp.block | ((apply w_bsr0); iterate 1 exact rfl))
  refine AWp.loop (ι := Nat) (fun i => ⟨45, [(0, .intss V), (3, .own 0), (4, .i (i + 1))]⟩) (fun i => [.sls 22 2 (edL V i)]) (fun i => i + 1 ≤ V.length) (fun i => V.length - i) 0 (by omega) ⟨lee rfl (by (repeat (first | exact le_nil | refine le_eq rfl rfl ?_))), by (repeat (first | exact lo_nil | refine lo_eq rfl ?_)), rfl, rfl⟩ ?_
  rintro i h0
  have e1 := edL_len V i
  by_cases hi : i + 1 < V.length
  · obtain ⟨p1, p2, p3⟩ := h.at i (by omega)
    obtain ⟨q1, q2, q3⟩ := h.at (i + 1) (by omega)
    have e2 := edL_succ V i
    have ei : (((i + 1 : Nat) : Nat) : Int) = (i : Int) + 1 := by omega
    rw [ei] at q1 q2 q3
    have ej : ((i : Int) + 1 - 1) = i := by omega
    have p1' := p1
    have p2' := p2
    have p3' := p3
    rw [← ej] at p1' p2' p3'
    have e2' : edL V i ++ [[geti (gets V ((i : Nat) + 1 : Int)) 0 - geti (gets V ((i : Int) + 1 - 1)) 0, geti (gets V ((i : Int) + 1 - 1)) 1 - geti (gets V ((i : Nat) + 1 : Int)) 1]] = edL V (i + 1) := by rw [ej]; exact e2
    repeat' (first | (apply AOps.nil; try simp only [List.nil_append, List.cons_append, List.set_cons_zero, List.set_cons_succ, List.length_cons, List.length_nil, Nat.reduceAdd, AV.sh, AV.sh1, AV.sh0, AO.sh, List.map_cons, List.map_nil, Nat.zero_add, Nat.add_zero, setAll]) | (apply w_move; exact rfl; exact rfl) | (apply w_assign; exact rfl; exact rfl) | apply AWp.seq | apply AWp.region | ((apply AWp.condP; exact rfl) <;> intro h) | apply AWp.block | apply AWp.ret | apply AWp.exit | apply AWp.skip | (apply w_len; exact rfl; exact rfl; first | exact .ints _ | exact .intss _ | exact .sli rfl | exact .sls rfl | exact .slr rfl | exact .orow rfl | exact .nil) | omega | ((apply w_lss); iterate 3 exact rfl))
    refine AWp.regionG [] (by kernel_rfl) (envC := ⟨45, [(0, .intss V), (3, .own 0), (4, .i (i + 1))]⟩) (osC := [.sls 22 2 (edL V i ++ [[geti (gets V ((i : Nat) + 1 : Int)) 0 - geti (gets V ((i : Int) + 1 - 1)) 0, geti (gets V ((i : Int) + 1 - 1)) 1 - geti (gets V ((i : Nat) + 1 : Int)) 1]])]) rfl rfl ?_ ?_
    · repeat' (first | (apply AOps.nil; try simp only [List.nil_append, List.cons_append, List.set_cons_zero, List.set_cons_succ, List.length_cons, List.length_nil, Nat.reduceAdd, AV.sh, AV.sh1, AV.sh0, AO.sh, List.map_cons, List.map_nil, Nat.zero_add, Nat.add_zero, setAll]) | (apply w_move; exact rfl; exact rfl) | (apply w_assign; exact rfl; exact rfl) | ((first | apply w_bsr1 | apply w_sub | apply w_idx | apply w_ld | apply w_bs2); iterate 3 exact rfl) | (apply w_appr; exact rfl; exact rfl; exact rfl; exact rfl; exact rfl; exact rfl; exact rfl; rotate_left 1; simp only [Env.mp, List.map_cons, List.map_nil, List.set_cons_zero, List.set_cons_succ, AV.kill, AV.kill1, AO.kill, AV.rin, AV.rin1, AV.noRow, AV.noRow1, AO.via, reduceIte, Nat.reduceEqDiff, Nat.reduceLT, Env.up, Nat.zero_ne_one, Nat.one_ne_zero, Nat.reduceAdd, List.cons_append, List.nil_append]; rotate_left 1) | apply AllOfG.nil | (apply AllOfG.consS; exact rfl; exact rfl) | (apply AAnyG.takeW; exact rfl; exact rfl; kernel_rfl; kernel_rfl) | (apply AAnyG.takeL; exact rfl; exact rfl; kernel_rfl) | (apply AAnyG.all; exact rfl) | (apply AAnyG.done; exact rfl) | omega | ((first | apply w_idxs | apply w_lds); iterate 3 exact rfl) | (apply inI_of <;> omega))
      all_goals (apply Or.inl; refine ⟨lee rfl ?_, ?_, rfl, rfl⟩; (focus ((repeat (first | exact le_nil | refine le_eq rfl rfl ?_)); done)); (focus ((repeat (first | exact lo_nil | refine lo_eq rfl ?_)); done)))
    repeat' (first | (apply AOps.nil; try simp only [List.nil_append, List.cons_append, List.set_cons_zero, List.set_cons_succ, List.length_cons, List.length_nil, Nat.reduceAdd, AV.sh, AV.sh1, AV.sh0, AO.sh, List.map_cons, List.map_nil, Nat.zero_add, Nat.add_zero, setAll]) | (apply w_move; exact rfl; exact rfl) | (apply w_assign; exact rfl; exact rfl) | apply AWp.region | ((apply w_add); iterate 3 exact rfl) | (apply inI_of <;> omega))
    exact ⟨i + 1, by omega, by omega, ⟨lee rfl (by (repeat (first | exact le_nil | refine le_eq rfl rfl ?_))), by (repeat (first | exact lo_nil | refine lo_eq (congrArg (AO.sls _ _) (e2')) ?_)), rfl, rfl⟩⟩
  · repeat' (first | (apply AOps.nil; try simp only [List.nil_append, List.cons_append, List.set_cons_zero, List.set_cons_succ, List.length_cons, List.length_nil, Nat.reduceAdd, AV.sh, AV.sh1, AV.sh0, AO.sh, List.map_cons, List.map_nil, Nat.zero_add, Nat.add_zero, setAll]) | (apply w_move; exact rfl; exact rfl) | (apply w_assign; exact rfl; exact rfl) | apply AWp.seq | apply AWp.region | ((apply AWp.condP; exact rfl) <;> intro h) | apply AWp.block | apply AWp.ret | apply AWp.exit | apply AWp.skip | (apply AWp.regionQ; kernel_rfl; kernel_rfl) | (apply w_len; exact rfl; exact rfl; first | exact .ints _ | exact .intss _ | exact .sli rfl | exact .sls rfl | exact .slr rfl | exact .orow rfl | exact .nil) | omega | ((apply w_lss); iterate 3 exact rfl))
    have e : i = V.length - 1 := by omega
    subst e
    exact ⟨_, _, _, .v1 Try.results73 rfl, .sls rfl, rfl, rfl⟩
theorem l15Edges_c {B : Int} (hB : B ≤ 100000) (V : List (List Int)) (h : VOk B V) : AFn Try.prog 65 [.intss V] (IsIntss 22 2 (edL V (V.length - 1))) := by
  have hl := h.len
  have hp := h.pos
  (refine AFn.start Try.func65 Try.ntmps65 rfl (by kernel_rfl) fun hk => ?_; simp only [Env.start, enumF, List.length_cons, List.length_nil, Nat.reduceAdd, Nat.reduceSub, List.cons_append, List.nil_append])
  repeat' (first | (apply AOps.nil; try simp only [List.nil_append, List.cons_append, List.set_cons_zero, List.set_cons_succ, List.length_cons, List.length_nil, Nat.reduceAdd, AV.sh, AV.sh1, AV.sh0, AO.sh, List.map_cons, List.map_nil, Nat.zero_add, Nat.add_zero, setAll]) | (apply w_assign; exact rfl; exact rfl) | apply AWp.seq | apply AWp.region | apply AWp.block | ((apply w_bsr0); iterate 1 exact rfl))
  refine AWp.loop (ι := Nat) (fun i => ⟨45, [(0, .intss V), (3, .own 0), (4, .i (i + 1))]⟩) (fun i => [.sls 22 2 (edL V i)]) (fun i => i + 1 ≤ V.length) (fun i => V.length - i) 0 (by omega) ⟨lee rfl (by (repeat (first | exact le_nil | refine le_eq rfl rfl ?_))), by (repeat (first | exact lo_nil | refine lo_eq rfl ?_)), rfl, rfl⟩ ?_
  rintro i h0
  have e1 := edL_len V i
  by_cases hi : i + 1 < V.length
  · obtain ⟨p1, p2, p3⟩ := h.at i (by omega)
    obtain ⟨q1, q2, q3⟩ := h.at (i + 1) (by omega)
    have e2 := edL_succ V i
    have ei : (((i + 1 : Nat) : Nat) : Int) = (i : Int) + 1 := by omega
    rw [ei] at q1 q2 q3
    have ej : ((i : Int) + 1 - 1) = i := by omega
    have p1' := p1
    have p2' := p2
    have p3' := p3
    rw [← ej] at p1' p2' p3'
    have e2' : edL V i ++ [[geti (gets V ((i : Nat) + 1 : Int)) 0 - geti (gets V ((i : Int) + 1 - 1)) 0, geti (gets V ((i : Int) + 1 - 1)) 1 - geti (gets V ((i : Nat) + 1 : Int)) 1]] = edL V (i + 1) := by rw [ej]; exact e2
    repeat' (first | (apply AOps.nil; try simp only [List.nil_append, List.cons_append, List.set_cons_zero, List.set_cons_succ, List.length_cons, List.length_nil, Nat.reduceAdd, AV.sh, AV.sh1, AV.sh0, AO.sh, List.map_cons, List.map_nil, Nat.zero_add, Nat.add_zero, setAll]) | (apply w_move; exact rfl; exact rfl) | (apply w_assign; exact rfl; exact rfl) | apply AWp.seq | apply AWp.region | ((apply AWp.condP; exact rfl) <;> intro h) | apply AWp.block | apply AWp.ret | apply AWp.exit | apply AWp.skip | (apply w_len; exact rfl; exact rfl; first | exact .ints _ | exact .intss _ | exact .sli rfl | exact .sls rfl | exact .slr rfl | exact .orow rfl | exact .nil) | omega | ((apply w_lss); iterate 3 exact rfl))
    refine AWp.regionG [] (by kernel_rfl) (envC := ⟨45, [(0, .intss V), (3, .own 0), (4, .i (i + 1))]⟩) (osC := [.sls 22 2 (edL V i ++ [[geti (gets V ((i : Nat) + 1 : Int)) 0 - geti (gets V ((i : Int) + 1 - 1)) 0, geti (gets V ((i : Int) + 1 - 1)) 1 - geti (gets V ((i : Nat) + 1 : Int)) 1]])]) rfl rfl ?_ ?_
    · repeat' (first | (apply AOps.nil; try simp only [List.nil_append, List.cons_append, List.set_cons_zero, List.set_cons_succ, List.length_cons, List.length_nil, Nat.reduceAdd, AV.sh, AV.sh1, AV.sh0, AO.sh, List.map_cons, List.map_nil, Nat.zero_add, Nat.add_zero, setAll]) | (apply w_move; exact rfl; exact rfl) | (apply w_assign; exact rfl; exact rfl) | ((first | apply w_bsr1 | apply w_sub | apply w_idx | apply w_ld | apply w_bs2); iterate 3 exact rfl) | (apply w_appr; exact rfl; exact rfl; exact rfl; exact rfl; exact rfl; exact rfl; exact rfl; rotate_left 1; simp only [Env.mp, List.map_cons, List.map_nil, List.set_cons_zero, List.set_cons_succ, AV.kill, AV.kill1, AO.kill, AV.rin, AV.rin1, AV.noRow, AV.noRow1, AO.via, reduceIte, Nat.reduceEqDiff, Nat.reduceLT, Env.up, Nat.zero_ne_one, Nat.one_ne_zero, Nat.reduceAdd, List.cons_append, List.nil_append]; rotate_left 1) | apply AllOfG.nil | (apply AllOfG.consS; exact rfl; exact rfl) | (apply AAnyG.takeW; exact rfl; exact rfl; kernel_rfl; kernel_rfl) | (apply AAnyG.takeL; exact rfl; exact rfl; kernel_rfl) | (apply AAnyG.all; exact rfl) | (apply AAnyG.done; exact rfl) | omega | ((first | apply w_idxs | apply w_lds); iterate 3 exact rfl) | (apply inI_of <;> omega))
      all_goals (apply Or.inl; refine ⟨lee rfl ?_, ?_, rfl, rfl⟩; (focus ((repeat (first | exact le_nil | refine le_eq rfl rfl ?_)); done)); (focus ((repeat (first | exact lo_nil | refine lo_eq rfl ?_)); done)))
    repeat' (first | (apply AOps.nil; try simp only [List.nil_append, List.cons_append, List.set_cons_zero, List.set_cons_succ, List.length_cons, List.length_nil, Nat.reduceAdd, AV.sh, AV.sh1, AV.sh0, AO.sh, List.map_cons, List.map_nil, Nat.zero_add, Nat.add_zero, setAll]) | (apply w_move; exact rfl; exact rfl) | (apply w_assign; exact rfl; exact rfl) | apply AWp.region | ((apply w_add); iterate 3 exact rfl) | (apply inI_of <;> omega))
    exact ⟨i + 1, by omega, by omega, ⟨lee rfl (by (repeat (first | exact le_nil | refine le_eq rfl rfl ?_))), by (repeat (first | exact lo_nil | refine lo_eq (congrArg (AO.sls _ _) (e2')) ?_)), rfl, rfl⟩⟩
  · repeat' (first | (apply AOps.nil; try simp only [List.nil_append, List.cons_append, List.set_cons_zero, List.set_cons_succ, List.length_cons, List.length_nil, Nat.reduceAdd, AV.sh, AV.sh1, AV.sh0, AO.sh, List.map_cons, List.map_nil, Nat.zero_add, Nat.add_zero, setAll]) | (apply w_move; exact rfl; exact rfl) | (apply w_assign; exact rfl; exact rfl) | apply AWp.seq | apply AWp.region | ((apply AWp.condP; exact rfl) <;> intro h) | apply AWp.block | apply AWp.ret | apply AWp.exit | apply AWp.skip | (apply AWp.regionQ; kernel_rfl; kernel_rfl) | (apply w_len; exact rfl; exact rfl; first | exact .ints _ | exact .intss _ | exact .sli rfl | exact .sls rfl | exact .slr rfl | exact .orow rfl | exact .nil) | omega | ((apply w_lss); iterate 3 exact rfl))
    have e : i = V.length - 1 := by omega
    subst e
    exact ⟨_, _, _, .v1 Try.results65 rfl, .sls rfl, rfl, rfl⟩

/-! ### Convenient polygons -/
def conv (V : List (List Int)) : Bool := decide (geti (gets V 0) 0 = 0 ∧ geti (gets V ((V.length : Int) - 1)) 1 = 0)
/-! ### Areas -/
section
variable {B : Int} {V : List (List Int)}
end

end Go.Proofs.Ytifkgmbghcmdeaa
/-
  The support of a polynomial. No condition.
-/
namespace Go.Proofs.Ytifkgmbghcmdeaa
open Go Go.RowKit
attribute [local irreducible] AWp AOps ResIs Ret1 QOp LOp COp AFnV AFn Imms LeE LeO
set_option maxHeartbeats 1000000
set_option linter.unusedSimpArgs false
set_option linter.unusedVariables false

/-! ### Marks -/
/-! ### Supports -/
def supL (xss : List (List Int)) (i : Nat) : List (List Int) := (List.range i).map fun (j : Nat) => [geti (gets xss j) 0, geti (gets xss j) 1]
theorem supL_len (xss : List (List Int)) (i : Nat) : (supL xss i).length = i := by simp [supL]
theorem supL_succ (xss : List (List Int)) (i : Nat) : supL xss i ++ [[geti (gets xss i) 0, geti (gets xss i) 1]] = supL xss (i + 1) := by simp [supL, List.range_succ]

theorem implSupportOf1_c (xss : List (List Int)) (h : isPo xss = true) : AFn Try.prog 72 [.agg [.intss xss]] (IsIntss 22 2 (supL xss xss.length)) := by
  obtain ⟨z1, z2⟩ := isPo_of h
  (refine AFn.start Try.func72 Try.ntmps72 rfl (by kernel_rfl) fun hk => ?_; simp only [Env.start, enumF, List.length_cons, List.length_nil, Nat.reduceAdd, Nat.reduceSub, List.cons_append, List.nil_append])
  repeat' (first | (apply AOps.nil; try simp only [List.nil_append, List.cons_append, List.set_cons_zero, List.set_cons_succ, List.length_cons, List.length_nil, Nat.reduceAdd, AV.sh, AV.sh1, AV.sh0, AO.sh, List.map_cons, List.map_nil, Nat.zero_add, Nat.add_zero, setAll]) | (apply w_move; exact rfl; exact rfl) | (apply w_assign; exact rfl; exact rfl) | apply AWp.seq | apply AWp.region | apply AWp.block | (apply w_len; exact rfl; exact rfl; first | exact .ints _ | exact .intss _ | exact .sli rfl | exact .sls rfl | exact .slr rfl | exact .orow rfl | exact .nil) | ((apply w_bsr0); iterate 1 exact rfl) | ((first | apply w_ld | apply w_fa); iterate 3 exact rfl) | ((apply w_boxa); iterate 2 exact rfl) | (apply w_ldb; iterate 5 exact rfl))
  refine AWp.loop (ι := Nat) (fun i => ⟨26, [(3, .own 1), (8, .intss xss), (9, .i xss.length), (10, .i i)]⟩) (fun i => [.bx 50 [.intss xss], .sls 22 2 (supL xss i)]) (fun i => i ≤ xss.length) (fun i => xss.length - i) 0 (by omega) ⟨lee rfl (by (repeat (first | exact le_nil | refine le_eq rfl rfl ?_))), by (repeat (first | exact lo_nil | refine lo_eq rfl ?_)), rfl, rfl⟩ ?_
  rintro i h0
  have e1 := supL_len xss i
  by_cases hi : i < xss.length
  · have z := z2 i hi
    unfold PR at z
    have e2 := supL_succ xss i
    repeat' (first | (apply AOps.nil; try simp only [List.nil_append, List.cons_append, List.set_cons_zero, List.set_cons_succ, List.length_cons, List.length_nil, Nat.reduceAdd, AV.sh, AV.sh1, AV.sh0, AO.sh, List.map_cons, List.map_nil, Nat.zero_add, Nat.add_zero, setAll]) | (apply w_move; exact rfl; exact rfl) | (apply w_assign; exact rfl; exact rfl) | apply AWp.seq | apply AWp.region | ((apply AWp.condP; exact rfl) <;> intro h) | apply AWp.block | apply AWp.ret | apply AWp.exit | apply AWp.skip | omega | ((first | apply w_lss | apply w_idx | apply w_ld); iterate 3 exact rfl) | ((first | apply w_idxs | apply w_lds); iterate 3 exact rfl))
    refine AWp.regionA (by kernel_rfl) (envC := ⟨26, [(3, .own 1), (8, .intss xss), (9, .i xss.length), (10, .i i)]⟩) (osC := [.bx 50 [.intss xss], .sls 22 2 (supL xss i ++ [[geti (gets xss i) 0, geti (gets xss i) 1]])]) rfl rfl ?_ ?_
    · repeat' (first | (apply AOps.nil; try simp only [List.nil_append, List.cons_append, List.set_cons_zero, List.set_cons_succ, List.length_cons, List.length_nil, Nat.reduceAdd, AV.sh, AV.sh1, AV.sh0, AO.sh, List.map_cons, List.map_nil, Nat.zero_add, Nat.add_zero, setAll]) | (apply w_move; exact rfl; exact rfl) | (apply w_assign; exact rfl; exact rfl) | ((first | apply w_bsr1 | apply w_idx | apply w_ld | apply w_bs2); iterate 3 exact rfl) | (apply w_appr; exact rfl; exact rfl; exact rfl; exact rfl; exact rfl; exact rfl; exact rfl; rotate_left 1; simp only [Env.mp, List.map_cons, List.map_nil, List.set_cons_zero, List.set_cons_succ, AV.kill, AV.kill1, AO.kill, AV.rin, AV.rin1, AV.noRow, AV.noRow1, AO.via, reduceIte, Nat.reduceEqDiff, Nat.reduceLT, Env.up, Nat.zero_ne_one, Nat.one_ne_zero, Nat.reduceAdd, List.cons_append, List.nil_append]; rotate_left 1) | apply AllOf.nil | (apply AllOf.cons; exact rfl) | (apply AAny.take; exact rfl; exact rfl; kernel_rfl; kernel_rfl) | (apply AAny.all; exact rfl) | (apply AAny.done; exact rfl) | (apply inI_of <;> omega) | omega)
      all_goals (apply Or.inl; refine ⟨lee rfl ?_, ?_, rfl, rfl⟩; (focus ((repeat (first | exact le_nil | refine le_eq rfl rfl ?_)); done)); (focus ((repeat (first | exact lo_nil | refine lo_eq rfl ?_)); done)))
    repeat' (first | (apply AOps.nil; try simp only [List.nil_append, List.cons_append, List.set_cons_zero, List.set_cons_succ, List.length_cons, List.length_nil, Nat.reduceAdd, AV.sh, AV.sh1, AV.sh0, AO.sh, List.map_cons, List.map_nil, Nat.zero_add, Nat.add_zero, setAll]) | (apply w_move; exact rfl; exact rfl) | apply AWp.region | ((apply w_add); iterate 3 exact rfl) | (apply inI_of <;> omega))
    exact ⟨i + 1, by omega, by omega, ⟨lee rfl (by (repeat (first | exact le_nil | refine le_eq rfl rfl ?_))), by (repeat (first | exact lo_nil | refine lo_eq rfl ?_ | refine lo_eq (congrArg (AO.sls _ _) (e2)) ?_)), rfl, rfl⟩⟩
  · repeat' (first | (apply AOps.nil; try simp only [List.nil_append, List.cons_append, List.set_cons_zero, List.set_cons_succ, List.length_cons, List.length_nil, Nat.reduceAdd, AV.sh, AV.sh1, AV.sh0, AO.sh, List.map_cons, List.map_nil, Nat.zero_add, Nat.add_zero, setAll]) | (apply w_move; exact rfl; exact rfl) | (apply w_assign; exact rfl; exact rfl) | apply AWp.seq | apply AWp.region | ((apply AWp.condP; exact rfl) <;> intro h) | apply AWp.block | apply AWp.ret | apply AWp.exit | apply AWp.skip | omega | ((apply w_lss); iterate 3 exact rfl))
    have e : i = xss.length := by omega
    subst e
    exact ⟨_, _, _, .v1 Try.results72 rfl, .sls rfl, rfl, rfl⟩

theorem l17Support_c (xss : List (List Int)) (h : isPo xss = true) : AFn Try.prog 64 [.agg [.intss xss]] (IsIntss 22 2 (supL xss xss.length)) := by
  obtain ⟨z1, z2⟩ := isPo_of h
  (refine AFn.start Try.func64 Try.ntmps64 rfl (by kernel_rfl) fun hk => ?_; simp only [Env.start, enumF, List.length_cons, List.length_nil, Nat.reduceAdd, Nat.reduceSub, List.cons_append, List.nil_append])
  repeat' (first | (apply AOps.nil; try simp only [List.nil_append, List.cons_append, List.set_cons_zero, List.set_cons_succ, List.length_cons, List.length_nil, Nat.reduceAdd, AV.sh, AV.sh1, AV.sh0, AO.sh, List.map_cons, List.map_nil, Nat.zero_add, Nat.add_zero, setAll]) | (apply w_assign; exact rfl; exact rfl) | apply AWp.seq | apply AWp.region | apply AWp.block | ((apply w_bsr0); iterate 1 exact rfl) | ((apply w_boxa); iterate 2 exact rfl))
  refine AWp.loop (ι := Nat) (fun i => ⟨32, [(1, .optr 0 0), (3, .own 1), (4, .i i)]⟩) (fun i => [.bx 50 [.intss xss], .sls 22 2 (supL xss i)]) (fun i => i ≤ xss.length) (fun i => xss.length - i) 0 (by omega) ⟨lee rfl (by (repeat (first | exact le_nil | refine le_eq rfl rfl ?_))), by (repeat (first | exact lo_nil | refine lo_eq rfl ?_)), rfl, rfl⟩ ?_
  rintro i h0
  have e1 := supL_len xss i
  by_cases hi : i < xss.length
  · have z := z2 i hi
    unfold PR at z
    have e2 := supL_succ xss i
    repeat' (first | (apply AOps.nil; try simp only [List.nil_append, List.cons_append, List.set_cons_zero, List.set_cons_succ, List.length_cons, List.length_nil, Nat.reduceAdd, AV.sh, AV.sh1, AV.sh0, AO.sh, List.map_cons, List.map_nil, Nat.zero_add, Nat.add_zero, setAll]) | (apply w_move; exact rfl; exact rfl) | (apply w_assign; exact rfl; exact rfl) | apply AWp.seq | apply AWp.region | ((apply AWp.condP; exact rfl) <;> intro h) | apply AWp.block | apply AWp.ret | apply AWp.exit | apply AWp.skip | (apply w_len; exact rfl; exact rfl; first | exact .ints _ | exact .intss _ | exact .sli rfl | exact .sls rfl | exact .slr rfl | exact .orow rfl | exact .nil) | omega | ((first | apply w_lss | apply w_ld | apply w_fa); iterate 3 exact rfl) | (apply w_ldb; iterate 5 exact rfl))
    refine AWp.regionA (by kernel_rfl) (envC := ⟨32, [(1, .optr 0 0), (3, .own 1), (4, .i i)]⟩) (osC := [.bx 50 [.intss xss], .sls 22 2 (supL xss i ++ [[geti (gets xss i) 0, geti (gets xss i) 1]])]) rfl rfl ?_ ?_
    · repeat' (first | (apply AOps.nil; try simp only [List.nil_append, List.cons_append, List.set_cons_zero, List.set_cons_succ, List.length_cons, List.length_nil, Nat.reduceAdd, AV.sh, AV.sh1, AV.sh0, AO.sh, List.map_cons, List.map_nil, Nat.zero_add, Nat.add_zero, setAll]) | (apply w_move; exact rfl; exact rfl) | (apply w_assign; exact rfl; exact rfl) | ((first | apply w_bsr1 | apply w_idx | apply w_ld | apply w_fa | apply w_bs2); iterate 3 exact rfl) | (apply w_appr; exact rfl; exact rfl; exact rfl; exact rfl; exact rfl; exact rfl; exact rfl; rotate_left 1; simp only [Env.mp, List.map_cons, List.map_nil, List.set_cons_zero, List.set_cons_succ, AV.kill, AV.kill1, AO.kill, AV.rin, AV.rin1, AV.noRow, AV.noRow1, AO.via, reduceIte, Nat.reduceEqDiff, Nat.reduceLT, Env.up, Nat.zero_ne_one, Nat.one_ne_zero, Nat.reduceAdd, List.cons_append, List.nil_append]; rotate_left 1) | ((first | apply w_idxs | apply w_lds); iterate 3 exact rfl) | (apply w_ldb; iterate 5 exact rfl) | apply AllOf.nil | (apply AllOf.cons; exact rfl) | (apply AAny.take; exact rfl; exact rfl; kernel_rfl; kernel_rfl) | (apply AAny.all; exact rfl) | (apply AAny.done; exact rfl) | (apply inI_of <;> omega) | omega)
      all_goals (apply Or.inl; refine ⟨lee rfl ?_, ?_, rfl, rfl⟩; (focus ((repeat (first | exact le_nil | refine le_eq rfl rfl ?_)); done)); (focus ((repeat (first | exact lo_nil | refine lo_eq rfl ?_)); done)))
    repeat' (first | (apply AOps.nil; try simp only [List.nil_append, List.cons_append, List.set_cons_zero, List.set_cons_succ, List.length_cons, List.length_nil, Nat.reduceAdd, AV.sh, AV.sh1, AV.sh0, AO.sh, List.map_cons, List.map_nil, Nat.zero_add, Nat.add_zero, setAll]) | (apply w_move; exact rfl; exact rfl) | (apply w_assign; exact rfl; exact rfl) | apply AWp.region | ((apply w_add); iterate 3 exact rfl) | (apply inI_of <;> omega))
    exact ⟨i + 1, by omega, by omega, ⟨lee rfl (by (repeat (first | exact le_nil | refine le_eq rfl rfl ?_))), by (repeat (first | exact lo_nil | refine lo_eq rfl ?_ | refine lo_eq (congrArg (AO.sls _ _) (e2)) ?_)), rfl, rfl⟩⟩
  · repeat' (first | (apply AOps.nil; try simp only [List.nil_append, List.cons_append, List.set_cons_zero, List.set_cons_succ, List.length_cons, List.length_nil, Nat.reduceAdd, AV.sh, AV.sh1, AV.sh0, AO.sh, List.map_cons, List.map_nil, Nat.zero_add, Nat.add_zero, setAll]) | (apply w_move; exact rfl; exact rfl) | (apply w_assign; exact rfl; exact rfl) | apply AWp.seq | apply AWp.region | ((apply AWp.condP; exact rfl) <;> intro h) | apply AWp.block | apply AWp.ret | apply AWp.exit | apply AWp.skip | (apply AWp.regionQ; kernel_rfl; kernel_rfl) | (apply w_len; exact rfl; exact rfl; first | exact .ints _ | exact .intss _ | exact .sli rfl | exact .sls rfl | exact .slr rfl | exact .orow rfl | exact .nil) | omega | ((first | apply w_lss | apply w_ld | apply w_fa); iterate 3 exact rfl) | (apply w_ldb; iterate 5 exact rfl))
    have e : i = xss.length := by omega
    subst e
    exact ⟨_, _, _, .v1 Try.results64 rfl, .sls rfl, rfl, rfl⟩

end Go.Proofs.Ytifkgmbghcmdeaa
/-
  The greatest common divisor, in the program and in the model. No condition but that both numbers are no greater than 2^62.
-/
namespace Go.Proofs.Ytifkgmbghcmdeaa
open Go Go.RowKit
attribute [local irreducible] AWp AOps ResIs Ret1 QOp LOp COp AFnV AFn Imms LeE LeO
set_option maxHeartbeats 1000000
set_option linter.unusedSimpArgs false
set_option linter.unusedVariables false

theorem gcd_step (a b : Int) (h0 : 0 ≤ a) (h : 0 < b) : Int.gcd b (a % b) = Int.gcd a b := by
  obtain ⟨x, rfl⟩ := Int.eq_ofNat_of_zero_le h0
  obtain ⟨y, rfl⟩ := Int.eq_ofNat_of_zero_le (Int.le_of_lt h)
  rw [← Int.natCast_emod]
  simp only [Int.gcd_natCast_natCast]
  rw [Nat.gcd_comm x y, Nat.gcd_comm y]
  exact (Nat.gcd_rec y x).symm

def mid (a : Int) : Prop := -4611686018427387904 ≤ a ∧ a ≤ 4611686018427387904

theorem abs_c (a : Int) (ha : mid a) : AFnV Try.prog 99 [.i a] (.int .i64 a.natAbs) := by
  unfold mid at ha
  (refine AFnV.start Try.func99 Try.ntmps99 rfl (by kernel_rfl) fun hk => ?_; simp only [Env.start, enumF, List.length_cons, List.length_nil, Nat.reduceAdd, Nat.reduceSub, List.cons_append, List.nil_append])
  repeat' (first
  | (apply AOps.nil; try simp only [List.nil_append, List.cons_append, List.set_cons_zero, List.set_cons_succ, List.length_cons, List.length_nil, Nat.reduceAdd, AV.sh, AV.sh1, AV.sh0, AO.sh, List.map_cons, List.map_nil, Nat.zero_add, Nat.add_zero, setAll])
  | ((apply AOps.splitP; exact rfl; exact rfl) <;> intro h)
  | ((apply AOps.splitN; exact rfl; exact rfl) <;> intro h)
  | (apply w_move; exact rfl; exact rfl)
  | (apply w_assign; exact rfl; exact rfl)
  | apply AWp.seq
  | apply AWp.region
  | ((apply AWp.condP; exact rfl) <;> intro h)
  | ((apply AWp.condN; exact rfl) <;> intro h)
  | (apply AWp.condT; exact rfl)
  | (apply AWp.condF; exact rfl)
  | ((apply AWp.condB; exact rfl) <;> intro h)
  | apply AWp.block
  | apply AWp.ret
  | apply AWp.exit
  | apply AWp.skip
  | (apply AWp.regionQ; kernel_rfl; kernel_rfl)
  | (apply if_pos'; exact rfl)
  | (apply if_neg'; decide)
  | (apply w_skip; exact rfl)
  | (apply w_pickT; exact rfl; exact rfl; exact rfl)
  | (apply w_pickF; exact rfl; exact rfl; exact rfl)
  | (apply w_len; exact rfl; exact rfl; first | exact .ints _ | exact .intss _ | exact .sli rfl | exact .sls rfl | exact .slr rfl | exact .orow rfl | exact .nil)
  | ((first | apply w_lss | apply w_leq | apply w_gtr | apply w_geq | apply w_eql | apply w_neq | apply w_add | apply w_sub | apply w_mul | apply w_idx | apply w_ld | apply w_fld | apply w_fa | apply w_extv | apply w_min | apply w_max | apply w_slhi | apply w_sllo | apply w_bs2); iterate 3 exact rfl)
  | ((first | apply w_eqlb | apply w_neqb | apply w_idxs | apply w_lds | apply w_ext); iterate 3 exact rfl)
  | (apply w_rem; exact rfl; exact rfl; exact rfl; (focus (omega; done)); (focus (omega; done)))
  | (apply w_quo; exact rfl; exact rfl; exact rfl; (focus (omega; done)); (focus (omega; done)))
  | (apply w_remT; exact rfl; exact rfl; exact rfl)
  | (apply w_quoT; exact rfl; exact rfl; exact rfl)
  | ((first | apply w_not | apply w_neg | apply w_conv | apply w_build0 | apply w_bs1 | apply w_boxa); iterate 2 exact rfl)
  | (apply w_idxo; exact rfl; exact rfl; (first | exact .sli rfl | exact .sls rfl | exact .slr rfl); exact rfl)
  | ((first | apply w_idxr | apply w_ldr); iterate 4 exact rfl)
  | (apply w_ldo; iterate 4 exact rfl)
  | (apply w_ldls; iterate 4 exact rfl)
  | (apply w_ldrp; iterate 4 exact rfl)
  | (apply w_ldb; iterate 5 exact rfl)
  | (apply w_ldst; iterate 5 exact rfl)
  | ((first | apply w_sllh | apply w_stbi); iterate 4 exact rfl)
  | ((first | apply w_oslo | apply w_oshi | apply w_stbii); iterate 4 exact rfl)
  | (apply w_copy; exact rfl; (first | exact .own rfl rfl rfl | exact .osub); exact rfl; rotate_left 1; exact rfl; (first | exact .ints _ | exact .sli rfl | exact .orow rfl | exact .nil | exact .osub rfl (by simp; omega)))
  | (apply w_build1; exact rfl; exact rfl; (first | exact one_val rfl rfl | exact one_ints | exact one_intss | exact one_own rfl True.intro))
  | (apply w_build2; exact rfl; exact rfl; exact rfl; (first | exact one_val rfl rfl | exact one_ints | exact one_intss | exact one_own rfl True.intro); (first | exact one_val rfl rfl | exact one_ints | exact one_intss | exact one_own rfl True.intro))
  | (apply w_bs0; iterate 1 exact rfl)
  | (apply w_appn; exact rfl; exact rfl; (first | exact .ints _ | exact .sli rfl | exact .orow rfl | exact .nil | exact .osub rfl (by simp; omega)); exact rfl)
  | (apply w_app; exact rfl; exact rfl; exact rfl; exact rfl; (first | exact .ints _ | exact .sli rfl | exact .orow rfl | exact .nil | exact .osub rfl (by simp; omega)); rotate_left 1; simp only [Env.mp, List.map_cons, List.map_nil, List.set_cons_zero, List.set_cons_succ, AV.kill, AV.kill1, AO.kill, AV.noRow, AV.noRow1, AO.via, reduceIte, Nat.reduceEqDiff, Nat.reduceLT, Env.up, Nat.zero_ne_one, Nat.one_ne_zero, Nat.reduceAdd, List.cons_append, List.nil_append]; rotate_left 1)
  | (apply w_alst; iterate 2 exact rfl)
  | (apply w_alone; iterate 3 exact rfl)
  | (apply w_mki; exact rfl; exact rfl; rotate_left 3; exact rfl; rotate_left 1)
  | (apply w_mkr; exact rfl; exact rfl; rotate_left 3; exact rfl; rotate_left 1)
  | (apply w_strow; exact rfl; exact rfl; rotate_left 1; exact rfl; exact rfl; exact rfl; exact rfl; simp only [Env.mp, List.map_cons, List.map_nil, List.set_cons_zero, List.set_cons_succ, AV.kill, AV.kill1, AO.kill, AV.noRow, AV.noRow1, AO.via, reduceIte, Nat.reduceEqDiff, Nat.reduceLT, Env.up, Nat.zero_ne_one, Nat.one_ne_zero, Nat.reduceAdd, List.cons_append, List.nil_append]; rotate_left 1)
  | (apply w_sti; exact rfl; exact rfl; rotate_left 1; exact rfl; rotate_left 2)
  | (apply w_stst; iterate 5 exact rfl)
  | (apply w_stbv; iterate 6 exact rfl)
  | (apply w_stbo; exact rfl; exact rfl; exact rfl; exact rfl; exact rfl; exact True.intro)
  | ((apply AOps.splitB; exact rfl; exact rfl) <;> intro h)
  | apply AllOf.nil
  | (apply AllOf.cons; exact rfl)
  | (apply AAny.take; exact rfl; exact rfl; kernel_rfl; kernel_rfl)
  | (apply AAny.all; exact rfl)
  | (apply AAny.done; exact rfl)
  | (apply inI_of <;> omega)
  | omega
  | (simp <;> omega))
  all_goals exact .int Try.results99 rfl (by omega)

theorem divisor_c (a b : Int) (ha : mid a) (hb : mid b) : AFnV Try.prog 74 [.i a, .i b] (.int .i64 (Int.gcd a b)) := by
  (refine AFnV.start Try.func74 Try.ntmps74 rfl (by kernel_rfl) fun hk => ?_; simp only [Env.start, enumF, List.length_cons, List.length_nil, Nat.reduceAdd, Nat.reduceSub, List.cons_append, List.nil_append])
  repeat' (first
  | (apply AOps.nil; try simp only [List.nil_append, List.cons_append, List.set_cons_zero, List.set_cons_succ, List.length_cons, List.length_nil, Nat.reduceAdd, AV.sh, AV.sh1, AV.sh0, AO.sh, List.map_cons, List.map_nil, Nat.zero_add, Nat.add_zero, setAll])
  | ((apply AOps.splitP; exact rfl; exact rfl) <;> intro h)
  | ((apply AOps.splitN; exact rfl; exact rfl) <;> intro h)
  | (apply w_move; exact rfl; exact rfl)
  | (apply w_assign; exact rfl; exact rfl)
  | apply AWp.seq
  | apply AWp.region
  | ((apply AWp.condP; exact rfl) <;> intro h)
  | ((apply AWp.condN; exact rfl) <;> intro h)
  | (apply AWp.condT; exact rfl)
  | (apply AWp.condF; exact rfl)
  | ((apply AWp.condB; exact rfl) <;> intro h)
  | apply AWp.block
  | apply AWp.ret
  | apply AWp.exit
  | apply AWp.skip
  | (apply AWp.regionQ; kernel_rfl; kernel_rfl)
  | (apply if_pos'; exact rfl)
  | (apply if_neg'; decide)
  | (apply w_skip; exact rfl)
  | (apply w_pickT; exact rfl; exact rfl; exact rfl)
  | (apply w_pickF; exact rfl; exact rfl; exact rfl)
  | (apply w_len; exact rfl; exact rfl; first | exact .ints _ | exact .intss _ | exact .sli rfl | exact .sls rfl | exact .slr rfl | exact .orow rfl | exact .nil)
  | (apply w_call (abs_c _ ha); exact rfl; exact rfl; focus ((repeat (first | exact im_nil | refine im_cons rfl (.val _) ?_ | refine im_cons rfl (.ints _) ?_ | refine im_cons rfl (.intss _) ?_ | refine im_cons rfl (.sli rfl) ?_ | refine im_cons rfl (.sls rfl) ?_ | refine im_cons rfl (.orow rfl) ?_ | refine im_cons rfl (.osub rfl (by simp; omega)) ?_ | refine im_cons rfl (.nil) ?_ | refine im_cons rfl (.nils) ?_ | refine im_cons rfl (im_agg2 (.val _) (.ints _)) ?_ | refine im_cons rfl (im_agg2 (.val _) (.sli rfl)) ?_ | refine im_cons rfl (im_agg2 (.val _) (.nil)) ?_ | refine im_cons rfl (im_agg2 (.ints _) (.intss _)) ?_ | refine im_cons rfl (im_agg2 (.ints _) (.sls rfl)) ?_ | refine im_cons rfl (im_agg2 (.sli rfl) (.intss _)) ?_ | refine im_cons rfl (im_agg2 (.sli rfl) (.sls rfl)) ?_ | refine im_cons rfl (im_agg1 (.ints _)) ?_ | refine im_cons rfl (im_agg1 (.sli rfl)) ?_ | refine im_cons rfl (im_agg1 (.intss _)) ?_ | refine im_cons rfl (im_agg1 (.sls rfl)) ?_ | refine im_cons rfl (im_agg1 (.nil)) ?_ | refine im_cons rfl (im_agg1 (.nils)) ?_)); done))
  | (apply w_call (abs_c _ hb); exact rfl; exact rfl; focus ((repeat (first | exact im_nil | refine im_cons rfl (.val _) ?_ | refine im_cons rfl (.ints _) ?_ | refine im_cons rfl (.intss _) ?_ | refine im_cons rfl (.sli rfl) ?_ | refine im_cons rfl (.sls rfl) ?_ | refine im_cons rfl (.orow rfl) ?_ | refine im_cons rfl (.osub rfl (by simp; omega)) ?_ | refine im_cons rfl (.nil) ?_ | refine im_cons rfl (.nils) ?_ | refine im_cons rfl (im_agg2 (.val _) (.ints _)) ?_ | refine im_cons rfl (im_agg2 (.val _) (.sli rfl)) ?_ | refine im_cons rfl (im_agg2 (.val _) (.nil)) ?_ | refine im_cons rfl (im_agg2 (.ints _) (.intss _)) ?_ | refine im_cons rfl (im_agg2 (.ints _) (.sls rfl)) ?_ | refine im_cons rfl (im_agg2 (.sli rfl) (.intss _)) ?_ | refine im_cons rfl (im_agg2 (.sli rfl) (.sls rfl)) ?_ | refine im_cons rfl (im_agg1 (.ints _)) ?_ | refine im_cons rfl (im_agg1 (.sli rfl)) ?_ | refine im_cons rfl (im_agg1 (.intss _)) ?_ | refine im_cons rfl (im_agg1 (.sls rfl)) ?_ | refine im_cons rfl (im_agg1 (.nil)) ?_ | refine im_cons rfl (im_agg1 (.nils)) ?_)); done))
  | ((first | apply w_lss | apply w_leq | apply w_gtr | apply w_geq | apply w_eql | apply w_neq | apply w_add | apply w_sub | apply w_mul | apply w_idx | apply w_ld | apply w_fld | apply w_fa | apply w_extv | apply w_min | apply w_max | apply w_slhi | apply w_sllo | apply w_bs2); iterate 3 exact rfl)
  | ((first | apply w_eqlb | apply w_neqb | apply w_idxs | apply w_lds | apply w_ext); iterate 3 exact rfl)
  | (apply w_rem; exact rfl; exact rfl; exact rfl; (focus (omega; done)); (focus (omega; done)))
  | (apply w_quo; exact rfl; exact rfl; exact rfl; (focus (omega; done)); (focus (omega; done)))
  | (apply w_remT; exact rfl; exact rfl; exact rfl)
  | (apply w_quoT; exact rfl; exact rfl; exact rfl)
  | ((first | apply w_not | apply w_neg | apply w_conv | apply w_build0 | apply w_bs1 | apply w_boxa); iterate 2 exact rfl)
  | (apply w_idxo; exact rfl; exact rfl; (first | exact .sli rfl | exact .sls rfl | exact .slr rfl); exact rfl)
  | ((first | apply w_idxr | apply w_ldr); iterate 4 exact rfl)
  | (apply w_ldo; iterate 4 exact rfl)
  | (apply w_ldls; iterate 4 exact rfl)
  | (apply w_ldrp; iterate 4 exact rfl)
  | (apply w_ldb; iterate 5 exact rfl)
  | (apply w_ldst; iterate 5 exact rfl)
  | ((first | apply w_sllh | apply w_stbi); iterate 4 exact rfl)
  | ((first | apply w_oslo | apply w_oshi | apply w_stbii); iterate 4 exact rfl)
  | (apply w_copy; exact rfl; (first | exact .own rfl rfl rfl | exact .osub); exact rfl; rotate_left 1; exact rfl; (first | exact .ints _ | exact .sli rfl | exact .orow rfl | exact .nil | exact .osub rfl (by simp; omega)))
  | (apply w_build1; exact rfl; exact rfl; (first | exact one_val rfl rfl | exact one_ints | exact one_intss | exact one_own rfl True.intro))
  | (apply w_build2; exact rfl; exact rfl; exact rfl; (first | exact one_val rfl rfl | exact one_ints | exact one_intss | exact one_own rfl True.intro); (first | exact one_val rfl rfl | exact one_ints | exact one_intss | exact one_own rfl True.intro))
  | (apply w_bs0; iterate 1 exact rfl)
  | (apply w_appn; exact rfl; exact rfl; (first | exact .ints _ | exact .sli rfl | exact .orow rfl | exact .nil | exact .osub rfl (by simp; omega)); exact rfl)
  | (apply w_app; exact rfl; exact rfl; exact rfl; exact rfl; (first | exact .ints _ | exact .sli rfl | exact .orow rfl | exact .nil | exact .osub rfl (by simp; omega)); rotate_left 1; simp only [Env.mp, List.map_cons, List.map_nil, List.set_cons_zero, List.set_cons_succ, AV.kill, AV.kill1, AO.kill, AV.noRow, AV.noRow1, AO.via, reduceIte, Nat.reduceEqDiff, Nat.reduceLT, Env.up, Nat.zero_ne_one, Nat.one_ne_zero, Nat.reduceAdd, List.cons_append, List.nil_append]; rotate_left 1)
  | (apply w_alst; iterate 2 exact rfl)
  | (apply w_alone; iterate 3 exact rfl)
  | (apply w_mki; exact rfl; exact rfl; rotate_left 3; exact rfl; rotate_left 1)
  | (apply w_mkr; exact rfl; exact rfl; rotate_left 3; exact rfl; rotate_left 1)
  | (apply w_strow; exact rfl; exact rfl; rotate_left 1; exact rfl; exact rfl; exact rfl; exact rfl; simp only [Env.mp, List.map_cons, List.map_nil, List.set_cons_zero, List.set_cons_succ, AV.kill, AV.kill1, AO.kill, AV.noRow, AV.noRow1, AO.via, reduceIte, Nat.reduceEqDiff, Nat.reduceLT, Env.up, Nat.zero_ne_one, Nat.one_ne_zero, Nat.reduceAdd, List.cons_append, List.nil_append]; rotate_left 1)
  | (apply w_sti; exact rfl; exact rfl; rotate_left 1; exact rfl; rotate_left 2)
  | (apply w_stst; iterate 5 exact rfl)
  | (apply w_stbv; iterate 6 exact rfl)
  | (apply w_stbo; exact rfl; exact rfl; exact rfl; exact rfl; exact rfl; exact True.intro)
  | ((apply AOps.splitB; exact rfl; exact rfl) <;> intro h)
  | apply AllOf.nil
  | (apply AllOf.cons; exact rfl)
  | (apply AAny.take; exact rfl; exact rfl; kernel_rfl; kernel_rfl)
  | (apply AAny.all; exact rfl)
  | (apply AAny.done; exact rfl)
  | (apply inI_of <;> omega)
  | omega
  | (simp <;> omega))
  unfold mid at ha hb
  refine AWp.loop (ι := Int × Int) (fun s => ⟨16, [(0, .i s.1), (1, .i s.2)]⟩) (fun _ => []) (fun s => 0 ≤ s.1 ∧ 0 ≤ s.2 ∧ s.1 ≤ 4611686018427387904 ∧ s.2 ≤ 4611686018427387904 ∧ Int.gcd s.1 s.2 = Int.gcd a b) (fun s => s.2.toNat) (a.natAbs, b.natAbs) ⟨by simp, by simp, by simp; omega, by simp; omega, by simp [Int.gcd]⟩ ⟨lee rfl (by (repeat (first | exact le_nil | refine le_eq rfl rfl ?_ | refine le_eq rfl (congrArg AV.i (by omega)) ?_))), by (repeat (first | exact lo_nil | refine lo_dead ?_ | refine lo_eq rfl ?_)), rfl, rfl⟩ ?_
  rintro ⟨x, y⟩ ⟨h0, h1, h2, h3, h4⟩
  simp only at h0 h1 h2 h3 h4
  repeat' (first
  | (apply AOps.nil; try simp only [List.nil_append, List.cons_append, List.set_cons_zero, List.set_cons_succ, List.length_cons, List.length_nil, Nat.reduceAdd, AV.sh, AV.sh1, AV.sh0, AO.sh, List.map_cons, List.map_nil, Nat.zero_add, Nat.add_zero, setAll])
  | ((apply AOps.splitP; exact rfl; exact rfl) <;> intro h)
  | ((apply AOps.splitN; exact rfl; exact rfl) <;> intro h)
  | (apply w_move; exact rfl; exact rfl)
  | (apply w_assign; exact rfl; exact rfl)
  | apply AWp.seq
  | apply AWp.region
  | ((apply AWp.condP; exact rfl) <;> intro h)
  | ((apply AWp.condN; exact rfl) <;> intro h)
  | (apply AWp.condT; exact rfl)
  | (apply AWp.condF; exact rfl)
  | ((apply AWp.condB; exact rfl) <;> intro h)
  | apply AWp.block
  | apply AWp.ret
  | apply AWp.exit
  | apply AWp.skip
  | (apply AWp.regionQ; kernel_rfl; kernel_rfl)
  | (apply if_pos'; exact rfl)
  | (apply if_neg'; decide)
  | (apply w_skip; exact rfl)
  | (apply w_pickT; exact rfl; exact rfl; exact rfl)
  | (apply w_pickF; exact rfl; exact rfl; exact rfl)
  | (apply w_len; exact rfl; exact rfl; first | exact .ints _ | exact .intss _ | exact .sli rfl | exact .sls rfl | exact .slr rfl | exact .orow rfl | exact .nil)
  | ((first | apply w_lss | apply w_leq | apply w_gtr | apply w_geq | apply w_eql | apply w_neq | apply w_add | apply w_sub | apply w_mul | apply w_idx | apply w_ld | apply w_fld | apply w_fa | apply w_extv | apply w_min | apply w_max | apply w_slhi | apply w_sllo | apply w_bs2); iterate 3 exact rfl)
  | ((first | apply w_eqlb | apply w_neqb | apply w_idxs | apply w_lds | apply w_ext); iterate 3 exact rfl)
  | (apply w_rem; exact rfl; exact rfl; exact rfl; (focus (omega; done)); (focus (omega; done)))
  | (apply w_quo; exact rfl; exact rfl; exact rfl; (focus (omega; done)); (focus (omega; done)))
  | (apply w_remT; exact rfl; exact rfl; exact rfl)
  | (apply w_quoT; exact rfl; exact rfl; exact rfl)
  | ((first | apply w_not | apply w_neg | apply w_conv | apply w_build0 | apply w_bs1 | apply w_boxa); iterate 2 exact rfl)
  | (apply w_idxo; exact rfl; exact rfl; (first | exact .sli rfl | exact .sls rfl | exact .slr rfl); exact rfl)
  | ((first | apply w_idxr | apply w_ldr); iterate 4 exact rfl)
  | (apply w_ldo; iterate 4 exact rfl)
  | (apply w_ldls; iterate 4 exact rfl)
  | (apply w_ldrp; iterate 4 exact rfl)
  | (apply w_ldb; iterate 5 exact rfl)
  | (apply w_ldst; iterate 5 exact rfl)
  | ((first | apply w_sllh | apply w_stbi); iterate 4 exact rfl)
  | ((first | apply w_oslo | apply w_oshi | apply w_stbii); iterate 4 exact rfl)
  | (apply w_copy; exact rfl; (first | exact .own rfl rfl rfl | exact .osub); exact rfl; rotate_left 1; exact rfl; (first | exact .ints _ | exact .sli rfl | exact .orow rfl | exact .nil | exact .osub rfl (by simp; omega)))
  | (apply w_build1; exact rfl; exact rfl; (first | exact one_val rfl rfl | exact one_ints | exact one_intss | exact one_own rfl True.intro))
  | (apply w_build2; exact rfl; exact rfl; exact rfl; (first | exact one_val rfl rfl | exact one_ints | exact one_intss | exact one_own rfl True.intro); (first | exact one_val rfl rfl | exact one_ints | exact one_intss | exact one_own rfl True.intro))
  | (apply w_bs0; iterate 1 exact rfl)
  | (apply w_appn; exact rfl; exact rfl; (first | exact .ints _ | exact .sli rfl | exact .orow rfl | exact .nil | exact .osub rfl (by simp; omega)); exact rfl)
  | (apply w_app; exact rfl; exact rfl; exact rfl; exact rfl; (first | exact .ints _ | exact .sli rfl | exact .orow rfl | exact .nil | exact .osub rfl (by simp; omega)); rotate_left 1; simp only [Env.mp, List.map_cons, List.map_nil, List.set_cons_zero, List.set_cons_succ, AV.kill, AV.kill1, AO.kill, AV.noRow, AV.noRow1, AO.via, reduceIte, Nat.reduceEqDiff, Nat.reduceLT, Env.up, Nat.zero_ne_one, Nat.one_ne_zero, Nat.reduceAdd, List.cons_append, List.nil_append]; rotate_left 1)
  | (apply w_alst; iterate 2 exact rfl)
  | (apply w_alone; iterate 3 exact rfl)
  | (apply w_mki; exact rfl; exact rfl; rotate_left 3; exact rfl; rotate_left 1)
  | (apply w_mkr; exact rfl; exact rfl; rotate_left 3; exact rfl; rotate_left 1)
  | (apply w_strow; exact rfl; exact rfl; rotate_left 1; exact rfl; exact rfl; exact rfl; exact rfl; simp only [Env.mp, List.map_cons, List.map_nil, List.set_cons_zero, List.set_cons_succ, AV.kill, AV.kill1, AO.kill, AV.noRow, AV.noRow1, AO.via, reduceIte, Nat.reduceEqDiff, Nat.reduceLT, Env.up, Nat.zero_ne_one, Nat.one_ne_zero, Nat.reduceAdd, List.cons_append, List.nil_append]; rotate_left 1)
  | (apply w_sti; exact rfl; exact rfl; rotate_left 1; exact rfl; rotate_left 2)
  | (apply w_stst; iterate 5 exact rfl)
  | (apply w_stbv; iterate 6 exact rfl)
  | (apply w_stbo; exact rfl; exact rfl; exact rfl; exact rfl; exact rfl; exact True.intro)
  | ((apply AOps.splitB; exact rfl; exact rfl) <;> intro h)
  | apply AllOf.nil
  | (apply AllOf.cons; exact rfl)
  | (apply AAny.take; exact rfl; exact rfl; kernel_rfl; kernel_rfl)
  | (apply AAny.all; exact rfl)
  | (apply AAny.done; exact rfl)
  | (apply inI_of <;> omega)
  | omega
  | (simp <;> omega))
  · have hlt := Int.emod_lt_of_pos x h
    have hge := Int.emod_nonneg x (show y ≠ 0 by omega)
    exact ⟨(y, x % y), ⟨h1, hge, h3, by simp only; omega, by simp only; rw [gcd_step x y h0 h, h4]⟩, by simp only; omega, ⟨lee rfl (by (repeat (first | exact le_nil | refine le_eq rfl rfl ?_ | refine le_eq rfl (congrArg AV.i (by omega)) ?_))), by (repeat (first | exact lo_nil | refine lo_dead ?_ | refine lo_eq rfl ?_)), rfl, rfl⟩⟩
  · have e : y = 0 := by omega
    subst e
    exact .int Try.results74 rfl (by rw [← h4]; simp; omega)

theorem l01Gcd_c (a b : Int) (ha : mid a) (hb : mid b) : AFnV Try.prog 66 [.i a, .i b] (.int .i64 (Int.gcd a b)) := by
  unfold mid at ha hb
  (refine AFnV.start Try.func66 Try.ntmps66 rfl (by kernel_rfl) fun hk => ?_; simp only [Env.start, enumF, List.length_cons, List.length_nil, Nat.reduceAdd, Nat.reduceSub, List.cons_append, List.nil_append])
  repeat' (first
  | (apply AOps.nil; try simp only [List.nil_append, List.cons_append, List.set_cons_zero, List.set_cons_succ, List.length_cons, List.length_nil, Nat.reduceAdd, AV.sh, AV.sh1, AV.sh0, AO.sh, List.map_cons, List.map_nil, Nat.zero_add, Nat.add_zero, setAll])
  | ((apply AOps.splitP; exact rfl; exact rfl) <;> intro h)
  | ((apply AOps.splitN; exact rfl; exact rfl) <;> intro h)
  | (apply w_move; exact rfl; exact rfl)
  | (apply w_assign; exact rfl; exact rfl)
  | apply AWp.seq
  | apply AWp.region
  | ((apply AWp.condP; exact rfl) <;> intro h)
  | ((apply AWp.condN; exact rfl) <;> intro h)
  | (apply AWp.condT; exact rfl)
  | (apply AWp.condF; exact rfl)
  | ((apply AWp.condB; exact rfl) <;> intro h)
  | apply AWp.block
  | apply AWp.ret
  | apply AWp.exit
  | apply AWp.skip
  | (apply AWp.regionQ; kernel_rfl; kernel_rfl)
  | (apply if_pos'; exact rfl)
  | (apply if_neg'; decide)
  | (apply w_skip; exact rfl)
  | (apply w_pickT; exact rfl; exact rfl; exact rfl)
  | (apply w_pickF; exact rfl; exact rfl; exact rfl)
  | (apply w_len; exact rfl; exact rfl; first | exact .ints _ | exact .intss _ | exact .sli rfl | exact .sls rfl | exact .slr rfl | exact .orow rfl | exact .nil)
  | ((first | apply w_lss | apply w_leq | apply w_gtr | apply w_geq | apply w_eql | apply w_neq | apply w_add | apply w_sub | apply w_mul | apply w_idx | apply w_ld | apply w_fld | apply w_fa | apply w_extv | apply w_min | apply w_max | apply w_slhi | apply w_sllo | apply w_bs2); iterate 3 exact rfl)
  | ((first | apply w_eqlb | apply w_neqb | apply w_idxs | apply w_lds | apply w_ext); iterate 3 exact rfl)
  | (apply w_rem; exact rfl; exact rfl; exact rfl; (focus (omega; done)); (focus (omega; done)))
  | (apply w_quo; exact rfl; exact rfl; exact rfl; (focus (omega; done)); (focus (omega; done)))
  | (apply w_remT; exact rfl; exact rfl; exact rfl)
  | (apply w_quoT; exact rfl; exact rfl; exact rfl)
  | ((first | apply w_not | apply w_neg | apply w_conv | apply w_build0 | apply w_bs1 | apply w_boxa); iterate 2 exact rfl)
  | (apply w_idxo; exact rfl; exact rfl; (first | exact .sli rfl | exact .sls rfl | exact .slr rfl); exact rfl)
  | ((first | apply w_idxr | apply w_ldr); iterate 4 exact rfl)
  | (apply w_ldo; iterate 4 exact rfl)
  | (apply w_ldls; iterate 4 exact rfl)
  | (apply w_ldrp; iterate 4 exact rfl)
  | (apply w_ldb; iterate 5 exact rfl)
  | (apply w_ldst; iterate 5 exact rfl)
  | ((first | apply w_sllh | apply w_stbi); iterate 4 exact rfl)
  | ((first | apply w_oslo | apply w_oshi | apply w_stbii); iterate 4 exact rfl)
  | (apply w_copy; exact rfl; (first | exact .own rfl rfl rfl | exact .osub); exact rfl; rotate_left 1; exact rfl; (first | exact .ints _ | exact .sli rfl | exact .orow rfl | exact .nil | exact .osub rfl (by simp; omega)))
  | (apply w_build1; exact rfl; exact rfl; (first | exact one_val rfl rfl | exact one_ints | exact one_intss | exact one_own rfl True.intro))
  | (apply w_build2; exact rfl; exact rfl; exact rfl; (first | exact one_val rfl rfl | exact one_ints | exact one_intss | exact one_own rfl True.intro); (first | exact one_val rfl rfl | exact one_ints | exact one_intss | exact one_own rfl True.intro))
  | (apply w_bs0; iterate 1 exact rfl)
  | (apply w_appn; exact rfl; exact rfl; (first | exact .ints _ | exact .sli rfl | exact .orow rfl | exact .nil | exact .osub rfl (by simp; omega)); exact rfl)
  | (apply w_app; exact rfl; exact rfl; exact rfl; exact rfl; (first | exact .ints _ | exact .sli rfl | exact .orow rfl | exact .nil | exact .osub rfl (by simp; omega)); rotate_left 1; simp only [Env.mp, List.map_cons, List.map_nil, List.set_cons_zero, List.set_cons_succ, AV.kill, AV.kill1, AO.kill, AV.noRow, AV.noRow1, AO.via, reduceIte, Nat.reduceEqDiff, Nat.reduceLT, Env.up, Nat.zero_ne_one, Nat.one_ne_zero, Nat.reduceAdd, List.cons_append, List.nil_append]; rotate_left 1)
  | (apply w_alst; iterate 2 exact rfl)
  | (apply w_alone; iterate 3 exact rfl)
  | (apply w_mki; exact rfl; exact rfl; rotate_left 3; exact rfl; rotate_left 1)
  | (apply w_mkr; exact rfl; exact rfl; rotate_left 3; exact rfl; rotate_left 1)
  | (apply w_strow; exact rfl; exact rfl; rotate_left 1; exact rfl; exact rfl; exact rfl; exact rfl; simp only [Env.mp, List.map_cons, List.map_nil, List.set_cons_zero, List.set_cons_succ, AV.kill, AV.kill1, AO.kill, AV.noRow, AV.noRow1, AO.via, reduceIte, Nat.reduceEqDiff, Nat.reduceLT, Env.up, Nat.zero_ne_one, Nat.one_ne_zero, Nat.reduceAdd, List.cons_append, List.nil_append]; rotate_left 1)
  | (apply w_sti; exact rfl; exact rfl; rotate_left 1; exact rfl; rotate_left 2)
  | (apply w_stst; iterate 5 exact rfl)
  | (apply w_stbv; iterate 6 exact rfl)
  | (apply w_stbo; exact rfl; exact rfl; exact rfl; exact rfl; exact rfl; exact True.intro)
  | ((apply AOps.splitB; exact rfl; exact rfl) <;> intro h)
  | apply AllOf.nil
  | (apply AllOf.cons; exact rfl)
  | (apply AAny.take; exact rfl; exact rfl; kernel_rfl; kernel_rfl)
  | (apply AAny.all; exact rfl)
  | (apply AAny.done; exact rfl)
  | (apply inI_of <;> omega)
  | omega
  | (simp <;> omega))
  all_goals refine AWp.loop (ι := Int × Int) (fun s => ⟨22, [(0, .i s.1), (1, .i s.2)]⟩) (fun _ => []) (fun s => 0 ≤ s.1 ∧ 0 ≤ s.2 ∧ s.1 ≤ 4611686018427387904 ∧ s.2 ≤ 4611686018427387904 ∧ Int.gcd s.1 s.2 = Int.gcd a b) (fun s => s.2.toNat) (a.natAbs, b.natAbs) ⟨by simp, by simp, by simp; omega, by simp; omega, by simp [Int.gcd]⟩ ⟨lee rfl (by (repeat (first | exact le_nil | refine le_eq rfl rfl ?_ | refine le_eq rfl (congrArg AV.i (by omega)) ?_))), by (repeat (first | exact lo_nil | refine lo_dead ?_ | refine lo_eq rfl ?_)), rfl, rfl⟩ ?_
  all_goals rintro ⟨x, y⟩ ⟨h0, h1, h2, h3, h4⟩
  all_goals simp only at h0 h1 h2 h3 h4
  all_goals repeat' (first
  | (apply AOps.nil; try simp only [List.nil_append, List.cons_append, List.set_cons_zero, List.set_cons_succ, List.length_cons, List.length_nil, Nat.reduceAdd, AV.sh, AV.sh1, AV.sh0, AO.sh, List.map_cons, List.map_nil, Nat.zero_add, Nat.add_zero, setAll])
  | ((apply AOps.splitP; exact rfl; exact rfl) <;> intro h)
  | ((apply AOps.splitN; exact rfl; exact rfl) <;> intro h)
  | (apply w_move; exact rfl; exact rfl)
  | (apply w_assign; exact rfl; exact rfl)
  | apply AWp.seq
  | apply AWp.region
  | ((apply AWp.condP; exact rfl) <;> intro h)
  | ((apply AWp.condN; exact rfl) <;> intro h)
  | (apply AWp.condT; exact rfl)
  | (apply AWp.condF; exact rfl)
  | ((apply AWp.condB; exact rfl) <;> intro h)
  | apply AWp.block
  | apply AWp.ret
  | apply AWp.exit
  | apply AWp.skip
  | (apply AWp.regionQ; kernel_rfl; kernel_rfl)
  | (apply if_pos'; exact rfl)
  | (apply if_neg'; decide)
  | (apply w_skip; exact rfl)
  | (apply w_pickT; exact rfl; exact rfl; exact rfl)
  | (apply w_pickF; exact rfl; exact rfl; exact rfl)
  | (apply w_len; exact rfl; exact rfl; first | exact .ints _ | exact .intss _ | exact .sli rfl | exact .sls rfl | exact .slr rfl | exact .orow rfl | exact .nil)
  | ((first | apply w_lss | apply w_leq | apply w_gtr | apply w_geq | apply w_eql | apply w_neq | apply w_add | apply w_sub | apply w_mul | apply w_idx | apply w_ld | apply w_fld | apply w_fa | apply w_extv | apply w_min | apply w_max | apply w_slhi | apply w_sllo | apply w_bs2); iterate 3 exact rfl)
  | ((first | apply w_eqlb | apply w_neqb | apply w_idxs | apply w_lds | apply w_ext); iterate 3 exact rfl)
  | (apply w_rem; exact rfl; exact rfl; exact rfl; (focus (omega; done)); (focus (omega; done)))
  | (apply w_quo; exact rfl; exact rfl; exact rfl; (focus (omega; done)); (focus (omega; done)))
  | (apply w_remT; exact rfl; exact rfl; exact rfl)
  | (apply w_quoT; exact rfl; exact rfl; exact rfl)
  | ((first | apply w_not | apply w_neg | apply w_conv | apply w_build0 | apply w_bs1 | apply w_boxa); iterate 2 exact rfl)
  | (apply w_idxo; exact rfl; exact rfl; (first | exact .sli rfl | exact .sls rfl | exact .slr rfl); exact rfl)
  | ((first | apply w_idxr | apply w_ldr); iterate 4 exact rfl)
  | (apply w_ldo; iterate 4 exact rfl)
  | (apply w_ldls; iterate 4 exact rfl)
  | (apply w_ldrp; iterate 4 exact rfl)
  | (apply w_ldb; iterate 5 exact rfl)
  | (apply w_ldst; iterate 5 exact rfl)
  | ((first | apply w_sllh | apply w_stbi); iterate 4 exact rfl)
  | ((first | apply w_oslo | apply w_oshi | apply w_stbii); iterate 4 exact rfl)
  | (apply w_copy; exact rfl; (first | exact .own rfl rfl rfl | exact .osub); exact rfl; rotate_left 1; exact rfl; (first | exact .ints _ | exact .sli rfl | exact .orow rfl | exact .nil | exact .osub rfl (by simp; omega)))
  | (apply w_build1; exact rfl; exact rfl; (first | exact one_val rfl rfl | exact one_ints | exact one_intss | exact one_own rfl True.intro))
  | (apply w_build2; exact rfl; exact rfl; exact rfl; (first | exact one_val rfl rfl | exact one_ints | exact one_intss | exact one_own rfl True.intro); (first | exact one_val rfl rfl | exact one_ints | exact one_intss | exact one_own rfl True.intro))
  | (apply w_bs0; iterate 1 exact rfl)
  | (apply w_appn; exact rfl; exact rfl; (first | exact .ints _ | exact .sli rfl | exact .orow rfl | exact .nil | exact .osub rfl (by simp; omega)); exact rfl)
  | (apply w_app; exact rfl; exact rfl; exact rfl; exact rfl; (first | exact .ints _ | exact .sli rfl | exact .orow rfl | exact .nil | exact .osub rfl (by simp; omega)); rotate_left 1; simp only [Env.mp, List.map_cons, List.map_nil, List.set_cons_zero, List.set_cons_succ, AV.kill, AV.kill1, AO.kill, AV.noRow, AV.noRow1, AO.via, reduceIte, Nat.reduceEqDiff, Nat.reduceLT, Env.up, Nat.zero_ne_one, Nat.one_ne_zero, Nat.reduceAdd, List.cons_append, List.nil_append]; rotate_left 1)
  | (apply w_alst; iterate 2 exact rfl)
  | (apply w_alone; iterate 3 exact rfl)
  | (apply w_mki; exact rfl; exact rfl; rotate_left 3; exact rfl; rotate_left 1)
  | (apply w_mkr; exact rfl; exact rfl; rotate_left 3; exact rfl; rotate_left 1)
  | (apply w_strow; exact rfl; exact rfl; rotate_left 1; exact rfl; exact rfl; exact rfl; exact rfl; simp only [Env.mp, List.map_cons, List.map_nil, List.set_cons_zero, List.set_cons_succ, AV.kill, AV.kill1, AO.kill, AV.noRow, AV.noRow1, AO.via, reduceIte, Nat.reduceEqDiff, Nat.reduceLT, Env.up, Nat.zero_ne_one, Nat.one_ne_zero, Nat.reduceAdd, List.cons_append, List.nil_append]; rotate_left 1)
  | (apply w_sti; exact rfl; exact rfl; rotate_left 1; exact rfl; rotate_left 2)
  | (apply w_stst; iterate 5 exact rfl)
  | (apply w_stbv; iterate 6 exact rfl)
  | (apply w_stbo; exact rfl; exact rfl; exact rfl; exact rfl; exact rfl; exact True.intro)
  | ((apply AOps.splitB; exact rfl; exact rfl) <;> intro h)
  | apply AllOf.nil
  | (apply AllOf.cons; exact rfl)
  | (apply AAny.take; exact rfl; exact rfl; kernel_rfl; kernel_rfl)
  | (apply AAny.all; exact rfl)
  | (apply AAny.done; exact rfl)
  | (apply inI_of <;> omega)
  | omega
  | (simp <;> omega))
  all_goals first
    | (have hlt := Int.emod_lt_of_pos x h
       have hge := Int.emod_nonneg x (show y ≠ 0 by omega)
       exact ⟨(y, x % y), ⟨h1, hge, h3, by simp only; omega, by simp only; rw [gcd_step x y h0 h, h4]⟩, by simp only; omega, ⟨lee rfl (by (repeat (first | exact le_nil | refine le_eq rfl rfl ?_ | refine le_eq rfl (congrArg AV.i (by omega)) ?_))), by (repeat (first | exact lo_nil | refine lo_dead ?_ | refine lo_eq rfl ?_)), rfl, rfl⟩⟩)
    | (have e : y = 0 := by omega
       subst e
       exact .int Try.results66 rfl (by rw [← h4]; simp; omega))
end Go.Proofs.Ytifkgmbghcmdeaa
/-
  Nondegenerate polynomials: what both sides compute. No condition.
-/
namespace Go.Proofs.Ytifkgmbghcmdeaa
open Go Go.RowKit

/-! ### Vertices are of the support -/
theorem hasV_mem {xss V : List (List Int)} (h : HasV xss V) : ∀ v ∈ V, v ∈ xss := by
  obtain ⟨m, r, rfl, h1, h2, h3⟩ := h
  have hc := gwf_chain h3 (fun q hq hy => by
    have := h2 q hq
    unfold Hl.lexle at this
    simp only [gX, gY] at *
    omega)
  intro v hv
  rcases List.mem_cons.1 hv with rfl | hv
  · exact h1
  · exact hc.2 v hv
theorem sup_row {f : List (List Int)} (h : isPo f = true) : ∀ v ∈ supL f f.length, v.length = 2 ∧ (0 ≤ geti v 0 ∧ geti v 0 ≤ 60) ∧ (0 ≤ geti v 1 ∧ geti v 1 ≤ 60) := by
  intro v hv
  obtain ⟨z1, z2⟩ := isPo_of h
  unfold supL at hv
  obtain ⟨j, hj, rfl⟩ := List.mem_map.1 hv
  obtain ⟨y1, y2, y3, y4, _⟩ := z2 j (List.mem_range.1 hj)
  exact ⟨rfl, y2, y3⟩
theorem cof_in {f : List (List Int)} (h : isPo f = true) (a b : Int) : 0 ≤ cof f a b ∧ cof f a b ≤ 55440 := by
  by_cases h0 : cof f a b = 0
  · omega
  · obtain ⟨t, ht, _, _, e⟩ := mem_cof h0
    have h1 := (po_nz h).1 t ht
    have h2 := (po_nz h).2 t ht
    omega
theorem cof_sup {f : List (List Int)} (h : isPo f = true) {v : List Int} (hv : v ∈ supL f f.length) : 1 ≤ cof f (geti v 0) (geti v 1) := by
  unfold supL at hv
  obtain ⟨j, hj, rfl⟩ := List.mem_map.1 hv
  have hj' := List.mem_range.1 hj
  obtain ⟨z1, z2⟩ := isPo_of h
  obtain ⟨y1, y2, y3, y4, _⟩ := z2 j hj'
  have hm : gets f (j : Nat) ∈ f := by simp [gets, hj']
  show 1 ≤ cof f (geti (gets f (j : Nat)) 0) (geti (gets f (j : Nat)) 1)
  rw [cof_mem (srt_key (po_srt h)) (fun t ht => by have := ((po_nz h).1 t ht).2; omega) (gets f (j : Nat)) hm rfl rfl]
  omega

/-! ### The polynomial of an edge -/
def egN (E : List (List Int)) (n : Nat) : Int := ((Int.gcd (geti (E.getD (n : Int).toNat []) ((Int.toNat 0 : Nat) : Int)) (geti (E.getD (n : Int).toNat []) ((Int.toNat 1 : Nat) : Int)) : Nat) : Int)
def ndA (V E : List (List Int)) (n m : Nat) : Int := geti (V.getD (n : Int).toNat []) ((Int.toNat 0 : Nat) : Int) + (m : Int) * geti (E.getD (n : Int).toNat []) ((Int.toNat 0 : Nat) : Int) / egN E n
def ndB (V E : List (List Int)) (n m : Nat) : Int := geti (V.getD (n : Int).toNat []) ((Int.toNat 1 : Nat) : Int) - (m : Int) * geti (E.getD (n : Int).toNat []) ((Int.toNat 1 : Nat) : Int) / egN E n
def ndH (f V E : List (List Int)) (n k : Nat) : List Int := (List.range k).map fun m => cof f (ndA V E n m) (ndB V E n m)
theorem ndH_len (f V E : List (List Int)) (n k : Nat) : (ndH f V E n k).length = k := by simp [ndH]
theorem ndH_succ (f V E : List (List Int)) (n k : Nat) : ndH f V E n k ++ [cof f (ndA V E n k) (ndB V E n k)] = ndH f V E n (k + 1) := by simp [ndH, List.range_succ]
theorem ndH_get (f V E : List (List Int)) (n k m : Nat) (h : m < k) : geti (ndH f V E n k) (m : Nat) = cof f (ndA V E n m) (ndB V E n m) := by simp [ndH, geti, h]
theorem ndH_in {f : List (List Int)} (hf : isPo f = true) (V E : List (List Int)) (n k : Nat) : inF (ndH f V E n k) := by
  intro i
  unfold geti ndH
  rw [List.getD_eq_getElem?_getD, List.getElem?_map]
  cases h : (List.range k)[i.toNat]? with
  | none => simp
  | some m => exact cof_in hf _ _
def ndP (f V E : List (List Int)) (n : Nat) : List Int := ndH f V E n (egN E n + 1).toNat
noncomputable def ndK (f V E : List (List Int)) (n : Nat) : Bool := decide ((sqR (ndP f V E n)).length = 1)
noncomputable def ndV (f : List (List Int)) : List (List Int) := verts (supL f f.length)
noncomputable def ndE (f : List (List Int)) : List (List Int) := edL (ndV f) ((ndV f).length - 1)
noncomputable def ndR (f : List (List Int)) : Bool := decide (poE f = 0) && (List.range (ndE f).length).all fun n => ndK f (ndV f) (ndE f) n

structure NdI (f : List (List Int)) : Prop where
  v : VOk 60 (ndV f)
  e : ∀ n : Nat, n < (ndE f).length → n + 1 < (ndV f).length ∧ ((ndE f).getD (n : Int).toNat []).length = 2 ∧ (1 ≤ geti ((ndE f).getD (n : Int).toNat []) ((Int.toNat 0 : Nat) : Int) ∧ geti ((ndE f).getD (n : Int).toNat []) ((Int.toNat 0 : Nat) : Int) ≤ 60) ∧ (1 ≤ geti ((ndE f).getD (n : Int).toNat []) ((Int.toNat 1 : Nat) : Int) ∧ geti ((ndE f).getD (n : Int).toNat []) ((Int.toNat 1 : Nat) : Int) ≤ 60)
  g : ∀ n : Nat, n < (ndE f).length → 1 ≤ egN (ndE f) n ∧ egN (ndE f) n ≤ 60
  z : ∀ n : Nat, n < (ndE f).length → 1 ≤ cof f (ndA (ndV f) (ndE f) n (egN (ndE f) n).toNat) (ndB (ndV f) (ndE f) n (egN (ndE f) n).toNat)
theorem nd_ok {f : List (List Int)} (h : isPo f = true) (h0 : 0 < f.length) : NdI f := by
  have hs0 : 0 < (supL f f.length).length := by rw [supL_len]; exact h0
  have hv : VOk 60 (ndV f) := verts_ok hs0 (sup_row h)
  have hm : ∀ v ∈ ndV f, v ∈ supL f f.length := by
    obtain ⟨W, hW⟩ := verts_ex hs0 (fun r hr => (sup_row h r hr).2.2.1)
    unfold ndV
    rw [verts_eq (fun r hr => (sup_row h r hr).1) hW]
    exact hasV_mem hW
  have he : ∀ n : Nat, n < (ndE f).length → n + 1 < (ndV f).length ∧ (ndE f).getD (n : Int).toNat [] = [geti (gets (ndV f) ((n : Nat) + 1 : Int)) 0 - geti (gets (ndV f) (n : Nat)) 0, geti (gets (ndV f) (n : Nat)) 1 - geti (gets (ndV f) ((n : Nat) + 1 : Int)) 1] := by
    intro n hn
    unfold ndE at hn
    rw [edL_len] at hn
    refine ⟨by omega, ?_⟩
    unfold ndE edL
    rw [Int.toNat_natCast, List.getD_eq_getElem?_getD, List.getElem?_map, List.getElem?_range hn]
    rfl
  have hrow : ∀ n : Nat, n < (ndE f).length → n + 1 < (ndV f).length ∧ ((ndE f).getD (n : Int).toNat []).length = 2 ∧ (1 ≤ geti ((ndE f).getD (n : Int).toNat []) ((Int.toNat 0 : Nat) : Int) ∧ geti ((ndE f).getD (n : Int).toNat []) ((Int.toNat 0 : Nat) : Int) ≤ 60) ∧ (1 ≤ geti ((ndE f).getD (n : Int).toNat []) ((Int.toNat 1 : Nat) : Int) ∧ geti ((ndE f).getD (n : Int).toNat []) ((Int.toNat 1 : Nat) : Int) ≤ 60) := by
    intro n hn
    obtain ⟨h1, h2⟩ := he n hn
    rw [h2]
    have a1 := hv.at n (by omega)
    have a2 := hv.at (n + 1) h1
    have a3 := hv.inc n h1
    rw [show (((n + 1 : Nat) : Nat) : Int) = (n : Int) + 1 by omega] at a2
    refine ⟨h1, rfl, ?_, ?_⟩
    · show 1 ≤ geti (gets (ndV f) ((n : Nat) + 1 : Int)) 0 - geti (gets (ndV f) (n : Nat)) 0 ∧ geti (gets (ndV f) ((n : Nat) + 1 : Int)) 0 - geti (gets (ndV f) (n : Nat)) 0 ≤ 60
      omega
    · show 1 ≤ geti (gets (ndV f) (n : Nat)) 1 - geti (gets (ndV f) ((n : Nat) + 1 : Int)) 1 ∧ geti (gets (ndV f) (n : Nat)) 1 - geti (gets (ndV f) ((n : Nat) + 1 : Int)) 1 ≤ 60
      omega
  have hg : ∀ n : Nat, n < (ndE f).length → 1 ≤ egN (ndE f) n ∧ egN (ndE f) n ≤ 60 := by
    intro n hn
    obtain ⟨_, _, h3, h4⟩ := hrow n hn
    unfold egN
    have p1 := Int.gcd_pos_of_ne_zero_left (geti ((ndE f).getD (n : Int).toNat []) ((Int.toNat 1 : Nat) : Int)) (show geti ((ndE f).getD (n : Int).toNat []) ((Int.toNat 0 : Nat) : Int) ≠ 0 by omega)
    have p2 := Int.le_of_dvd (by omega) (Int.gcd_dvd_left (geti ((ndE f).getD (n : Int).toNat []) ((Int.toNat 0 : Nat) : Int)) (geti ((ndE f).getD (n : Int).toNat []) ((Int.toNat 1 : Nat) : Int)))
    omega
  refine ⟨hv, hrow, hg, fun n hn => ?_⟩
  obtain ⟨h1, h2⟩ := he n hn
  have hgn := hg n hn
  have ecast : (((egN (ndE f) n).toNat : Nat) : Int) = egN (ndE f) n := by omega
  have hmem : gets (ndV f) ((n : Nat) + 1 : Int) ∈ ndV f := gets_mem (by omega) (by omega)
  have hc := cof_sup h (hm _ hmem)
  have e0 : ndA (ndV f) (ndE f) n (egN (ndE f) n).toNat = geti (gets (ndV f) ((n : Nat) + 1 : Int)) 0 := by
    unfold ndA
    rw [ecast, Int.mul_ediv_cancel_left _ (by omega), h2]
    show geti (gets (ndV f) (n : Nat)) 0 + (geti (gets (ndV f) ((n : Nat) + 1 : Int)) 0 - geti (gets (ndV f) (n : Nat)) 0) = _
    omega
  have e1 : ndB (ndV f) (ndE f) n (egN (ndE f) n).toNat = geti (gets (ndV f) ((n : Nat) + 1 : Int)) 1 := by
    unfold ndB
    rw [ecast, Int.mul_ediv_cancel_left _ (by omega), h2]
    show geti (gets (ndV f) (n : Nat)) 1 - (geti (gets (ndV f) (n : Nat)) 1 - geti (gets (ndV f) ((n : Nat) + 1 : Int)) 1) = _
    omega
  rw [e0, e1]
  exact hc
theorem ndP_len {f : List (List Int)} (h : NdI f) {n : Nat} (hn : n < (ndE f).length) : ((ndP f (ndV f) (ndE f) n).length : Int) = egN (ndE f) n + 1 := by
  have := h.g n hn
  unfold ndP
  rw [ndH_len]; omega
theorem ndP_last {f : List (List Int)} (h : NdI f) {n : Nat} (hn : n < (ndE f).length) : Tm (ndP f (ndV f) (ndE f) n) := by
  right
  have hl := ndP_len h hn
  have hg := h.g n hn
  have hz := h.z n hn
  have e : (ndP f (ndV f) (ndE f) n).length - 1 = (egN (ndE f) n).toNat := by omega
  rw [e]
  unfold ndP
  rw [ndH_get _ _ _ _ _ _ (by omega)]
  omega
end Go.Proofs.Ytifkgmbghcmdeaa
/-
  Nondegenerate polynomials: the program. No condition.
-/
namespace Go.Proofs.Ytifkgmbghcmdeaa
open Go Go.RowKit
attribute [local irreducible] AWp AOps ResIs Ret1 QOp LOp COp AFnV AFn Imms LeE LeO
set_option maxHeartbeats 1000000
set_option linter.unusedSimpArgs false
set_option linter.unusedVariables false

theorem nd_corners {f : List (List Int)} (h : isPo f = true) (h0 : 0 < f.length) : AFn Try.prog 71 [.intss (supL f f.length)] (IsIntss 22 2 (ndV f)) :=
  corners_c _ (by rw [supL_len]; exact h0) (by rw [supL_len]; have := (isPo_of h).1; omega) fun r hr => by
    have := sup_row h r hr
    unfold PB
    omega
theorem nd_sqf {f : List (List Int)} (h : isPo f = true) (hi : NdI f) {n : Nat} (hn : n < (ndE f).length) : AFnV Try.prog 75 [.ints (ndP f (ndV f) (ndE f) n)] (.bool (ndK f (ndV f) (ndE f) n)) := by
  have hl := ndP_len hi hn
  have hg := hi.g n hn
  exact isSquareFree_c _ (ndH_in h _ _ _ _) (by omega) (by omega) (tm_pos (ndP_last hi hn) (by omega))
theorem mul60 {m x e : Int} (hm : 0 ≤ m ∧ m ≤ 60) (hx : 1 ≤ x ∧ x ≤ 60) (he : 1 ≤ e) : (0 ≤ m * x ∧ m * x ≤ 3600) ∧ (0 ≤ m * x / e ∧ m * x / e ≤ 3600) := by
  have h1 : 0 ≤ m * x ∧ m * x ≤ 60 * 60 := ⟨Int.mul_nonneg hm.1 (by omega), Int.mul_le_mul hm.2 hx.2 (by omega) (by omega)⟩
  have h2 := Int.ediv_nonneg h1.1 (show (0 : Int) ≤ e by omega)
  have h3 := Int.ediv_le_self e h1.1
  omega

set_option maxHeartbeats 8000000 in
theorem implNd_c (f : List (List Int)) : AFnV Try.prog 34 [.agg [.intss f]] (.tuple #[.bool (ndR f), .int .i64 (poE f)]) := by
  have q1 := implIsPoly_c f
  cases hpo : isPo f with
  | false =>
    have e1 : poE f = 1 := by unfold poE; rw [if_neg (by simp [hpo])]
    have e2 : ndR f = false := by unfold ndR; rw [e1]; rfl
    rw [hpo] at q1
    rw [e1, e2]
    (refine AFnV.start Try.func34 Try.ntmps34 rfl (by kernel_rfl) fun hk => ?_; simp only [Env.start, enumF, List.length_cons, List.length_nil, Nat.reduceAdd, Nat.reduceSub, List.cons_append, List.nil_append])
    repeat' (first | (apply AOps.nil; try simp only [List.nil_append, List.cons_append, List.set_cons_zero, List.set_cons_succ, List.length_cons, List.length_nil, Nat.reduceAdd, AV.sh, AV.sh1, AV.sh0, AO.sh, List.map_cons, List.map_nil, Nat.zero_add, Nat.add_zero, setAll]) | (apply w_assign; exact rfl; exact rfl) | apply AWp.seq | apply AWp.region | (apply AWp.condT; exact rfl) | apply AWp.ret | (apply w_call (q1); exact rfl; exact rfl; focus ((repeat (first | exact im_nil | refine im_cons rfl (im_agg1 (.intss _)) ?_)); done)) | ((first | apply w_not | apply w_boxa); iterate 2 exact rfl) | (apply w_ldst; iterate 5 exact rfl))
    all_goals exact .boolint Try.results34 rfl rfl rfl rfl
  | true =>
  rw [hpo] at q1
  by_cases h0 : f.length = 0
  · have e1 : poE f = 5 := by unfold poE; rw [if_pos hpo, if_pos h0]
    have e2 : ndR f = false := by unfold ndR; rw [e1]; rfl
    rw [e1, e2]
    (refine AFnV.start Try.func34 Try.ntmps34 rfl (by kernel_rfl) fun hk => ?_; simp only [Env.start, enumF, List.length_cons, List.length_nil, Nat.reduceAdd, Nat.reduceSub, List.cons_append, List.nil_append])
    repeat' (first | (apply AOps.nil; try simp only [List.nil_append, List.cons_append, List.set_cons_zero, List.set_cons_succ, List.length_cons, List.length_nil, Nat.reduceAdd, AV.sh, AV.sh1, AV.sh0, AO.sh, List.map_cons, List.map_nil, Nat.zero_add, Nat.add_zero, setAll]) | (apply w_assign; exact rfl; exact rfl) | apply AWp.seq | apply AWp.region | ((apply AWp.condP; exact rfl) <;> intro h) | (apply AWp.condF; exact rfl) | apply AWp.ret | apply AWp.skip | (apply w_len; exact rfl; exact rfl; first | exact .ints _ | exact .intss _ | exact .sli rfl | exact .sls rfl | exact .slr rfl | exact .orow rfl | exact .nil) | (apply w_call (q1); exact rfl; exact rfl; focus ((repeat (first | exact im_nil | refine im_cons rfl (im_agg1 (.intss _)) ?_)); done)) | omega | ((first | apply w_eql | apply w_ld | apply w_fa); iterate 3 exact rfl) | ((first | apply w_not | apply w_boxa); iterate 2 exact rfl) | (apply w_ldb; iterate 5 exact rfl) | (apply w_ldst; iterate 5 exact rfl))
    all_goals exact .boolint Try.results34 rfl rfl rfl rfl
  have e1 : poE f = 0 := by unfold poE; rw [if_pos hpo, if_neg h0]
  have hi := nd_ok hpo (by omega)
  have hpl := (isPo_of hpo).1
  have hco := nd_corners hpo (by omega)
  have hed := edgesBetween_c (B := 60) (by omega) (ndV f) hi.v
  change AFn Try.prog 73 [.intss (ndV f)] (IsIntss 22 2 (ndE f)) at hed
  have e2 : ndR f = (List.range (ndE f).length).all fun n => ndK f (ndV f) (ndE f) n := by unfold ndR; rw [e1]; rfl
  rw [e1, e2]
  have hvl := hi.v.len
  have hel : (ndE f).length = (ndV f).length - 1 := by unfold ndE; rw [edL_len]
  have heI := hi.e
  have hgI := hi.g
  have hvI := hi.v.at
  have hsq := @nd_sqf f hpo hi
  have hzz := hi.z
  clear hi
  unfold ndP at hsq
  generalize ndV f = V at *
  generalize ndE f = E at *
  (refine AFnV.start Try.func34 Try.ntmps34 rfl (by kernel_rfl) fun hk => ?_; simp only [Env.start, enumF, List.length_cons, List.length_nil, Nat.reduceAdd, Nat.reduceSub, List.cons_append, List.nil_append])
  repeat' (first | (apply AOps.nil; try simp only [List.nil_append, List.cons_append, List.set_cons_zero, List.set_cons_succ, List.length_cons, List.length_nil, Nat.reduceAdd, AV.sh, AV.sh1, AV.sh0, AO.sh, List.map_cons, List.map_nil, Nat.zero_add, Nat.add_zero, setAll]) | (apply w_move; exact rfl; exact rfl) | (apply w_assign; exact rfl; exact rfl) | apply AWp.seq | apply AWp.region | ((apply AWp.condP; exact rfl) <;> intro h) | (apply AWp.condF; exact rfl) | apply AWp.block | apply AWp.ret | apply AWp.skip | (apply w_len; exact rfl; exact rfl; first | exact .ints _ | exact .intss _ | exact .sli rfl | exact .sls rfl | exact .slr rfl | exact .orow rfl | exact .nil) | (apply w_call (q1); exact rfl; exact rfl; focus ((repeat (first | exact im_nil | refine im_cons rfl (im_agg1 (.intss _)) ?_)); done)) | (apply w_callm (sparseOf_c f hpo); (focus ((repeat (first | exact im_nil | refine im_cons rfl (im_agg1 (.intss _)) ?_)); done)); rintro r os0 ⟨rfl, rfl⟩; try simp only [List.nil_append, List.cons_append, List.set_cons_zero, List.set_cons_succ, List.length_cons, List.length_nil, Nat.reduceAdd, AV.sh, AV.sh1, AV.sh0, AO.sh, List.map_cons, List.map_nil, Nat.zero_add, Nat.add_zero, setAll]) | (apply w_callm (implSupportOf1_c f hpo); (focus ((repeat (first | exact im_nil | refine im_cons rfl (im_agg1 (.intss _)) ?_)); done)); rintro r os0 ⟨rfl, rfl⟩; try simp only [List.nil_append, List.cons_append, List.set_cons_zero, List.set_cons_succ, List.length_cons, List.length_nil, Nat.reduceAdd, AV.sh, AV.sh1, AV.sh0, AO.sh, List.map_cons, List.map_nil, Nat.zero_add, Nat.add_zero, setAll]) | (apply w_callm (hco); (focus ((repeat (first | exact im_nil | refine im_cons rfl (.sls rfl) ?_)); done)); rintro r os0 ⟨rfl, rfl⟩; try simp only [List.nil_append, List.cons_append, List.set_cons_zero, List.set_cons_succ, List.length_cons, List.length_nil, Nat.reduceAdd, AV.sh, AV.sh1, AV.sh0, AO.sh, List.map_cons, List.map_nil, Nat.zero_add, Nat.add_zero, setAll]) | (apply w_callm (hed); (focus ((repeat (first | exact im_nil | refine im_cons rfl (.sls rfl) ?_)); done)); rintro r os0 ⟨rfl, rfl⟩; try simp only [List.nil_append, List.cons_append, List.set_cons_zero, List.set_cons_succ, List.length_cons, List.length_nil, Nat.reduceAdd, AV.sh, AV.sh1, AV.sh0, AO.sh, List.map_cons, List.map_nil, Nat.zero_add, Nat.add_zero, setAll]) | omega | ((first | apply w_eql | apply w_ld | apply w_fa); iterate 3 exact rfl) | ((first | apply w_not | apply w_boxa); iterate 2 exact rfl) | (apply w_ldb; iterate 5 exact rfl) | (apply w_ldst; iterate 5 exact rfl))
  refine AWp.loop (ι := Nat) (fun n => ⟨83, [(4, .own 1), (5, .own 3), (24, .own 4), (25, .i E.length), (26, .i n)]⟩) (fun n => [.bx 50 [.intss f], .ob (mapOb (f.map toT)), .sls 22 2 (supL f f.length), .sls 22 2 V, .sls 22 2 E]) (fun n => n ≤ E.length ∧ ∀ j, j < n → ndK f V E j = true) (fun n => E.length - n) 0 ⟨by omega, fun j hj => by omega⟩ ⟨lee rfl (by (repeat (first | exact le_nil | refine le_eq rfl rfl ?_))), by (repeat (first | exact lo_nil | refine lo_eq rfl ?_)), rfl, rfl⟩ ?_
  rintro n ⟨n0, n1⟩
  by_cases hn : n < E.length
  · obtain ⟨p0, p1, p2, p3⟩ := heI n hn
    have g1 := hgI n hn
    obtain ⟨v1, v2, v3⟩ := hvI n (by omega)
    have v1' : (V.getD (n : Int).toNat []).length = 2 := v1
    have v2' : 0 ≤ geti (V.getD (n : Int).toNat []) ((Int.toNat 0 : Nat) : Int) ∧ geti (V.getD (n : Int).toNat []) ((Int.toNat 0 : Nat) : Int) ≤ 60 := v2
    have v3' : 0 ≤ geti (V.getD (n : Int).toNat []) ((Int.toNat 1 : Nat) : Int) ∧ geti (V.getD (n : Int).toNat []) ((Int.toNat 1 : Nat) : Int) ≤ 60 := v3
    have cg := divisor_c (geti (E.getD (n : Int).toNat []) ((Int.toNat 0 : Nat) : Int)) (geti (E.getD (n : Int).toNat []) ((Int.toNat 1 : Nat) : Int)) (by unfold mid; omega) (by unfold mid; omega)
    have eg : ((Int.gcd (geti (E.getD (n : Int).toNat []) ((Int.toNat 0 : Nat) : Int)) (geti (E.getD (n : Int).toNat []) ((Int.toNat 1 : Nat) : Int)) : Nat) : Int) = egN E n := rfl
    rw [eg] at cg
    repeat' (first | (apply AOps.nil; try simp only [List.nil_append, List.cons_append, List.set_cons_zero, List.set_cons_succ, List.length_cons, List.length_nil, Nat.reduceAdd, AV.sh, AV.sh1, AV.sh0, AO.sh, List.map_cons, List.map_nil, Nat.zero_add, Nat.add_zero, setAll]) | (apply w_move; exact rfl; exact rfl) | (apply w_assign; exact rfl; exact rfl) | apply AWp.seq | apply AWp.region | ((apply AWp.condP; exact rfl) <;> intro h) | apply AWp.block | apply AWp.ret | apply AWp.exit | apply AWp.skip | (apply AWp.regionQ; kernel_rfl; kernel_rfl) | (apply w_call (cg); exact rfl; exact rfl; focus ((repeat (first | exact im_nil | refine im_cons rfl (.val _) ?_)); done)) | omega | ((first | apply w_lss | apply w_add | apply w_idx | apply w_ld); iterate 3 exact rfl) | (apply w_idxo; exact rfl; exact rfl; (exact .sls rfl); exact rfl) | ((first | apply w_idxr | apply w_ldr); iterate 4 exact rfl) | (apply w_ldls; iterate 4 exact rfl) | (apply w_ldrp; iterate 4 exact rfl) | (apply w_bs0; iterate 1 exact rfl) | (apply inI_of <;> omega))
    refine AWp.loop (ι := Nat) (fun k => ⟨83, [(4, .own 1), (5, .own 3), (6, .i n), (7, .orow 4 (n : Int).toNat), (8, .i (egN E n)), (9, .own 5), (24, .own 4), (25, .i E.length), (26, .i n), (40, .i (egN E n + 1)), (41, .i k)]⟩) (fun k => [.bx 50 [.intss f], .ob (mapOb (f.map toT)), .sls 22 2 (supL f f.length), .sls 22 2 V, .sls 22 2 E, .sli 2 (ndH f V E n k)]) (fun k => (k : Int) ≤ egN E n + 1) (fun k => (egN E n + 1).toNat - k) 0 (by omega) ⟨lee rfl (by (repeat (first | exact le_nil | refine le_eq rfl rfl ?_))), by (repeat (first | exact lo_nil | refine lo_eq rfl ?_)), rfl, rfl⟩ ?_
    rintro k k0
    have hhl := ndH_len f V E n k
    by_cases hk1 : (k : Int) < egN E n + 1
    · have m1 := mul60 (m := (k : Int)) (x := geti (E.getD (n : Int).toNat []) ((Int.toNat 0 : Nat) : Int)) (e := egN E n) (by omega) p2 g1.1
      have m2 := mul60 (m := (k : Int)) (x := geti (E.getD (n : Int).toNat []) ((Int.toNat 1 : Nat) : Int)) (e := egN E n) (by omega) p3 g1.1
      have hlk : 0 ≤ lookM (f.map toT) (ndA V E n k) (ndB V E n k) ∧ lookM (f.map toT) (ndA V E n k) (ndB V E n k) ≤ 55440 := by rw [look_toT]; exact cof_in hpo _ _
      have e3 : ndH f V E n k ++ [lookM (f.map toT) (ndA V E n k) (ndB V E n k)] = ndH f V E n (k + 1) := by rw [look_toT]; exact ndH_succ f V E n k
      unfold ndA ndB at hlk
      repeat' (first | (apply AOps.nil; try simp only [List.nil_append, List.cons_append, List.set_cons_zero, List.set_cons_succ, List.length_cons, List.length_nil, Nat.reduceAdd, AV.sh, AV.sh1, AV.sh0, AO.sh, List.map_cons, List.map_nil, Nat.zero_add, Nat.add_zero, setAll]) | (apply w_move; exact rfl; exact rfl) | (apply w_assign; exact rfl; exact rfl) | apply AWp.seq | apply AWp.region | ((apply AWp.condP; exact rfl) <;> intro h) | apply AWp.block | apply AWp.exit | apply AWp.skip | omega | ((apply w_lss); iterate 3 exact rfl))
      refine AWp.regionG [] (by kernel_rfl) (envC := ⟨83, [(4, .own 1), (5, .own 3), (6, .i n), (7, .orow 4 (n : Int).toNat), (8, .i (egN E n)), (9, .own 5), (24, .own 4), (25, .i E.length), (26, .i n), (40, .i (egN E n + 1)), (41, .i k)]⟩) (osC := [.bx 50 [.intss f], .ob (mapOb (f.map toT)), .sls 22 2 (supL f f.length), .sls 22 2 V, .sls 22 2 E, .sli 2 (ndH f V E n k ++ [lookM (f.map toT) (ndA V E n k) (ndB V E n k)])]) rfl rfl ?_ ?_
      · repeat' (first | (apply AOps.nil; try simp only [List.nil_append, List.cons_append, List.set_cons_zero, List.set_cons_succ, List.length_cons, List.length_nil, Nat.reduceAdd, AV.sh, AV.sh1, AV.sh0, AO.sh, List.map_cons, List.map_nil, Nat.zero_add, Nat.add_zero, setAll]) | (apply w_move; exact rfl; exact rfl) | (apply w_assign; exact rfl; exact rfl) | (apply w_maplook; iterate 5 exact rfl) | apply AllOfG.nil | (apply AllOfG.consS; exact rfl; exact rfl) | (apply AAnyG.takeW; exact rfl; exact rfl; kernel_rfl; kernel_rfl) | (apply AAnyG.takeL; exact rfl; exact rfl; kernel_rfl) | (apply AAnyG.all; exact rfl) | (apply AAnyG.done; exact rfl) | omega | ((first | apply w_add | apply w_sub | apply w_mul | apply w_idx | apply w_ld); iterate 3 exact rfl) | (apply w_quo; exact rfl; exact rfl; exact rfl; (focus (omega; done)); (focus (omega; done))) | ((apply w_bs1); iterate 2 exact rfl) | (apply w_idxo; exact rfl; exact rfl; (exact .sls rfl); exact rfl) | ((first | apply w_idxr | apply w_ldr); iterate 4 exact rfl) | (apply w_ldls; iterate 4 exact rfl) | (apply w_ldrp; iterate 4 exact rfl) | (apply w_build2; exact rfl; exact rfl; exact rfl; (exact one_val rfl rfl); (exact one_val rfl rfl)) | (apply w_app; exact rfl; exact rfl; exact rfl; exact rfl; (exact .sli rfl); rotate_left 1; simp only [Env.mp, List.map_cons, List.map_nil, List.set_cons_zero, List.set_cons_succ, AV.kill, AV.kill1, AO.kill, AV.noRow, AV.noRow1, AO.via, reduceIte, Nat.reduceEqDiff, Nat.reduceLT, Env.up, Nat.zero_ne_one, Nat.one_ne_zero, Nat.reduceAdd, List.cons_append, List.nil_append]; rotate_left 1) | (apply inI_of <;> omega) | (simp <;> omega))
        all_goals (apply Or.inl; refine ⟨lee rfl ?_, ?_, rfl, rfl⟩; (focus ((repeat (first | exact le_nil | refine le_eq rfl rfl ?_)); done)); (focus ((repeat (first | exact lo_nil | refine lo_eq rfl ?_)); done)))
      repeat' (first | (apply AOps.nil; try simp only [List.nil_append, List.cons_append, List.set_cons_zero, List.set_cons_succ, List.length_cons, List.length_nil, Nat.reduceAdd, AV.sh, AV.sh1, AV.sh0, AO.sh, List.map_cons, List.map_nil, Nat.zero_add, Nat.add_zero, setAll]) | (apply w_move; exact rfl; exact rfl) | apply AWp.region | ((apply w_add); iterate 3 exact rfl) | (apply inI_of <;> omega))
      exact ⟨k + 1, by omega, by omega, ⟨lee rfl (by (repeat (first | exact le_nil | refine le_eq rfl rfl ?_))), by (repeat (first | exact lo_nil | refine lo_eq rfl ?_ | refine lo_eq (congrArg (AO.sli _) (e3)) ?_)), rfl, rfl⟩⟩
    · have ek : k = (egN E n + 1).toNat := by omega
      subst ek
      have hs := hsq hn
      cases hb : ndK f V E n with
      | true =>
        rw [hb] at hs
        repeat' (first | (apply AOps.nil; try simp only [List.nil_append, List.cons_append, List.set_cons_zero, List.set_cons_succ, List.length_cons, List.length_nil, Nat.reduceAdd, AV.sh, AV.sh1, AV.sh0, AO.sh, List.map_cons, List.map_nil, Nat.zero_add, Nat.add_zero, setAll]) | (apply w_move; exact rfl; exact rfl) | (apply w_assign; exact rfl; exact rfl) | apply AWp.seq | apply AWp.region | ((apply AWp.condP; exact rfl) <;> intro h) | (apply AWp.condF; exact rfl) | apply AWp.block | apply AWp.exit | apply AWp.skip | (apply w_call (hs); exact rfl; exact rfl; focus ((repeat (first | exact im_nil | refine im_cons rfl (.sli rfl) ?_)); done)) | omega | ((first | apply w_lss | apply w_add); iterate 3 exact rfl) | ((apply w_not); iterate 2 exact rfl) | (apply inI_of <;> omega))
        refine ⟨n + 1, ⟨hn, fun j hj => ?_⟩, by omega, ⟨lee rfl (by (repeat (first | exact le_nil | refine le_eq rfl rfl ?_))), by (repeat (first | exact lo_nil | refine lo_eq rfl ?_)), rfl, rfl⟩⟩
        by_cases ej : j = n
        · subst ej; exact hb
        · exact n1 j (by omega)
      | false =>
        rw [hb] at hs
        repeat' (first | (apply AOps.nil; try simp only [List.nil_append, List.cons_append, List.set_cons_zero, List.set_cons_succ, List.length_cons, List.length_nil, Nat.reduceAdd, AV.sh, AV.sh1, AV.sh0, AO.sh, List.map_cons, List.map_nil, Nat.zero_add, Nat.add_zero, setAll]) | (apply w_move; exact rfl; exact rfl) | (apply w_assign; exact rfl; exact rfl) | apply AWp.seq | apply AWp.region | ((apply AWp.condP; exact rfl) <;> intro h) | (apply AWp.condT; exact rfl) | apply AWp.block | apply AWp.ret | apply AWp.exit | apply AWp.skip | (apply w_call (hs); exact rfl; exact rfl; focus ((repeat (first | exact im_nil | refine im_cons rfl (.sli rfl) ?_)); done)) | omega | ((apply w_lss); iterate 3 exact rfl) | ((apply w_not); iterate 2 exact rfl))
        refine .boolint Try.results34 rfl rfl ?_ rfl
        symm
        rw [List.all_eq_false]
        exact ⟨n, List.mem_range.2 hn, by rw [hb]; decide⟩
  · repeat' (first | (apply AOps.nil; try simp only [List.nil_append, List.cons_append, List.set_cons_zero, List.set_cons_succ, List.length_cons, List.length_nil, Nat.reduceAdd, AV.sh, AV.sh1, AV.sh0, AO.sh, List.map_cons, List.map_nil, Nat.zero_add, Nat.add_zero, setAll]) | (apply w_move; exact rfl; exact rfl) | (apply w_assign; exact rfl; exact rfl) | apply AWp.seq | apply AWp.region | ((apply AWp.condP; exact rfl) <;> intro h) | apply AWp.block | apply AWp.ret | apply AWp.exit | apply AWp.skip | omega | ((apply w_lss); iterate 3 exact rfl))
    have e : n = E.length := by omega
    subst e
    refine .boolint Try.results34 rfl rfl ?_ rfl
    symm
    rw [List.all_eq_true]
    exact fun j hj => n1 j (List.mem_range.1 hj)
end Go.Proofs.Ytifkgmbghcmdeaa
/-
  Remainders and coefficients: the reference. No condition but bounds.
-/
namespace Go.Proofs.Ytifkgmbghcmdeaa
open Go Go.RowKit
attribute [local irreducible] AWp AOps ResIs Ret1 QOp LOp COp AFnV AFn Imms LeE LeO
set_option maxHeartbeats 1000000
set_option linter.unusedSimpArgs false
set_option linter.unusedVariables false

theorem l17Trim_c (a : List Int) (hl : a.length ≤ 1000) : AFn Try.prog 68 [.ints a] (IsInts 2 (tr a)) := by
  (refine AFn.start Try.func68 Try.ntmps68 rfl (by kernel_rfl) fun hk => ?_; simp only [Env.start, enumF, List.length_cons, List.length_nil, Nat.reduceAdd, Nat.reduceSub, List.cons_append, List.nil_append])
  repeat' (first | (apply AOps.nil; try simp only [List.nil_append, List.cons_append, List.set_cons_zero, List.set_cons_succ, List.length_cons, List.length_nil, Nat.reduceAdd, AV.sh, AV.sh1, AV.sh0, AO.sh, List.map_cons, List.map_nil, Nat.zero_add, Nat.add_zero, setAll]) | (apply w_move; exact rfl; exact rfl) | (apply w_assign; exact rfl; exact rfl) | apply AWp.seq | apply AWp.region | apply AWp.block | (apply w_len; exact rfl; exact rfl; first | exact .ints _ | exact .intss _ | exact .sli rfl | exact .sls rfl | exact .slr rfl | exact .orow rfl | exact .nil))
  refine AWp.loop (ι := Nat) (fun n => ⟨22, [(0, .ints a), (3, .i n)]⟩) (fun n => []) (fun n => n ≤ a.length ∧ tlen a n = tlen a a.length) (fun n => n) a.length ⟨Nat.le_refl _, rfl⟩ ⟨lee rfl (by (repeat (first | exact le_nil | refine le_eq rfl rfl ?_))), by (repeat (exact lo_nil)), rfl, rfl⟩ ?_
  rintro n ⟨h0, h1⟩
  have hown : tlen a n = n → AFn Try.prog 92 [.ints (a.take ((n : Nat) : Int).toNat)] (IsInts 2 (tr a)) := fun h => by
    have e : a.take ((n : Nat) : Int).toNat = tr a := by unfold tr; rw [← h1, h]; rfl
    rw [e]
    have := tr_le a
    exact l01Own_c _ (by omega)
  cases n with
  | zero =>
    have ho := hown rfl
    repeat' (first | (apply AOps.nil; try simp only [List.nil_append, List.cons_append, List.set_cons_zero, List.set_cons_succ, List.length_cons, List.length_nil, Nat.reduceAdd, AV.sh, AV.sh1, AV.sh0, AO.sh, List.map_cons, List.map_nil, Nat.zero_add, Nat.add_zero, setAll]) | ((apply AOps.splitP; exact rfl; exact rfl) <;> intro h) | (apply w_move; exact rfl; exact rfl) | (apply w_assign; exact rfl; exact rfl) | apply AWp.seq | apply AWp.region | (apply AWp.condF; exact rfl) | apply AWp.ret | apply AWp.exit | (apply w_skip; exact rfl) | (apply w_pickF; exact rfl; exact rfl; exact rfl) | (apply w_callm (ho); (focus ((repeat (first | exact im_nil | refine im_cons rfl (.ints _) ?_)); done)); rintro r os0 ⟨rfl, rfl⟩; try simp only [List.nil_append, List.cons_append, List.set_cons_zero, List.set_cons_succ, List.length_cons, List.length_nil, Nat.reduceAdd, AV.sh, AV.sh1, AV.sh0, AO.sh, List.map_cons, List.map_nil, Nat.zero_add, Nat.add_zero, setAll]) | omega | ((first | apply w_gtr | apply w_slhi); iterate 3 exact rfl))
    all_goals exact ⟨_, _, _, .v1 Try.results68 rfl, .sli rfl, rfl, rfl⟩
  | succ m =>
    have e0 : ((m + 1 : Nat) : Int) - 1 = (m : Nat) := by omega
    by_cases hz : geti a m = 0
    · have hz' : geti a (((m + 1 : Nat) : Int) - 1) = 0 := by rw [e0]; exact hz
      repeat' (first | (apply AOps.nil; try simp only [List.nil_append, List.cons_append, List.set_cons_zero, List.set_cons_succ, List.length_cons, List.length_nil, Nat.reduceAdd, AV.sh, AV.sh1, AV.sh0, AO.sh, List.map_cons, List.map_nil, Nat.zero_add, Nat.add_zero, setAll]) | ((apply AOps.splitP; exact rfl; exact rfl) <;> intro h) | (apply w_move; exact rfl; exact rfl) | (apply w_assign; exact rfl; exact rfl) | apply AWp.seq | apply AWp.region | ((apply AWp.condP; exact rfl) <;> intro h) | (apply AWp.condF; exact rfl) | apply AWp.block | apply AWp.exit | apply AWp.skip | (apply w_skip; exact rfl) | (apply w_pickT; exact rfl; exact rfl; exact rfl) | (apply w_pickF; exact rfl; exact rfl; exact rfl) | omega | ((first | apply w_gtr | apply w_eql | apply w_sub | apply w_idx | apply w_ld); iterate 3 exact rfl) | (apply inI_of <;> omega))
      exact ⟨m, ⟨by omega, by rw [← h1, tlen, if_pos hz]⟩, by omega, ⟨lee rfl (by (repeat (first | exact le_nil | refine le_eq rfl rfl ?_ | refine le_eq rfl (congrArg AV.i (by omega)) ?_))), by (repeat (exact lo_nil)), rfl, rfl⟩⟩
    · have hz' : ¬ geti a (((m + 1 : Nat) : Int) - 1) = 0 := by rw [e0]; exact hz
      have ho := hown (by rw [tlen, if_neg hz])
      repeat' (first | (apply AOps.nil; try simp only [List.nil_append, List.cons_append, List.set_cons_zero, List.set_cons_succ, List.length_cons, List.length_nil, Nat.reduceAdd, AV.sh, AV.sh1, AV.sh0, AO.sh, List.map_cons, List.map_nil, Nat.zero_add, Nat.add_zero, setAll]) | ((apply AOps.splitP; exact rfl; exact rfl) <;> intro h) | (apply w_move; exact rfl; exact rfl) | (apply w_assign; exact rfl; exact rfl) | apply AWp.seq | apply AWp.region | ((apply AWp.condP; exact rfl) <;> intro h) | (apply AWp.condF; exact rfl) | apply AWp.block | apply AWp.ret | apply AWp.exit | apply AWp.skip | (apply w_skip; exact rfl) | (apply w_pickT; exact rfl; exact rfl; exact rfl) | (apply w_pickF; exact rfl; exact rfl; exact rfl) | (apply w_callm (ho); (focus ((repeat (first | exact im_nil | refine im_cons rfl (.ints _) ?_)); done)); rintro r os0 ⟨rfl, rfl⟩; try simp only [List.nil_append, List.cons_append, List.set_cons_zero, List.set_cons_succ, List.length_cons, List.length_nil, Nat.reduceAdd, AV.sh, AV.sh1, AV.sh0, AO.sh, List.map_cons, List.map_nil, Nat.zero_add, Nat.add_zero, setAll]) | omega | ((first | apply w_gtr | apply w_eql | apply w_sub | apply w_idx | apply w_ld | apply w_slhi); iterate 3 exact rfl) | (apply inI_of <;> omega))
      all_goals exact ⟨_, _, _, .v1 Try.results68 rfl, .sli rfl, rfl, rfl⟩

set_option maxHeartbeats 4000000 in
theorem l17Rest_c (a b : List Int) (hp : inF a) (hq : inF b) (ht : Tm b) (h0 : 0 < b.length) (hpl : a.length ≤ 1000) (hql : b.length ≤ 1000) : AFn Try.prog 69 [.ints a, .ints b] (IsInts 2 (remD a b)) := by
  have hz := hq ((b.length : Int) - 1)
  have hinv := l17Inverse_c (geti b ((b.length : Int) - 1)) hz
  have esc : pwF (geti b ((b.length : Int) - 1)) 55439 = scQ b := by unfold scQ; rw [show ((b.length : Int) - 1) = ((b.length - 1 : Nat) : Int) by omega]
  rw [esc] at hinv
  have hsc := scQ_ok hq ht h0
  have hscb := pwF_in (geti b ((b.length - 1 : Nat) : Int)) 55439
  change 0 ≤ scQ b ∧ scQ b ≤ 55440 at hscb
  have htl := tr_le a
  have ht0 := l17Trim_c a (by omega)
  (refine AFn.start Try.func69 Try.ntmps69 rfl (by kernel_rfl) fun hk => ?_; simp only [Env.start, enumF, List.length_cons, List.length_nil, Nat.reduceAdd, Nat.reduceSub, List.cons_append, List.nil_append])
  repeat' (first | (apply AOps.nil; try simp only [List.nil_append, List.cons_append, List.set_cons_zero, List.set_cons_succ, List.length_cons, List.length_nil, Nat.reduceAdd, AV.sh, AV.sh1, AV.sh0, AO.sh, List.map_cons, List.map_nil, Nat.zero_add, Nat.add_zero, setAll]) | (apply w_move; exact rfl; exact rfl) | (apply w_assign; exact rfl; exact rfl) | apply AWp.seq | apply AWp.region | apply AWp.block | (apply w_len; exact rfl; exact rfl; first | exact .ints _ | exact .intss _ | exact .sli rfl | exact .sls rfl | exact .slr rfl | exact .orow rfl | exact .nil) | (apply w_callm (ht0); (focus ((repeat (first | exact im_nil | refine im_cons rfl (.ints _) ?_)); done)); rintro r os0 ⟨rfl, rfl⟩; try simp only [List.nil_append, List.cons_append, List.set_cons_zero, List.set_cons_succ, List.length_cons, List.length_nil, Nat.reduceAdd, AV.sh, AV.sh1, AV.sh0, AO.sh, List.map_cons, List.map_nil, Nat.zero_add, Nat.add_zero, setAll]) | (apply w_call (hinv); exact rfl; exact rfl; focus ((repeat (first | exact im_nil | refine im_cons rfl (.val _) ?_)); done)) | omega | ((first | apply w_sub | apply w_idx | apply w_ld); iterate 3 exact rfl) | (apply inI_of <;> omega))
  refine AWp.loopS (ι := Nat × List Int) (fun s => ⟨66, [(0, .own 0), (1, .ints b), (5, .i (scQ b))]⟩) (fun s => [.sli 2 s.2]) (fun s => inF s.2 ∧ s.2.length ≤ 1000 ∧ s.2.length ≤ s.1 ∧ remF b (scQ b) s.1 s.2 = remD a b) (fun s => s.2.length) ((tr a).length, tr a)
    ⟨inF_tr hp, by simp only; omega, Nat.le_refl _, rfl⟩ ⟨lee rfl (by (repeat (first | exact le_nil | refine le_eq rfl rfl ?_))), by (repeat (first | exact lo_nil | refine lo_eq rfl ?_)), rfl, rfl⟩ ?_
  rintro ⟨k, p⟩ ⟨h1, h3, h4, h5⟩
  simp only at h1 h3 h4 h5
  by_cases hlt : p.length < b.length
  · repeat' (first | (apply AOps.nil; try simp only [List.nil_append, List.cons_append, List.set_cons_zero, List.set_cons_succ, List.length_cons, List.length_nil, Nat.reduceAdd, AV.sh, AV.sh1, AV.sh0, AO.sh, List.map_cons, List.map_nil, Nat.zero_add, Nat.add_zero, setAll]) | (apply w_move; exact rfl; exact rfl) | (apply w_assign; exact rfl; exact rfl) | apply AWp.seq | apply AWp.region | ((apply AWp.condP; exact rfl) <;> intro h) | apply AWp.block | apply AWp.ret | apply AWp.exit | apply AWp.skip | (apply w_len; exact rfl; exact rfl; first | exact .ints _ | exact .intss _ | exact .sli rfl | exact .sls rfl | exact .slr rfl | exact .orow rfl | exact .nil) | omega | ((apply w_geq); iterate 3 exact rfl))
    rw [remF_done (by omega)] at h5
    rw [h5]
    exact ⟨_, _, _, .v1 Try.results69 rfl, .sli rfl, rfl, rfl⟩
  · obtain ⟨k, rfl⟩ : ∃ k', k = k' + 1 := ⟨k - 1, by omega⟩
    have en : ((p.length : Int) - 1).toNat = p.length - 1 := by omega
    have hb1 := h1 ((((p.length : Int) - 1).toNat : Nat) : Int)
    have hm1 : 0 ≤ geti p ((((p.length : Int) - 1).toNat : Nat) : Int) * scQ b ∧ geti p ((((p.length : Int) - 1).toNat : Nat) : Int) * scQ b ≤ 55440 * 55440 := ⟨Int.mul_nonneg hb1.1 hscb.1, Int.mul_le_mul hb1.2 hscb.2 hscb.1 (by omega)⟩
    obtain ⟨fc, hfc⟩ : ∃ fc : Int, fc = geti p ((((p.length : Int) - 1).toNat : Nat) : Int) * scQ b % 55441 := ⟨_, rfl⟩
    have hfb : 0 ≤ fc ∧ fc ≤ 55440 := by omega
    have hfr : 55441 - fc = facR p (scQ b) := by unfold facR; rw [hfc, en]
    repeat' (first | (apply AOps.nil; try simp only [List.nil_append, List.cons_append, List.set_cons_zero, List.set_cons_succ, List.length_cons, List.length_nil, Nat.reduceAdd, AV.sh, AV.sh1, AV.sh0, AO.sh, List.map_cons, List.map_nil, Nat.zero_add, Nat.add_zero, setAll]) | (apply w_move; exact rfl; exact rfl) | (apply w_assign; exact rfl; exact rfl) | apply AWp.seq | apply AWp.region | ((apply AWp.condP; exact rfl) <;> intro h) | apply AWp.block | apply AWp.ret | apply AWp.exit | apply AWp.skip | (apply w_len; exact rfl; exact rfl; first | exact .ints _ | exact .intss _ | exact .sli rfl | exact .sls rfl | exact .slr rfl | exact .orow rfl | exact .nil) | omega | ((first | apply w_geq | apply w_sub | apply w_mul | apply w_idx | apply w_ld); iterate 3 exact rfl) | (apply w_rem; exact rfl; exact rfl; exact rfl; (focus (omega; done)); (focus (omega; done))) | (apply w_idxo; exact rfl; exact rfl; (exact .sli rfl); exact rfl) | (apply w_ldo; iterate 4 exact rfl) | (apply inI_of <;> omega))
    refine AWp.loop (ι := Nat) (fun i => ⟨66, [(0, .own 0), (1, .ints b), (5, .i (scQ b)), (6, .i fc), (7, .i ((p.length : Int) - b.length)), (8, .i i)]⟩) (fun i => [.sli 2 (updI b (55441 - fc) (p.length - b.length) p i)]) (fun i => i ≤ b.length) (fun i => b.length - i) 0 (by omega) ⟨lee rfl (by (repeat (first | exact le_nil | refine le_eq rfl rfl ?_ | refine le_eq rfl (congrArg AV.i (by omega)) ?_))), lo_eq rfl lo_nil, rfl, rfl⟩ ?_
    rintro i hi0
    have hul := updI_len b (55441 - fc) (p.length - b.length) p i
    have hui := updI_in (q := b) (55441 - fc) (p.length - b.length) h1 i
    by_cases hi : i < b.length
    · have ei : ((p.length : Int) - (b.length : Int) + (i : Int)).toNat = p.length - b.length + i := by omega
      have hb2 := hui ((((p.length : Int) - (b.length : Int) + (i : Int)).toNat : Nat) : Int)
      have hb3 := hq (i : Nat)
      have hm2 : 0 ≤ (55441 - fc) * geti b (i : Nat) ∧ (55441 - fc) * geti b (i : Nat) ≤ 55441 * 55440 := ⟨Int.mul_nonneg (by omega) hb3.1, Int.mul_le_mul (by omega) hb3.2 hb3.1 (by omega)⟩
      have b5 := modP (geti (updI b (55441 - fc) (p.length - b.length) p i) ((((p.length : Int) - (b.length : Int) + (i : Int)).toNat : Nat) : Int) + (55441 - fc) * geti b (i : Nat))
      repeat' (first | (apply AOps.nil; try simp only [List.nil_append, List.cons_append, List.set_cons_zero, List.set_cons_succ, List.length_cons, List.length_nil, Nat.reduceAdd, AV.sh, AV.sh1, AV.sh0, AO.sh, List.map_cons, List.map_nil, Nat.zero_add, Nat.add_zero, setAll]) | (apply w_move; exact rfl; exact rfl) | apply AWp.seq | apply AWp.region | ((apply AWp.condP; exact rfl) <;> intro h) | apply AWp.block | apply AWp.exit | apply AWp.skip | (apply w_len; exact rfl; exact rfl; first | exact .ints _ | exact .intss _ | exact .sli rfl | exact .sls rfl | exact .slr rfl | exact .orow rfl | exact .nil) | omega | ((apply w_lss); iterate 3 exact rfl))
      have e2 : (updI b (55441 - fc) (p.length - b.length) p i).set ((p.length : Int) - (b.length : Int) + (i : Int)).toNat ((geti (updI b (55441 - fc) (p.length - b.length) p i) ((((p.length : Int) - (b.length : Int) + (i : Int)).toNat : Nat) : Int) + (55441 - fc) * geti b (i : Nat)) % 55441) = updI b (55441 - fc) (p.length - b.length) p (i + 1) := by rw [ei]; rfl
      refine AWp.regionA (by kernel_rfl) (envC := ⟨66, [(0, .own 0), (1, .ints b), (5, .i (scQ b)), (6, .i fc), (7, .i ((p.length : Int) - b.length)), (8, .i i)]⟩) (osC := [.sli 2 ((updI b (55441 - fc) (p.length - b.length) p i).set ((p.length : Int) - (b.length : Int) + (i : Int)).toNat ((geti (updI b (55441 - fc) (p.length - b.length) p i) ((((p.length : Int) - (b.length : Int) + (i : Int)).toNat : Nat) : Int) + (55441 - fc) * geti b (i : Nat)) % 55441))]) rfl rfl ?_ ?_
      · repeat' (first | (apply AOps.nil; try simp only [List.nil_append, List.cons_append, List.set_cons_zero, List.set_cons_succ, List.length_cons, List.length_nil, Nat.reduceAdd, AV.sh, AV.sh1, AV.sh0, AO.sh, List.map_cons, List.map_nil, Nat.zero_add, Nat.add_zero, setAll]) | (apply w_move; exact rfl; exact rfl) | ((first | apply w_add | apply w_sub | apply w_mul | apply w_idx | apply w_ld); iterate 3 exact rfl) | (apply w_rem; exact rfl; exact rfl; exact rfl; (focus (omega; done)); (focus (omega; done))) | (apply w_idxo; exact rfl; exact rfl; (exact .sli rfl); exact rfl) | (apply w_ldo; iterate 4 exact rfl) | (apply w_sti; exact rfl; exact rfl; rotate_left 1; exact rfl; rotate_left 2) | apply AllOf.nil | (apply AllOf.cons; exact rfl) | (apply AAny.take; exact rfl; exact rfl; kernel_rfl; kernel_rfl) | (apply AAny.all; exact rfl) | (apply AAny.done; exact rfl) | (apply inI_of <;> omega) | omega)
        all_goals (apply Or.inl; refine ⟨lee rfl ?_, ?_, rfl, rfl⟩; (focus ((repeat (first | exact le_nil | refine le_eq rfl rfl ?_)); done)); (focus ((repeat (first | exact lo_nil | refine lo_eq rfl ?_)); done)))
      repeat' (first | (apply AOps.nil; try simp only [List.nil_append, List.cons_append, List.set_cons_zero, List.set_cons_succ, List.length_cons, List.length_nil, Nat.reduceAdd, AV.sh, AV.sh1, AV.sh0, AO.sh, List.map_cons, List.map_nil, Nat.zero_add, Nat.add_zero, setAll]) | (apply w_move; exact rfl; exact rfl) | (apply w_assign; exact rfl; exact rfl) | apply AWp.region | ((apply w_add); iterate 3 exact rfl) | (apply inI_of <;> omega))
      exact ⟨i + 1, hi, by omega, ⟨lee rfl (by (repeat (first | exact le_nil | refine le_eq rfl rfl ?_))), by (repeat (first | exact lo_nil | refine lo_eq (congrArg (AO.sli _) (e2)) ?_)), rfl, rfl⟩⟩
    · have ei : i = b.length := by omega
      subst ei
      have e4 : updI b (55441 - fc) (p.length - b.length) p b.length = stR b (scQ b) p := by unfold stR; rw [hfr]
      have hst := stR_tr (q := b) (p := p) (sc := scQ b) h0 (by omega) hsc
      rw [e4] at hul hui
      rw [e4]
      have htr := l17Trim_c (stR b (scQ b) p) (by omega)
      repeat' (first | (apply AOps.nil; try simp only [List.nil_append, List.cons_append, List.set_cons_zero, List.set_cons_succ, List.length_cons, List.length_nil, Nat.reduceAdd, AV.sh, AV.sh1, AV.sh0, AO.sh, List.map_cons, List.map_nil, Nat.zero_add, Nat.add_zero, setAll]) | (apply w_move; exact rfl; exact rfl) | (apply w_assign; exact rfl; exact rfl) | apply AWp.seq | apply AWp.region | ((apply AWp.condP; exact rfl) <;> intro h) | apply AWp.block | apply AWp.exit | apply AWp.skip | (apply w_len; exact rfl; exact rfl; first | exact .ints _ | exact .intss _ | exact .sli rfl | exact .sls rfl | exact .slr rfl | exact .orow rfl | exact .nil) | (apply w_callm (htr); (focus ((repeat (first | exact im_nil | refine im_cons rfl (.sli rfl) ?_)); done)); rintro r os0 ⟨rfl, rfl⟩; try simp only [List.nil_append, List.cons_append, List.set_cons_zero, List.set_cons_succ, List.length_cons, List.length_nil, Nat.reduceAdd, AV.sh, AV.sh1, AV.sh0, AO.sh, List.map_cons, List.map_nil, Nat.zero_add, Nat.add_zero, setAll]) | omega | ((apply w_lss); iterate 3 exact rfl))
      rw [remF_step (by omega)] at h5
      refine ⟨(k, tr (stR b (scQ b) p)), ⟨inF_tr hui, by simp only; omega, by simp only; omega, h5⟩, by simp only; omega, ?_⟩
      (apply Or.inr; refine ⟨[1], ⟨by decide, fun x hx => Nat.lt_of_lt_of_le ((by decide : ∀ x ∈ ([1] : List Nat), x < 2) x hx) (Nat.le_of_ble_eq_true rfl)⟩, lee rfl ?_, ?_, rfl, rfl⟩; (focus ((repeat (first | exact le_nil | refine le_eq rfl rfl ?_)); done)); (focus ((repeat (first | exact lo_nil | refine lo_eq rfl ?_)); done)))

theorem cof_at (ts : List (List Int)) (a b : Int) : ∀ n : Nat, n ≤ ts.length → (∀ k : Nat, k < n → ¬ (geti (gets ts (k : Nat)) 0 = a ∧ geti (gets ts (k : Nat)) 1 = b)) → cof ts a b = cof (ts.drop n) a b
  | 0, _, _ => by simp
  | n + 1, h, hk => by
    rw [cof_at ts a b n (by omega) fun k h' => hk k (by omega), List.drop_eq_getElem_cons (by omega), cof]
    have := hk n (by omega)
    simp only [gets, Int.toNat_natCast, List.getD_eq_getElem?_getD, List.getElem?_eq_getElem (show n < ts.length by omega), Option.getD_some] at this
    rw [if_neg this]
theorem l17At_c (ts : List (List Int)) (h : isPo ts = true) (i j : Int) : AFnV Try.prog 67 [.agg [.intss ts], .i i, .i j] (.int .i64 (cof ts i j)) := by
  obtain ⟨z1, z2⟩ := isPo_of h
  (refine AFnV.start Try.func67 Try.ntmps67 rfl (by kernel_rfl) fun hk => ?_; simp only [Env.start, enumF, List.length_cons, List.length_nil, Nat.reduceAdd, Nat.reduceSub, List.cons_append, List.nil_append])
  repeat' (first | (apply AOps.nil; try simp only [List.nil_append, List.cons_append, List.set_cons_zero, List.set_cons_succ, List.length_cons, List.length_nil, Nat.reduceAdd, AV.sh, AV.sh1, AV.sh0, AO.sh, List.map_cons, List.map_nil, Nat.zero_add, Nat.add_zero, setAll]) | (apply w_assign; exact rfl; exact rfl) | apply AWp.seq | apply AWp.region | apply AWp.block | ((apply w_boxa); iterate 2 exact rfl))
  refine AWp.loop (ι := Nat) (fun n => ⟨42, [(1, .i i), (2, .i j), (3, .optr 0 0), (7, .i n)]⟩) (fun n => [.bx 50 [.intss ts]]) (fun n => n ≤ ts.length ∧ ∀ k : Nat, k < n → ¬ (geti (gets ts (k : Nat)) 0 = i ∧ geti (gets ts (k : Nat)) 1 = j)) (fun n => ts.length - n) 0 ⟨by omega, fun k hk => by omega⟩ ⟨lee rfl (by (repeat (first | exact le_nil | refine le_eq rfl rfl ?_))), by (repeat (first | exact lo_nil | refine lo_eq rfl ?_)), rfl, rfl⟩ ?_
  rintro n ⟨h0, h1⟩
  by_cases hn : n < ts.length
  · obtain ⟨y1, y2, y3, y4, _⟩ := z2 n hn
    have e := cof_at ts i j n h0 h1
    rw [List.drop_eq_getElem_cons hn, cof] at e
    have eg : ts[n] = gets ts (n : Nat) := by simp [gets, hn]
    rw [eg] at e
    by_cases ha : geti (gets ts (n : Nat)) 0 = i
    · by_cases hb : geti (gets ts (n : Nat)) 1 = j
      · rw [if_pos ⟨ha, hb⟩] at e
        repeat' (first | (apply AOps.nil; try simp only [List.nil_append, List.cons_append, List.set_cons_zero, List.set_cons_succ, List.length_cons, List.length_nil, Nat.reduceAdd, AV.sh, AV.sh1, AV.sh0, AO.sh, List.map_cons, List.map_nil, Nat.zero_add, Nat.add_zero, setAll]) | ((apply AOps.splitP; exact rfl; exact rfl) <;> intro h) | (apply w_move; exact rfl; exact rfl) | (apply w_assign; exact rfl; exact rfl) | apply AWp.seq | apply AWp.region | ((apply AWp.condP; exact rfl) <;> intro h) | (apply AWp.condF; exact rfl) | apply AWp.block | apply AWp.ret | apply AWp.exit | apply AWp.skip | (apply w_skip; exact rfl) | (apply w_pickT; exact rfl; exact rfl; exact rfl) | (apply w_pickF; exact rfl; exact rfl; exact rfl) | (apply w_len; exact rfl; exact rfl; first | exact .ints _ | exact .intss _ | exact .sli rfl | exact .sls rfl | exact .slr rfl | exact .orow rfl | exact .nil) | omega | ((first | apply w_lss | apply w_eql | apply w_idx | apply w_ld | apply w_fa); iterate 3 exact rfl) | ((first | apply w_idxs | apply w_lds); iterate 3 exact rfl) | (apply w_ldb; iterate 5 exact rfl))
        exact .int Try.results67 rfl e.symm
      · repeat' (first | (apply AOps.nil; try simp only [List.nil_append, List.cons_append, List.set_cons_zero, List.set_cons_succ, List.length_cons, List.length_nil, Nat.reduceAdd, AV.sh, AV.sh1, AV.sh0, AO.sh, List.map_cons, List.map_nil, Nat.zero_add, Nat.add_zero, setAll]) | ((apply AOps.splitP; exact rfl; exact rfl) <;> intro h) | (apply w_move; exact rfl; exact rfl) | (apply w_assign; exact rfl; exact rfl) | apply AWp.seq | apply AWp.region | ((apply AWp.condP; exact rfl) <;> intro h) | (apply AWp.condF; exact rfl) | apply AWp.block | apply AWp.ret | apply AWp.exit | apply AWp.skip | (apply w_skip; exact rfl) | (apply w_pickT; exact rfl; exact rfl; exact rfl) | (apply w_pickF; exact rfl; exact rfl; exact rfl) | (apply w_len; exact rfl; exact rfl; first | exact .ints _ | exact .intss _ | exact .sli rfl | exact .sls rfl | exact .slr rfl | exact .orow rfl | exact .nil) | omega | ((first | apply w_lss | apply w_eql | apply w_add | apply w_idx | apply w_ld | apply w_fa); iterate 3 exact rfl) | ((first | apply w_idxs | apply w_lds); iterate 3 exact rfl) | (apply w_ldb; iterate 5 exact rfl) | (apply inI_of <;> omega))
        refine ⟨n + 1, ⟨hn, fun k hk => ?_⟩, by omega, ⟨lee rfl (by (repeat (first | exact le_nil | refine le_eq rfl rfl ?_))), by (repeat (first | exact lo_nil | refine lo_eq rfl ?_)), rfl, rfl⟩⟩
        by_cases ek : k = n
        · subst ek; exact fun hh => hb hh.2
        · exact h1 k (by omega)
    · repeat' (first | (apply AOps.nil; try simp only [List.nil_append, List.cons_append, List.set_cons_zero, List.set_cons_succ, List.length_cons, List.length_nil, Nat.reduceAdd, AV.sh, AV.sh1, AV.sh0, AO.sh, List.map_cons, List.map_nil, Nat.zero_add, Nat.add_zero, setAll]) | ((apply AOps.splitP; exact rfl; exact rfl) <;> intro h) | (apply w_move; exact rfl; exact rfl) | (apply w_assign; exact rfl; exact rfl) | apply AWp.seq | apply AWp.region | ((apply AWp.condP; exact rfl) <;> intro h) | (apply AWp.condF; exact rfl) | apply AWp.block | apply AWp.ret | apply AWp.exit | apply AWp.skip | (apply w_skip; exact rfl) | (apply w_pickF; exact rfl; exact rfl; exact rfl) | (apply w_len; exact rfl; exact rfl; first | exact .ints _ | exact .intss _ | exact .sli rfl | exact .sls rfl | exact .slr rfl | exact .orow rfl | exact .nil) | omega | ((first | apply w_lss | apply w_eql | apply w_add | apply w_idx | apply w_ld | apply w_fa); iterate 3 exact rfl) | ((first | apply w_idxs | apply w_lds); iterate 3 exact rfl) | (apply w_ldb; iterate 5 exact rfl) | (apply inI_of <;> omega))
      refine ⟨n + 1, ⟨hn, fun k hk => ?_⟩, by omega, ⟨lee rfl (by (repeat (first | exact le_nil | refine le_eq rfl rfl ?_))), by (repeat (first | exact lo_nil | refine lo_eq rfl ?_)), rfl, rfl⟩⟩
      by_cases ek : k = n
      · subst ek; exact fun hh => ha hh.1
      · exact h1 k (by omega)
  · repeat' (first | (apply AOps.nil; try simp only [List.nil_append, List.cons_append, List.set_cons_zero, List.set_cons_succ, List.length_cons, List.length_nil, Nat.reduceAdd, AV.sh, AV.sh1, AV.sh0, AO.sh, List.map_cons, List.map_nil, Nat.zero_add, Nat.add_zero, setAll]) | (apply w_move; exact rfl; exact rfl) | (apply w_assign; exact rfl; exact rfl) | apply AWp.seq | apply AWp.region | ((apply AWp.condP; exact rfl) <;> intro h) | apply AWp.block | apply AWp.ret | apply AWp.exit | apply AWp.skip | (apply w_len; exact rfl; exact rfl; first | exact .ints _ | exact .intss _ | exact .sli rfl | exact .sls rfl | exact .slr rfl | exact .orow rfl | exact .nil) | omega | ((first | apply w_lss | apply w_ld | apply w_fa); iterate 3 exact rfl) | (apply w_ldb; iterate 5 exact rfl))
    have e := cof_at ts i j n h0 h1
    rw [List.drop_eq_nil_of_le (by omega), cof] at e
    exact .int Try.results67 rfl e.symm
end Go.Proofs.Ytifkgmbghcmdeaa
