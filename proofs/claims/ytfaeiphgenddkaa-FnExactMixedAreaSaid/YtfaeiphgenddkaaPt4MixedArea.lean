/-
  Parts of the proof, one behind the other: contracts of functions and plain laws. No condition.
-/
import Derived.Test.YtfaeiphgenddkaaPt3MixedArea
/-
  Own slices of rows put together: parts of own slices of rows, appends of them; a cell of a row is written; functions that are handed an own slice of rows and hand one back in its place. No condition.
-/
namespace Go.Proofs.Ytfaeiphgenddkaa
open Go Go.RowKit

section
variable {P : Program} {env : Env} {os : List AO} {d : Option Tmp} {ty : TypeId} {pos : String} {af : Array Edge} {g : Option (Nat × Bool)} {wl : Bool}

theorem sls_slice {base : Nat} {w : World} {ok : Nat → Prop} {gs : List Gh} {gh : Gh} {e e2 : TypeId} {xss : List (List Int)} (h : RO base w ok gs gh (.sls e e2 xss)) : ∃ a cap, gh.v = .slice a xss.length cap ∧ xss.length ≤ cap ∧ cap ≤ maxLen ∧
    (0 < xss.length → a = some ⟨gh.b, 0, none⟩) ∧ gh.rows.length = xss.length ∧ (∀ (i : Nat) u, gh.rows[i]? = some u → w.cell? ⟨gh.b, i, none⟩ = some u ∧ ∃ ua n c, u = .slice ua n c) := by
  obtain ⟨vs, bs, mb, a1, a2, a3, a4, a5, a6, a7, a8⟩ := h
  obtain ⟨a, cap, q1, q2, q3, q4⟩ := RowAt.of_owns a1
  rw [a2] at q1 q2 q4
  have hblk : ∀ b off, a = some ⟨b, off, none⟩ → 0 < xss.length → b = gh.b ∧ off = 0 := by
    intro b off ha hp
    obtain ⟨b', cap', r1, r2, _, _⟩ := own_slice a1 (i := 0) (by omega)
    rw [q1, ha] at r1
    simp only [Value.slice.injEq, Option.some.injEq, Addr.mk.injEq, and_true] at r1
    obtain ⟨⟨rfl, rfl⟩, _⟩ := r1
    rcases a6 with ⟨s1, _⟩ | ⟨s1, _⟩
    · rw [s1] at r2; cases r2
    · rw [s1] at r2; cases r2; exact ⟨rfl, rfl⟩
  refine ⟨a, cap, q1, q2, q3, fun hp => ?_, by rw [a4, a2], fun i u hu => ?_⟩
  · obtain ⟨b, off, r1, _, _⟩ := q4 hp
    obtain ⟨rfl, rfl⟩ := hblk b off r1 hp
    exact r1
  · rw [a4] at hu
    have hi := (List.getElem?_eq_some_iff.1 hu).1
    obtain ⟨b, off, r1, _, r3⟩ := q4 (by omega)
    obtain ⟨rfl, rfl⟩ := hblk b off r1 (by omega)
    have := r3 i u hu
    rw [Nat.zero_add] at this
    obtain ⟨ua, uc, eu⟩ := ownsRow_slice (a5 i u hu).1
    exact ⟨this, ua, _, uc, eu⟩

/-! ### Sources of appends -/
/-- A cell of a row is written. -/
theorem l_store_orptr {t : TypeId} [ht : TCell P t] {x y : Operand} {h i j : Nat} {e e2 : TypeId} {xss : List (List Int)} {n : Int} (hx : AV.ev env x = .orptr h i j) (hs : os[h]? = some (.sls e e2 xss)) (hi : i < xss.length) (hj : j < (xss.getD i []).length) (hy : AV.ev env y = .i n) (hn : inI n) :
    LOp P ⟨d, .store t x y, ty, pos, af, g⟩ env os .any env (os.set h (.sls e e2 (xss.set i ((xss.getD i []).set j n)))) := by
  intro base w gs tm hr
  have hh := hr.ev x
  rw [hx] at hh
  generalize hv : Act.eval ⟨tm, []⟩ x = v at hh
  cases hh with
  | @orptr _ _ _ blk m c gh hg hrow =>
    obtain ⟨vs, bs, mb, a1, a2, a3, a4, a5, a6, a7, a8⟩ := hr.ho _ _ _ hg hs
    rw [a4] at hrow
    obtain ⟨r1, r2, r3⟩ := a5 _ _ hrow
    have hib : i < bs.length := by omega
    obtain ⟨b, cap, e1, e2', e3', e4⟩ := own_slice r1 (i := j) (by simpa using hj)
    simp only [Value.slice.injEq, Option.some.injEq, Addr.mk.injEq, and_true] at e1
    obtain ⟨rfl, em, rfl⟩ := e1
    have hst := r1
    rw [em] at hst
    have hst := hst.stored j (.int .i64 n)
    have hbi : blk ∈ bs.getD i [] := by rw [← r3]; simp [Value.ownBlock]
    have hbf : blk ∈ bs.flatten := List.mem_flatten.2 ⟨bs.getD i [], by rw [List.getD_eq_getElem?_getD, List.getElem?_eq_getElem hib]; simp, hbi⟩
    have hbg : blk ∈ gh.bl := by rw [a7]; exact List.mem_append.2 (.inr hbf)
    have hap : ∀ c, c ≠ blk → (w.setCell ⟨blk, j, none⟩ (.int .i64 n)).heap[c]? = w.heap[c]? := fun c hc => heap_setCell_other w ⟨blk, j, none⟩ c _ (fun e' => hc e')
    rw [a7] at a8
    obtain ⟨nm, nf, nd⟩ := List.nodup_append.1 a8
    have hcell : w.cell? ⟨blk, j, none⟩ = some (.int .i64 ((xss.getD i []).getD j 0)) := by rw [e3']; generalize xss.getD i [] = row at hj ⊢; simp [hj]
    refine ⟨undef, w.setCell ⟨blk, j, none⟩ (.int .i64 n), gs, .inr ⟨?_, rfl⟩, hr.upd hg hs trivial _ trivial (fun c hc hcb => hap c (fun e' => hcb (by rw [e']; exact hbg))) hst.2.size fun _ => ?_, .any _, ?_⟩
    · have := run_store_cell (P := P) (t := t) (a := ⟨blk, j, none⟩) hcell e4 (v := .int .i64 n) rfl rfl
      simp only [execOp, hv, hr.evv hy, Sem.run_bind, this, Result.andThen_ok, Sem.run_pure]
    · refine ⟨vs, bs, mb, ownsRow_of_block a1 fun c hc => hap c fun e' => ?_, by simpa using a2, by simpa using a3, a4, fun k u hu => ?_, a6, a7, by rw [a7]; exact a8⟩
      · subst e'
        rcases a6 with ⟨c1, _⟩ | ⟨c1, c2⟩
        · rw [c1] at hc; cases hc
        · rw [c1] at hc; cases hc
          exact nd _ (by rw [c2]; simp) _ hbf rfl
      · obtain ⟨q1, q2, q3⟩ := a5 k u hu
        have hk := (List.getElem?_eq_some_iff.1 hu).1
        by_cases hki : k = i
        · subst hki
          rw [hrow] at hu
          cases hu
          have eg : (xss.set k ((xss.getD k []).set j n)).getD k [] = (xss.getD k []).set j n := by
            rw [List.getD_eq_getElem?_getD, List.getElem?_set_self hi]; rfl
          rw [eg]
          refine ⟨?_, fun z hz => ?_, q3⟩
          · rw [em, List.length_set, List.map_set]
            exact hst.1
          · rcases List.mem_or_eq_of_mem_set hz with h1 | rfl
            · exact q2 z h1
            · exact hn
        · have eg : (xss.set i ((xss.getD i []).set j n)).getD k [] = xss.getD k [] := by
            rw [List.getD_eq_getElem?_getD, List.getElem?_set, if_neg (fun e' => hki e'.symm), List.getD_eq_getElem?_getD]
          rw [eg]
          refine ⟨ownsRow_of_block q1 fun c hc => hap c fun e' => ?_, q2, q3⟩
          subst e'
          have hc2 : c ∈ bs.getD k [] := by rw [← q3, hc]; simp
          have hkb : k < bs.length := by omega
          have hpw := (List.pairwise_flatten.1 nf).2
          rw [List.pairwise_iff_getElem] at hpw
          rw [List.getD_eq_getElem?_getD, List.getElem?_eq_getElem hkb] at hc2
          rw [List.getD_eq_getElem?_getD, List.getElem?_eq_getElem hib] at hbi
          simp only [Option.getD_some] at hc2 hbi
          rcases Nat.lt_or_gt_of_ne hki with hlt | hgt
          · exact hpw k i hkb hib hlt c hc2 c hbi rfl
          · exact hpw i k hib hkb hgt c hbi c hc2 rfl
    · have hbb : base ≤ blk := (hr.hn _ _ _ hg hs (by simp) blk hbg).1
      exact (Below.refl _ _).setCell (p := ⟨blk, j, none⟩) hbb _
end

/-! ### Functions that hand back an own slice of rows in the place of the one that they were handed -/
/-- The function is handed the own slice of rows 'xss' (handle 0) and hands back one made of its memory and new memory. All else is as it was. -/
def AFnT (P : Program) (f : FuncId) (args : List AV) (T T2 : TypeId) (xss : List (List Int)) (Q : List (List Int) → Prop) : Prop :=
  HasBody P f ∧ ∀ base w g vs, base ≤ w.heap.size → Objs base w [g] [.sls T T2 xss] → vs.size = args.length → (∀ i : Nat, RV w (okOf [g] [.sls T T2 xss]) [g] (vs.getD i undef) (args.getD i .any)) →
    Calls P f vs w fun e w' => ∃ g' xss', e = .returned g'.v ∧ Q xss' ∧ RO base w' (fun _ => True) [g'] g' (.sls T T2 xss') ∧ (∀ b, b ∈ g'.bl → (b ∈ g.bl ∨ w.heap.size ≤ b) ∧ b < w'.heap.size) ∧ Below base w w' ∧ ∀ b, b < w.heap.size → b ∉ g.bl → w'.heap[b]? = w.heap[b]?

theorem AFnT.of {P : Program} {f : FuncId} {fn : Func} {c : Code} {args args' : List AV} {T T2 : TypeId} {xss : List (List Int)} {Q : List (List Int) → Prop} {n : Nat} (hf : P.funcs[f]? = some fn) (hb : fn.body = some c) (hnm : (fn.name == "runtime.NumGoroutine") = false) (hn : fn.ntmps - args.length = n) (ha : args' = args.map (AV.sh 1))
    (h : ∀ K, AWp P c (fun _ _ => False) (fun _ _ _ => False) (fun env os => ∃ env2 os2 k xss', Turns env os env2 os2 ∧ ResIs P fn env2 os2 (.own k) ∧ os2[k]? = some (.sls T T2 xss') ∧ Q xss' ∧ os2[0]? = some (.keep 1 K)) (Env.start args' n) [.keep 1 K, .sls T T2 xss]) :
    AFnT P f args T T2 xss Q := by
  refine ⟨⟨fn, c, hf, hnm, hb⟩, fun base w g vs hbase hO hsz hvs => calls_of_wp hf hb ?_⟩
  rw [show fn.ntmps - vs.size = n by rw [hsz]; exact hn]
  let bl : List Nat := (List.range w.heap.size).filter fun b => decide (base ≤ b) && !g.bl.contains b
  let gk : Gh := ⟨undef, 0, bl, []⟩
  let K : Kp := ⟨fun b => w.heap[b]?, [gk]⟩
  have hbl : ∀ b, b ∈ bl ↔ b < w.heap.size ∧ base ≤ b ∧ b ∉ g.bl := by
    intro b
    simp only [bl, List.mem_filter, List.mem_range, Bool.and_eq_true, decide_eq_true_eq, Bool.not_eq_true', List.contains_eq_mem, decide_eq_false_iff_not]
  have gg : ∀ {i : Nat} {x : Gh}, [gk, g][i]? = some x → (i = 0 ∧ x = gk) ∨ (i = 1 ∧ x = g) := by
    intro i x hx
    match i with
    | 0 => simp at hx; exact .inl ⟨rfl, hx.symm⟩
    | 1 => simp at hx; exact .inr ⟨rfl, hx.symm⟩
    | i + 2 => simp at hx
  have go : ∀ {i : Nat} {x : AO}, [AO.keep 1 K, AO.sls T T2 xss][i]? = some x → (i = 0 ∧ x = .keep 1 K) ∨ (i = 1 ∧ x = .sls T T2 xss) := by
    intro i x hx
    match i with
    | 0 => simp at hx; exact .inl ⟨rfl, hx.symm⟩
    | 1 => simp at hx; exact .inr ⟨rfl, hx.symm⟩
    | i + 2 => simp at hx
  have hkeep : Keeps (okOf [g] [.sls T T2 xss]) (okOf [gk, g] [.keep 1 K, .sls T T2 xss]) w w := by
    intro b hbk _
    refine ⟨fun i x y hx hy hny hm => ?_, rfl⟩
    rcases gg hx with ⟨rfl, rfl⟩ | ⟨rfl, rfl⟩
    · rcases go hy with ⟨_, rfl⟩ | ⟨h0, _⟩
      · exact hny.elim
      · omega
    · rcases go hy with ⟨h0, _⟩ | ⟨_, rfl⟩
      · omega
      · exact hbk 0 _ _ rfl rfl hny hm
  have hro0 := hO.ho 0 g _ rfl rfl
  have hn0 := hO.hn 0 g rfl
  have hrel : Rel base w [gk, g] (Env.start args' n) [.keep 1 K, .sls T T2 xss] (vs ++ Array.replicate n undef) := by
    refine ⟨hbase, rfl, by simp [Env.start, hsz, ha], fun i => start_rv args' n vs (fun i => ?_) i, ?_, ?_, ?_⟩
    · rw [ha, getD_map_any _ rfl]
      have := (hvs i).sh (gs0 := [gk]) hkeep
      exact this
    · intro i x y hx hy
      rcases gg hx with ⟨rfl, rfl⟩ | ⟨rfl, rfl⟩
      · rcases go hy with ⟨_, rfl⟩ | ⟨h0, _⟩
        · exact ⟨fun b _ => rfl, rfl, fun i x h => by
            match i with
            | 0 => exact h
            | i + 1 => simp [K] at h⟩
        · omega
      · rcases go hy with ⟨h0, _⟩ | ⟨_, rfl⟩
        · omega
        · exact AO.plain.ro trivial hro0
    · intro i j g1 g2 o1 o2 hij hg1 hg2 ho1 ho2 _ _ b hb1 hb2
      rcases gg hg1 with ⟨rfl, rfl⟩ | ⟨rfl, rfl⟩
      · rcases gg hg2 with ⟨rfl, rfl⟩ | ⟨rfl, rfl⟩
        · exact hij rfl
        · exact ((hbl b).1 hb1).2.2 hb2
      · rcases gg hg2 with ⟨rfl, rfl⟩ | ⟨rfl, rfl⟩
        · exact ((hbl b).1 hb2).2.2 hb1
        · exact hij rfl
    · intro i x y hx hy _ b hb
      rcases gg hx with ⟨rfl, rfl⟩ | ⟨rfl, rfl⟩
      · exact ⟨((hbl b).1 hb).2.1, ((hbl b).1 hb).1⟩
      · exact hn0 b hb
  refine wp_mono (h K base w w _ _ hrel (Below.refl _ _)) ?_
  intro e a w' hq
  cases e with
  | normal => obtain ⟨_, _, _, _, _, _, hx⟩ := hq; exact hx.elim
  | exit j => obtain ⟨_, _, _, _, _, _, hx⟩ := hq; exact hx.elim
  | ret =>
    obtain ⟨env, os1, gs1, hr1, hd, hbel, env2, os2, k, xss', ht, hres, hok, hQ, hkp⟩ := hq
    obtain ⟨gs2, hr⟩ := ht base w' gs1 _ hr1
    obtain ⟨v, hu, hv⟩ := hres _ _ _ _ hr
    cases hv with
    | @own _ g' hg' =>
      have hlt0 : 0 < gs2.length := by rw [hr.hl]; exact (List.getElem?_eq_some_iff.1 hkp).1
      obtain ⟨g0, hg0⟩ : ∃ g0, gs2[0]? = some g0 := ⟨_, List.getElem?_eq_getElem hlt0⟩
      obtain ⟨r1, r2, r3⟩ := hr.ho _ _ _ hg0 hkp
      have egk : g0 = gk := by
        have := r3 0 gk rfl
        rw [hg0] at this
        exact Option.some.inj this
      subst egk
      have hk0 : k ≠ 0 := fun e => by subst e; rw [hkp] at hok; cases hok
      refine ⟨hd, g'.v, hu, g', xss', rfl, hQ, AO.plain.ro trivial (hr.ho _ _ _ hg' hok), fun b hb => ?_, hbel, fun b hb hnot => ?_⟩
      · have hbn := hr.hn _ _ _ hg' hok (by simp) b hb
        refine ⟨?_, hbn.2⟩
        by_cases hbw : b < w.heap.size
        · left
          apply Classical.byContradiction
          intro hnb
          exact hr.hd k 0 g' _ _ _ hk0 hg' hg0 hok hkp (by simp) (by simp) b hb ((hbl b).2 ⟨hbw, hbn.1, hnb⟩)
        · right; omega
      · rcases Nat.lt_or_ge b base with h6 | h6
        · exact hbel.block b h6
        · exact r1 b ((hbl b).2 ⟨hb, h6, hnot⟩)
  | goto l => exact (hq : False).elim
  | panic ch => exact (hq : False).elim
  | outgrown => exact (hq : False).elim
theorem AFnT.start {P : Program} {f : FuncId} {fn : Func} {nt : Nat} {args : List AV} {T T2 : TypeId} {xss : List (List Int)} {Q : List (List Int) → Prop} (hf : P.funcs[f]? = some fn) (hnt : fn.ntmps = nt) {c : Code} (hb : fn.body = some c) (hnm : (fn.name == "runtime.NumGoroutine") = false)
    (h : ∀ K, AWp P c (fun _ _ => False) (fun _ _ _ => False) (fun env os => ∃ env2 os2 k xss', Turns env os env2 os2 ∧ ResIs P fn env2 os2 (.own k) ∧ os2[k]? = some (.sls T T2 xss') ∧ Q xss' ∧ os2[0]? = some (.keep 1 K)) (Env.start (args.map (AV.sh 1)) (nt - args.length)) [.keep 1 K, .sls T T2 xss]) :
    AFnT P f args T T2 xss Q := AFnT.of hf hb hnm (by rw [hnt]) rfl h

/-- All that hangs on handle 'h' is forgotten. -/
def AV.lose1 (h : Nat) : AV → AV
  | .own k => if k = h then .any else .own k
  | .optr k i => if k = h then .any else .optr k i
  | .osub k a b => if k = h then .any else .osub k a b
  | .orow k i => if k = h then .any else .orow k i
  | .orptr k i j => if k = h then .any else .orptr k i j
  | .agg _ => .any
  | .tup _ => .any
  | a => a
def AV.lose (h : Nat) : AV → AV
  | .own k => if k = h then .any else .own k
  | .optr k i => if k = h then .any else .optr k i
  | .osub k a b => if k = h then .any else .osub k a b
  | .orow k i => if k = h then .any else .orow k i
  | .orptr k i j => if k = h then .any else .orptr k i j
  | .agg l => .agg (l.map (AV.lose1 h))
  | .tup l => .tup (l.map (AV.lose1 h))
  | a => a
section
variable {w w' : World} {ok ok' : Nat → Prop} {gs : List Gh} {h : Nat} {g' : Gh}
theorem getD_map_lose1 (l : List AV) (i : Nat) : (l.map (AV.lose1 h)).getD i .any = (l.getD i .any).lose1 h := by
  simp only [List.getD_eq_getElem?_getD, List.getElem?_map]
  cases l[i]? <;> rfl
theorem RV.lose1 (k : Keeps ok ok' w w') {v : Value} {a : AV} (hv : RV w ok gs v a) : RV w' ok' (gs.set h g') v (a.lose1 h) := by
  have hg : ∀ {j : Nat} {x : Gh}, j ≠ h → gs[j]? = some x → (gs.set h g')[j]? = some x := fun hj hx => by
    rw [List.getElem?_set, if_neg (fun e => hj e.symm)]; exact hx
  cases hv with
  | any v => exact .any v
  | val v => exact .val v
  | ints h => exact .ints (h.mono k)
  | intss h => exact .intss (h.mono k)
  | @ro v r h => exact .ro (r.up k h)
  | iptr h h1 h2 => exact .iptr (h.mono k) h1 h2
  | iiptr h h1 h2 => exact .iiptr (h.mono k) h1 h2
  | own h1 =>
    simp only [AV.lose1]; split
    · exact .any _
    · exact .own (hg ‹_› h1)
  | optr h1 =>
    simp only [AV.lose1]; split
    · exact .any _
    · exact .optr (hg ‹_› h1)
  | osub h1 h2 h3 h4 =>
    simp only [AV.lose1]; split
    · exact .any _
    · exact .osub (hg ‹_› h1) h2 h3 h4
  | orow h1 h2 =>
    simp only [AV.lose1]; split
    · exact .any _
    · exact .orow (hg ‹_› h1) h2
  | orptr h1 h2 =>
    simp only [AV.lose1]; split
    · exact .any _
    · exact .orptr (hg ‹_› h1) h2
  | agg _ _ _ => exact .any _
  | tup _ _ => exact .any _
theorem RV.lose (k : Keeps ok ok' w w') {v : Value} {a : AV} (hv : RV w ok gs v a) : RV w' ok' (gs.set h g') v (a.lose h) := by
  have hg : ∀ {j : Nat} {x : Gh}, j ≠ h → gs[j]? = some x → (gs.set h g')[j]? = some x := fun hj hx => by
    rw [List.getElem?_set, if_neg (fun e => hj e.symm)]; exact hx
  cases hv with
  | any v => exact .any v
  | val v => exact .val v
  | ints h => exact .ints (h.mono k)
  | intss h => exact .intss (h.mono k)
  | @ro v r h => exact .ro (r.up k h)
  | iptr h h1 h2 => exact .iptr (h.mono k) h1 h2
  | iiptr h h1 h2 => exact .iiptr (h.mono k) h1 h2
  | own h1 =>
    simp only [AV.lose]; split
    · exact .any _
    · exact .own (hg ‹_› h1)
  | optr h1 =>
    simp only [AV.lose]; split
    · exact .any _
    · exact .optr (hg ‹_› h1)
  | osub h1 h2 h3 h4 =>
    simp only [AV.lose]; split
    · exact .any _
    · exact .osub (hg ‹_› h1) h2 h3 h4
  | orow h1 h2 =>
    simp only [AV.lose]; split
    · exact .any _
    · exact .orow (hg ‹_› h1) h2
  | orptr h1 h2 =>
    simp only [AV.lose]; split
    · exact .any _
    · exact .orptr (hg ‹_› h1) h2
  | agg h1 h3 h2 => exact .agg (by simpa using h1) h3 fun i => by rw [getD_map_lose1]; exact (h2 i).lose1 k
  | tup h1 h2 => exact .tup (by simpa using h1) fun i => by rw [getD_map_lose1]; exact (h2 i).lose1 k
end

section
variable {P : Program} {env : Env} {os : List AO} {d : Option Tmp} {ty : TypeId} {pos : String} {af : Array Edge} {g : Option (Nat × Bool)}
end

section
variable {P : Program} {env : Env} {os : List AO} {d : Tmp} {ty : TypeId} {pos : String} {af : Array Edge} {g : Option (Nat × Bool)} {l rest : List Oper} {K : APost} {q : Md}
theorem w_storp {t : TypeId} [TCell P t] {x y : Operand} {h i j : Nat} {e e2 : TypeId} {xss : List (List Int)} {n : Int} (hx : evo env x = some (.orptr h i j)) (hs : os[h]? = some (.sls e e2 xss)) (hi : i < xss.length) (hj : j < (xss.getD i []).length) (hy : evo env y = some (.i n)) (hn : inI n)
    (h' : AOps P .seq l rest K env (os.set h (.sls e e2 (xss.set i ((xss.getD i []).set j n))))) : AOps P .seq l (⟨none, .store t x y, ty, pos, af, none⟩ :: rest) K env os := AOps.so (l_store_orptr (ev_of hx) hs hi hj (ev_of hy) hn) h'
end
end Go.Proofs.Ytfaeiphgenddkaa
/-
  The program puts edges together. Condition: few edges with small numbers.
-/
namespace Go.Proofs.Ytfaeiphgenddkaa
open Go Go.RowKit
attribute [local irreducible] AWp AOps ResIs Ret1 QOp LOp COp AFnV AFn Imms LeE LeO
set_option maxHeartbeats 1000000
set_option linter.unusedSimpArgs false
set_option linter.unusedVariables false

def cmpJ (x y : List Int) : Int := cmp3 (geti y 1 * geti x 0) (geti x 1 * geti y 0)
theorem cmpJ_lt {x y : List Int} : cmpJ x y < 0 ↔ wS x y > 0 := by
  unfold cmpJ
  rw [cmp3_lt]
  unfold wS
  rw [Int.mul_comm (geti y 1)]
  omega
theorem mul60 {a b : Int} (ha : 1 ≤ a ∧ a ≤ 60) (hb : 1 ≤ b ∧ b ≤ 60) : 0 ≤ a * b ∧ a * b ≤ 3600 :=
  ⟨Int.mul_nonneg (by omega) (by omega), by have := Int.mul_le_mul ha.2 hb.2 (by omega) (by omega); omega⟩
theorem cmpJ_ok : CmpOk 43 cmpJ E60 := by
  refine ⟨⟨_, _, Try.func43, by kernel_rfl, rfl⟩, ?_, ?_, ?_, ?_⟩
  · intro w v1 v2 xs ys h1 h2 t1 t2
    obtain ⟨b1, o1, c1, rfl, p0, p1⟩ := pair_cells h1 t1.1
    obtain ⟨b2, o2, c2, rfl, q0, q1⟩ := pair_cells h2 t2.1
    have m1 := mul60 t2.2.2 t1.2.1
    have m2 := mul60 t1.2.2 t2.2.1
    refine (joined_k b1 o1 c1 b2 o2 c2 _ _ _ _ w p0 p1 q0 q1 (by rw [IntKind.wrap_i64]; omega) (by rw [IntKind.wrap_i64]; omega)).mono ?_
    rintro e w' ⟨rfl, q, rfl⟩
    exact ⟨rfl, q, #[], by rw [Go.Sort.grow_empty]⟩
  · intro x _; rw [cmpJ_lt, wS_self]; omega
  · intro x y z hx hy hz h1 h2; rw [cmpJ_lt] at *; exact wS_lt1 hx.2.2.1 hy.2.2.1 hz.2.2.1 h1 (by omega)
  · intro x y z hx hy hz h1 h2
    rw [cmpJ_lt] at *
    have a1 := wS_neg x y
    have a2 := wS_neg y z
    have a3 := wS_neg x z
    have := wS_le hz.2.2.1 hy.2.2.1 hx.2.2.1 (by omega : 0 ≤ wS z y) (by omega : 0 ≤ wS y x)
    omega
theorem sS_mem {F : List Int → Int} {A : List (List Int)} (h : ∀ e ∈ A, 0 ≤ F e) {l : List Int} (hl : l ∈ A) : F l ≤ sS F A := by
  obtain ⟨B, C, rfl⟩ := List.append_of_mem hl
  rw [sS_append, sS]
  have h1 := sS_nonneg (F := F) (A := B) fun e he => h e (by simp [he])
  have h2 := sS_nonneg (F := F) (A := C) fun e he => h e (by simp [he])
  omega
theorem sS_bd {F : List Int → Int} {B : Int} : ∀ {A : List (List Int)}, (∀ e ∈ A, F e ≤ B) → sS F A ≤ B * A.length
  | [], _ => by simp [sS]
  | a :: A, h => by
    have h1 := h a (by simp)
    have h2 := sS_bd (A := A) fun e he => h e (by simp [he])
    rw [sS, List.length_cons, Int.natCast_add, Int.mul_add]
    simp only [Int.natCast_one, Int.mul_one]
    omega
theorem JoinOf.bd {Y L : List (List Int)} (h : JoinOf Y L) (hY : ∀ y ∈ Y, E60 y) {n : Nat} (hn : Y.length ≤ n) {l : List Int} (hl : l ∈ L) : l.length = 2 ∧ (1 ≤ geti l 0 ∧ geti l 0 ≤ 60 * n) ∧ (1 ≤ geti l 1 ∧ geti l 1 ≤ 60 * n) := by
  have hp := h.pos l hl
  have a0 := sS_mem (F := E0) (A := L) (fun e he => by have := (h.pos e he).2.1; simp only [E0]; omega) hl
  have a1 := sS_mem (F := E1) (A := L) (fun e he => by have := (h.pos e he).2.2; simp only [E1]; omega) hl
  have b0 := sS_bd (F := E0) (B := 60) (A := Y) (fun e he => (hY e he).2.1.2)
  have b1 := sS_bd (F := E1) (B := 60) (A := Y) (fun e he => (hY e he).2.2.2)
  have ht := h.tot
  have : (Y.length : Int) ≤ n := by omega
  simp only [E0, E1] at a0 a1
  exact ⟨hp.1, ⟨hp.2.1, by omega⟩, ⟨hp.2.2, by omega⟩⟩
def rowsOf (R : List Nat) (zs : List (List Int)) : List (List Int) := R.map fun i => zs.getD i []
theorem take_getD (ys : List (List Int)) {k : Nat} (hk : k < ys.length) : ys.take (k + 1) = ys.take k ++ [ys.getD k []] := by
  rw [List.take_add_one, List.getElem?_eq_getElem hk, List.getD_eq_getElem?_getD, List.getElem?_eq_getElem hk]; rfl
theorem rowsOf_set {R : List Nat} {zs : List (List Int)} {t : Nat} {v : List Int} (h : t ∉ R) : rowsOf R (zs.set t v) = rowsOf R zs := by
  unfold rowsOf
  refine List.map_congr_left fun i hi => ?_
  have hne : t ≠ i := fun e => h (e ▸ hi)
  rw [List.getD_eq_getElem?_getD, List.getD_eq_getElem?_getD, List.getElem?_set, if_neg hne]
theorem gset_self {zs : List (List Int)} {t : Nat} {v : List Int} (h : t < zs.length) : (zs.set t v).getD t [] = v := by
  rw [List.getD_eq_getElem?_getD, List.getElem?_set, if_pos rfl, if_pos h]; rfl
theorem gset_ne {zs : List (List Int)} {t i : Nat} {v : List Int} (h : t ≠ i) : (zs.set t v).getD i [] = zs.getD i [] := by
  rw [List.getD_eq_getElem?_getD, List.getD_eq_getElem?_getD, List.getElem?_set, if_neg h]
theorem set_two {l : List Int} (h : l.length = 2) (a b : Int) : (l.set 0 a).set 1 b = [a, b] := by
  match l, h with
  | [x, y], _ => rfl

set_option maxHeartbeats 16000000 in
theorem joinedEdges_c (xss : List (List Int)) (h0 : 0 < xss.length) (h1 : xss.length ≤ 200) (hp : ∀ r ∈ xss, E60 r) : AFn Try.prog 24 [.intss xss] (fun r os => ∃ L, JoinOf xss L ∧ r = .own 0 ∧ os = [.sls 33 2 L]) := by
  have hcl := copyLists_c xss (by omega) (fun r hr => by have := (hp r hr).1; omega)
  (refine AFn.start Try.func24 Try.ntmps24 rfl (by kernel_rfl) fun hk => ?_; simp only [Env.start, enumF, List.length_cons, List.length_nil, Nat.reduceAdd, Nat.reduceSub, List.cons_append, List.nil_append])
  repeat' (first | (apply AOps.nil; try simp only [List.nil_append, List.cons_append, List.set_cons_zero, List.set_cons_succ, List.length_cons, List.length_nil, Nat.reduceAdd, AV.sh, AV.sh1, AV.sh0, AO.sh, List.map_cons, List.map_nil, Nat.zero_add, Nat.add_zero, setAll]) | (apply w_move; exact rfl; exact rfl) | (apply w_assign; exact rfl; exact rfl) | apply AWp.seq | apply AWp.region | (apply w_callm (hcl); (focus ((repeat (first | exact im_nil | refine im_cons rfl (.intss _) ?_)); done)); rintro r os0 ⟨rfl, rfl⟩; try simp only [List.nil_append, List.cons_append, List.set_cons_zero, List.set_cons_succ, List.length_cons, List.length_nil, Nat.reduceAdd, AV.sh, AV.sh1, AV.sh0, AO.sh, List.map_cons, List.map_nil, Nat.zero_add, Nat.add_zero, setAll]))
  refine w_sortst cmpJ_ok hp ⟨h0, by omega⟩ rfl rfl rfl fun idx hperm hsort => ?_
  simp only [Env.mp, List.map_cons, List.map_nil, List.set_cons_zero, List.set_cons_succ, AV.kill, AV.kill1, AO.kill, AV.noRow, AV.noRow1, AO.via, reduceIte, Nat.reduceEqDiff, Nat.reduceLT, Env.up, Nat.zero_ne_one, Nat.one_ne_zero, Nat.reduceAdd, List.cons_append, List.nil_append]
  have hil : idx.length = xss.length := by have := hperm.length_eq; simpa using this
  obtain ⟨ys, eys⟩ : ∃ ys, ys = idx.map fun i => xss.getD i [] := ⟨_, rfl⟩
  have hyl : ys.length = xss.length := by rw [eys]; simpa using hil
  have hpm : ys.Perm xss := by
    rw [eys]
    have := hperm.map fun i => xss.getD i []
    refine this.trans (List.Perm.of_eq ?_)
    apply List.ext_getElem?
    intro i
    rw [List.getElem?_map]
    by_cases hi : i < xss.length
    · rw [List.getElem?_range hi, List.getElem?_eq_getElem hi, Option.map_some, List.getD_eq_getElem?_getD, List.getElem?_eq_getElem hi]; rfl
    · rw [List.getElem?_eq_none (by simp; omega), List.getElem?_eq_none (by omega)]; rfl
  have hrow : ∀ i : Nat, i < ys.length → ys.getD i [] = xss.getD (idx.getD i 0) [] := by
    intro i hi
    rw [eys, List.getD_eq_getElem?_getD, List.getElem?_map, List.getD_eq_getElem?_getD (l := idx), List.getElem?_eq_getElem (by omega)]
    rfl
  have hs : ∀ j k : Nat, j < k → k < ys.length → 0 ≤ wS (ys.getD j []) (ys.getD k []) := by
    intro j k hj hk
    have := hsort j k hj (by omega)
    rw [cmpJ_lt] at this
    rw [hrow j (by omega), hrow k hk, wS_neg]
    omega
  have hY : ∀ y ∈ ys, E60 y := fun y hy => hp y (hpm.mem_iff.1 hy)
  rw [← eys]
  clear hrow hsort hperm hcl hil eys idx
  repeat' (first | (apply AOps.nil; try simp only [List.nil_append, List.cons_append, List.set_cons_zero, List.set_cons_succ, List.length_cons, List.length_nil, Nat.reduceAdd, AV.sh, AV.sh1, AV.sh0, AO.sh, List.map_cons, List.map_nil, Nat.zero_add, Nat.add_zero, setAll]) | apply AWp.seq | apply AWp.region)
  refine w_bsx0 0 rfl ?_
  try simp only [List.nil_append, List.cons_append, List.set_cons_zero, List.set_cons_succ, List.length_cons, List.length_nil, Nat.reduceAdd, AV.sh, AV.sh1, AV.sh0, AO.sh, List.map_cons, List.map_nil, Nat.zero_add, Nat.add_zero, setAll]
  repeat' (first | (apply AOps.nil; try simp only [List.nil_append, List.cons_append, List.set_cons_zero, List.set_cons_succ, List.length_cons, List.length_nil, Nat.reduceAdd, AV.sh, AV.sh1, AV.sh0, AO.sh, List.map_cons, List.map_nil, Nat.zero_add, Nat.add_zero, setAll]) | (apply w_move; exact rfl; exact rfl) | (apply w_assign; exact rfl; exact rfl) | apply AWp.seq | apply AWp.region | apply AWp.block | (apply w_len; exact rfl; exact rfl; first | exact .ints _ | exact .intss _ | exact .sli rfl | exact .sls rfl | exact .slr rfl | exact .orow rfl | exact .nil))
  refine AWp.loop (ι := Nat × List Nat × List (List Int)) (fun x => ⟨65, [(4, .own 2), (13, .own 0), (14, .i ys.length), (15, .i x.1)]⟩) (fun x => [.sls 33 2 x.2.2, .dead, .slr 33 (x.2.1.reverse.map (AV.orow 0))])
    (fun x => x.1 ≤ ys.length ∧ x.2.2.length = ys.length ∧ (∀ i, x.1 ≤ i → x.2.2.getD i [] = ys.getD i []) ∧ StkOk ys x.1 x.2.1 ∧ JI (ys.take x.1) (rowsOf x.2.1.reverse x.2.2)) (fun x => ys.length - x.1) (0, [], ys) ⟨Nat.zero_le _, rfl, fun _ _ => rfl, ⟨by simp, by simp, by simp⟩, by simpa [rowsOf] using JI.nil⟩ ⟨lee rfl (by (repeat (first | exact le_nil | refine le_eq rfl rfl ?_))), by (repeat (first | exact lo_nil | refine lo_dead ?_ | refine lo_eq rfl ?_)), rfl, (by first | exact rfl | exact lim3 _)⟩ ?_
  rintro ⟨k, R, zs⟩ ⟨k0, k1, k2, k3, k4⟩
  simp only at k0 k1 k2 k3 k4
  have rl := rev_len (R := R)
  have hn := hyl
  by_cases hk : k < ys.length
  · have hE : E60 (ys.getD k []) := hY _ (by rw [List.getD_eq_getElem?_getD, List.getElem?_eq_getElem hk]; exact List.getElem_mem hk)
    have hzk : zs.getD k [] = ys.getD k [] := k2 k (Nat.le_refl _)
    have hk3 : (zs.getD (k : Int).toNat []).length = 2 := by rw [Int.toNat_natCast, hzk]; exact hE.1
    have hpre : ∀ y ∈ ys.take k, 0 ≤ wS y (ys.getD k []) := fun y hy => by
      obtain ⟨j, hj⟩ := List.getElem?_of_mem hy
      rw [List.getElem?_take] at hj
      split at hj
      · rename_i hjk
        have := hs j k hjk hk
        rw [List.getD_eq_getElem?_getD (i := j), hj] at this
        exact this
      · cases hj
    have hYk : ∀ y ∈ ys.take k, E60 y := fun y hy => hY y (List.mem_of_mem_take hy)
    have etk := take_getD ys hk
    have k30 := k3.2.2
    have push : (∀ A l, rowsOf R.reverse zs = A ++ [l] → wS l (ys.getD k []) ≠ 0) → JI (ys.take (k + 1)) (rowsOf (k :: R).reverse zs) := fun hz => by
      rw [etk, List.reverse_cons]
      have : rowsOf (R.reverse ++ [k]) zs = rowsOf R.reverse zs ++ [ys.getD k []] := by
        unfold rowsOf
        rw [List.map_append, List.map_cons, List.map_nil, hzk]
      rw [this]
      exact k4.push (fun y hy => (hYk y hy).ep) hE.ep hpre hz
    cases R with
    | nil =>
      have rl0 : ((([] : List Nat).reverse).map (AV.orow 0)).length = 0 := rfl
      have rl1 : (([] : List Nat).reverse).length = 0 := rfl
      have rl2 : ([] : List Nat).reverse ++ [k] = [k].reverse := rfl
      have pk := push (fun A l h => by simp [rowsOf] at h)
      generalize est : ([] : List Nat).reverse = st at *
      repeat' (first | (apply AOps.nil; try simp only [List.nil_append, List.cons_append, List.set_cons_zero, List.set_cons_succ, List.length_cons, List.length_nil, Nat.reduceAdd, AV.sh, AV.sh1, AV.sh0, AO.sh, List.map_cons, List.map_nil, Nat.zero_add, Nat.add_zero, setAll]) | (apply w_move; exact rfl; exact rfl) | (apply w_assign; exact rfl; exact rfl) | apply AWp.seq | apply AWp.region | ((apply AWp.condP; exact rfl) <;> intro h) | apply AWp.block | apply AWp.ret | apply AWp.exit | apply AWp.skip | (apply w_len; exact rfl; exact rfl; first | exact .ints _ | exact .intss _ | exact .sli rfl | exact .sls rfl | exact .slr rfl | exact .orow rfl | exact .nil) | ((first | apply w_bsx1 | apply w_lss | apply w_gtr | apply w_add | apply w_sub | apply w_idx | apply w_ld); iterate 3 exact rfl) | (apply w_appx; exact rfl; exact rfl; exact rfl; exact rfl; exact rfl; rotate_left 1; simp only [Env.mp, List.map_cons, List.map_nil, List.set_cons_zero, List.set_cons_succ, AV.kill, AV.kill1, AO.kill, AV.rin, AV.rin1, AV.noRow, AV.noRow1, AO.via, reduceIte, Nat.reduceEqDiff, Nat.reduceLT, Env.up, Nat.zero_ne_one, Nat.one_ne_zero, Nat.reduceAdd, List.cons_append, List.nil_append]; rotate_left 1) | omega | (apply w_idxo; exact rfl; exact rfl; (exact .sls rfl); exact rfl) | (apply w_ldls; iterate 4 exact rfl) | (apply inI_of <;> omega))
      refine ⟨(k + 1, [k], zs), ⟨by simp only; omega, k1, fun i hi => k2 i (by simp only at hi; omega), k3.push, pk⟩, by simp only; omega, by simp only [← rl2]; exact ⟨lee rfl (by (repeat (first | exact le_nil | refine le_eq rfl rfl ?_))), by (repeat (first | exact lo_nil | refine lo_dead ?_ | refine lo_eq rfl ?_)), rfl, (by first | exact rfl | exact lim3 _)⟩⟩
    | cons t r =>
      have htk : t < k := k3.2.1 t (by simp)
      have e1 : (t :: r).reverse.getD (((((t :: r).reverse.map (AV.orow 0)).length : Nat) : Int) - 1).toNat 0 = t := rev_top (by rw [rl]; simp)
      have rl' : ((t :: r).reverse.map (AV.orow 0)).length = r.length + 1 := by rw [rl]; rfl
      have hl1 : ((t :: r).reverse).length = r.length + 1 := by simp
      have er : rowsOf (t :: r).reverse zs = rowsOf r.reverse zs ++ [zs.getD t []] := by simp [rowsOf]
      rw [List.length_cons] at k30
      have hlm := k4.join.bd hYk (n := 200) (by rw [List.length_take]; omega) (l := zs.getD t []) (by rw [er]; simp)
      have hl2 : (zs.getD t []).length = 2 := hlm.1
      have hb1 : 0 ≤ geti (zs.getD t []) ((Int.toNat 1 : Nat) : Int) * geti (zs.getD (k : Int).toNat []) ((Int.toNat 0 : Nat) : Int) ∧ geti (zs.getD t []) ((Int.toNat 1 : Nat) : Int) * geti (zs.getD (k : Int).toNat []) ((Int.toNat 0 : Nat) : Int) ≤ 720000 := by
        rw [Int.toNat_natCast, hzk]
        exact ⟨Int.mul_nonneg (by have := hlm.2.2.1; exact Int.le_trans (by decide) this) (by have := hE.2.1.1; exact Int.le_trans (by decide) this), Int.mul_le_mul (c := 12000) (d := 60) (by have := hlm.2.2.2; exact this) hE.2.1.2 (by have := hE.2.1.1; exact Int.le_trans (by decide) this) (by decide)⟩
      have hb2 : 0 ≤ geti (zs.getD (k : Int).toNat []) ((Int.toNat 1 : Nat) : Int) * geti (zs.getD t []) ((Int.toNat 0 : Nat) : Int) ∧ geti (zs.getD (k : Int).toNat []) ((Int.toNat 1 : Nat) : Int) * geti (zs.getD t []) ((Int.toNat 0 : Nat) : Int) ≤ 720000 := by
        rw [Int.toNat_natCast, hzk]
        exact ⟨Int.mul_nonneg (by have := hE.2.2.1; exact Int.le_trans (by decide) this) (by have := hlm.2.1.1; exact Int.le_trans (by decide) this), Int.mul_le_mul (c := 60) (d := 12000) hE.2.2.2 (by have := hlm.2.1.2; exact this) (by have := hlm.2.1.1; exact Int.le_trans (by decide) this) (by decide)⟩
      have hwz : wS (zs.getD t []) (ys.getD k []) = 0 ↔ geti (zs.getD t []) ((Int.toNat 1 : Nat) : Int) * geti (zs.getD (k : Int).toNat []) ((Int.toNat 0 : Nat) : Int) = geti (zs.getD (k : Int).toNat []) ((Int.toNat 1 : Nat) : Int) * geti (zs.getD t []) ((Int.toNat 0 : Nat) : Int) := by
        rw [Int.toNat_natCast, hzk]
        unfold wS
        show geti (zs.getD t []) 1 * geti (ys.getD k []) 0 - geti (zs.getD t []) 0 * geti (ys.getD k []) 1 = 0 ↔ geti (zs.getD t []) 1 * geti (ys.getD k []) 0 = geti (ys.getD k []) 1 * geti (zs.getD t []) 0
        rw [Int.mul_comm (geti (ys.getD k []) 1)]
        omega
      have hz0 : 1 ≤ geti (zs.getD (k : Int).toNat []) ((Int.toNat 0 : Nat) : Int) ∧ geti (zs.getD (k : Int).toNat []) ((Int.toNat 0 : Nat) : Int) ≤ 60 := by rw [Int.toNat_natCast, hzk]; exact hE.2.1
      have hz1 : 1 ≤ geti (zs.getD (k : Int).toNat []) ((Int.toNat 1 : Nat) : Int) ∧ geti (zs.getD (k : Int).toNat []) ((Int.toNat 1 : Nat) : Int) ≤ 60 := by rw [Int.toNat_natCast, hzk]; exact hE.2.2
      have ht0 : 1 ≤ geti (zs.getD t []) ((Int.toNat 0 : Nat) : Int) ∧ geti (zs.getD t []) ((Int.toNat 0 : Nat) : Int) ≤ 12000 := hlm.2.1
      have ht1 : 1 ≤ geti (zs.getD t []) ((Int.toNat 1 : Nat) : Int) ∧ geti (zs.getD t []) ((Int.toNat 1 : Nat) : Int) ≤ 12000 := hlm.2.2
      by_cases hq : wS (zs.getD t []) (ys.getD k []) = 0
      · have hq' := hwz.1 hq
        generalize est : (t :: r).reverse = st at *
        repeat' (first | (apply AOps.nil; try simp only [List.nil_append, List.cons_append, List.set_cons_zero, List.set_cons_succ, List.length_cons, List.length_nil, Nat.reduceAdd, AV.sh, AV.sh1, AV.sh0, AO.sh, List.map_cons, List.map_nil, Nat.zero_add, Nat.add_zero, setAll]) | (apply w_move; exact rfl; exact rfl) | (apply w_assign; exact rfl; exact rfl) | apply AWp.seq | apply AWp.region | ((apply AWp.condP; exact rfl) <;> intro h) | apply AWp.block | apply AWp.ret | apply AWp.exit | apply AWp.skip | (apply w_len; exact rfl; exact rfl; first | exact .ints _ | exact .intss _ | exact .sli rfl | exact .sls rfl | exact .slr rfl | exact .orow rfl | exact .nil) | ((first | apply w_bsx1 | apply w_lss | apply w_gtr | apply w_add | apply w_sub | apply w_idx | apply w_ld); iterate 3 exact rfl) | (apply w_appx; exact rfl; exact rfl; exact rfl; exact rfl; exact rfl; rotate_left 1; simp only [Env.mp, List.map_cons, List.map_nil, List.set_cons_zero, List.set_cons_succ, AV.kill, AV.kill1, AO.kill, AV.rin, AV.rin1, AV.noRow, AV.noRow1, AO.via, reduceIte, Nat.reduceEqDiff, Nat.reduceLT, Env.up, Nat.zero_ne_one, Nat.one_ne_zero, Nat.reduceAdd, List.cons_append, List.nil_append]; rotate_left 1) | omega | (apply w_idxo; exact rfl; exact rfl; (first | exact .sls rfl | exact .slr rfl); exact rfl) | ((apply w_ldr); iterate 4 exact rfl) | (apply w_ldls; iterate 4 exact rfl) | (apply inI_of <;> omega))
        rw [e1]
        apply AWp.regionQ
        · kernel_rfl
        · kernel_rfl
        repeat' (first | (apply AOps.nil; try simp only [List.nil_append, List.cons_append, List.set_cons_zero, List.set_cons_succ, List.length_cons, List.length_nil, Nat.reduceAdd, AV.sh, AV.sh1, AV.sh0, AO.sh, List.map_cons, List.map_nil, Nat.zero_add, Nat.add_zero, setAll]) | (apply w_move; exact rfl; exact rfl) | (apply w_assign; exact rfl; exact rfl) | apply AWp.seq | apply AWp.region | ((apply AWp.condP; exact rfl) <;> intro h) | apply AWp.skip | ((first | apply w_bsx1 | apply w_eql | apply w_add | apply w_mul | apply w_idx | apply w_ld); iterate 3 exact rfl) | (apply w_appx; exact rfl; exact rfl; exact rfl; exact rfl; exact rfl; rotate_left 1; simp only [Env.mp, List.map_cons, List.map_nil, List.set_cons_zero, List.set_cons_succ, AV.kill, AV.kill1, AO.kill, AV.rin, AV.rin1, AV.noRow, AV.noRow1, AO.via, reduceIte, Nat.reduceEqDiff, Nat.reduceLT, Env.up, Nat.zero_ne_one, Nat.one_ne_zero, Nat.reduceAdd, List.cons_append, List.nil_append]; rotate_left 1) | omega | ((first | apply w_idxr | apply w_ldr); iterate 4 exact rfl) | (apply w_ldrp; iterate 4 exact rfl) | (apply inI_of <;> omega))
        obtain ⟨z1, ez1⟩ : ∃ z1, z1 = zs.set t ((zs.getD t []).set (Int.toNat 0) (geti (zs.getD t []) ((Int.toNat 0 : Nat) : Int) + geti (zs.getD (k : Int).toNat []) ((Int.toNat 0 : Nat) : Int))) := ⟨_, rfl⟩
        refine AWp.regionA (by kernel_rfl) (envC := ⟨65, [(4, .own 2), (6, .orow 0 (k : Int).toNat), (7, .orow 0 t), (13, .own 0), (14, .i ys.length), (15, .i k)]⟩) (osC := [.sls 33 2 z1, .dead, .slr 33 (st.map (AV.orow 0))]) rfl rfl ?_ ?_
        · rw [ez1]
          repeat' (first | (apply AOps.nil; try simp only [List.nil_append, List.cons_append, List.set_cons_zero, List.set_cons_succ, List.length_cons, List.length_nil, Nat.reduceAdd, AV.sh, AV.sh1, AV.sh0, AO.sh, List.map_cons, List.map_nil, Nat.zero_add, Nat.add_zero, setAll]) | (apply w_move; exact rfl; exact rfl) | (apply w_storp; exact rfl; exact rfl; rotate_left 2; exact rfl; rotate_left 2) | omega | ((first | apply w_add | apply w_idx | apply w_ld); iterate 3 exact rfl) | ((first | apply w_idxr | apply w_ldr); iterate 4 exact rfl) | (apply w_ldrp; iterate 4 exact rfl) | apply AllOf.nil | (apply AllOf.cons; exact rfl) | (apply AAny.take; exact rfl; exact rfl; kernel_rfl; kernel_rfl) | (apply AAny.all; exact rfl) | (apply AAny.done; exact rfl) | (apply inI_of <;> omega))
          all_goals (apply Or.inl; refine ⟨lee rfl ?_, ?_, rfl, (lim3 _)⟩; (focus ((repeat (first | exact le_nil | refine le_eq rfl rfl ?_)); done)); (focus ((repeat (first | exact lo_nil | refine lo_dead ?_ | refine lo_eq rfl ?_)); done)))
        have z1t : z1.getD t [] = (zs.getD t []).set (Int.toNat 0) (geti (zs.getD t []) ((Int.toNat 0 : Nat) : Int) + geti (zs.getD (k : Int).toNat []) ((Int.toNat 0 : Nat) : Int)) := by rw [ez1]; exact gset_self (by omega)
        have z1k : z1.getD (k : Int).toNat [] = zs.getD (k : Int).toNat [] := by rw [ez1, Int.toNat_natCast]; exact gset_ne (by omega)
        have z1l : z1.length = ys.length := by rw [ez1, List.length_set]; exact k1
        have z1tl : (z1.getD t []).length = 2 := by rw [z1t, List.length_set]; exact hl2
        have z1kl : (z1.getD (k : Int).toNat []).length = 2 := by rw [z1k]; exact hk3
        have z1t1 : geti (z1.getD t []) ((Int.toNat 1 : Nat) : Int) = geti (zs.getD t []) ((Int.toNat 1 : Nat) : Int) := by
          rw [z1t]
          match zs.getD t [], hl2 with
          | [x, y], _ => rfl
        have z1k1 : geti (z1.getD (k : Int).toNat []) ((Int.toNat 1 : Nat) : Int) = geti (zs.getD (k : Int).toNat []) ((Int.toNat 1 : Nat) : Int) := by rw [z1k]
        obtain ⟨z2, ez2⟩ : ∃ z2, z2 = z1.set t ((z1.getD t []).set (Int.toNat 1) (geti (z1.getD t []) ((Int.toNat 1 : Nat) : Int) + geti (z1.getD (k : Int).toNat []) ((Int.toNat 1 : Nat) : Int))) := ⟨_, rfl⟩
        repeat' (apply AWp.seq)
        refine AWp.regionA (by kernel_rfl) (envC := ⟨65, [(4, .own 2), (13, .own 0), (14, .i ys.length), (15, .i k)]⟩) (osC := [.sls 33 2 z2, .dead, .slr 33 (st.map (AV.orow 0))]) rfl rfl ?_ ?_
        · rw [ez2]
          repeat' (first | (apply AOps.nil; try simp only [List.nil_append, List.cons_append, List.set_cons_zero, List.set_cons_succ, List.length_cons, List.length_nil, Nat.reduceAdd, AV.sh, AV.sh1, AV.sh0, AO.sh, List.map_cons, List.map_nil, Nat.zero_add, Nat.add_zero, setAll]) | (apply w_move; exact rfl; exact rfl) | (apply w_storp; exact rfl; exact rfl; rotate_left 2; exact rfl; rotate_left 2) | omega | ((first | apply w_add | apply w_idx | apply w_ld); iterate 3 exact rfl) | ((first | apply w_idxr | apply w_ldr); iterate 4 exact rfl) | (apply w_ldrp; iterate 4 exact rfl) | apply AllOf.nil | (apply AllOf.cons; exact rfl) | (apply AAny.take; exact rfl; exact rfl; kernel_rfl; kernel_rfl) | (apply AAny.all; exact rfl) | (apply AAny.done; exact rfl) | (apply inI_of <;> omega))
          all_goals (apply Or.inl; refine ⟨lee rfl ?_, ?_, rfl, (lim3 _)⟩; (focus ((repeat (first | exact le_nil | refine le_eq rfl rfl ?_)); done)); (focus ((repeat (first | exact lo_nil | refine lo_dead ?_ | refine lo_eq rfl ?_)); done)))
        have ez : z2 = zs.set t (plE (zs.getD t []) (ys.getD k [])) := by
          have e3 : (z1.getD t []).set (Int.toNat 1) (geti (z1.getD t []) ((Int.toNat 1 : Nat) : Int) + geti (z1.getD (k : Int).toNat []) ((Int.toNat 1 : Nat) : Int)) = plE (zs.getD t []) (ys.getD k []) := by
            rw [z1t1, z1k1, z1t, Int.toNat_natCast, hzk]
            exact set_two hl2 _ _
          rw [ez2, e3, ez1, List.set_set]
        have hnr : t ∉ r.reverse := fun h => by
          have := (List.pairwise_cons.1 k3.1).1 t (by simpa using h)
          omega
        have fin : JI (ys.take (k + 1)) (rowsOf st z2) := by
          rw [← est, etk, List.reverse_cons]
          have e4 : rowsOf (r.reverse ++ [t]) z2 = rowsOf r.reverse zs ++ [plE (zs.getD t []) (ys.getD k [])] := by
            have a1 : rowsOf (r.reverse ++ [t]) z2 = rowsOf r.reverse z2 ++ [z2.getD t []] := by simp [rowsOf]
            rw [a1, ez, rowsOf_set hnr, gset_self (by omega)]
          rw [e4]
          rw [er] at k4
          refine k4.same (fun h => ?_) hE.ep hpre hq
          have : (ys.take k).length = 0 := by rw [h]; rfl
          rw [List.length_take] at this
          omega
        repeat' (first | (apply AOps.nil; try simp only [List.nil_append, List.cons_append, List.set_cons_zero, List.set_cons_succ, List.length_cons, List.length_nil, Nat.reduceAdd, AV.sh, AV.sh1, AV.sh0, AO.sh, List.map_cons, List.map_nil, Nat.zero_add, Nat.add_zero, setAll]) | (apply w_move; exact rfl; exact rfl) | apply AWp.region | apply AWp.exit | ((apply w_add); iterate 3 exact rfl) | (apply inI_of <;> omega))
        refine ⟨(k + 1, t :: r, z2), ⟨by simp only; omega, by simp only; rw [ez2, List.length_set]; exact z1l, fun i hi => ?_, k3.up, by simp only [est]; exact fin⟩, by simp only; omega, by simp only [est]; exact ⟨lee rfl (by (repeat (first | exact le_nil | refine le_eq rfl rfl ?_))), by (repeat (first | exact lo_nil | refine lo_dead ?_ | refine lo_eq rfl ?_)), rfl, (by first | exact rfl | exact lim3 _)⟩⟩
        simp only at hi ⊢
        rw [ez, gset_ne (by omega)]
        exact k2 i (by omega)
      · have hq' := fun h => hq (hwz.2 h)
        have pk := push (fun A l h => by
          rw [er] at h
          have := List.append_inj' h rfl
          have : zs.getD t [] = l := by simpa using this.2
          rw [← this]; exact hq)
        generalize est : (t :: r).reverse = st at *
        repeat' (first | (apply AOps.nil; try simp only [List.nil_append, List.cons_append, List.set_cons_zero, List.set_cons_succ, List.length_cons, List.length_nil, Nat.reduceAdd, AV.sh, AV.sh1, AV.sh0, AO.sh, List.map_cons, List.map_nil, Nat.zero_add, Nat.add_zero, setAll]) | (apply w_move; exact rfl; exact rfl) | (apply w_assign; exact rfl; exact rfl) | apply AWp.seq | apply AWp.region | ((apply AWp.condP; exact rfl) <;> intro h) | apply AWp.block | apply AWp.ret | apply AWp.exit | apply AWp.skip | (apply w_len; exact rfl; exact rfl; first | exact .ints _ | exact .intss _ | exact .sli rfl | exact .sls rfl | exact .slr rfl | exact .orow rfl | exact .nil) | ((first | apply w_bsx1 | apply w_lss | apply w_gtr | apply w_add | apply w_sub | apply w_idx | apply w_ld); iterate 3 exact rfl) | (apply w_appx; exact rfl; exact rfl; exact rfl; exact rfl; exact rfl; rotate_left 1; simp only [Env.mp, List.map_cons, List.map_nil, List.set_cons_zero, List.set_cons_succ, AV.kill, AV.kill1, AO.kill, AV.rin, AV.rin1, AV.noRow, AV.noRow1, AO.via, reduceIte, Nat.reduceEqDiff, Nat.reduceLT, Env.up, Nat.zero_ne_one, Nat.one_ne_zero, Nat.reduceAdd, List.cons_append, List.nil_append]; rotate_left 1) | omega | (apply w_idxo; exact rfl; exact rfl; (first | exact .sls rfl | exact .slr rfl); exact rfl) | ((apply w_ldr); iterate 4 exact rfl) | (apply w_ldls; iterate 4 exact rfl) | (apply inI_of <;> omega))
        rw [e1]
        apply AWp.regionQ
        · kernel_rfl
        · kernel_rfl
        repeat' (first | (apply AOps.nil; try simp only [List.nil_append, List.cons_append, List.set_cons_zero, List.set_cons_succ, List.length_cons, List.length_nil, Nat.reduceAdd, AV.sh, AV.sh1, AV.sh0, AO.sh, List.map_cons, List.map_nil, Nat.zero_add, Nat.add_zero, setAll]) | (apply w_move; exact rfl; exact rfl) | (apply w_assign; exact rfl; exact rfl) | apply AWp.seq | apply AWp.region | ((apply AWp.condP; exact rfl) <;> intro h) | apply AWp.skip | ((first | apply w_bsx1 | apply w_eql | apply w_add | apply w_mul | apply w_idx | apply w_ld); iterate 3 exact rfl) | (apply w_appx; exact rfl; exact rfl; exact rfl; exact rfl; exact rfl; rotate_left 1; simp only [Env.mp, List.map_cons, List.map_nil, List.set_cons_zero, List.set_cons_succ, AV.kill, AV.kill1, AO.kill, AV.rin, AV.rin1, AV.noRow, AV.noRow1, AO.via, reduceIte, Nat.reduceEqDiff, Nat.reduceLT, Env.up, Nat.zero_ne_one, Nat.one_ne_zero, Nat.reduceAdd, List.cons_append, List.nil_append]; rotate_left 1) | omega | ((first | apply w_idxr | apply w_ldr); iterate 4 exact rfl) | (apply w_ldrp; iterate 4 exact rfl) | (apply inI_of <;> omega))
        have e5 : (k :: t :: r).reverse = st ++ [k] := by rw [← est]; simp
        refine ⟨(k + 1, k :: t :: r, zs), ⟨by simp only; omega, k1, fun i hi => k2 i (by simp only at hi; omega), k3.push, pk⟩, by simp only; omega, by simp only [e5]; exact ⟨lee rfl (by (repeat (first | exact le_nil | refine le_eq rfl rfl ?_))), by (repeat (first | exact lo_nil | refine lo_dead ?_ | refine lo_eq rfl ?_)), rfl, (by first | exact rfl | exact lim3 _)⟩⟩
  · have ek : k = ys.length := by omega
    subst ek
    rw [List.take_length] at k4
    refine AWp.merge (p := 2) (k := 0) rfl rfl k3.nodup ?_
    simp only [Env.mp, List.map_cons, List.map_nil, List.set_cons_zero, List.set_cons_succ, AV.kill, AV.kill1, AO.kill, AV.noRow, AV.noRow1, AO.via, reduceIte, Nat.reduceEqDiff, Nat.reduceLT, Env.up, Nat.zero_ne_one, Nat.one_ne_zero, Nat.reduceAdd, List.cons_append, List.nil_append]
    repeat' (first | (apply AOps.nil; try simp only [List.nil_append, List.cons_append, List.set_cons_zero, List.set_cons_succ, List.length_cons, List.length_nil, Nat.reduceAdd, AV.sh, AV.sh1, AV.sh0, AO.sh, List.map_cons, List.map_nil, Nat.zero_add, Nat.add_zero, setAll]) | (apply w_move; exact rfl; exact rfl) | (apply w_assign; exact rfl; exact rfl) | apply AWp.seq | apply AWp.region | ((apply AWp.condP; exact rfl) <;> intro h) | apply AWp.block | apply AWp.ret | apply AWp.exit | apply AWp.skip | omega | ((apply w_lss); iterate 3 exact rfl))
    exact ⟨_, _, _, .v1 Try.results24 rfl, .sls rfl, _, k4.join.perm hpm, rfl, rfl⟩
end Go.Proofs.Ytfaeiphgenddkaa
/-
  The stable sort of no rows; no edges put together; edges put together, in general; the points of a chain. Condition: few edges with small numbers.
-/
namespace Go.Proofs.Ytfaeiphgenddkaa
open Go Go.RowKit Go.Sort

theorem insertion_none_k (a : Option Addr) (cap : Nat) (fv : Fn) (b1 b2 : Array Value) (w : World) : Calls Try.prog 54 #[.slice a 0 cap, .int .i64 0, .int .i64 0, .func fv b1 b2] w fun e w' => e = .returned (.tuple #[]) ∧ w' = w := by
  go_enter Try.func54, Try.ntmps54
  go_wp2
  refine wp_loop_rounds 1 ?_
  rw [rounds_succ]
  go_wp2
  go_end0
  exact ⟨rfl, rfl⟩
theorem stable_none_k (a : Option Addr) (cap : Nat) (fv : Fn) (b1 b2 : Array Value) (w : World) : Calls Try.prog 50 #[.slice a 0 cap, .int .i64 0, .func fv b1 b2] w fun e w' => e = .returned (.tuple #[]) ∧ w' = w := by
  go_enter Try.func50, Try.ntmps50
  go_wp2
  refine wp_loop_rounds 1 ?_
  rw [rounds_succ]
  go_wp2_with (go_at_call 54; refine (insertion_none_k _ _ _ _ _ _).mono ?_; rintro e w' ⟨rfl, rfl⟩)
  refine wp_loop_rounds 1 ?_
  rw [rounds_succ]
  go_wp2
  go_end0
  exact ⟨rfl, rfl⟩
theorem sortst_none_k (a : Option Addr) (cap : Nat) (fv : Fn) (b1 b2 : Array Value) (w : World) : Calls Try.prog 42 #[.slice a 0 cap, .func fv b1 b2] w fun e w' => e = .returned (.tuple #[]) ∧ w' = w := by
  go_enter Try.func42, Try.ntmps42
  go_wp2_with (go_at_call 50; refine (stable_none_k _ _ _ _ _ _).mono ?_; rintro e w' ⟨rfl, rfl⟩)
  go_end0
  exact ⟨rfl, rfl⟩
section
variable {env : Env} {os : List AO} {d : Option Tmp} {ty : TypeId} {pos : String} {af : Array Edge} {g : Option (Nat × Bool)}
theorem c_sortst0 {G : FuncId} {x y : Operand} {ats : Array TypeId} {h : Nat} {e e2 : TypeId} (hx : AV.ev env x = .own h) (hs : os[h]? = some (.sls e e2 [])) (hy : AV.ev env y = .val (.func (.func G) #[] #[])) :
    COp Try.prog ⟨d, .call { callee := .value (.func 42), args := #[x, y], argTypes := ats }, ty, pos, af, g⟩ env os (fun r e' o => r = .any ∧ e' = env ∧ o = os) := by
  intro base w gs tm hr
  have hxv := hr.ev x
  rw [hx] at hxv
  have hyv := hr.evv hy
  generalize hv : Act.eval ⟨tm, []⟩ x = v at hxv
  cases hxv with
  | @own _ gh hg =>
  obtain ⟨us, bs, mb, b1, b2, b3, b4, b5, b6, b7, b8⟩ := hr.ho _ _ _ hg hs
  have hbd : HasBody Try.prog 42 := ⟨_, _, Try.func42, by kernel_rfl, rfl⟩
  have hu : us = [] := List.eq_nil_of_length_eq_zero (by simpa using b2)
  have hsl : ∃ a cap, gh.v = .slice a 0 cap := by
    rcases b1.2 with ⟨q1, q2⟩ | ⟨blk, cap, cur, c1, _⟩
    · exact ⟨none, 0, q1⟩
    · exact ⟨_, cap, by rw [c1, hu]; rfl⟩
  obtain ⟨a, cap, hgv⟩ := hsl
  refine ⟨_, _, run_call hbd [x, y] ats _ rfl w, ?_⟩
  have eargs : ([x, y].map (Act.eval ⟨tm, []⟩)).toArray = #[.slice a 0 cap, .func (.func G) #[] #[]] := by
    simp only [List.map_cons, List.map_nil, hv, hyv, hgv]
  rw [eargs]
  refine (sortst_none_k a cap _ _ _ w).mono ?_
  rintro e' w' ⟨rfl, rfl⟩
  exact ⟨.tuple #[], .any, env, os, gs, rfl, ⟨rfl, rfl, rfl⟩, hr, .any _, Below.refl _ _⟩
end
section
variable {env : Env} {os : List AO} {d : Tmp} {ty : TypeId} {pos : String} {af : Array Edge} {l rest : List Oper} {K : APost}
theorem w_sortst0 {G : FuncId} {x y : Operand} {ats : Array TypeId} {h : Nat} {e e2 : TypeId} (hx : evo env x = some (.own h)) (hs : os[h]? = some (.sls e e2 [])) (hy : evo env y = some (.val (.func (.func G) #[] #[])))
    (h' : AOps Try.prog .seq l rest K (Env.up env d .any) os) :
    AOps Try.prog .seq l (⟨some d, .call { callee := .value (.func 42), args := #[x, y], argTypes := ats }, ty, pos, af, none⟩ :: rest) K env os :=
  AOps.ca (c_sortst0 (ev_of hx) hs (ev_of hy)) fun r e o ⟨h3, h4, h5⟩ => by subst h3; subst h4; subst h5; exact h'
end
attribute [local irreducible] AWp AOps ResIs Ret1 QOp LOp COp AFnV AFn Imms LeE LeO
set_option maxHeartbeats 1000000
set_option linter.unusedSimpArgs false
set_option linter.unusedVariables false

theorem joinedEdges_all (xss : List (List Int)) (h1 : xss.length ≤ 200) (hp : ∀ r ∈ xss, E60 r) : AFn Try.prog 24 [.intss xss] (fun r os => ∃ L, JoinOf xss L ∧ r = .own 0 ∧ os = [.sls 33 2 L]) := by
  by_cases h0 : 0 < xss.length
  · exact joinedEdges_c xss h0 h1 hp
  · have e0 : xss = [] := List.eq_nil_of_length_eq_zero (by omega)
    subst e0
    have hcl := copyLists_c [] (by simp) (fun r hr => by simp at hr)
    (refine AFn.start Try.func24 Try.ntmps24 rfl (by kernel_rfl) fun hk => ?_; simp only [Env.start, enumF, List.length_cons, List.length_nil, Nat.reduceAdd, Nat.reduceSub, List.cons_append, List.nil_append])
    repeat' (first | (apply AOps.nil; try simp only [List.nil_append, List.cons_append, List.set_cons_zero, List.set_cons_succ, List.length_cons, List.length_nil, Nat.reduceAdd, AV.sh, AV.sh1, AV.sh0, AO.sh, List.map_cons, List.map_nil, Nat.zero_add, Nat.add_zero, setAll]) | (apply w_move; exact rfl; exact rfl) | (apply w_assign; exact rfl; exact rfl) | apply AWp.seq | apply AWp.region | (apply w_callm (hcl); (focus ((repeat (first | exact im_nil | refine im_cons rfl (.intss _) ?_)); done)); rintro r os0 ⟨rfl, rfl⟩; try simp only [List.nil_append, List.cons_append, List.set_cons_zero, List.set_cons_succ, List.length_cons, List.length_nil, Nat.reduceAdd, AV.sh, AV.sh1, AV.sh0, AO.sh, List.map_cons, List.map_nil, Nat.zero_add, Nat.add_zero, setAll]))
    refine w_sortst0 rfl rfl rfl ?_
    repeat' (first | (apply AOps.nil; try simp only [List.nil_append, List.cons_append, List.set_cons_zero, List.set_cons_succ, List.length_cons, List.length_nil, Nat.reduceAdd, AV.sh, AV.sh1, AV.sh0, AO.sh, List.map_cons, List.map_nil, Nat.zero_add, Nat.add_zero, setAll]) | apply AWp.seq | apply AWp.region)
    refine w_bsx0 0 rfl ?_
    try simp only [List.nil_append, List.cons_append, List.set_cons_zero, List.set_cons_succ, List.length_cons, List.length_nil, Nat.reduceAdd, AV.sh, AV.sh1, AV.sh0, AO.sh, List.map_cons, List.map_nil, Nat.zero_add, Nat.add_zero, setAll]
    repeat' (first | (apply AOps.nil; try simp only [List.nil_append, List.cons_append, List.set_cons_zero, List.set_cons_succ, List.length_cons, List.length_nil, Nat.reduceAdd, AV.sh, AV.sh1, AV.sh0, AO.sh, List.map_cons, List.map_nil, Nat.zero_add, Nat.add_zero, setAll]) | (apply w_move; exact rfl; exact rfl) | (apply w_assign; exact rfl; exact rfl) | apply AWp.seq | apply AWp.region | apply AWp.block | (apply w_len; exact rfl; exact rfl; first | exact .ints _ | exact .intss _ | exact .sli rfl | exact .sls rfl | exact .slr rfl | exact .orow rfl | exact .nil))
    refine AWp.loop (ι := Unit) (fun x => ⟨65, [(4, .own 1), (13, .own 0), (14, .i 0), (15, .i 0)]⟩) (fun x => [.sls 33 2 [], .slr 33 (([] : List Nat).map (AV.orow 0))]) (fun x => True) (fun x => 0) () trivial ⟨lee rfl (by (repeat (first | exact le_nil | refine le_eq rfl rfl ?_))), by (repeat (first | exact lo_nil | refine lo_eq rfl ?_)), rfl, rfl⟩ ?_
    rintro _ _
    refine AWp.merge (p := 1) (k := 0) (idx := []) rfl rfl List.nodup_nil ?_
    simp only [Env.mp, List.map_cons, List.map_nil, List.set_cons_zero, List.set_cons_succ, AV.kill, AV.kill1, AO.kill, AV.noRow, AV.noRow1, AO.via, reduceIte, Nat.reduceEqDiff, Nat.reduceLT, Env.up, Nat.zero_ne_one, Nat.one_ne_zero, Nat.reduceAdd, List.cons_append, List.nil_append]
    repeat' (first | (apply AOps.nil; try simp only [List.nil_append, List.cons_append, List.set_cons_zero, List.set_cons_succ, List.length_cons, List.length_nil, Nat.reduceAdd, AV.sh, AV.sh1, AV.sh0, AO.sh, List.map_cons, List.map_nil, Nat.zero_add, Nat.add_zero, setAll]) | (apply w_move; exact rfl; exact rfl) | (apply w_assign; exact rfl; exact rfl) | apply AWp.seq | apply AWp.region | ((apply AWp.condP; exact rfl) <;> intro h) | apply AWp.block | apply AWp.ret | apply AWp.exit | apply AWp.skip | omega | ((apply w_lss); iterate 3 exact rfl))
    exact ⟨_, _, _, .v1 Try.results24 rfl, .sls rfl, [], JI.nil.join, rfl, rfl⟩
end Go.Proofs.Ytfaeiphgenddkaa
/-
  Functions that use up own memory that is handed to them, and hand back own memory. No condition.
-/
namespace Go.Proofs.Ytfaeiphgenddkaa
open Go Go.RowKit

/-- Values that hold no more than two levels of parts, and read nothing. -/
def AV.fl0 : AV → Prop
  | .any => True
  | .val _ => True
  | .own _ => True
  | .optr _ _ => True
  | .osub _ _ _ => True
  | .orow _ _ => True
  | .orptr _ _ _ => True
  | _ => False
def AV.fl1 : AV → Prop
  | .agg l => ∀ a ∈ l, a.fl0
  | a => a.fl0
def AV.fl : AV → Prop
  | .agg l => ∀ a ∈ l, a.fl0
  | .tup l => ∀ a ∈ l, a.fl1
  | a => a.fl0
section
variable {w : World} {ok ok' : Nat → Prop} {gs : List Gh} {g0 : Gh}
theorem RV.unsh0 {v : Value} {a : AV} (hf : a.fl0) (hv : RV w ok (g0 :: gs) v (a.sh0 1)) : RV w ok' gs v a := by
  cases a with
  | any => exact .any v
  | val u => cases hv with | val => exact .val _
  | own k => cases hv with | own h => exact .own (by simpa using h)
  | optr k i => cases hv with | optr h => exact .optr (by simpa using h)
  | osub k i j => cases hv with | osub h h1 h2 h3 => exact .osub (by simpa using h) h1 h2 h3
  | orow k i => cases hv with | orow h h1 => exact .orow (by simpa using h) h1
  | orptr k i j => cases hv with | orptr h h1 => exact .orptr (by simpa using h) h1
  | _ => exact hf.elim
theorem getD_mem_any {l : List AV} {p : AV → Prop} (h : ∀ a ∈ l, p a) (hany : p .any) (i : Nat) : p (l.getD i .any) := by
  rw [List.getD_eq_getElem?_getD]
  cases e : l[i]? with
  | none => exact hany
  | some a => exact h a (List.mem_of_getElem? e)
theorem RV.unsh1 {v : Value} {a : AV} (hf : a.fl1) (hv : RV w ok (g0 :: gs) v (a.sh1 1)) : RV w ok' gs v a := by
  cases a with
  | agg l => cases hv with | agg h1 h3 h2 => exact .agg (by simpa using h1) h3 (fun i => RV.unsh0 (getD_mem_any hf trivial i) (by have := h2 i; rw [getD_map_any _ rfl] at this; exact this))
  | any => exact .any v
  | val u => exact RV.unsh0 (a := .val u) trivial hv
  | own k => exact RV.unsh0 (a := .own k) trivial hv
  | optr k i => exact RV.unsh0 (a := .optr k i) trivial hv
  | osub k i j => exact RV.unsh0 (a := .osub k i j) trivial hv
  | orow k i => exact RV.unsh0 (a := .orow k i) trivial hv
  | orptr k i j => exact RV.unsh0 (a := .orptr k i j) trivial hv
  | _ => exact hf.elim
theorem RV.unsh {v : Value} {a : AV} (hf : a.fl) (hv : RV w ok (g0 :: gs) v (a.sh 1)) : RV w ok' gs v a := by
  cases a with
  | agg l => exact RV.unsh1 (a := .agg l) hf hv
  | tup l => cases hv with | tup h1 h2 => exact .tup (by simpa using h1) (fun i => RV.unsh1 (getD_mem_any hf trivial i) (by have := h2 i; rw [getD_map_any _ rfl] at this; exact this))
  | any => exact .any v
  | val u => exact RV.unsh0 (a := .val u) trivial hv
  | own k => exact RV.unsh0 (a := .own k) trivial hv
  | optr k i => exact RV.unsh0 (a := .optr k i) trivial hv
  | osub k i j => exact RV.unsh0 (a := .osub k i j) trivial hv
  | orow k i => exact RV.unsh0 (a := .orow k i) trivial hv
  | orptr k i j => exact RV.unsh0 (a := .orptr k i j) trivial hv
  | _ => exact hf.elim
end

/-- The function uses up the objects 'objs', which its arguments name, and hands back r over the objects os', of which Q speaks. All else is as it was. -/
def AFnC (P : Program) (f : FuncId) (args : List AV) (objs : List AO) (Q : AV → List AO → Prop) : Prop :=
  HasBody P f ∧ ∀ base w gs vs, base ≤ w.heap.size → Objs base w gs objs → vs.size = args.length → (∀ i : Nat, RV w (okOf gs objs) gs (vs.getD i undef) (args.getD i .any)) →
    Calls P f vs w fun e w' => ∃ v r os' gs', e = .returned v ∧ Q r os' ∧ Objs base w' gs' os' ∧ RV w' (fun _ => False) gs' v r ∧
      (∀ (h : Nat) g, gs'[h]? = some g → ∀ b, b ∈ g.bl → (∃ (k : Nat) (g0 : Gh), gs[k]? = some g0 ∧ b ∈ g0.bl) ∨ w.heap.size ≤ b) ∧ Below base w w' ∧ ∀ b, b < w.heap.size → (∀ (h : Nat) g, gs[h]? = some g → b ∉ g.bl) → w'.heap[b]? = w.heap[b]?

theorem AFnC.of {P : Program} {f : FuncId} {fn : Func} {c : Code} {args args' : List AV} {objs : List AO} {Q : AV → List AO → Prop} {n : Nat} (hf : P.funcs[f]? = some fn) (hb : fn.body = some c) (hnm : (fn.name == "runtime.NumGoroutine") = false) (hn : fn.ntmps - args.length = n) (ha : args' = args.map (AV.sh 1))
    (h : ∀ K, AWp P c (fun _ _ => False) (fun _ _ _ => False) (fun env os => ∃ env2 os' r, Turns env os env2 (.keep 1 K :: os') ∧ ResIs P fn env2 (.keep 1 K :: os') (r.sh 1) ∧ r.fl ∧ Q r os' ∧ ∀ o ∈ os', o.plain) (Env.start args' n) (.keep 1 K :: objs)) :
    AFnC P f args objs Q := by
  refine ⟨⟨fn, c, hf, hnm, hb⟩, fun base w gs vs hbase hO hsz hvs => calls_of_wp hf hb ?_⟩
  rw [show fn.ntmps - vs.size = n by rw [hsz]; exact hn]
  let bl : List Nat := (List.range w.heap.size).filter fun b => decide (base ≤ b) && gs.all fun g => !g.bl.contains b
  let gk : Gh := ⟨undef, 0, bl, []⟩
  let K : Kp := ⟨fun b => w.heap[b]?, [gk]⟩
  have hbl : ∀ b, b ∈ bl ↔ b < w.heap.size ∧ base ≤ b ∧ ∀ (h : Nat) g, gs[h]? = some g → b ∉ g.bl := by
    intro b
    simp only [bl, List.mem_filter, List.mem_range, Bool.and_eq_true, decide_eq_true_eq, List.all_eq_true, Bool.not_eq_true', List.contains_eq_mem, decide_eq_false_iff_not]
    constructor
    · rintro ⟨h1, h2, h3⟩
      exact ⟨h1, h2, fun h g hg => h3 g (List.mem_of_getElem? hg)⟩
    · rintro ⟨h1, h2, h3⟩
      exact ⟨h1, h2, fun g hg => by obtain ⟨i, hi⟩ := List.getElem?_of_mem hg; exact h3 i g hi⟩
  have hl := hO.hl
  have part : ∀ {i : Nat} {x : Gh} {y : AO}, (gk :: gs)[i]? = some x → (AO.keep 1 K :: objs)[i]? = some y → (∃ j, i = j + 1 ∧ gs[j]? = some x ∧ objs[j]? = some y) ∨ (i = 0 ∧ x = gk ∧ y = .keep 1 K) := by
    intro i x y hx hy
    match i, hx, hy with
    | 0, hx, hy => simp at hx hy; exact .inr ⟨rfl, hx.symm, hy.symm⟩
    | j + 1, hx, hy => exact .inl ⟨j, rfl, by simpa using hx, by simpa using hy⟩
  have hkeep : Keeps (okOf gs objs) (okOf (gk :: gs) (.keep 1 K :: objs)) w w := by
    intro b hbk _
    refine ⟨fun i x y hx hy hny hm => ?_, rfl⟩
    rcases part hx hy with ⟨j, rfl, h1, h2⟩ | ⟨_, _, rfl⟩
    · exact hbk j x y h1 h2 hny hm
    · exact hny.elim
  have hrel : Rel base w (gk :: gs) (Env.start args' n) (.keep 1 K :: objs) (vs ++ Array.replicate n undef) := by
    refine ⟨hbase, by simp [hl], by simp [Env.start, hsz, ha], fun i => start_rv args' n vs (fun i => ?_) i, ?_, ?_, ?_⟩
    · rw [ha, getD_map_any _ rfl]
      have := (hvs i).sh (gs0 := [gk]) hkeep
      exact this
    · intro i x y hx hy
      rcases part hx hy with ⟨j, rfl, h1, h2⟩ | ⟨_, rfl, rfl⟩
      · exact (hO.hp y (List.mem_of_getElem? h2)).ro (hO.ho j x y h1 h2)
      · exact ⟨fun b _ => rfl, rfl, fun i x h => by
            match i with
            | 0 => exact h
            | i + 1 => simp [K] at h⟩
    · intro i j g1 g2 o1 o2 hij hg1 hg2 ho1 ho2 _ _ b hb1 hb2
      rcases part hg1 ho1 with ⟨i', rfl, a1, a2⟩ | ⟨rfl, rfl, _⟩
      · rcases part hg2 ho2 with ⟨j', rfl, b1, b2⟩ | ⟨rfl, rfl, _⟩
        · exact hO.hd i' j' g1 g2 (by omega) a1 b1 b hb1 hb2
        · exact ((hbl b).1 hb2).2.2 i' g1 a1 hb1
      · rcases part hg2 ho2 with ⟨j', rfl, b1, b2⟩ | ⟨rfl, _, _⟩
        · exact ((hbl b).1 hb1).2.2 j' g2 b1 hb2
        · omega
    · intro i x y hx hy _ b hb
      rcases part hx hy with ⟨j, rfl, h1, h2⟩ | ⟨_, rfl, _⟩
      · exact hO.hn j x h1 b hb
      · exact ⟨((hbl b).1 hb).2.1, ((hbl b).1 hb).1⟩
  refine wp_mono (h K base w w _ _ hrel (Below.refl _ _)) ?_
  intro e a w' hq
  cases e with
  | normal => obtain ⟨_, _, _, _, _, _, hx⟩ := hq; exact hx.elim
  | exit j => obtain ⟨_, _, _, _, _, _, hx⟩ := hq; exact hx.elim
  | ret =>
    obtain ⟨env, os1, gs1, hr1, hd, hbel, env2, os', r, ht, hres, hfl, hQ, hpl⟩ := hq
    obtain ⟨gs2, hr⟩ := ht base w' gs1 _ hr1
    obtain ⟨v, hu, hv⟩ := hres _ _ _ _ hr
    obtain ⟨g0, gs', rfl⟩ : ∃ g0 gs', gs2 = g0 :: gs' := by
      have := hr.hl
      match gs2 with
      | [] => simp at this
      | a :: b => exact ⟨a, b, rfl⟩
    obtain ⟨r1, r2, r3⟩ := hr.ho 0 _ _ rfl rfl
    have egk : g0 = gk := by
      have := r3 0 gk rfl
      exact Option.some.inj this
    subst egk
    have hl' : gs'.length = os'.length := by have := hr.hl; simpa using this
    have hno : ∀ (i : Nat) x o, gs'[i]? = some x → os'[i]? = some o → ∀ b, b ∈ x.bl → base ≤ b ∧ b < w'.heap.size := fun i x o hx ho b hb =>
      hr.hn (i + 1) x o (by simpa using hx) (by simpa using ho) (hpl o (List.mem_of_getElem? ho)).live.ne b hb
    have obj : ∀ {i : Nat} {x : Gh}, gs'[i]? = some x → ∃ o, os'[i]? = some o := fun {i x} hx => by
      have : i < os'.length := by rw [← hl']; exact (List.getElem?_eq_some_iff.1 hx).1
      exact ⟨_, List.getElem?_eq_getElem this⟩
    refine ⟨hd, v, hu, v, r, os', gs', rfl, hQ, ⟨hl', hpl, ?_, ?_, ?_⟩, ?_, ?_, hbel, ?_⟩
    · intro i x o hx ho
      exact (hpl o (List.mem_of_getElem? ho)).ro (hr.ho (i + 1) x o (by simpa using hx) (by simpa using ho))
    · intro i j x y hij hx hy b hb1 hb2
      obtain ⟨o1, h1⟩ := obj hx
      obtain ⟨o2, h2⟩ := obj hy
      exact hr.hd (i + 1) (j + 1) x y o1 o2 (by omega) (by simpa using hx) (by simpa using hy) (by simpa using h1) (by simpa using h2) (hpl o1 (List.mem_of_getElem? h1)).live.ne (hpl o2 (List.mem_of_getElem? h2)).live.ne b hb1 hb2
    · intro i x hx b hb
      obtain ⟨o1, h1⟩ := obj hx
      exact hno i x o1 hx h1 b hb
    · exact RV.unsh (g0 := gk) hfl hv
    · intro i x hx b hb
      obtain ⟨o1, h1⟩ := obj hx
      have hb2 := hno i x o1 hx h1 b hb
      by_cases hbw : b < w.heap.size
      · left
        apply Classical.byContradiction
        intro hnb
        refine hr.hd (i + 1) 0 x gk o1 _ (by omega) (by simpa using hx) rfl (by simpa using h1) rfl (hpl o1 (List.mem_of_getElem? h1)).live.ne (by simp) b hb ((hbl b).2 ⟨hbw, hb2.1, fun k g0 hg hm => hnb ⟨k, g0, hg, hm⟩⟩)
      · right; omega
    · intro b hb hnot
      rcases Nat.lt_or_ge b base with h6 | h6
      · exact hbel.block b h6
      · exact r1 b ((hbl b).2 ⟨hb, h6, hnot⟩)
  | goto l => exact (hq : False).elim
  | panic ch => exact (hq : False).elim
  | outgrown => exact (hq : False).elim
theorem AFnC.start {P : Program} {f : FuncId} {fn : Func} {nt : Nat} {args : List AV} {objs : List AO} {Q : AV → List AO → Prop} (hf : P.funcs[f]? = some fn) (hnt : fn.ntmps = nt) {c : Code} (hb : fn.body = some c) (hnm : (fn.name == "runtime.NumGoroutine") = false)
    (h : ∀ K, AWp P c (fun _ _ => False) (fun _ _ _ => False) (fun env os => ∃ env2 os' r, Turns env os env2 (.keep 1 K :: os') ∧ ResIs P fn env2 (.keep 1 K :: os') (r.sh 1) ∧ r.fl ∧ Q r os' ∧ ∀ o ∈ os', o.plain) (Env.start (args.map (AV.sh 1)) (nt - args.length)) (.keep 1 K :: objs)) :
    AFnC P f args objs Q := AFnC.of hf hb hnm (by rw [hnt]) rfl h
theorem Turns.fit {env : Env} {os : List AO} {env' : Env} {os' : List AO} (f : Fit env os env' os') : Turns env os env' os' := fun _ _ _ _ h => h.fit f
theorem Turns.fits {env : Env} {os : List AO} {env' : Env} {os' : List AO} {σ : List Nat} (f : FitS σ env os env' os') : Turns env os env' os' := fun _ _ _ _ h => h.fits f
theorem Turns.or {env : Env} {os : List AO} {env' : Env} {os' : List AO} (f : Fit env os env' os' ∨ ∃ σ, FitS σ env os env' os') : Turns env os env' os' := by
  rcases f with f | ⟨σ, f⟩
  · exact .fit f
  · exact .fits f

section
variable {P : Program} {env : Env} {os : List AO} {d : Option Tmp} {ty : TypeId} {pos : String} {af : Array Edge} {g : Option (Nat × Bool)}
end
section
variable {P : Program} {env : Env} {os : List AO} {d : Tmp} {ty : TypeId} {pos : String} {af : Array Edge} {l rest : List Oper} {K : APost}
end
end Go.Proofs.Ytfaeiphgenddkaa
/-
  Own slices whose cells are rows that are only read. No condition.
-/
namespace Go.Proofs.Ytfaeiphgenddkaa
open Go Go.RowKit

section
variable {P : Program} {env : Env} {os : List AO} {d : Option Tmp} {ty : TypeId} {pos : String} {af : Array Edge} {g : Option (Nat × Bool)} {wl : Bool}

end

section
variable {P : Program} {env : Env} {os : List AO} {d : Tmp} {ty : TypeId} {pos : String} {af : Array Edge} {g : Option (Nat × Bool)} {l rest : List Oper} {K : APost} {q : Md}
end
end Go.Proofs.Ytfaeiphgenddkaa
/-
  The points of a chain, walked; limited points; the reference's polygon of edges. Condition: numbers of moderate size.
-/
namespace Go.Proofs.Ytfaeiphgenddkaa
open Go Go.RowKit
attribute [local irreducible] AWp AOps ResIs Ret1 QOp LOp COp AFnV AFn Imms LeE LeO
set_option maxHeartbeats 1000000
set_option linter.unusedSimpArgs false
set_option linter.unusedVariables false

theorem geti_p0 (a b : Int) : geti [a, b] 0 = a := rfl
theorem geti_p1 (a b : Int) : geti [a, b] 1 = b := rfl
set_option maxHeartbeats 4000000 in
theorem verticesFrom_c (p : List Int) (L : List (List Int)) (hp : p.length = 2) (hn : L.length ≤ 100000) (hL : ∀ l ∈ L, l.length = 2) (hb : ∀ q ∈ vfP p L, (0 ≤ geti q 0 ∧ geti q 0 ≤ 100000) ∧ (0 ≤ geti q 1 ∧ geti q 1 ≤ 100000)) :
    AFn Try.prog 23 [.ints p, .intss L] (IsIntss 33 2 (vfP p L)) := by
  have hcl := clone_c p (by omega) (by omega)
  have hlen := vfP_len L p
  have e0 : (vfP p L).take 1 = [p] := by
    obtain ⟨r, hr⟩ := vfP_ne p L
    rw [hr]; rfl
  (refine AFn.start Try.func23 Try.ntmps23 rfl (by kernel_rfl) fun hk => ?_; simp only [Env.start, enumF, List.length_cons, List.length_nil, Nat.reduceAdd, Nat.reduceSub, List.cons_append, List.nil_append])
  repeat' (first | (apply AOps.nil; try simp only [List.nil_append, List.cons_append, List.set_cons_zero, List.set_cons_succ, List.length_cons, List.length_nil, Nat.reduceAdd, AV.sh, AV.sh1, AV.sh0, AO.sh, List.map_cons, List.map_nil, Nat.zero_add, Nat.add_zero, setAll]) | (apply w_move; exact rfl; exact rfl) | (apply w_assign; exact rfl; exact rfl) | apply AWp.seq | apply AWp.region | apply AWp.block | (apply w_len; exact rfl; exact rfl; first | exact .ints _ | exact .intss _ | exact .sli rfl | exact .sls rfl | exact .slr rfl | exact .orow rfl | exact .nil) | (apply w_bsr1s; exact rfl; exact rfl; exact rfl; exact rfl; simp only [Env.mp, List.map_cons, List.map_nil, List.set_cons_zero, List.set_cons_succ, AV.kill, AV.kill1, AO.kill, AV.rin, AV.rin1, AV.noRow, AV.noRow1, AO.via, reduceIte, Nat.reduceEqDiff, Nat.reduceLT, Env.up, Nat.zero_ne_one, Nat.one_ne_zero, Nat.reduceAdd, List.cons_append, List.nil_append]) | (apply w_callm (hcl); (focus ((repeat (first | exact im_nil | refine im_cons rfl (.ints _) ?_)); done)); rintro r os0 ⟨rfl, rfl⟩; try simp only [List.nil_append, List.cons_append, List.set_cons_zero, List.set_cons_succ, List.length_cons, List.length_nil, Nat.reduceAdd, AV.sh, AV.sh1, AV.sh0, AO.sh, List.map_cons, List.map_nil, Nat.zero_add, Nat.add_zero, setAll]))
  refine AWp.loop (ι := Nat) (fun n => ⟨44, [(5, .own 1), (12, .intss L), (13, .i L.length), (14, .i n)]⟩) (fun n => [.dead, .sls 33 2 ((vfP p L).take (n + 1))]) (fun n => n ≤ L.length) (fun n => L.length - n) 0 (by omega) (by rw [e0]; exact ⟨lee rfl (by (repeat (first | exact le_nil | refine le_eq rfl rfl ?_))), by (repeat (first | exact lo_nil | refine lo_dead ?_ | refine lo_eq rfl ?_)), rfl, rfl⟩) ?_
  rintro n n0
  have hk : ((vfP p L).take (n + 1)).length = n + 1 := by rw [List.length_take]; omega
  by_cases hlt : n < L.length
  · have hrow : (gets L (n : Nat)).length = 2 := hL _ (gets_mem (by omega) (by omega))
    have eg : gets L (n : Nat) = L.getD n [] := by simp [gets, List.getD_eq_getElem?_getD]
    have el : ((((n + 1 : Nat) : Int)) - 1).toNat = n := by omega
    have hq := hb ((vfP p L).getD n []) (by rw [List.getD_eq_getElem?_getD, List.getElem?_eq_getElem (by omega)]; exact List.getElem_mem _)
    have hq2 := hb ((vfP p L).getD (n + 1) []) (by rw [List.getD_eq_getElem?_getD, List.getElem?_eq_getElem (by omega)]; exact List.getElem_mem _)
    have hs := vfP_succ L p n hlt
    have hql : ((vfP p L).getD n []).length = 2 := vfP_row hp _ (by rw [List.getD_eq_getElem?_getD, List.getElem?_eq_getElem (by omega)]; exact List.getElem_mem _)
    have et : ((vfP p L).take (n + 1)).getD n [] = (vfP p L).getD n [] := take_gets _ _ _ (by omega)
    rw [hs] at hq2
    simp only [geti_p0, geti_p1] at hq2
    rw [← eg] at hq2 hs
    have e2 := vfP_take L p n hlt
    rw [← eg] at e2
    have hrl : (((vfP p L).take (n + 1)).getD ((((n + 1 : Nat) : Int)) - 1).toNat []).length = 2 := by rw [el, et]; exact hql
    have hkl : (((vfP p L).take (n + 1)).length : Int) = ((n + 1 : Nat) : Int) := by rw [hk]
    rw [← et] at hq hq2 e2 hql
    generalize eV : (vfP p L).take (n + 1) = V at *
    have el' : ((V.length : Int) - 1).toNat = n := by omega
    have hq' := hq
    have hql' := hql
    rw [← el'] at hq' hql'
    have hq3 : (0 ≤ geti (V.getD n []) ((Int.toNat 0 : Nat) : Int) + geti (gets L (n : Nat)) 0 ∧ geti (V.getD n []) ((Int.toNat 0 : Nat) : Int) + geti (gets L (n : Nat)) 0 ≤ 100000) ∧ (0 ≤ geti (V.getD n []) ((Int.toNat 1 : Nat) : Int) - geti (gets L (n : Nat)) 1 ∧ geti (V.getD n []) ((Int.toNat 1 : Nat) : Int) - geti (gets L (n : Nat)) 1 ≤ 100000) := hq2
    repeat' (first | (apply AOps.nil; try simp only [List.nil_append, List.cons_append, List.set_cons_zero, List.set_cons_succ, List.length_cons, List.length_nil, Nat.reduceAdd, AV.sh, AV.sh1, AV.sh0, AO.sh, List.map_cons, List.map_nil, Nat.zero_add, Nat.add_zero, setAll]) | (apply w_move; exact rfl; exact rfl) | (apply w_assign; exact rfl; exact rfl) | apply AWp.seq | apply AWp.region | ((apply AWp.condP; exact rfl) <;> intro h) | apply AWp.block | apply AWp.ret | apply AWp.exit | apply AWp.skip | (apply w_len; exact rfl; exact rfl; first | exact .ints _ | exact .intss _ | exact .sli rfl | exact .sls rfl | exact .slr rfl | exact .orow rfl | exact .nil) | omega | ((first | apply w_lss | apply w_sub | apply w_idx | apply w_ld); iterate 3 exact rfl) | ((first | apply w_idxs | apply w_lds); iterate 3 exact rfl) | (apply w_idxo; exact rfl; exact rfl; (exact .sls rfl); exact rfl) | (apply w_ldls; iterate 4 exact rfl) | (apply inI_of <;> omega))
    refine AWp.regionG [] (by kernel_rfl) (envC := ⟨44, [(5, .own 1), (12, .intss L), (13, .i L.length), (14, .i n)]⟩) (osC := [.dead, .sls 33 2 (V ++ [[geti (V.getD n []) 0 + geti (gets L (n : Nat)) 0, geti (V.getD n []) 1 - geti (gets L (n : Nat)) 1]])]) rfl rfl ?_ ?_
    · rw [el']
      repeat' (first | (apply AOps.nil; try simp only [List.nil_append, List.cons_append, List.set_cons_zero, List.set_cons_succ, List.length_cons, List.length_nil, Nat.reduceAdd, AV.sh, AV.sh1, AV.sh0, AO.sh, List.map_cons, List.map_nil, Nat.zero_add, Nat.add_zero, setAll]) | (apply w_move; exact rfl; exact rfl) | (apply w_assign; exact rfl; exact rfl) | ((first | apply w_bsr1 | apply w_add | apply w_sub | apply w_idx | apply w_ld | apply w_bs2); iterate 3 exact rfl) | (apply w_appr; exact rfl; exact rfl; exact rfl; exact rfl; exact rfl; exact rfl; exact rfl; rotate_left 1; simp only [Env.mp, List.map_cons, List.map_nil, List.set_cons_zero, List.set_cons_succ, AV.kill, AV.kill1, AO.kill, AV.rin, AV.rin1, AV.noRow, AV.noRow1, AO.via, reduceIte, Nat.reduceEqDiff, Nat.reduceLT, Env.up, Nat.zero_ne_one, Nat.one_ne_zero, Nat.reduceAdd, List.cons_append, List.nil_append]; rotate_left 1) | apply AllOfG.nil | (apply AllOfG.consS; exact rfl; exact rfl) | (apply AAnyG.takeW; exact rfl; exact rfl; kernel_rfl; kernel_rfl) | (apply AAnyG.takeL; exact rfl; exact rfl; kernel_rfl) | (apply AAnyG.all; exact rfl) | (apply AAnyG.done; exact rfl) | omega | ((first | apply w_idxr | apply w_ldr); iterate 4 exact rfl) | (apply w_ldrp; iterate 4 exact rfl) | (apply inI_of <;> omega))
      all_goals (apply Or.inl; refine ⟨lee rfl ?_, ?_, rfl, rfl⟩; (focus ((repeat (first | exact le_nil | refine le_eq rfl rfl ?_)); done)); (focus ((repeat (first | exact lo_nil | refine lo_dead ?_ | refine lo_eq rfl ?_)); done)))
    repeat' (first | (apply AOps.nil; try simp only [List.nil_append, List.cons_append, List.set_cons_zero, List.set_cons_succ, List.length_cons, List.length_nil, Nat.reduceAdd, AV.sh, AV.sh1, AV.sh0, AO.sh, List.map_cons, List.map_nil, Nat.zero_add, Nat.add_zero, setAll]) | (apply w_move; exact rfl; exact rfl) | apply AWp.region | ((apply w_add); iterate 3 exact rfl) | (apply inI_of <;> omega))
    exact ⟨n + 1, by omega, by omega, ⟨lee rfl (by (repeat (first | exact le_nil | refine le_eq rfl rfl ?_))), by (repeat (first | exact lo_nil | refine lo_dead ?_ | refine lo_eq (congrArg (AO.sls _ _) (e2)) ?_)), rfl, rfl⟩⟩
  · repeat' (first | (apply AOps.nil; try simp only [List.nil_append, List.cons_append, List.set_cons_zero, List.set_cons_succ, List.length_cons, List.length_nil, Nat.reduceAdd, AV.sh, AV.sh1, AV.sh0, AO.sh, List.map_cons, List.map_nil, Nat.zero_add, Nat.add_zero, setAll]) | (apply w_move; exact rfl; exact rfl) | (apply w_assign; exact rfl; exact rfl) | apply AWp.seq | apply AWp.region | ((apply AWp.condP; exact rfl) <;> intro h) | apply AWp.block | apply AWp.ret | apply AWp.exit | apply AWp.skip | omega | ((apply w_lss); iterate 3 exact rfl))
    have e : n = L.length := by omega
    subst e
    have ea : (vfP p L).take (L.length + 1) = vfP p L := List.take_of_length_le (by omega)
    rw [ea]
    exact ⟨_, _, _, .v1 Try.results23 rfl, .sls rfl, rfl, rfl⟩
end Go.Proofs.Ytfaeiphgenddkaa
/-
  Limited points; the reference's polygon of edges. Condition: numbers of moderate size.
-/
namespace Go.Proofs.Ytfaeiphgenddkaa
open Go Go.RowKit
attribute [local irreducible] AWp AOps ResIs Ret1 QOp LOp COp AFnV AFn Imms LeE LeO
set_option maxHeartbeats 1000000
set_option linter.unusedSimpArgs false
set_option linter.unusedVariables false

/-! ### The polygon of edges -/
end Go.Proofs.Ytfaeiphgenddkaa
/-
  The program's polygon of edges. No condition.
-/
namespace Go.Proofs.Ytfaeiphgenddkaa
open Go Go.RowKit
attribute [local irreducible] AWp AOps ResIs Ret1 QOp LOp COp AFnV AFn Imms LeE LeO
set_option maxHeartbeats 1000000
set_option linter.unusedSimpArgs false
set_option linter.unusedVariables false

end Go.Proofs.Ytfaeiphgenddkaa
/-
  All rows of one own slice of rows are appended to another one, which takes them over. No condition.
-/
namespace Go.Proofs.Ytfaeiphgenddkaa
open Go Go.RowKit

section
variable {P : Program} {env : Env} {os : List AO} {d : Option Tmp} {ty : TypeId} {pos : String} {af : Array Edge} {g : Option (Nat × Bool)}
set_option maxHeartbeats 1000000 in
theorem l_append_rows {t e : TypeId} {bytes : Nat} [ht : TSlice P t e] [he : TElem P e (.slice none 0 0) bytes] {x y : Operand} {h k : Nat} {e' e2 e4 : TypeId} {xss yss : List (List Int)}
    (hx : AV.ev env x = .own h) (hs : os[h]? = some (.sls e' e2 xss)) (hee : e' = e) (hy : AV.ev env y = .own k) (hk : os[k]? = some (.sls e4 e2 yss)) (hne : (h == k) = false)
    (hb : (xss.length + yss.length) * bytes ≤ 140737488355328) :
    LOp P ⟨d, .call { callee := .builtin .append, args := #[x, y], argTypes := #[t, t] }, ty, pos, af, g⟩ env os (.own h) (env.mp (AV.lose h)) (((os.map (AO.via (AV.lose h) h)).set h (.sls e e2 (xss ++ yss))).set k .dead) := by
  subst hee
  have hne : h ≠ k := fun e => by subst e; simp at hne
  intro base w gs tm hr
  have hxv := hr.ev x
  rw [hx] at hxv
  have hyv := hr.ev y
  rw [hy] at hyv
  generalize hv : Act.eval ⟨tm, []⟩ x = v at hxv
  generalize hu : Act.eval ⟨tm, []⟩ y = u at hyv
  cases hxv with
  | @own _ gh hg =>
  cases hyv with
  | @own _ gk hgk =>
    have hro2 := hr.ho _ _ _ hgk hk
    obtain ⟨pa, cap, eu, _, _, hpa, hkl, hcells⟩ := sls_slice hro2
    obtain ⟨vs, bs, mb, a1, a2, a3, a4, a5, a6, a7, a8⟩ := hr.ho _ _ _ hg hs
    obtain ⟨us, cs, mk, b1, b2, b3, b4, b5, b6, b7, b8⟩ := hro2
    obtain ⟨ii, hi, hsz, hz, hby⟩ := he.info
    have hul : us.length = yss.length := b2
    have key : ∃ v' w', (Builtin.append_ #[t, t] ty #[gh.v, .slice pa yss.length cap]).run P w = .ok v' w' ∧ w'.ownsRow base e' 1 v' (vs.length + us.length) (vs ++ us) ∧ w.grownBy w' gh.v.ownBlock ∧
        (v'.ownBlock = gh.v.ownBlock ∨ v'.ownBlock = some w.heap.size) := by
      by_cases h0 : yss.length = 0
      · have e0 : us = [] := List.length_eq_zero_iff.1 (by omega)
        rw [h0, e0]
        exact ⟨gh.v, w, run_append_none ht.und hi a1 pa cap, by simpa using a1, ⟨rfl, rfl, rfl, Nat.le_refl _, fun _ _ _ => rfl⟩, .inl rfl⟩
      · have epa := hpa (by omega)
        subst epa
        have h64 : vs.length + yss.length ≤ maxLen := by
          have hb0 := he.pos
          have : xss.length + yss.length ≤ (xss.length + yss.length) * bytes := Nat.le_mul_of_pos_right _ hb0
          simp only [maxLen]; omega
        obtain ⟨v', w', r1, r2, r3, _, r5⟩ := run_append_own_at (P := P) w base t ty e' ii _ 1 bytes ht.und hi hz hsz hby rfl (by omega) gh.v vs.length vs a1 ⟨gk.b, 0, none⟩ yss.length cap us (by omega)
          (fun j u hj => by rw [add_none]; rw [Nat.zero_add]; exact (hcells j u (by rw [b4]; exact hj)).1)
          (fun u hu => by obtain ⟨j, hj⟩ := List.getElem?_of_mem hu; obtain ⟨_, ua, n, c, rfl⟩ := hcells j u (by rw [b4]; exact hj); rfl) h64 (by rw [a2]; exact hb) hr.hb
        exact ⟨v', w', r1, by rw [hul]; exact r2, r3, r5⟩
    obtain ⟨v', w', r1, r2, r3, r5⟩ := key
    have emb : gh.v.ownBlock.toList = mb := by
      rcases a6 with ⟨c1, c2⟩ | ⟨c1, c2⟩
      · rw [c1, c2]; rfl
      · rw [c1, c2]; rfl
    have hgb : ∀ b, b ∉ gh.bl → some b ≠ gh.v.ownBlock := fun b hb e => hb (by rw [a7, ← emb, ← e]; simp)
    have hnotmb : ∀ b, b ∉ mb → some b ≠ gh.v.ownBlock := fun b hb e => hb (by rw [← emb, ← e]; simp)
    have hdis : ∀ c, c ∈ gk.bl → c ∉ gh.bl := hr.hd k h gk gh _ _ (fun e => hne e.symm) hgk hg hk hs (by simp) (by simp)
    have hcsk : ∀ c, c ∈ cs.flatten → c ∈ gk.bl := fun c hc => by rw [b7]; exact List.mem_append.2 (.inr hc)
    have hlt : ∀ b, v'.ownBlock = some b → b < w'.heap.size := by
      intro b hb
      rcases r2.2 with ⟨e1, _⟩ | ⟨gg, cc, cur, e1, _, hgg, _⟩
      · rw [e1] at hb; cases hb
      · rw [e1] at hb; cases hb; exact (Array.getElem?_eq_some_iff.1 hgg).1
    have hhg : h < gs.length := (List.getElem?_eq_some_iff.1 hg).1
    have hbl0 : ∀ b, b ∈ gh.bl → b < w.heap.size := fun b hb => (hr.hn _ _ _ hg hs (by simp) b hb).2
    have hblk : ∀ b, b ∈ gk.bl → b < w.heap.size := fun b hb => (hr.hn _ _ _ hgk hk (by simp) b hb).2
    let g' : Gh := ⟨v', v'.ownBlock.getD 0, v'.ownBlock.toList ++ (bs ++ cs).flatten, vs ++ us⟩
    have efl : (bs ++ cs).flatten = bs.flatten ++ cs.flatten := by simp
    have hv'b : ∀ b, b ∈ v'.ownBlock.toList → v'.ownBlock = some b := fun b hb => by
      cases hvb : v'.ownBlock with
      | none => rw [hvb] at hb; simp at hb
      | some c => rw [hvb] at hb; simp at hb; rw [hb]
    have rowblk : ∀ (j : Nat) u, vs[j]? = some u → ∀ c, u.ownBlock = some c → c ∈ bs.flatten := by
      intro j u hj c hc
      have hjb : j < bs.length := by
        have := (List.getElem?_eq_some_iff.1 hj).1
        omega
      exact List.mem_flatten.2 ⟨bs.getD j [], by rw [List.getD_eq_getElem?_getD, List.getElem?_eq_getElem hjb]; simp, by rw [← (a5 j u hj).2.2, hc]; simp⟩
    have rowblk2 : ∀ (j : Nat) u, us[j]? = some u → ∀ c, u.ownBlock = some c → c ∈ cs.flatten := by
      intro j u hj c hc
      have hjb : j < cs.length := by
        have := (List.getElem?_eq_some_iff.1 hj).1
        omega
      exact List.mem_flatten.2 ⟨cs.getD j [], by rw [List.getD_eq_getElem?_getD, List.getElem?_eq_getElem hjb]; simp, by rw [← (b5 j u hj).2.2, hc]; simp⟩
    have a8' : (mb ++ bs.flatten).Nodup := by rw [← a7]; exact a8
    have b8' : (mk ++ cs.flatten).Nodup := by rw [← b7]; exact b8
    have mbfl : ∀ b, b ∈ mb → b ∉ bs.flatten := fun b hb hb2 => (List.nodup_append.1 a8').2.2 b hb b hb2 rfl
    have keep : ∀ c, c < w.heap.size → c ∉ mb → w'.heap[c]? = w.heap[c]? := fun c hc hcm => r3.block c hc (hnotmb c hcm)
    refine ⟨v', w', gs.set h g', .inl ?_, hr.absorb hg hs trivial hgk hk trivial hne g' _ (AV.lose h) rfl (fun b hb hn => r3.block b hb (hgb b hn)) r3.size ?_ (fun kp hv => hv.lose kp) ?_, ?_, ?_⟩
    · have eu' : gk.v = .slice pa yss.length cap := eu
      simp only [execOp, resolve, invoke, builtin, Sem.run_bind, Sem.run_pure, Result.andThen_ok, List.map_toArray, List.map_cons, List.map_nil, hv, hu, eu', r1]
    · intro b hb
      rcases List.mem_append.1 hb with hb | hb
      · have hb' := hv'b b hb
        refine ⟨?_, hlt b hb'⟩
        rcases r5 with r5 | r5
        · left
          rw [hb'] at r5
          exact Classical.byContradiction fun hn => hgb b hn r5
        · right; right
          rw [hb'] at r5; cases r5; exact Nat.le_refl _
      · rw [efl] at hb
        rcases List.mem_append.1 hb with hb | hb
        · have : b ∈ gh.bl := by rw [a7]; exact List.mem_append.2 (.inr hb)
          exact ⟨.inl this, Nat.lt_of_lt_of_le (hbl0 b this) r3.size⟩
        · exact ⟨.inr (.inl (hcsk b hb)), Nat.lt_of_lt_of_le (hblk b (hcsk b hb)) r3.size⟩
    · intro kp
      refine ⟨vs ++ us, bs ++ cs, v'.ownBlock.toList, by rw [List.length_append]; exact r2, by simp [a2, b2], by simp [a3, b3], rfl, fun j u hj => ?_, ?_, rfl, ?_⟩
      · rw [List.getElem?_append] at hj
        split at hj
        · rename_i hjl
          obtain ⟨q1, q2, q3⟩ := a5 j u hj
          have g1 : (xss ++ yss).getD j [] = xss.getD j [] := by
            simp only [List.getD_eq_getElem?_getD]; rw [List.getElem?_append_left (by omega)]
          have g2 : (bs ++ cs).getD j [] = bs.getD j [] := by
            simp only [List.getD_eq_getElem?_getD]; rw [List.getElem?_append_left (by omega)]
          rw [g1, g2]
          refine ⟨ownsRow_of_block q1 fun c hc => ?_, q2, q3⟩
          have hcf := rowblk j u hj c hc
          exact keep c (hbl0 c (by rw [a7]; exact List.mem_append.2 (.inr hcf))) fun hm => mbfl c hm hcf
        · rename_i hjl
          obtain ⟨q1, q2, q3⟩ := b5 _ u hj
          have g1 : (xss ++ yss).getD j [] = yss.getD (j - vs.length) [] := by
            simp only [List.getD_eq_getElem?_getD]; rw [List.getElem?_append_right (by omega), a2]
          have g2 : (bs ++ cs).getD j [] = cs.getD (j - vs.length) [] := by
            simp only [List.getD_eq_getElem?_getD]; rw [List.getElem?_append_right (by omega), a2, ← a3]
          rw [g1, g2]
          refine ⟨ownsRow_of_block q1 fun c hc => ?_, q2, q3⟩
          have hcm := hcsk c (rowblk2 _ u hj c hc)
          exact keep c (hblk c hcm) fun hm => hdis c hcm (by rw [a7]; exact List.mem_append.2 (.inl hm))
      · show (v'.ownBlock = none ∧ v'.ownBlock.toList = []) ∨ (v'.ownBlock = some (v'.ownBlock.getD 0) ∧ v'.ownBlock.toList = [v'.ownBlock.getD 0])
        cases v'.ownBlock with
        | none => exact .inl ⟨rfl, rfl⟩
        | some b => exact .inr ⟨rfl, rfl⟩
      · show (v'.ownBlock.toList ++ (bs ++ cs).flatten).Nodup
        rw [efl]
        refine nodup_rows a8' ?_ ?_ (List.nodup_append.1 b8').2.1 (fun b hb => by rw [← a7]; exact hdis b (hcsk b hb))
        · cases v'.ownBlock <;> simp
        · intro b hb
          have hb' := hv'b b hb
          rcases r5 with r5 | r5
          · rw [hb'] at r5
            have hm : b ∈ mb := by rw [← emb, ← r5]; simp
            exact ⟨mbfl b hm, fun hc => hdis b (hcsk b hc) (by rw [a7]; exact List.mem_append.2 (.inl hm))⟩
          · rw [hb'] at r5
            cases r5
            refine ⟨fun hc => ?_, fun hc => ?_⟩
            · have := hbl0 w.heap.size (by rw [a7]; exact List.mem_append.2 (.inr hc)); omega
            · have := hblk w.heap.size (hcsk _ hc); omega
    · exact RV.own (g := g') (by simp [hhg])
    · refine ⟨r3.os, r3.tape, r3.output, r3.size, fun b hb => r3.block b (by have := hr.hb; omega) (hgb b fun hm => ?_)⟩
      have := (hr.hn _ _ _ hg hs (by simp) b hm).1
      omega
end

section
variable {P : Program} {env : Env} {os : List AO} {d : Tmp} {ty : TypeId} {pos : String} {af : Array Edge} {l rest : List Oper} {K : APost}
theorem w_apprs {t e : TypeId} {bytes : Nat} [TSlice P t e] [TElem P e (.slice none 0 0) bytes] {x y : Operand} {h k : Nat} {e' e2 e4 : TypeId} {xss yss : List (List Int)}
    (hx : evo env x = some (.own h)) (hs : os[h]? = some (.sls e' e2 xss)) (hee : e' = e) (hy : evo env y = some (.own k)) (hk : os[k]? = some (.sls e4 e2 yss)) (hne : (h == k) = false)
    (hb : (xss.length + yss.length) * bytes ≤ 140737488355328) (h' : AOps P .seq l rest K (Env.up (env.mp (AV.lose h)) d (.own h)) (((os.map (AO.via (AV.lose h) h)).set h (.sls e e2 (xss ++ yss))).set k .dead)) :
    AOps P .seq l (⟨some d, .call { callee := .builtin .append, args := #[x, y], argTypes := #[t, t] }, ty, pos, af, none⟩ :: rest) K env os :=
  AOps.lo (l_append_rows (ev_of hx) hs hee (ev_of hy) hk hne hb) h'
end
end Go.Proofs.Ytfaeiphgenddkaa
/-
  Sums of hulls, walked on both sides. Condition: both lists are supports.
-/
namespace Go.Proofs.Ytfaeiphgenddkaa
open Go Go.RowKit
attribute [local irreducible] AWp AOps ResIs Ret1 QOp LOp COp AFnV AFn Imms LeE LeO
set_option maxHeartbeats 1000000
set_option linter.unusedSimpArgs false
set_option linter.unusedVariables false

theorem corS' {xss : List (List Int)} (h : isSup xss = true) : AFn Try.prog 32 [.intss xss] (IsIntss 33 2 (verts xss)) := corners_c xss (sup_rows h).1.1 (by have := (sup_rows h).1.2; omega) (sup_pb h)
theorem verS' {xss : List (List Int)} (h : isSup xss = true) : AFn Try.prog 19 [.intss xss] (IsIntss 33 2 (verts xss)) := l15Vertices_c xss (sup_rows h).1.1 (by have := (sup_rows h).1.2; omega) (sup_pb h)
theorem hasS {xss : List (List Int)} (h : isSup xss = true) : HasV xss (verts xss) := by
  obtain ⟨V, hV⟩ := verts_ex (sup_rows h).1.1 (fun r hr => ((sup_rows h).2 r hr).2.2.1)
  rw [verts_eq (fun r hr => ((sup_rows h).2 r hr).1) hV]
  exact hV

/-- The vertices of the sum. -/
noncomputable def vsum (a b : List (List Int)) : List (List Int) := verts (sumsI (verts a) (verts b) (verts a).length)
theorem sum_rows {V W : List (List Int)} (hV : VOk 60 V) (hW : VOk 60 W) {n : Nat} (hn : n ≤ V.length) : ∀ q ∈ sumsI V W n, q.length = 2 ∧ (0 ≤ geti q 0 ∧ geti q 0 ≤ 120) ∧ (0 ≤ geti q 1 ∧ geti q 1 ≤ 120) := by
  intro q hq
  unfold sumsI at hq
  obtain ⟨v, hv, hq⟩ := List.mem_flatMap.1 hq
  obtain ⟨w, hw, rfl⟩ := List.mem_map.1 hq
  have h1 := hV.row v (List.mem_of_mem_take hv)
  have h2 := hW.row w hw
  refine ⟨rfl, ?_, ?_⟩
  · show 0 ≤ geti v 0 + geti w 0 ∧ geti v 0 + geti w 0 ≤ 120; omega
  · show 0 ≤ geti v 1 + geti w 1 ∧ geti v 1 + geti w 1 ≤ 120; omega
theorem sum_pos {V W : List (List Int)} (hV : VOk 60 V) (hW : VOk 60 W) : 0 < (sumsI V W V.length).length ∧ (sumsI V W V.length).length ≤ 3721 := by
  rw [sumsI_len V W _ (Nat.le_refl _)]
  have h1 := hV.pos
  have h2 := hW.pos
  have h3 := hV.len
  have h4 := hW.len
  refine ⟨Nat.mul_pos h1 h2, ?_⟩
  have : V.length * W.length ≤ 61 * 61 := Nat.mul_le_mul (by omega) (by omega)
  omega
theorem vsum_ok {a b : List (List Int)} (ha : isSup a = true) (hb : isSup b = true) : VOk 120 (vsum a b) :=
  verts_ok (sum_pos (sup_ok ha) (sup_ok hb)).1 (sum_rows (sup_ok ha) (sup_ok hb) (Nat.le_refl _))

set_option maxHeartbeats 8000000 in
theorem l15Sum_c (a b : List (List Int)) (ha : isSup a = true) (hb : isSup b = true) : AFn Try.prog 29 [.intss a, .intss b] (IsIntss 33 2 (vsum a b)) := by
  have hv1 := verS' ha
  have hv2 := verS' hb
  have oV := sup_ok ha
  have oW := sup_ok hb
  unfold vsum
  generalize verts a = V at *
  generalize verts b = W at *
  have lV := oV.len
  have lW := oW.len
  have hsp := sum_pos oV oW
  (refine AFn.start Try.func29 Try.ntmps29 rfl (by kernel_rfl) fun hk => ?_; simp only [Env.start, enumF, List.length_cons, List.length_nil, Nat.reduceAdd, Nat.reduceSub, List.cons_append, List.nil_append])
  repeat' (first | (apply AOps.nil; try simp only [List.nil_append, List.cons_append, List.set_cons_zero, List.set_cons_succ, List.length_cons, List.length_nil, Nat.reduceAdd, AV.sh, AV.sh1, AV.sh0, AO.sh, List.map_cons, List.map_nil, Nat.zero_add, Nat.add_zero, setAll]) | (apply w_move; exact rfl; exact rfl) | (apply w_assign; exact rfl; exact rfl) | apply AWp.seq | apply AWp.region | apply AWp.block | ((apply w_bsr0); iterate 1 exact rfl) | (apply w_callm (hv1); (focus ((repeat (first | exact im_nil | refine im_cons rfl (.intss _) ?_)); done)); rintro r os0 ⟨rfl, rfl⟩; try simp only [List.nil_append, List.cons_append, List.set_cons_zero, List.set_cons_succ, List.length_cons, List.length_nil, Nat.reduceAdd, AV.sh, AV.sh1, AV.sh0, AO.sh, List.map_cons, List.map_nil, Nat.zero_add, Nat.add_zero, setAll]) | (apply w_callm (hv2); (focus ((repeat (first | exact im_nil | refine im_cons rfl (.intss _) ?_)); done)); rintro r os0 ⟨rfl, rfl⟩; try simp only [List.nil_append, List.cons_append, List.set_cons_zero, List.set_cons_succ, List.length_cons, List.length_nil, Nat.reduceAdd, AV.sh, AV.sh1, AV.sh0, AO.sh, List.map_cons, List.map_nil, Nat.zero_add, Nat.add_zero, setAll]))
  refine AWp.loop (ι := Nat) (fun i => ⟨59, [(5, .own 0), (6, .own 1), (7, .own 2), (8, .i i)]⟩) (fun i => [.sls 33 2 V, .sls 33 2 W, .sls 33 2 (sumsI V W i)]) (fun i => i ≤ V.length) (fun i => V.length - i) 0 (by omega) ⟨lee rfl (by (repeat (first | exact le_nil | refine le_eq rfl rfl ?_))), by (repeat (first | exact lo_nil | refine lo_eq rfl ?_)), rfl, rfl⟩ ?_
  rintro i i0
  by_cases hi : i < V.length
  · have hpre := sumsI_len V W i i0
    have hs := sumsI_succ V W i hi
    have hil : i * W.length ≤ 61 * 61 := Nat.mul_le_mul (by omega) (by omega)
    obtain ⟨p1, p2, p3⟩ : (V.getD (i : Int).toNat []).length = 2 ∧ (0 ≤ geti (V.getD (i : Int).toNat []) 0 ∧ geti (V.getD (i : Int).toNat []) 0 ≤ 60) ∧ (0 ≤ geti (V.getD (i : Int).toNat []) 1 ∧ geti (V.getD (i : Int).toNat []) 1 ≤ 60) :=
      oV.row _ (by rw [Int.toNat_natCast, List.getD_eq_getElem?_getD, List.getElem?_eq_getElem hi]; exact List.getElem_mem _)
    repeat' (first | (apply AOps.nil; try simp only [List.nil_append, List.cons_append, List.set_cons_zero, List.set_cons_succ, List.length_cons, List.length_nil, Nat.reduceAdd, AV.sh, AV.sh1, AV.sh0, AO.sh, List.map_cons, List.map_nil, Nat.zero_add, Nat.add_zero, setAll]) | (apply w_move; exact rfl; exact rfl) | (apply w_assign; exact rfl; exact rfl) | apply AWp.seq | apply AWp.region | ((apply AWp.condP; exact rfl) <;> intro h) | apply AWp.block | apply AWp.exit | apply AWp.skip | (apply w_len; exact rfl; exact rfl; first | exact .ints _ | exact .intss _ | exact .sli rfl | exact .sls rfl | exact .slr rfl | exact .orow rfl | exact .nil) | omega | ((apply w_lss); iterate 3 exact rfl))
    generalize eS : sumsI V W i = S at *
    refine AWp.loop (ι := Nat) (fun k => ⟨59, [(5, .own 0), (6, .own 1), (7, .own 2), (8, .i i), (9, .i k)]⟩) (fun k => [.sls 33 2 V, .sls 33 2 W, .sls 33 2 (S ++ (W.take k).map (addR (V.getD (i : Int).toNat [])))]) (fun k => k ≤ W.length) (fun k => W.length - k) 0 (by omega) (by simp only [List.take_zero, List.map_nil, List.append_nil]; exact ⟨lee rfl (by (repeat (first | exact le_nil | refine le_eq rfl rfl ?_))), by (repeat (first | exact lo_nil | refine lo_eq rfl ?_)), rfl, rfl⟩) ?_
    rintro k k0
    by_cases hk : k < W.length
    · obtain ⟨q1, q2, q3⟩ : (W.getD (k : Int).toNat []).length = 2 ∧ (0 ≤ geti (W.getD (k : Int).toNat []) 0 ∧ geti (W.getD (k : Int).toNat []) 0 ≤ 60) ∧ (0 ≤ geti (W.getD (k : Int).toNat []) 1 ∧ geti (W.getD (k : Int).toNat []) 1 ≤ 60) :=
        oW.row _ (by rw [Int.toNat_natCast, List.getD_eq_getElem?_getD, List.getElem?_eq_getElem hk]; exact List.getElem_mem _)
      have ek : (W.take (k + 1)).map (addR (V.getD (i : Int).toNat [])) = (W.take k).map (addR (V.getD (i : Int).toNat [])) ++ [addR (V.getD (i : Int).toNat []) (W.getD (k : Int).toNat [])] := by
        rw [List.take_add_one, List.getElem?_eq_getElem hk, Int.toNat_natCast, Int.toNat_natCast, List.getD_eq_getElem?_getD (l := W), List.getElem?_eq_getElem hk, List.map_append]; rfl
      have hbs : (S ++ (W.take k).map (addR (V.getD (i : Int).toNat []))).length ≤ 4000 := by rw [List.length_append, List.length_map, List.length_take]; omega
      rw [List.length_append] at hbs
      have er : S ++ (W.take (k + 1)).map (addR (V.getD (i : Int).toNat [])) = (S ++ (W.take k).map (addR (V.getD (i : Int).toNat []))) ++ [[geti (V.getD (i : Int).toNat []) ((Int.toNat 0 : Nat) : Int) + geti (W.getD (k : Int).toNat []) ((Int.toNat 0 : Nat) : Int), geti (V.getD (i : Int).toNat []) ((Int.toNat 1 : Nat) : Int) + geti (W.getD (k : Int).toNat []) ((Int.toNat 1 : Nat) : Int)]] := by
        rw [ek, ← List.append_assoc]; rfl
      have p2' : 0 ≤ geti (V.getD (i : Int).toNat []) ((Int.toNat 0 : Nat) : Int) ∧ geti (V.getD (i : Int).toNat []) ((Int.toNat 0 : Nat) : Int) ≤ 60 := p2
      have p3' : 0 ≤ geti (V.getD (i : Int).toNat []) ((Int.toNat 1 : Nat) : Int) ∧ geti (V.getD (i : Int).toNat []) ((Int.toNat 1 : Nat) : Int) ≤ 60 := p3
      have q2' : 0 ≤ geti (W.getD (k : Int).toNat []) ((Int.toNat 0 : Nat) : Int) ∧ geti (W.getD (k : Int).toNat []) ((Int.toNat 0 : Nat) : Int) ≤ 60 := q2
      have q3' : 0 ≤ geti (W.getD (k : Int).toNat []) ((Int.toNat 1 : Nat) : Int) ∧ geti (W.getD (k : Int).toNat []) ((Int.toNat 1 : Nat) : Int) ≤ 60 := q3
      have hbb : (S ++ (W.take k).map (addR (V.getD (i : Int).toNat []))).length ≤ 4000 := by rw [List.length_append]; exact hbs
      clear hbs ek
      generalize S ++ (W.take k).map (addR (V.getD (i : Int).toNat [])) = Z at *
      repeat' (first | (apply AOps.nil; try simp only [List.nil_append, List.cons_append, List.set_cons_zero, List.set_cons_succ, List.length_cons, List.length_nil, Nat.reduceAdd, AV.sh, AV.sh1, AV.sh0, AO.sh, List.map_cons, List.map_nil, Nat.zero_add, Nat.add_zero, setAll]) | (apply w_move; exact rfl; exact rfl) | apply AWp.seq | apply AWp.region | ((apply AWp.condP; exact rfl) <;> intro h) | apply AWp.block | apply AWp.exit | apply AWp.skip | (apply w_len; exact rfl; exact rfl; first | exact .ints _ | exact .intss _ | exact .sli rfl | exact .sls rfl | exact .slr rfl | exact .orow rfl | exact .nil) | omega | ((apply w_lss); iterate 3 exact rfl))
      refine AWp.regionG [] (by kernel_rfl) (envC := ⟨59, [(5, .own 0), (6, .own 1), (7, .own 2), (8, .i i), (9, .i k)]⟩) (osC := [.sls 33 2 V, .sls 33 2 W, .sls 33 2 (Z ++ [[geti (V.getD (i : Int).toNat []) ((Int.toNat 0 : Nat) : Int) + geti (W.getD (k : Int).toNat []) ((Int.toNat 0 : Nat) : Int), geti (V.getD (i : Int).toNat []) ((Int.toNat 1 : Nat) : Int) + geti (W.getD (k : Int).toNat []) ((Int.toNat 1 : Nat) : Int)]])]) rfl rfl ?_ ?_
      · repeat' (first | (apply AOps.nil; try simp only [List.nil_append, List.cons_append, List.set_cons_zero, List.set_cons_succ, List.length_cons, List.length_nil, Nat.reduceAdd, AV.sh, AV.sh1, AV.sh0, AO.sh, List.map_cons, List.map_nil, Nat.zero_add, Nat.add_zero, setAll]) | (apply w_move; exact rfl; exact rfl) | (apply w_assign; exact rfl; exact rfl) | ((first | apply w_bsr1 | apply w_add | apply w_idx | apply w_ld | apply w_bs2); iterate 3 exact rfl) | (apply w_appr; exact rfl; exact rfl; exact rfl; exact rfl; exact rfl; exact rfl; exact rfl; rotate_left 1; simp only [Env.mp, List.map_cons, List.map_nil, List.set_cons_zero, List.set_cons_succ, AV.kill, AV.kill1, AO.kill, AV.rin, AV.rin1, AV.noRow, AV.noRow1, AO.via, reduceIte, Nat.reduceEqDiff, Nat.reduceLT, Env.up, Nat.zero_ne_one, Nat.one_ne_zero, Nat.reduceAdd, List.cons_append, List.nil_append]; rotate_left 1) | apply AllOfG.nil | (apply AllOfG.consS; exact rfl; exact rfl) | (apply AAnyG.takeW; exact rfl; exact rfl; kernel_rfl; kernel_rfl) | (apply AAnyG.takeL; exact rfl; exact rfl; kernel_rfl) | (apply AAnyG.all; exact rfl) | (apply AAnyG.done; exact rfl) | omega | (apply w_idxo; exact rfl; exact rfl; (exact .sls rfl); exact rfl) | ((first | apply w_idxr | apply w_ldr); iterate 4 exact rfl) | (apply w_ldls; iterate 4 exact rfl) | (apply w_ldrp; iterate 4 exact rfl) | (apply inI_of <;> omega))
        all_goals (apply Or.inl; refine ⟨lee rfl ?_, ?_, rfl, rfl⟩; (focus ((repeat (first | exact le_nil | refine le_eq rfl rfl ?_)); done)); (focus ((repeat (first | exact lo_nil | refine lo_eq rfl ?_)); done)))
      repeat' (first | (apply AOps.nil; try simp only [List.nil_append, List.cons_append, List.set_cons_zero, List.set_cons_succ, List.length_cons, List.length_nil, Nat.reduceAdd, AV.sh, AV.sh1, AV.sh0, AO.sh, List.map_cons, List.map_nil, Nat.zero_add, Nat.add_zero, setAll]) | (apply w_move; exact rfl; exact rfl) | (apply w_assign; exact rfl; exact rfl) | apply AWp.region | ((apply w_add); iterate 3 exact rfl) | (apply inI_of <;> omega))
      exact ⟨k + 1, by omega, by omega, ⟨lee rfl (by (repeat (first | exact le_nil | refine le_eq rfl rfl ?_))), by (repeat (first | exact lo_nil | refine lo_eq rfl ?_ | refine lo_eq (congrArg (AO.sls _ _) (er.symm)) ?_)), rfl, rfl⟩⟩
    · have ek : k = W.length := by omega
      subst ek
      have e2 : S ++ (W.take W.length).map (addR (V.getD (i : Int).toNat [])) = sumsI V W (i + 1) := by rw [hs, List.take_length]; rfl
      rw [e2]
      repeat' (first | (apply AOps.nil; try simp only [List.nil_append, List.cons_append, List.set_cons_zero, List.set_cons_succ, List.length_cons, List.length_nil, Nat.reduceAdd, AV.sh, AV.sh1, AV.sh0, AO.sh, List.map_cons, List.map_nil, Nat.zero_add, Nat.add_zero, setAll]) | (apply w_move; exact rfl; exact rfl) | (apply w_assign; exact rfl; exact rfl) | apply AWp.seq | apply AWp.region | ((apply AWp.condP; exact rfl) <;> intro h) | apply AWp.block | apply AWp.exit | apply AWp.skip | (apply w_len; exact rfl; exact rfl; first | exact .ints _ | exact .intss _ | exact .sli rfl | exact .sls rfl | exact .slr rfl | exact .orow rfl | exact .nil) | omega | ((first | apply w_lss | apply w_add); iterate 3 exact rfl) | (apply inI_of <;> omega))
      exact ⟨i + 1, by omega, by omega, ⟨lee rfl (by (repeat (first | exact le_nil | refine le_eq rfl rfl ?_))), by (repeat (first | exact lo_nil | refine lo_eq rfl ?_)), rfl, rfl⟩⟩
  · have ei : i = V.length := by omega
    subst ei
    have hver := l15Vertices_c (sumsI V W V.length) hsp.1 (by omega) (fun r hr => by have := sum_rows oV oW (Nat.le_refl _) r hr; unfold PB; omega)
    repeat' (first | (apply AOps.nil; try simp only [List.nil_append, List.cons_append, List.set_cons_zero, List.set_cons_succ, List.length_cons, List.length_nil, Nat.reduceAdd, AV.sh, AV.sh1, AV.sh0, AO.sh, List.map_cons, List.map_nil, Nat.zero_add, Nat.add_zero, setAll]) | (apply w_move; exact rfl; exact rfl) | (apply w_assign; exact rfl; exact rfl) | apply AWp.seq | apply AWp.region | ((apply AWp.condP; exact rfl) <;> intro h) | apply AWp.block | apply AWp.ret | apply AWp.exit | apply AWp.skip | (apply w_len; exact rfl; exact rfl; first | exact .ints _ | exact .intss _ | exact .sli rfl | exact .sls rfl | exact .slr rfl | exact .orow rfl | exact .nil) | (apply w_callm (hver); (focus ((repeat (first | exact im_nil | refine im_cons rfl (.sls rfl) ?_)); done)); rintro r os0 ⟨rfl, rfl⟩; try simp only [List.nil_append, List.cons_append, List.set_cons_zero, List.set_cons_succ, List.length_cons, List.length_nil, Nat.reduceAdd, AV.sh, AV.sh1, AV.sh0, AO.sh, List.map_cons, List.map_nil, Nat.zero_add, Nat.add_zero, setAll]) | omega | ((apply w_lss); iterate 3 exact rfl))
    exact ⟨_, _, _, .v1 Try.results29 rfl, .sls rfl, rfl, rfl⟩
end Go.Proofs.Ytfaeiphgenddkaa
/-
  The program's sum of hulls; sums of supports and mixed areas on both sides. No condition.
-/
namespace Go.Proofs.Ytfaeiphgenddkaa
open Go Go.RowKit
attribute [local irreducible] AWp AOps ResIs Ret1 QOp LOp COp AFnV AFn Imms LeE LeO
set_option maxHeartbeats 1000000
set_option linter.unusedSimpArgs false
set_option linter.unusedVariables false

set_option maxHeartbeats 8000000 in
theorem sumOfCorners_c (a b : List (List Int)) (ha : isSup a = true) (hb : isSup b = true) : AFn Try.prog 31 [.intss (verts a), .intss (verts b)] (IsIntss 33 2 (vsum a b)) := by
  have oV := sup_ok ha
  have oW := sup_ok hb
  have hV := hasS ha
  have hW := hasS hb
  have hvr := (vsum_ok ha hb).row
  have hvl := (vsum_ok ha hb).len
  unfold vsum at *
  have key := fun L => sum_hull (L := L) hV hW oV oW
  clear hV hW
  generalize verts a = V at *
  generalize verts b = W at *
  have lV := oV.len
  have lW := oW.len
  have zV := oV.pos
  have zW := oW.pos
  have c1 := edgesBetween_c (by decide) V oV
  have c2 := edgesBetween_c (by decide) W oW
  have l1 := edL_len V (V.length - 1)
  have l2 := edL_len W (W.length - 1)
  have r1 : ∀ e ∈ edL V (V.length - 1) ++ edL W (W.length - 1), E60 e := by
    intro e he
    rcases List.mem_append.1 he with he | he
    · exact ed_row oV he
    · exact ed_row oW he
  have hje := joinedEdges_all _ (by rw [List.length_append]; omega) r1
  have g1 : gets V 0 = V.getD 0 [] := by simp [gets, List.getD_eq_getElem?_getD]
  have g2 : gets W 0 = W.getD 0 [] := by simp [gets, List.getD_eq_getElem?_getD]
  obtain ⟨p1, p2, p3⟩ := oV.at 0 zV
  obtain ⟨q1, q2, q3⟩ := oW.at 0 zW
  simp only [Int.natCast_zero] at p1 p2 p3 q1 q2 q3
  have p1' : (gets V ((Int.toNat 0 : Nat) : Int)).length = 2 := p1
  have q1' : (gets W ((Int.toNat 0 : Nat) : Int)).length = 2 := q1
  (refine AFn.start Try.func31 Try.ntmps31 rfl (by kernel_rfl) fun hk => ?_; simp only [Env.start, enumF, List.length_cons, List.length_nil, Nat.reduceAdd, Nat.reduceSub, List.cons_append, List.nil_append])
  repeat' (first | (apply AOps.nil; try simp only [List.nil_append, List.cons_append, List.set_cons_zero, List.set_cons_succ, List.length_cons, List.length_nil, Nat.reduceAdd, AV.sh, AV.sh1, AV.sh0, AO.sh, List.map_cons, List.map_nil, Nat.zero_add, Nat.add_zero, setAll]) | (apply w_assign; exact rfl; exact rfl) | apply AWp.seq | apply AWp.region)
  refine AWp.regionG [] (by kernel_rfl) (envC := ⟨37, [(0, .intss V), (1, .intss W), (5, .own 0)]⟩) (osC := [.sli 2 [geti (gets V 0) 0 + geti (gets W 0) 0, geti (gets V 0) 1 + geti (gets W 0) 1]]) rfl rfl ?_ ?_
  · repeat' (first | (apply AOps.nil; try simp only [List.nil_append, List.cons_append, List.set_cons_zero, List.set_cons_succ, List.length_cons, List.length_nil, Nat.reduceAdd, AV.sh, AV.sh1, AV.sh0, AO.sh, List.map_cons, List.map_nil, Nat.zero_add, Nat.add_zero, setAll]) | (apply w_move; exact rfl; exact rfl) | (apply w_assign; exact rfl; exact rfl) | apply AllOfG.nil | (apply AllOfG.consS; exact rfl; exact rfl) | (apply AAnyG.takeW; exact rfl; exact rfl; kernel_rfl; kernel_rfl) | (apply AAnyG.takeL; exact rfl; exact rfl; kernel_rfl) | (apply AAnyG.all; exact rfl) | (apply AAnyG.done; exact rfl) | omega | ((first | apply w_add | apply w_idx | apply w_ld | apply w_bs2); iterate 3 exact rfl) | ((first | apply w_idxs | apply w_lds); iterate 3 exact rfl) | (apply inI_of <;> omega))
    all_goals (apply Or.inl; refine ⟨lee rfl ?_, ?_, rfl, rfl⟩; (focus ((repeat (first | exact le_nil | refine le_eq rfl rfl ?_)); done)); (focus ((repeat (first | exact lo_nil | refine lo_eq rfl ?_)); done)))
  repeat' (first | (apply w_move; exact rfl; exact rfl) | apply AWp.seq | apply AWp.region | (apply w_apprs; exact rfl; exact rfl; exact rfl; exact rfl; exact rfl; exact rfl; rotate_left 1; simp only [Env.mp, List.map_cons, List.map_nil, List.set_cons_zero, List.set_cons_succ, AV.kill, AV.kill1, AO.kill, AV.lose, AV.lose1, List.map_append, map_orow_kill, AV.noRow, AV.noRow1, AO.via, reduceIte, Nat.reduceEqDiff, Nat.reduceLT, Env.up, Nat.zero_ne_one, Nat.one_ne_zero, Nat.reduceAdd, List.cons_append, List.nil_append]; rotate_left 1) | (apply w_callm (hje); (focus ((repeat (first | exact im_nil | refine im_cons rfl (.sls rfl) ?_)); done)); rintro r os0 ⟨L, hL, rfl, rfl⟩; try simp only [List.nil_append, List.cons_append, List.set_cons_zero, List.set_cons_succ, List.length_cons, List.length_nil, Nat.reduceAdd, AV.sh, AV.sh1, AV.sh0, AO.sh, List.map_cons, List.map_nil, Nat.zero_add, Nat.add_zero, setAll]) | (apply w_callm (c1); (focus ((repeat (first | exact im_nil | refine im_cons rfl (.intss _) ?_)); done)); rintro r os0 ⟨rfl, rfl⟩; try simp only [List.nil_append, List.cons_append, List.set_cons_zero, List.set_cons_succ, List.length_cons, List.length_nil, Nat.reduceAdd, AV.sh, AV.sh1, AV.sh0, AO.sh, List.map_cons, List.map_nil, Nat.zero_add, Nat.add_zero, setAll]) | (apply w_callm (c2); (focus ((repeat (first | exact im_nil | refine im_cons rfl (.intss _) ?_)); done)); rintro r os0 ⟨rfl, rfl⟩; try simp only [List.nil_append, List.cons_append, List.set_cons_zero, List.set_cons_succ, List.length_cons, List.length_nil, Nat.reduceAdd, AV.sh, AV.sh1, AV.sh0, AO.sh, List.map_cons, List.map_nil, Nat.zero_add, Nat.add_zero, setAll]) | omega)
  have hh := key L hL
  have ep : addR (V.getD 0 []) (W.getD 0 []) = [geti (gets V 0) 0 + geti (gets W 0) 0, geti (gets V 0) 1 + geti (gets W 0) 1] := by rw [g1, g2]; rfl
  rw [ep] at hh
  rw [hh] at hvr hvl ⊢
  have hlen := vfP_len L [geti (gets V 0) 0 + geti (gets W 0) 0, geti (gets V 0) 1 + geti (gets W 0) 1]
  have hver := verticesFrom_c _ L rfl (by omega) (fun l hl => (hL.pos l hl).1) (fun q hq => by have := hvr q hq; omega)
  repeat' (first | (apply AOps.nil; try simp only [List.nil_append, List.cons_append, List.set_cons_zero, List.set_cons_succ, List.length_cons, List.length_nil, Nat.reduceAdd, AV.sh, AV.sh1, AV.sh0, AO.sh, List.map_cons, List.map_nil, Nat.zero_add, Nat.add_zero, setAll]) | (apply w_assign; exact rfl; exact rfl) | apply AWp.ret | (apply w_callm (hver); (focus ((repeat (first | exact im_nil | refine im_cons rfl (.sli rfl) ?_ | refine im_cons rfl (.sls rfl) ?_)); done)); rintro r os0 ⟨rfl, rfl⟩; try simp only [List.nil_append, List.cons_append, List.set_cons_zero, List.set_cons_succ, List.length_cons, List.length_nil, Nat.reduceAdd, AV.sh, AV.sh1, AV.sh0, AO.sh, List.map_cons, List.map_nil, Nat.zero_add, Nat.add_zero, setAll]))
  exact ⟨_, _, _, .v1 Try.results31 rfl, .sls rfl, rfl, rfl⟩

/-! ### Sums of supports -/
end Go.Proofs.Ytfaeiphgenddkaa
/-
  The law of the polygon of edges. No condition.
-/
namespace Go.Proofs.Ytfaeiphgenddkaa
open Go Go.RowKit
attribute [local irreducible] AWp AOps ResIs Ret1 QOp LOp COp AFnV AFn Imms LeE LeO
set_option maxHeartbeats 1000000
set_option linter.unusedSimpArgs false
set_option linter.unusedVariables false

end Go.Proofs.Ytfaeiphgenddkaa
/-
  Mixed areas on both sides; the laws. No condition.
-/
namespace Go.Proofs.Ytfaeiphgenddkaa
open Go Go.RowKit
attribute [local irreducible] AWp AOps ResIs Ret1 QOp LOp COp AFnV AFn Imms LeE LeO
set_option maxHeartbeats 1000000
set_option linter.unusedSimpArgs false
set_option linter.unusedVariables false

theorem vfP_getD {L : List (List Int)} {p : List Int} : ∀ n, n ≤ L.length → geti ((vfP p L).getD n []) 0 = geti p 0 + sS E0 (L.take n) ∧ geti ((vfP p L).getD n []) 1 = geti p 1 - sS E1 (L.take n)
  | 0, _ => by rw [vfP_0]; simp [sS]
  | n + 1, h => by
    obtain ⟨i1, i2⟩ := vfP_getD (L := L) (p := p) n (by omega)
    rw [vfP_succ L p n (by omega), sS_take_succ _ _ _ (by omega), sS_take_succ _ _ _ (by omega), geti_p0, geti_p1]
    simp only [E0, E1] at *
    omega
theorem gets_D (V : List (List Int)) (n : Nat) : gets V (n : Nat) = V.getD n [] := by simp [gets, List.getD_eq_getElem?_getD]
theorem conv_last {V : List (List Int)} {B : Int} (h : VOk B V) : geti (gets V ((V.length : Int) - 1)) 1 = geti (V.getD 0 []) 1 - sS E1 (edL V (V.length - 1)) := by
  have e := vf_ed (fun v hv => (h.row v hv).1) h.pos
  have hp := h.pos
  have := (vfP_getD (p := V.getD 0 []) (L := edL V (V.length - 1)) (V.length - 1) (by rw [edL_len]; omega)).2
  rw [e, List.take_of_length_le (by rw [edL_len]; omega)] at this
  rw [show ((V.length : Int) - 1) = ((V.length - 1 : Nat) : Int) by omega, gets_D]
  exact this
theorem ji_ex : ∀ (n : Nat) (Y : List (List Int)), Y.length = n → StS Y → (∀ y ∈ Y, EP y) → ∃ L, JI Y L
  | 0, Y, h, _, _ => by rw [List.eq_nil_of_length_eq_zero h]; exact ⟨[], JI.nil⟩
  | n + 1, Y, h, hs, hp => by
    rcases List.eq_nil_or_concat Y with rfl | ⟨Y, e, rfl⟩
    · simp at h
    · rw [List.concat_eq_append] at *
      obtain ⟨h1, h2, h3⟩ := List.pairwise_append.1 hs
      have hY : ∀ y ∈ Y, EP y := fun y hy => hp y (by simp [hy])
      have he : EP e := hp e (by simp)
      have hye : ∀ y ∈ Y, 0 ≤ wS y e := fun y hy => h3 y hy e (by simp)
      obtain ⟨L, hL⟩ := ji_ex n Y (by simpa using h) h1 hY
      by_cases hz : ∀ A l, L = A ++ [l] → wS l e ≠ 0
      · exact ⟨_, hL.push hY he hye hz⟩
      · obtain ⟨A, l, e1, e2⟩ : ∃ A l, L = A ++ [l] ∧ wS l e = 0 := by
          apply Classical.byContradiction
          intro hn
          exact hz fun A l h1 h2 => hn ⟨A, l, h1, h2⟩
        subst e1
        refine ⟨_, hL.same (fun hn => ?_) he hye e2⟩
        have := hL.none hn
        simp at this
theorem join_some {X : List (List Int)} (h : ∀ x ∈ X, EP x) : ∃ L, JoinOf X L := by
  obtain ⟨L, hL⟩ := ji_ex _ (srtE X X.length) rfl (srtE_stS (fun x hx => (h x hx).2.2.1) _ (Nat.le_refl _)) (fun y hy => h y (srtE_mem (Nat.le_refl _) hy))
  exact ⟨L, hL.join.perm (srtE_all X)⟩
theorem join_ex2 (a b : List (List Int)) (ha : isSup a = true) (hb : isSup b = true) : ∃ L, JoinOf (edL (verts a) ((verts a).length - 1) ++ edL (verts b) ((verts b).length - 1)) L :=
  join_some fun e he => by
    rcases List.mem_append.1 he with he | he
    · have := ed_row (sup_ok ha) he; unfold EP; omega
    · have := ed_row (sup_ok hb) he; unfold EP; omega
/-- A join of edges exists. -/
theorem join_ex (a b : List (List Int)) (ha : isSup a = true) (hb : isSup b = true) : (∃ L, JoinOf (edL (verts a) ((verts a).length - 1) ++ edL (verts b) ((verts b).length - 1)) L) → conv (verts a) = true → conv (verts b) = true → conv (vsum a b) = true := by
  rintro ⟨L, hL⟩ ca cb
  have oV := sup_ok ha
  have oW := sup_ok hb
  have hh := sum_hull (hasS ha) (hasS hb) oV oW hL
  have lV := conv_last oV
  have lW := conv_last oW
  simp only [conv, decide_eq_true_eq] at ca cb ⊢
  have g0 := gets_D (verts a) 0
  have g1 := gets_D (verts b) 0
  simp only [Int.natCast_zero] at g0 g1
  rw [g0] at ca
  rw [g1] at cb
  unfold vsum
  rw [hh]
  have hl := vfP_len L (addR ((verts a).getD 0 []) ((verts b).getD 0 []))
  have z0 := gets_D (vfP (addR ((verts a).getD 0 []) ((verts b).getD 0 [])) L) 0
  simp only [Int.natCast_zero] at z0
  have zl := (vfP_getD (p := addR ((verts a).getD 0 []) ((verts b).getD 0 [])) (L := L) L.length (Nat.le_refl _)).2
  rw [List.take_length, hL.tot.2, sS_append] at zl
  rw [z0, vfP_0, hl, show (((L.length + 1 : Nat) : Int) - 1) = ((L.length : Nat) : Int) by omega, gets_D, zl]
  refine ⟨?_, ?_⟩
  · show geti ((verts a).getD 0 []) 0 + geti ((verts b).getD 0 []) 0 = 0; omega
  · show (geti ((verts a).getD 0 []) 1 + geti ((verts b).getD 0 []) 1) - _ = 0; omega

theorem tdiv2_in {x B : Int} (h : -B ≤ x ∧ x ≤ B) : -B ≤ Int.tdiv x 2 ∧ Int.tdiv x 2 ≤ B := by
  by_cases hx : 0 ≤ x
  · rw [Int.tdiv_eq_ediv_of_nonneg hx]; omega
  · have e : Int.tdiv x 2 = -Int.tdiv (-x) 2 := by rw [Int.neg_tdiv]; omega
    rw [e, Int.tdiv_eq_ediv_of_nonneg (by omega)]; omega
open Classical in
noncomputable def maE (a b : List (List Int)) : Int := if isSup a = true ∧ isSup b = true then (if conv (verts a) = true ∧ conv (verts b) = true then 0 else 5) else 1
noncomputable def maA (a b : List (List Int)) : Int := if maE a b = 0 then Int.tdiv (arI (vsum a b) ((vsum a b).length - 1) - arI (verts a) ((verts a).length - 1) - arI (verts b) ((verts b).length - 1)) 2 else 0
theorem ma_no {a b : List (List Int)} (h : ¬ (isSup a = true ∧ isSup b = true)) : maE a b = 1 ∧ maA a b = 0 := by
  have e : maE a b = 1 := if_neg h
  exact ⟨e, by rw [maA, e, if_neg (by decide)]⟩
theorem ma_st {a b : List (List Int)} (h : isSup a = true ∧ isSup b = true) (h2 : ¬ (conv (verts a) = true ∧ conv (verts b) = true)) : maE a b = 5 ∧ maA a b = 0 := by
  have e : maE a b = 5 := by rw [maE, if_pos h, if_neg h2]
  exact ⟨e, by rw [maA, e, if_neg (by decide)]⟩
theorem ma_ok {a b : List (List Int)} (h : isSup a = true ∧ isSup b = true) (h2 : conv (verts a) = true ∧ conv (verts b) = true) : maE a b = 0 ∧ maA a b = Int.tdiv (arI (vsum a b) ((vsum a b).length - 1) - arI (verts a) ((verts a).length - 1) - arI (verts b) ((verts b).length - 1)) 2 := by
  have e : maE a b = 0 := by rw [maE, if_pos h, if_pos h2]
  exact ⟨e, by rw [maA, if_pos e]⟩
set_option maxHeartbeats 8000000 in
theorem implMixedArea_c (a b : List (List Int)) : AFnV Try.prog 16 [.intss a, .intss b] (.tuple #[.int .i64 (maA a b), .int .i64 (maE a b)]) := by
  have s1 := implIsSupport_c a
  have s2 := implIsSupport_c b
  by_cases h : isSup a = true ∧ isSup b = true
  case neg =>
    obtain ⟨e1, e2⟩ := ma_no h
    rw [e1, e2]
    (refine AFnV.start Try.func16 Try.ntmps16 rfl (by kernel_rfl) fun hk => ?_; simp only [Env.start, enumF, List.length_cons, List.length_nil, Nat.reduceAdd, Nat.reduceSub, List.cons_append, List.nil_append])
    cases ha : isSup a
    · rw [ha] at s1
      repeat' (first | (apply AOps.nil; try simp only [List.nil_append, List.cons_append, List.set_cons_zero, List.set_cons_succ, List.length_cons, List.length_nil, Nat.reduceAdd, AV.sh, AV.sh1, AV.sh0, AO.sh, List.map_cons, List.map_nil, Nat.zero_add, Nat.add_zero, setAll]) | (apply w_move; exact rfl; exact rfl) | (apply w_assign; exact rfl; exact rfl) | apply AWp.seq | apply AWp.region | (apply AWp.condT; exact rfl) | apply AWp.ret | (apply w_skip; exact rfl) | (apply w_pickT; exact rfl; exact rfl; exact rfl) | (apply w_call (s1); exact rfl; exact rfl; focus ((repeat (first | exact im_nil | refine im_cons rfl (.intss _) ?_)); done)) | ((apply w_not); iterate 2 exact rfl))
      all_goals exact .intint Try.results16 rfl rfl rfl rfl
    · rw [ha] at s1
      cases hb : isSup b
      · rw [hb] at s2
        repeat' (first | (apply AOps.nil; try simp only [List.nil_append, List.cons_append, List.set_cons_zero, List.set_cons_succ, List.length_cons, List.length_nil, Nat.reduceAdd, AV.sh, AV.sh1, AV.sh0, AO.sh, List.map_cons, List.map_nil, Nat.zero_add, Nat.add_zero, setAll]) | (apply w_move; exact rfl; exact rfl) | (apply w_assign; exact rfl; exact rfl) | apply AWp.seq | apply AWp.region | (apply AWp.condT; exact rfl) | apply AWp.ret | (apply w_pickF; exact rfl; exact rfl; exact rfl) | (apply w_call (s1); exact rfl; exact rfl; focus ((repeat (first | exact im_nil | refine im_cons rfl (.intss _) ?_)); done)) | (apply w_call (s2); exact rfl; exact rfl; focus ((repeat (first | exact im_nil | refine im_cons rfl (.intss _) ?_)); done)) | ((apply w_not); iterate 2 exact rfl))
        all_goals exact .intint Try.results16 rfl rfl rfl rfl
      · exact absurd ⟨ha, hb⟩ h
  obtain ⟨ha, hb⟩ := h
  rw [ha] at s1
  rw [hb] at s2
  have c1 := corS' ha
  have c2 := corS' hb
  have k1 := isConvenient_c _ (sup_ok ha)
  have k2 := isConvenient_c _ (sup_ok hb)
  by_cases hc : conv (verts a) = true ∧ conv (verts b) = true
  case neg =>
    obtain ⟨e1, e2⟩ := ma_st ⟨ha, hb⟩ hc
    rw [e1, e2]
    (refine AFnV.start Try.func16 Try.ntmps16 rfl (by kernel_rfl) fun hk => ?_; simp only [Env.start, enumF, List.length_cons, List.length_nil, Nat.reduceAdd, Nat.reduceSub, List.cons_append, List.nil_append])
    cases ca : conv (verts a)
    · rw [ca] at k1
      repeat' (first | (apply AOps.nil; try simp only [List.nil_append, List.cons_append, List.set_cons_zero, List.set_cons_succ, List.length_cons, List.length_nil, Nat.reduceAdd, AV.sh, AV.sh1, AV.sh0, AO.sh, List.map_cons, List.map_nil, Nat.zero_add, Nat.add_zero, setAll]) | (apply w_move; exact rfl; exact rfl) | (apply w_assign; exact rfl; exact rfl) | apply AWp.seq | apply AWp.region | (apply AWp.condT; exact rfl) | (apply AWp.condF; exact rfl) | apply AWp.ret | apply AWp.skip | (apply w_skip; exact rfl) | (apply w_pickT; exact rfl; exact rfl; exact rfl) | (apply w_pickF; exact rfl; exact rfl; exact rfl) | (apply w_call (s1); exact rfl; exact rfl; focus ((repeat (first | exact im_nil | refine im_cons rfl (.intss _) ?_)); done)) | (apply w_call (s2); exact rfl; exact rfl; focus ((repeat (first | exact im_nil | refine im_cons rfl (.intss _) ?_)); done)) | (apply w_callm (c1); (focus ((repeat (first | exact im_nil | refine im_cons rfl (.intss _) ?_)); done)); rintro r os0 ⟨rfl, rfl⟩; try simp only [List.nil_append, List.cons_append, List.set_cons_zero, List.set_cons_succ, List.length_cons, List.length_nil, Nat.reduceAdd, AV.sh, AV.sh1, AV.sh0, AO.sh, List.map_cons, List.map_nil, Nat.zero_add, Nat.add_zero, setAll]) | (apply w_callm (c2); (focus ((repeat (first | exact im_nil | refine im_cons rfl (.intss _) ?_)); done)); rintro r os0 ⟨rfl, rfl⟩; try simp only [List.nil_append, List.cons_append, List.set_cons_zero, List.set_cons_succ, List.length_cons, List.length_nil, Nat.reduceAdd, AV.sh, AV.sh1, AV.sh0, AO.sh, List.map_cons, List.map_nil, Nat.zero_add, Nat.add_zero, setAll]) | (apply w_call (k1); exact rfl; exact rfl; focus ((repeat (first | exact im_nil | refine im_cons rfl (.sls rfl) ?_)); done)) | ((apply w_not); iterate 2 exact rfl))
      all_goals exact .intint Try.results16 rfl rfl rfl rfl
    · rw [ca] at k1
      cases cb : conv (verts b)
      · rw [cb] at k2
        repeat' (first | (apply AOps.nil; try simp only [List.nil_append, List.cons_append, List.set_cons_zero, List.set_cons_succ, List.length_cons, List.length_nil, Nat.reduceAdd, AV.sh, AV.sh1, AV.sh0, AO.sh, List.map_cons, List.map_nil, Nat.zero_add, Nat.add_zero, setAll]) | (apply w_move; exact rfl; exact rfl) | (apply w_assign; exact rfl; exact rfl) | apply AWp.seq | apply AWp.region | (apply AWp.condT; exact rfl) | (apply AWp.condF; exact rfl) | apply AWp.ret | apply AWp.skip | (apply w_pickF; exact rfl; exact rfl; exact rfl) | (apply w_call (s1); exact rfl; exact rfl; focus ((repeat (first | exact im_nil | refine im_cons rfl (.intss _) ?_)); done)) | (apply w_call (s2); exact rfl; exact rfl; focus ((repeat (first | exact im_nil | refine im_cons rfl (.intss _) ?_)); done)) | (apply w_callm (c1); (focus ((repeat (first | exact im_nil | refine im_cons rfl (.intss _) ?_)); done)); rintro r os0 ⟨rfl, rfl⟩; try simp only [List.nil_append, List.cons_append, List.set_cons_zero, List.set_cons_succ, List.length_cons, List.length_nil, Nat.reduceAdd, AV.sh, AV.sh1, AV.sh0, AO.sh, List.map_cons, List.map_nil, Nat.zero_add, Nat.add_zero, setAll]) | (apply w_callm (c2); (focus ((repeat (first | exact im_nil | refine im_cons rfl (.intss _) ?_)); done)); rintro r os0 ⟨rfl, rfl⟩; try simp only [List.nil_append, List.cons_append, List.set_cons_zero, List.set_cons_succ, List.length_cons, List.length_nil, Nat.reduceAdd, AV.sh, AV.sh1, AV.sh0, AO.sh, List.map_cons, List.map_nil, Nat.zero_add, Nat.add_zero, setAll]) | (apply w_call (k1); exact rfl; exact rfl; focus ((repeat (first | exact im_nil | refine im_cons rfl (.sls rfl) ?_)); done)) | (apply w_call (k2); exact rfl; exact rfl; focus ((repeat (first | exact im_nil | refine im_cons rfl (.sls rfl) ?_)); done)) | ((apply w_not); iterate 2 exact rfl))
        all_goals exact .intint Try.results16 rfl rfl rfl rfl
      · exact absurd ⟨ca, cb⟩ hc
  obtain ⟨e1, e2⟩ := ma_ok ⟨ha, hb⟩ hc
  obtain ⟨ca, cb⟩ := hc
  rw [ca] at k1
  rw [cb] at k2
  have c3 := sumOfCorners_c a b ha hb
  have ar1 := areaOf_c (by decide) _ (sup_ok ha)
  have ar2 := areaOf_c (by decide) _ (sup_ok hb)
  have ar3 := areaOf_c (by decide) _ (vsum_ok ha hb)
  have b1 := arI_in (by decide) (sup_ok ha) ((verts a).length - 1) (by have := (sup_ok ha).pos; omega)
  have b2 := arI_in (by decide) (sup_ok hb) ((verts b).length - 1) (by have := (sup_ok hb).pos; omega)
  have b3 := arI_in (by decide) (vsum_ok ha hb) ((vsum a b).length - 1) (by have := (vsum_ok ha hb).pos; omega)
  have l1 := (sup_ok ha).len
  have l2 := (sup_ok hb).len
  have l3 := (vsum_ok ha hb).len
  have td := tdiv2_in (x := arI (vsum a b) ((vsum a b).length - 1) - arI (verts a) ((verts a).length - 1) - arI (verts b) ((verts b).length - 1)) (B := 9000000000000) (by omega)
  rw [e1, e2]
  (refine AFnV.start Try.func16 Try.ntmps16 rfl (by kernel_rfl) fun hk => ?_; simp only [Env.start, enumF, List.length_cons, List.length_nil, Nat.reduceAdd, Nat.reduceSub, List.cons_append, List.nil_append])
  repeat' (first | (apply AOps.nil; try simp only [List.nil_append, List.cons_append, List.set_cons_zero, List.set_cons_succ, List.length_cons, List.length_nil, Nat.reduceAdd, AV.sh, AV.sh1, AV.sh0, AO.sh, List.map_cons, List.map_nil, Nat.zero_add, Nat.add_zero, setAll]) | (apply w_move; exact rfl; exact rfl) | (apply w_assign; exact rfl; exact rfl) | apply AWp.seq | apply AWp.region | (apply AWp.condF; exact rfl) | apply AWp.ret | apply AWp.skip | (apply w_pickF; exact rfl; exact rfl; exact rfl) | (apply w_call (s1); exact rfl; exact rfl; focus ((repeat (first | exact im_nil | refine im_cons rfl (.intss _) ?_)); done)) | (apply w_call (s2); exact rfl; exact rfl; focus ((repeat (first | exact im_nil | refine im_cons rfl (.intss _) ?_)); done)) | (apply w_callm (c1); (focus ((repeat (first | exact im_nil | refine im_cons rfl (.intss _) ?_)); done)); rintro r os0 ⟨rfl, rfl⟩; try simp only [List.nil_append, List.cons_append, List.set_cons_zero, List.set_cons_succ, List.length_cons, List.length_nil, Nat.reduceAdd, AV.sh, AV.sh1, AV.sh0, AO.sh, List.map_cons, List.map_nil, Nat.zero_add, Nat.add_zero, setAll]) | (apply w_callm (c2); (focus ((repeat (first | exact im_nil | refine im_cons rfl (.intss _) ?_)); done)); rintro r os0 ⟨rfl, rfl⟩; try simp only [List.nil_append, List.cons_append, List.set_cons_zero, List.set_cons_succ, List.length_cons, List.length_nil, Nat.reduceAdd, AV.sh, AV.sh1, AV.sh0, AO.sh, List.map_cons, List.map_nil, Nat.zero_add, Nat.add_zero, setAll]) | (apply w_call (k1); exact rfl; exact rfl; focus ((repeat (first | exact im_nil | refine im_cons rfl (.sls rfl) ?_)); done)) | (apply w_call (k2); exact rfl; exact rfl; focus ((repeat (first | exact im_nil | refine im_cons rfl (.sls rfl) ?_)); done)) | (apply w_callm (c3); (focus ((repeat (first | exact im_nil | refine im_cons rfl (.sls rfl) ?_)); done)); rintro r os0 ⟨rfl, rfl⟩; try simp only [List.nil_append, List.cons_append, List.set_cons_zero, List.set_cons_succ, List.length_cons, List.length_nil, Nat.reduceAdd, AV.sh, AV.sh1, AV.sh0, AO.sh, List.map_cons, List.map_nil, Nat.zero_add, Nat.add_zero, setAll]) | (apply w_call (ar1); exact rfl; exact rfl; focus ((repeat (first | exact im_nil | refine im_cons rfl (.sls rfl) ?_)); done)) | (apply w_call (ar2); exact rfl; exact rfl; focus ((repeat (first | exact im_nil | refine im_cons rfl (.sls rfl) ?_)); done)) | (apply w_call (ar3); exact rfl; exact rfl; focus ((repeat (first | exact im_nil | refine im_cons rfl (.sls rfl) ?_)); done)) | omega | ((apply w_sub); iterate 3 exact rfl) | (apply w_quoT; exact rfl; exact rfl; exact rfl) | ((apply w_not); iterate 2 exact rfl) | (apply inI_of <;> omega))
  all_goals exact .intint Try.results16 rfl rfl rfl rfl
set_option maxHeartbeats 8000000 in
theorem specMixedArea_c (a b : List (List Int)) : AFnV Try.prog 15 [.intss a, .intss b] (.tuple #[.int .i64 (maA a b), .int .i64 (maE a b)]) := by
  have s1 := l15Is_c a
  have s2 := l15Is_c b
  by_cases h : isSup a = true ∧ isSup b = true
  case neg =>
    obtain ⟨e1, e2⟩ := ma_no h
    rw [e1, e2]
    (refine AFnV.start Try.func15 Try.ntmps15 rfl (by kernel_rfl) fun hk => ?_; simp only [Env.start, enumF, List.length_cons, List.length_nil, Nat.reduceAdd, Nat.reduceSub, List.cons_append, List.nil_append])
    cases ha : isSup a
    · rw [ha] at s1
      repeat' (first | (apply AOps.nil; try simp only [List.nil_append, List.cons_append, List.set_cons_zero, List.set_cons_succ, List.length_cons, List.length_nil, Nat.reduceAdd, AV.sh, AV.sh1, AV.sh0, AO.sh, List.map_cons, List.map_nil, Nat.zero_add, Nat.add_zero, setAll]) | (apply w_move; exact rfl; exact rfl) | (apply w_assign; exact rfl; exact rfl) | apply AWp.seq | apply AWp.region | (apply AWp.condT; exact rfl) | apply AWp.ret | (apply w_skip; exact rfl) | (apply w_pickT; exact rfl; exact rfl; exact rfl) | (apply w_call (s1); exact rfl; exact rfl; focus ((repeat (first | exact im_nil | refine im_cons rfl (.intss _) ?_)); done)) | ((apply w_not); iterate 2 exact rfl))
      all_goals exact .intint Try.results15 rfl rfl rfl rfl
    · rw [ha] at s1
      cases hb : isSup b
      · rw [hb] at s2
        repeat' (first | (apply AOps.nil; try simp only [List.nil_append, List.cons_append, List.set_cons_zero, List.set_cons_succ, List.length_cons, List.length_nil, Nat.reduceAdd, AV.sh, AV.sh1, AV.sh0, AO.sh, List.map_cons, List.map_nil, Nat.zero_add, Nat.add_zero, setAll]) | (apply w_move; exact rfl; exact rfl) | (apply w_assign; exact rfl; exact rfl) | apply AWp.seq | apply AWp.region | (apply AWp.condT; exact rfl) | apply AWp.ret | (apply w_pickF; exact rfl; exact rfl; exact rfl) | (apply w_call (s1); exact rfl; exact rfl; focus ((repeat (first | exact im_nil | refine im_cons rfl (.intss _) ?_)); done)) | (apply w_call (s2); exact rfl; exact rfl; focus ((repeat (first | exact im_nil | refine im_cons rfl (.intss _) ?_)); done)) | ((apply w_not); iterate 2 exact rfl))
        all_goals exact .intint Try.results15 rfl rfl rfl rfl
      · exact absurd ⟨ha, hb⟩ h
  obtain ⟨ha, hb⟩ := h
  rw [ha] at s1
  rw [hb] at s2
  have c1 := verS' ha
  have c2 := verS' hb
  have k1 := l15Convenient_c _ (sup_ok ha)
  have k2 := l15Convenient_c _ (sup_ok hb)
  by_cases hc : conv (verts a) = true ∧ conv (verts b) = true
  case neg =>
    obtain ⟨e1, e2⟩ := ma_st ⟨ha, hb⟩ hc
    rw [e1, e2]
    (refine AFnV.start Try.func15 Try.ntmps15 rfl (by kernel_rfl) fun hk => ?_; simp only [Env.start, enumF, List.length_cons, List.length_nil, Nat.reduceAdd, Nat.reduceSub, List.cons_append, List.nil_append])
    cases ca : conv (verts a)
    · rw [ca] at k1
      repeat' (first | (apply AOps.nil; try simp only [List.nil_append, List.cons_append, List.set_cons_zero, List.set_cons_succ, List.length_cons, List.length_nil, Nat.reduceAdd, AV.sh, AV.sh1, AV.sh0, AO.sh, List.map_cons, List.map_nil, Nat.zero_add, Nat.add_zero, setAll]) | (apply w_move; exact rfl; exact rfl) | (apply w_assign; exact rfl; exact rfl) | apply AWp.seq | apply AWp.region | (apply AWp.condT; exact rfl) | (apply AWp.condF; exact rfl) | apply AWp.ret | apply AWp.skip | (apply w_skip; exact rfl) | (apply w_pickT; exact rfl; exact rfl; exact rfl) | (apply w_pickF; exact rfl; exact rfl; exact rfl) | (apply w_call (s1); exact rfl; exact rfl; focus ((repeat (first | exact im_nil | refine im_cons rfl (.intss _) ?_)); done)) | (apply w_call (s2); exact rfl; exact rfl; focus ((repeat (first | exact im_nil | refine im_cons rfl (.intss _) ?_)); done)) | (apply w_callm (c1); (focus ((repeat (first | exact im_nil | refine im_cons rfl (.intss _) ?_)); done)); rintro r os0 ⟨rfl, rfl⟩; try simp only [List.nil_append, List.cons_append, List.set_cons_zero, List.set_cons_succ, List.length_cons, List.length_nil, Nat.reduceAdd, AV.sh, AV.sh1, AV.sh0, AO.sh, List.map_cons, List.map_nil, Nat.zero_add, Nat.add_zero, setAll]) | (apply w_callm (c2); (focus ((repeat (first | exact im_nil | refine im_cons rfl (.intss _) ?_)); done)); rintro r os0 ⟨rfl, rfl⟩; try simp only [List.nil_append, List.cons_append, List.set_cons_zero, List.set_cons_succ, List.length_cons, List.length_nil, Nat.reduceAdd, AV.sh, AV.sh1, AV.sh0, AO.sh, List.map_cons, List.map_nil, Nat.zero_add, Nat.add_zero, setAll]) | (apply w_call (k1); exact rfl; exact rfl; focus ((repeat (first | exact im_nil | refine im_cons rfl (.sls rfl) ?_)); done)) | ((apply w_not); iterate 2 exact rfl))
      all_goals exact .intint Try.results15 rfl rfl rfl rfl
    · rw [ca] at k1
      cases cb : conv (verts b)
      · rw [cb] at k2
        repeat' (first | (apply AOps.nil; try simp only [List.nil_append, List.cons_append, List.set_cons_zero, List.set_cons_succ, List.length_cons, List.length_nil, Nat.reduceAdd, AV.sh, AV.sh1, AV.sh0, AO.sh, List.map_cons, List.map_nil, Nat.zero_add, Nat.add_zero, setAll]) | (apply w_move; exact rfl; exact rfl) | (apply w_assign; exact rfl; exact rfl) | apply AWp.seq | apply AWp.region | (apply AWp.condT; exact rfl) | (apply AWp.condF; exact rfl) | apply AWp.ret | apply AWp.skip | (apply w_pickF; exact rfl; exact rfl; exact rfl) | (apply w_call (s1); exact rfl; exact rfl; focus ((repeat (first | exact im_nil | refine im_cons rfl (.intss _) ?_)); done)) | (apply w_call (s2); exact rfl; exact rfl; focus ((repeat (first | exact im_nil | refine im_cons rfl (.intss _) ?_)); done)) | (apply w_callm (c1); (focus ((repeat (first | exact im_nil | refine im_cons rfl (.intss _) ?_)); done)); rintro r os0 ⟨rfl, rfl⟩; try simp only [List.nil_append, List.cons_append, List.set_cons_zero, List.set_cons_succ, List.length_cons, List.length_nil, Nat.reduceAdd, AV.sh, AV.sh1, AV.sh0, AO.sh, List.map_cons, List.map_nil, Nat.zero_add, Nat.add_zero, setAll]) | (apply w_callm (c2); (focus ((repeat (first | exact im_nil | refine im_cons rfl (.intss _) ?_)); done)); rintro r os0 ⟨rfl, rfl⟩; try simp only [List.nil_append, List.cons_append, List.set_cons_zero, List.set_cons_succ, List.length_cons, List.length_nil, Nat.reduceAdd, AV.sh, AV.sh1, AV.sh0, AO.sh, List.map_cons, List.map_nil, Nat.zero_add, Nat.add_zero, setAll]) | (apply w_call (k1); exact rfl; exact rfl; focus ((repeat (first | exact im_nil | refine im_cons rfl (.sls rfl) ?_)); done)) | (apply w_call (k2); exact rfl; exact rfl; focus ((repeat (first | exact im_nil | refine im_cons rfl (.sls rfl) ?_)); done)) | ((apply w_not); iterate 2 exact rfl))
        all_goals exact .intint Try.results15 rfl rfl rfl rfl
      · exact absurd ⟨ca, cb⟩ hc
  obtain ⟨e1, e2⟩ := ma_ok ⟨ha, hb⟩ hc
  obtain ⟨ca, cb⟩ := hc
  rw [ca] at k1
  rw [cb] at k2
  have c3 := l15Sum_c a b ha hb
  have cs := join_ex a b ha hb (join_ex2 a b ha hb) ca cb
  have ar1 := l15Area_c (by decide) _ (sup_ok ha) ca
  have ar2 := l15Area_c (by decide) _ (sup_ok hb) cb
  have ar3 := l15Area_c (by decide) _ (vsum_ok ha hb) cs
  have b1 := arI_in (by decide) (sup_ok ha) ((verts a).length - 1) (by have := (sup_ok ha).pos; omega)
  have b2 := arI_in (by decide) (sup_ok hb) ((verts b).length - 1) (by have := (sup_ok hb).pos; omega)
  have b3 := arI_in (by decide) (vsum_ok ha hb) ((vsum a b).length - 1) (by have := (vsum_ok ha hb).pos; omega)
  have l1 := (sup_ok ha).len
  have l2 := (sup_ok hb).len
  have l3 := (vsum_ok ha hb).len
  have td := tdiv2_in (x := arI (vsum a b) ((vsum a b).length - 1) - arI (verts a) ((verts a).length - 1) - arI (verts b) ((verts b).length - 1)) (B := 9000000000000) (by omega)
  rw [e1, e2]
  (refine AFnV.start Try.func15 Try.ntmps15 rfl (by kernel_rfl) fun hk => ?_; simp only [Env.start, enumF, List.length_cons, List.length_nil, Nat.reduceAdd, Nat.reduceSub, List.cons_append, List.nil_append])
  repeat' (first | (apply AOps.nil; try simp only [List.nil_append, List.cons_append, List.set_cons_zero, List.set_cons_succ, List.length_cons, List.length_nil, Nat.reduceAdd, AV.sh, AV.sh1, AV.sh0, AO.sh, List.map_cons, List.map_nil, Nat.zero_add, Nat.add_zero, setAll]) | (apply w_move; exact rfl; exact rfl) | (apply w_assign; exact rfl; exact rfl) | apply AWp.seq | apply AWp.region | (apply AWp.condF; exact rfl) | apply AWp.ret | apply AWp.skip | (apply w_pickF; exact rfl; exact rfl; exact rfl) | (apply w_call (s1); exact rfl; exact rfl; focus ((repeat (first | exact im_nil | refine im_cons rfl (.intss _) ?_)); done)) | (apply w_call (s2); exact rfl; exact rfl; focus ((repeat (first | exact im_nil | refine im_cons rfl (.intss _) ?_)); done)) | (apply w_callm (c1); (focus ((repeat (first | exact im_nil | refine im_cons rfl (.intss _) ?_)); done)); rintro r os0 ⟨rfl, rfl⟩; try simp only [List.nil_append, List.cons_append, List.set_cons_zero, List.set_cons_succ, List.length_cons, List.length_nil, Nat.reduceAdd, AV.sh, AV.sh1, AV.sh0, AO.sh, List.map_cons, List.map_nil, Nat.zero_add, Nat.add_zero, setAll]) | (apply w_callm (c2); (focus ((repeat (first | exact im_nil | refine im_cons rfl (.intss _) ?_)); done)); rintro r os0 ⟨rfl, rfl⟩; try simp only [List.nil_append, List.cons_append, List.set_cons_zero, List.set_cons_succ, List.length_cons, List.length_nil, Nat.reduceAdd, AV.sh, AV.sh1, AV.sh0, AO.sh, List.map_cons, List.map_nil, Nat.zero_add, Nat.add_zero, setAll]) | (apply w_call (k1); exact rfl; exact rfl; focus ((repeat (first | exact im_nil | refine im_cons rfl (.sls rfl) ?_)); done)) | (apply w_call (k2); exact rfl; exact rfl; focus ((repeat (first | exact im_nil | refine im_cons rfl (.sls rfl) ?_)); done)) | (apply w_callm (c3); (focus ((repeat (first | exact im_nil | refine im_cons rfl (.intss _) ?_)); done)); rintro r os0 ⟨rfl, rfl⟩; try simp only [List.nil_append, List.cons_append, List.set_cons_zero, List.set_cons_succ, List.length_cons, List.length_nil, Nat.reduceAdd, AV.sh, AV.sh1, AV.sh0, AO.sh, List.map_cons, List.map_nil, Nat.zero_add, Nat.add_zero, setAll]) | (apply w_call (ar1); exact rfl; exact rfl; focus ((repeat (first | exact im_nil | refine im_cons rfl (.sls rfl) ?_)); done)) | (apply w_call (ar2); exact rfl; exact rfl; focus ((repeat (first | exact im_nil | refine im_cons rfl (.sls rfl) ?_)); done)) | (apply w_call (ar3); exact rfl; exact rfl; focus ((repeat (first | exact im_nil | refine im_cons rfl (.sls rfl) ?_)); done)) | omega | ((apply w_sub); iterate 3 exact rfl) | (apply w_quoT; exact rfl; exact rfl; exact rfl) | ((apply w_not); iterate 2 exact rfl) | (apply inI_of <;> omega))
  all_goals exact .intint Try.results15 rfl rfl rfl rfl

theorem szSS_le' {xss : List (List Int)} {left : Int} (h : 0 ≤ szSS xss left) (h0 : 0 ≤ left) : szSS xss left ≤ left := by
  unfold szSS at *
  split
  · omega
  · rename_i hl
    rw [if_neg hl] at h
    have := (szR_ok xss _ h (by omega)).1
    omega
theorem sz_bounds' {xss : List (List Int)} {left : Int} (h : ¬ szSS xss left < 0) (h0 : 0 ≤ left ∧ left ≤ 1048576) : xss.length ≤ 1048576 ∧ (∀ xs ∈ xss, xs.length ≤ 1048576) ∧ cnt xss xss.length ≤ 1099511627776 := by
  have hs := szSS_ok (xss := xss) (left := left) (by omega) h0.1
  have hb : xss.length ≤ 1048576 := by omega
  have hr : ∀ xs ∈ xss, xs.length ≤ 1048576 := fun xs hx => by have := hs.2 xs hx; omega
  refine ⟨hb, hr, ?_⟩
  have c1 := cnt_le hr xss.length
  have : xss.length * 1048576 ≤ 1048576 * 1048576 := Nat.mul_le_mul_right _ hb
  omega
set_option maxHeartbeats 8000000 in
theorem lawMixedArea_c (xss yss : List (List Int)) : AFnV Try.prog 5 [.intss xss, .intss yss] (.bool true) := by
  (refine AFnV.start Try.func5 Try.ntmps5 rfl (by kernel_rfl) fun hk => ?_; simp only [Env.start, enumF, List.length_cons, List.length_nil, Nat.reduceAdd, Nat.reduceSub, List.cons_append, List.nil_append])
  repeat' (first | (apply AOps.nil; try simp only [List.nil_append, List.cons_append, List.set_cons_zero, List.set_cons_succ, List.length_cons, List.length_nil, Nat.reduceAdd, AV.sh, AV.sh1, AV.sh0, AO.sh, List.map_cons, List.map_nil, Nat.zero_add, Nat.add_zero, setAll]) | (apply w_move; exact rfl; exact rfl) | (apply w_assign; exact rfl; exact rfl) | apply AWp.seq | apply AWp.region | ((apply AWp.condP; exact rfl) <;> intro h) | apply AWp.ret | apply AWp.skip | (apply w_call (szInt64SS_c xss 1048576 (by omega) (by omega)); exact rfl; exact rfl; focus ((repeat (first | exact im_nil | refine im_cons rfl (.val _) ?_ | refine im_cons rfl (.intss _) ?_)); done)) | ((apply w_lss); iterate 3 exact rfl))
  · exact .bool Try.results5 rfl rfl
  have hsz1 := h
  have hle := szSS_le' (xss := xss) (left := 1048576) (by omega) (by omega)
  repeat' (first | (apply AOps.nil; try simp only [List.nil_append, List.cons_append, List.set_cons_zero, List.set_cons_succ, List.length_cons, List.length_nil, Nat.reduceAdd, AV.sh, AV.sh1, AV.sh0, AO.sh, List.map_cons, List.map_nil, Nat.zero_add, Nat.add_zero, setAll]) | (apply w_move; exact rfl; exact rfl) | (apply w_assign; exact rfl; exact rfl) | apply AWp.seq | apply AWp.region | ((apply AWp.condP; exact rfl) <;> intro h) | apply AWp.ret | apply AWp.skip | (apply w_call (szInt64SS_c yss (szSS xss 1048576) (by omega) (by omega)); exact rfl; exact rfl; focus ((repeat (first | exact im_nil | refine im_cons rfl (.val _) ?_ | refine im_cons rfl (.intss _) ?_)); done)) | ((apply w_lss); iterate 3 exact rfl))
  · exact .bool Try.results5 rfl rfl
  have hsz2 := h
  obtain ⟨hb1, hr1, d1⟩ := sz_bounds' hsz1 (by omega)
  obtain ⟨hb2, hr2, d2⟩ := sz_bounds' hsz2 (by omega)
  have t1 := toInt64SS_c xss hb1 hr1
  have t2 := toInt64SS_c yss hb2 hr2
  repeat' (first | (apply AOps.nil; try simp only [List.nil_append, List.cons_append, List.set_cons_zero, List.set_cons_succ, List.length_cons, List.length_nil, Nat.reduceAdd, AV.sh, AV.sh1, AV.sh0, AO.sh, List.map_cons, List.map_nil, Nat.zero_add, Nat.add_zero, setAll]) | ((apply AOps.splitP; exact rfl; exact rfl) <;> intro h) | (apply w_move; exact rfl; exact rfl) | (apply w_assign; exact rfl; exact rfl) | apply AWp.seq | apply AWp.region | ((apply AWp.condP; exact rfl) <;> intro h) | (apply AWp.condT; exact rfl) | (apply AWp.condF; exact rfl) | apply AWp.ret | apply AWp.skip | (apply w_skip; exact rfl) | (apply w_pickT; exact rfl; exact rfl; exact rfl) | (apply w_pickF; exact rfl; exact rfl; exact rfl) | (apply w_call (specMixedArea_c _ _); exact rfl; exact rfl; focus ((repeat (first | exact im_nil | refine im_cons rfl (.sls rfl) ?_)); done)) | (apply w_call (implMixedArea_c _ _); exact rfl; exact rfl; focus ((repeat (first | exact im_nil | refine im_cons rfl (.sls rfl) ?_)); done)) | (apply w_call (eqInt64SS_t _); exact rfl; exact rfl; focus ((repeat (first | exact im_nil | refine im_cons rfl (.sls rfl) ?_)); done)) | (apply w_callm (t1); (focus ((repeat (first | exact im_nil | refine im_cons rfl (.intss _) ?_)); done)); rintro r os0 ⟨rfl, rfl⟩; try simp only [List.nil_append, List.cons_append, List.set_cons_zero, List.set_cons_succ, List.length_cons, List.length_nil, Nat.reduceAdd, AV.sh, AV.sh1, AV.sh0, AO.sh, List.map_cons, List.map_nil, Nat.zero_add, Nat.add_zero, setAll]) | (apply w_callm (t2); (focus ((repeat (first | exact im_nil | refine im_cons rfl (.intss _) ?_)); done)); rintro r os0 ⟨rfl, rfl⟩; try simp only [List.nil_append, List.cons_append, List.set_cons_zero, List.set_cons_succ, List.length_cons, List.length_nil, Nat.reduceAdd, AV.sh, AV.sh1, AV.sh0, AO.sh, List.map_cons, List.map_nil, Nat.zero_add, Nat.add_zero, setAll]) | ((first | apply w_neq | apply w_extv); iterate 3 exact rfl) | ((apply w_not); iterate 2 exact rfl) | omega)
  all_goals first | exact .bool Try.results5 rfl rfl | (exfalso; simp_all; done)
end Go.Proofs.Ytfaeiphgenddkaa
