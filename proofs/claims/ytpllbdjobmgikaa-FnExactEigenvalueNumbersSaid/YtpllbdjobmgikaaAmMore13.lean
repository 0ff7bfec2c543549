/-
  A few polynomials (structs of one slice) handed on as a slice. No condition.
-/
import Derived.Test.YtpllbdjobmgikaaAmMore12
namespace Go.Proofs.Ytpllbdjobmgikaa
open Go Go.RowKit

/-- A slice of structs of one cell, each of which is a slice of rows. -/
def polsRo (fs : List (List (List Int))) : Ro where
  p w ok v := ∃ vs : List Value, RowAt w ok v vs ∧ vs.length = fs.length ∧ ∀ (i : Nat) u, vs[i]? = some u → IntssAt w ok u (fs.getD i [])
  up k h := by
    obtain ⟨vs, h1, h2, h3⟩ := h
    exact ⟨vs, h1.mono k, h2, fun i u hu => (h3 i u hu).mono k⟩
/-- A place of such a slice. -/
def polRo (f : List (List Int)) : Ro where
  p w ok v := ∃ b off u, v = .pointer (some ⟨b, off, none⟩) ∧ ok b ∧ w.cell? ⟨b, off, none⟩ = some u ∧ IntssAt w ok u f
  up k h := by
    obtain ⟨b, off, u, h1, h2, h3, h4⟩ := h
    have hlt := World.block_lt_of_cell? _ _ h3
    have hk := k b h2 hlt
    exact ⟨b, off, u, h1, hk.1, (World.cell?_of_block hk.2).trans h3, h4.mono k⟩

theorem run_load1 {P : Program} {t : TypeId} {zs : List Value} [ht : TStruct P t 1 zs] {a : Addr} {u : Value} {w : World} (hc : w.cell? a = some u) : (Instr.loadAt t (.pointer (some a))).run P w = .ok (.agg #[u]) w := by
  obtain ⟨dd, hu, hd⟩ := ht.und
  obtain ⟨ii, hi, hs, _⟩ := ht.info
  have h1 : (isAgg t).run P w = .ok true w := by
    unfold isAgg
    simp only [Sem.run_bind, run_underlying hu, Result.andThen_ok]
    cases dd <;> first | rfl | simp at hd
  have h2 : (loadCells a 1).run P w = .ok #[u] w := by
    have := run_loadCells_list (P := P) w a [u] (fun j v hv => by
      match j, hv with
      | 0, hv =>
        simp at hv; subst hv
        rw [Addr.add_zero']; exact hc)
    simpa using this
  simp only [Instr.loadAt, Instr.sureAddr, loadVar, Sem.run_bind, Sem.run_pure, Result.andThen_ok, h1, if_true, sizeOf, typeInfo, run_program]
  simp [hi, hs, h2]

section
variable {P : Program} {wl : Bool} {env : Env} {os : List AO} {d : Option Tmp} {ty : TypeId} {pos : String} {af : Array Edge} {g : Option (Nat × Bool)}

theorem one_at {w : World} {ok : Nat → Prop} {gs : List Gh} {u : Value} {f : List (List Int)} (h : RV w ok gs u (.agg [.intss f])) : ∃ s, u = .agg #[s] ∧ RV w ok gs s (.intss f) ∧ s.oneCell' = true := by
  cases h with
  | @agg vs _ a1 a2 a3 =>
    match vs, a1 with
    | [s], _ => exact ⟨s, rfl, by simpa using a3 0, a2 s (by simp)⟩

theorem l_bsp2 {t e : TypeId} {zs : List Value} [ht : TSlice P t e] [he : TStruct P e 1 zs] {x y : Operand} {f f' : List (List Int)} (hx : AV.ev env x = .agg [.intss f]) (hy : AV.ev env y = .agg [.intss f']) :
    LOp P ⟨d, .buildSlice t 2 #[(0, x), (1, y)], ty, pos, af, g⟩ env os (.osub os.length 0 2) env (os ++ [.bx e [.intss f, .intss f']]) := by
  intro base w gs tm hr
  have h1 := hr.ev x
  have h2 := hr.ev y
  rw [hx] at h1
  rw [hy] at h2
  obtain ⟨s1, e1, r1, o1⟩ := one_at h1
  obtain ⟨s2, e2, r2, o2⟩ := one_at h2
  obtain ⟨ii, hi, hs, hz, hl⟩ := he.info
  obtain ⟨z, rfl⟩ : ∃ z, zs = [z] := by
    match zs, hl with
    | [z], _ => exact ⟨z, rfl⟩
  have hbel := below_alloc w (.cells [s1, s2].toArray e)
  have hno : AO.bx e [AV.intss f, .intss f'] ≠ .dead → ∀ b, b ∈ [w.heap.size] → w.heap.size ≤ b ∧ b < (w.alloc (.cells [s1, s2].toArray e)).heap.size := fun _ b hb => by simp at hb; simp [hb]
  have kp := keeps_new (g := ⟨.pointer (some ⟨w.heap.size, 0, none⟩), w.heap.size, [w.heap.size], []⟩) (o := .bx e [AV.intss f, .intss f']) hr.hl hbel hno
  have hgs : ∀ (i : Nat) g', gs[i]? = some g' → (gs ++ [⟨.pointer (some ⟨w.heap.size, 0, none⟩), w.heap.size, [w.heap.size], []⟩])[i]? = some g' := fun i g' e => by
    rw [List.getElem?_append_left (List.getElem?_eq_some_iff.1 e).1]; exact e
  refine ⟨.slice (some ⟨w.heap.size, 0, none⟩) 2 2, _, gs ++ [⟨.pointer (some ⟨w.heap.size, 0, none⟩), w.heap.size, [w.heap.size], []⟩], .inl ?_, hr.new hbel _ _ hno ?_, ?_, hbel.mono hr.hb⟩
  · simp [execOp, Instr.buildSlice, run_underlying ht.und, sizeOf, typeInfo, zeroValue, hi, hs, hz, Instr.fill, newRow, e1, e2, Value.cells, ar2]
  · refine ⟨[s1, s2], heap_alloc_new w _, hr.hb, rfl, rfl, rfl, by simp [o1, o2], fun i => ?_⟩
    match i with
    | 0 => exact r1.mono kp hgs
    | 1 => exact r2.mono kp hgs
    | i + 2 => exact .any _
  · have := RV.osub (w := w.alloc (.cells [s1, s2].toArray e)) (ok := okOf (gs ++ [⟨.pointer (some ⟨w.heap.size, 0, none⟩), w.heap.size, [w.heap.size], []⟩]) (os ++ [.bx e [AV.intss f, .intss f']])) (off := 0) (len := 2) (cap := 2) (p := some ⟨w.heap.size, 0, none⟩)
      (len_new (gs := gs) (g := ⟨.pointer (some ⟨w.heap.size, 0, none⟩), w.heap.size, [w.heap.size], []⟩)) (fun _ => rfl) (Nat.le_refl _) (by simp [maxLen])
    rw [hr.hl] at this
    exact this

theorem reads_pols {os : List AO} {m : Nat} {e : TypeId} {f f' : List (List Int)} (hs : os[m]? = some (.bx e [.intss f, .intss f'])) : Reads os [m] (.osub m 0 2) (polsRo [f, f']) := by
  intro base w gs ok hro hok kp v hv
  cases hv with
  | @osub _ _ _ cap p gm hg hp hc hm =>
    obtain ⟨cs, a1, a2, a3, a4, a5, a6, a7⟩ := hro _ _ _ hg hs
    have hb := hok m (by simp) _ _ hg hs (by simp) gm.b (by simp [a3])
    rw [hp (by decide)]
    match cs, a5 with
    | [c1, c2], _ =>
      have k1 := a7 0
      have k2 := a7 1
      simp only [List.getD_cons_zero, List.getD_cons_succ] at k1 k2
      refine ⟨[c1, c2], ⟨_, cap, rfl, hc, hm, fun _ => ⟨gm.b, 0, rfl, hb, fun i u hu => ?_⟩⟩, rfl, fun i u hu => ?_⟩
      · rw [Nat.zero_add, cell_of_row w _ i _ e (0, 0) a1]
        simpa using hu
      · match i, hu with
        | 0, hu => cases hu; cases k1 with | intss h => exact h.mono kp
        | 1, hu => cases hu; cases k2 with | intss h => exact h.mono kp

theorem ro_at {base : Nat} {w : World} {gs : List Gh} {tm : Array Value} (hr : Rel base w gs env os tm) {x : Operand} {r : Ro} (hx : AV.ev env x = .ro r) : r.p w (okOf gs os) (Act.eval ⟨tm, []⟩ x) := by
  have h := hr.ev x
  rw [hx] at h
  generalize Act.eval ⟨tm, []⟩ x = v at h
  cases h with
  | ro h1 => exact h1

theorem q_lenps {t e : TypeId} [ht : TSlice P t e] {x : Operand} {fs : List (List (List Int))} (hx : AV.ev env x = .ro (polsRo fs)) :
    QOp P wl ⟨d, .call { callee := .builtin .len, args := #[x], argTypes := #[t] }, ty, pos, af, g⟩ env os (.i fs.length) :=
  .of_run fun _ w gs tm hr => by
    obtain ⟨vs, ⟨a, cap, hv, _⟩, h2, _⟩ := ro_at hr hx
    rw [h2] at hv
    refine ⟨_, .val _, fun w' _ => ?_⟩
    simp [execOp, resolve, invoke, builtin, hv, Builtin.len_, run_underlying ht.und, goInt]

theorem q_idxps {t e : TypeId} {zs : List Value} [ht : TSlice P t e] [he : TStruct P e 1 zs] {x y : Operand} {fs : List (List (List Int))} {i : Int} (hx : AV.ev env x = .ro (polsRo fs)) (hy : AV.ev env y = .i i) (h0 : 0 ≤ i) (h1 : i < fs.length) :
    QOp P wl ⟨d, .indexAddr t x y, ty, pos, af, g⟩ env os (.ro (polRo (fs.getD i.toNat []))) :=
  .of_run fun _ w gs tm hr => by
    obtain ⟨vs, ⟨a, cap, hv, _, _, h4⟩, h2, h3⟩ := ro_at hr hx
    obtain ⟨b, off, rfl, hok, hc⟩ := h4 (by omega)
    obtain ⟨ie, hi, hs, _⟩ := he.info
    have hin : i.toNat < vs.length := by omega
    have hrun := fun w' => run_idx (P := P) ht.und hi hs ⟨b, off, none⟩ vs.length cap i h0 (by omega) w'
    have e3 : (⟨b, off, none⟩ : Addr).add i.toNat = ⟨b, off + i.toNat, none⟩ := add_none _ _ _
    refine ⟨.pointer (some ⟨b, off + i.toNat, none⟩), .ro ⟨b, off + i.toNat, vs[i.toNat], rfl, hok, hc _ _ (List.getElem?_eq_getElem hin), h3 _ _ (List.getElem?_eq_getElem hin)⟩, fun w' _ => ?_⟩
    simp only [execOp, hv, hr.evv hy, Sem.run_bind, hrun, Result.andThen_ok, Sem.run_pure, e3]

theorem q_ldps {t : TypeId} {zs : List Value} [ht : TStruct P t 1 zs] {x : Operand} {f : List (List Int)} (hx : AV.ev env x = .ro (polRo f)) :
    QOp P false ⟨d, .load t x, ty, pos, af, g⟩ env os (.agg [.intss f]) :=
  .of_runb fun _ w gs tm hr => by
    obtain ⟨b, off, u, hv, hok, hc, hf⟩ := ro_at hr hx
    have h1 : u.oneCell' = true := by obtain ⟨vs, ⟨a, cap, rfl, _⟩, _⟩ := hf; rfl
    refine ⟨.agg [u].toArray, .agg rfl (by simpa using h1) (rv_list rfl fun j hj => ?_), fun w' hw' => ?_⟩
    · match j, hj with
      | 0, _ => exact .intss hf
    · have hcell := below_cell hw' hc
      simp only [execOp, hv, Sem.run_bind, run_load1 (P := P) (t := t) hcell, Result.andThen_ok, Sem.run_pure]

variable {l rest : List Oper} {K : APost} {q : Md}
theorem w_bsp2 {d : Tmp} {t e : TypeId} {zs : List Value} [TSlice P t e] [TStruct P e 1 zs] {x y : Operand} {f f' : List (List Int)} {m : Nat} (hx : evo env x = some (.agg [.intss f])) (hy : evo env y = some (.agg [.intss f'])) (hm : os.length = m)
    (h' : AOps P .seq l rest K (env.up d (.osub m 0 2)) (os ++ [.bx e [.intss f, .intss f']])) : AOps P .seq l (⟨some d, .buildSlice t 2 #[(0, x), (1, y)], ty, pos, af, none⟩ :: rest) K env os := by
  subst hm; exact AOps.lo (l_bsp2 (ev_of hx) (ev_of hy)) h'
theorem w_lenps {d : Tmp} {t e : TypeId} [TSlice P t e] {x : Operand} {fs : List (List (List Int))} (hw : wantedA l env ⟨some d, .call { callee := .builtin .len, args := #[x], argTypes := #[t] }, ty, pos, af, g⟩ = some true) (hx : evo env x = some (.ro (polsRo fs)))
    (h' : AOps P q l rest K (env.up d (.i fs.length)) os) : AOps P q l (⟨some d, .call { callee := .builtin .len, args := #[x], argTypes := #[t] }, ty, pos, af, g⟩ :: rest) K env os := AOps.qo hw (q_lenps (ev_of hx)) h'
theorem w_idxps {d : Tmp} {t e : TypeId} {zs : List Value} [TSlice P t e] [TStruct P e 1 zs] {x y : Operand} {fs : List (List (List Int))} {i : Int} (hw : wantedA l env ⟨some d, .indexAddr t x y, ty, pos, af, g⟩ = some true) (hx : evo env x = some (.ro (polsRo fs))) (hy : evo env y = some (.i i)) (h0 : 0 ≤ i) (h1 : i < fs.length)
    (h' : AOps P q l rest K (env.up d (.ro (polRo (fs.getD i.toNat [])))) os) : AOps P q l (⟨some d, .indexAddr t x y, ty, pos, af, g⟩ :: rest) K env os := AOps.qo hw (q_idxps (ev_of hx) (ev_of hy) h0 h1) h'
theorem w_ldps {d : Tmp} {t : TypeId} {zs : List Value} [TStruct P t 1 zs] {x : Operand} {f : List (List Int)} (hw : wantedA l env ⟨some d, .load t x, ty, pos, af, g⟩ = some true) (hq : q.wl = false) (hx : evo env x = some (.ro (polRo f)))
    (h' : AOps P q l rest K (env.up d (.agg [.intss f])) os) : AOps P q l (⟨some d, .load t x, ty, pos, af, g⟩ :: rest) K env os := AOps.qo hw (by rw [hq]; exact q_ldps (ev_of hx)) h'
end
end Go.Proofs.Ytpllbdjobmgikaa
