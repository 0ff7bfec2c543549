/-
  A literal slice of one row, as an own slice of rows. No condition.
-/
import Derived.Test.YtpllbdjobmgikaaAmMore3
namespace Go.Proofs.Ytpllbdjobmgikaa
open Go Go.RowKit
section
variable {P : Program} {env : Env} {os : List AO} {d : Option Tmp} {ty : TypeId} {pos : String} {af : Array Edge} {g : Option (Nat × Bool)}

theorem l_bsr1s {t e e2 : TypeId} {bytes : Nat} [ht : TSlice P t e] [he : TElem P e (.slice none 0 0) bytes] [ht2 : TSlice P e e2] {x : Operand} {k : Nat} {e3 : TypeId} {ys : List Int} (hx : AV.ev env x = .own k) (hk : os[k]? = some (.sli e3 ys)) (he3 : e3 = e2) :
    LOp P ⟨d, .buildSlice t 1 #[(0, x)], ty, pos, af, g⟩ env os (.own os.length) (env.mp (AV.rin k os.length 0)) (((((os ++ [AO.sls e e2 []]).map (AO.via (AV.rin k os.length 0) os.length)).set os.length (.sls e e2 [ys])).set k .dead)) := by
  subst he3
  intro base w gs tm hr
  have hxv := hr.ev x
  rw [hx] at hxv
  generalize hv : Act.eval ⟨tm, []⟩ x = v at hxv
  cases hxv with
  | @own _ gk hgk =>
    obtain ⟨b1, b2, b3⟩ := hr.ho _ _ _ hgk hk
    obtain ⟨ua, uc, eu⟩ := ownsRow_slice b1
    obtain ⟨ii, hi, hs, hz, hby⟩ := he.info
    have hkl : k < os.length := (List.getElem?_eq_some_iff.1 hk).1
    let g0 : Gh := ⟨.slice none 0 0, 0, [], []⟩
    have hr1 : Rel base w (gs ++ [g0]) env (os ++ [.sls e e3 []]) tm := hr.new (Below.refl _ _) _ g0 (fun _ b hb => by simp [g0] at hb) ⟨[], [], [], World.ownsRow_nil w base e 1, rfl, rfl, rfl, fun i u h => (by simp at h), .inl ⟨rfl, rfl⟩, rfl, by simp [g0]⟩
    have hl := hr.hl
    have hgp : (gs ++ [g0])[os.length]? = some g0 := by rw [← hl]; simp
    have hop : (os ++ [AO.sls e e3 []])[os.length]? = some (.sls e e3 []) := by simp
    have hgk' : (gs ++ [g0])[k]? = some gk := by rw [List.getElem?_append_left (by omega)]; exact hgk
    have hok' : (os ++ [AO.sls e e3 []])[k]? = some (.sli e3 ys) := by rw [List.getElem?_append_left hkl]; exact hk
    have hpl : os.length < (gs ++ [g0]).length := by simp; omega
    let w' := w.alloc (.cells [gk.v].toArray e)
    let g' : Gh := ⟨.slice (some ⟨w.heap.size, 0, none⟩) 1 1, w.heap.size, [w.heap.size] ++ gk.bl, [gk.v]⟩
    have hbel : Below w.heap.size w w' := below_alloc w _
    have hblk : ∀ b, b ∈ gk.bl → b < w.heap.size := fun b hb => (hr.hn _ _ _ hgk hk (by simp) b hb).2
    have sv : RowIn os.length k 0 (gs ++ [g0]) ((gs ++ [g0]).set os.length g') := by
      refine ⟨fun j z hj hz => ?_, fun z hz => ⟨g', by rw [List.getElem?_set_self hpl], fun i u hiu => ?_⟩, fun z hz => ⟨g', by rw [List.getElem?_set_self hpl], ?_⟩⟩
      · rw [List.getElem?_set, if_neg (fun e => hj e.symm)]; exact hz
      · rw [hgp] at hz; cases hz; simp [g0] at hiu
      · rw [hgk'] at hz; cases hz; rfl
    refine ⟨.slice (some ⟨w.heap.size, 0, none⟩) 1 1, w', (gs ++ [g0]).set os.length g', .inl ?_, hr1.absorb hgp hop trivial hgk' hok' trivial (by omega) g' (.sls e e3 [ys]) (AV.rin k os.length 0) rfl (fun b hb _ => hbel.block b hb) hbel.size ?_ (fun kp hv => hv.rin kp sv) ?_, ?_, hbel.mono hr.hb⟩
    · simp [execOp, Instr.buildSlice, run_underlying ht.und, sizeOf, typeInfo, zeroValue, hi, hs, hz, Instr.fill, newRow, hv, eu, Value.cells, ar1, w']
    · intro b hb
      have hsz : w'.heap.size = w.heap.size + 1 := by simp [w']
      rcases List.mem_append.1 hb with hb | hb
      · simp at hb
        exact ⟨.inr (.inr (by omega)), by omega⟩
      · have := hblk b hb
        exact ⟨.inr (.inl hb), by omega⟩
    · intro kp
      refine ⟨[gk.v], [gk.bl], [w.heap.size], ⟨rfl, .inr ⟨w.heap.size, 1, _, rfl, hr.hb, heap_alloc_new w _, Nat.le_refl _, by simp [maxLen], by simp, by simp⟩⟩, rfl, rfl, rfl, fun j u hj => ?_, .inr ⟨rfl, rfl⟩, by simp [g'], ?_⟩
      · match j with
        | 0 =>
          simp at hj
          subst hj
          exact ⟨ownsRow_of_block b1 fun c hc => hbel.block c (hblk c (b3.mem hc)), b2, b3.list⟩
        | j + 1 => simp at hj
      · show ([w.heap.size] ++ gk.bl).Nodup
        rw [List.singleton_append, List.nodup_cons]
        exact ⟨fun hc => by have := hblk _ hc; omega, b3.nodup⟩
    · exact RV.own (g := g') (by rw [List.getElem?_set_self hpl])
end
section
variable {P : Program} {env : Env} {os : List AO} {d : Tmp} {ty : TypeId} {pos : String} {af : Array Edge} {l rest : List Oper} {K : APost}
theorem w_bsr1s {t e e2 e3 : TypeId} {bytes : Nat} [TSlice P t e] [TElem P e (.slice none 0 0) bytes] [TSlice P e e2] {x : Operand} {k m : Nat} {ys : List Int} (hx : evo env x = some (.own k)) (hk : os[k]? = some (.sli e3 ys)) (he3 : e3 = e2) (hm : os.length = m)
    (h' : AOps P .seq l rest K (Env.up (env.mp (AV.rin k m 0)) d (.own m)) (((((os ++ [AO.sls e e2 []]).map (AO.via (AV.rin k m 0) m)).set m (.sls e e2 [ys])).set k .dead))) :
    AOps P .seq l (⟨some d, .buildSlice t 1 #[(0, x)], ty, pos, af, none⟩ :: rest) K env os := by
  subst hm
  exact AOps.lo (l_bsr1s (ev_of hx) hk he3) h'
end
section
variable {P : Program} {N : APost} {X : Nat → APost} {Rt : APost} {env : Env} {os : List AO}
/-- A loop whose rounds may number the objects anew. -/
theorem AWp.loopS {c : Code} {ι : Type} (E : ι → Env) (O : ι → List AO) (φ : ι → Prop) (μ : ι → Nat) (x0 : ι) (h0 : φ x0) (f0 : Fit env os (E x0) (O x0))
    (round : ∀ x, φ x → AWp P c (fun env' os' => ∃ y, φ y ∧ μ y < μ x ∧ (Fit env' os' (E y) (O y) ∨ ∃ σ, FitS σ env' os' (E y) (O y))) X Rt (E x) (O x)) : AWp P (.loop c) N X Rt env os := by
  intro base w0 w gs tm hr hb
  obtain ⟨gs0, hr0⟩ := hr.fit f0
  refine wp_loop_ghost (fun n a w' => ∃ x gs', φ x ∧ μ x = n ∧ Rel base w' gs' (E x) (O x) a.tmps ∧ a.defers = [] ∧ Below base w0 w') (μ x0) ⟨x0, gs0, h0, rfl, hr0, rfl, hb⟩ ?_
  rintro n a w1 ⟨x, gs1, hφ, rfl, hr1, hd, hb1⟩
  have ea : a = ⟨a.tmps, []⟩ := by cases a; simp_all
  rw [ea]
  refine wp_mono (round x hφ base w0 w1 gs1 a.tmps hr1 hb1) ?_
  intro e a' w' hq
  cases e with
  | normal =>
    obtain ⟨env', os', gs', r1, r2, r3, y, hy, hlt, hf⟩ := hq
    rcases hf with hf | ⟨σ, hf⟩
    · obtain ⟨gs2, hr2⟩ := r1.fit hf
      exact ⟨μ y, hlt, y, gs2, hy, rfl, hr2, r2, r3⟩
    · obtain ⟨gs2, hr2⟩ := r1.fits hf
      exact ⟨μ y, hlt, y, gs2, hy, rfl, hr2, r2, r3⟩
  | exit j => exact hq
  | ret => exact hq
  | goto l => exact hq
  | panic ch => exact hq
  | outgrown => exact hq
end

end Go.Proofs.Ytpllbdjobmgikaa
