/-
  The operations of the abstract machine that lay new slices, append to them, or take parts of them. No condition.
-/
import Derived.Test.YtfgnccoaebkckaaDoorAmLoud
import Derived.Maps.AppendAt
import Derived.Laws.CopyOwn
import Derived.Laws.Tables
namespace Go.Proofs.YtfgnccoaebkckaaDoor
open Go Go.RowKit

section
variable {P : Program} {env : Env} {os : List AO} {d : Option Tmp} {ty : TypeId} {pos : String} {af : Array Edge} {g : Option (Nat × Bool)} {wl : Bool}

/-- A new slice whose cells are all given. -/
theorem l_laid {o : Oper} {e : TypeId} {zs : List Int} (hin : ∀ z ∈ zs, inI z) (hm : zs.length ≤ maxLen)
    (hrun : ∀ base w gs tm, Rel base w gs env os tm → (execOp (Act.eval ⟨tm, []⟩) o).run P w = .ok (.value (.slice (some ⟨w.heap.size, 0, none⟩) zs.length zs.length)) (w.alloc (.cells (zs.map (Value.int .i64)).toArray e))) :
    LOp P o env os (.own os.length) env (os ++ [.sli e zs]) := by
  refine l_new fun base w gs tm hr => ?_
  refine ⟨_, ⟨.slice (some ⟨w.heap.size, 0, none⟩) zs.length zs.length, w.heap.size, [w.heap.size], []⟩, hrun base w gs tm hr, below_alloc w _, fun b hb => by simp at hb; simp [hb], fun ok gs' => ?_⟩
  refine ⟨⟨by simp, .inr ⟨w.heap.size, zs.length, _, rfl, hr.hb, heap_alloc_new w _, Nat.le_refl _, hm, by simp, by rw [List.take_of_length_le (by simp)]⟩⟩, hin, .inr ⟨rfl, rfl⟩⟩

theorem ar0 : Array.range 0 = #[] := by apply Array.ext'; simp
theorem ar1 : Array.range 1 = #[0] := by apply Array.ext'; simp [List.range_succ]
theorem ar2 : Array.range 2 = #[0, 1] := by apply Array.ext'; simp [List.range_succ]
theorem ar3 : Array.range 3 = #[0, 1, 2] := by apply Array.ext'; simp [List.range_succ]
theorem l_bs0 {t e : TypeId} {bytes : Nat} [ht : TSlice P t e] [he : TElem P e (.int .i64 0) bytes] : LOp P ⟨d, .buildSlice t 0 #[], ty, pos, af, g⟩ env os (.own os.length) env (os ++ [.sli e []]) := by
  refine l_laid (zs := []) (by simp) (by simp [maxLen]) fun base w gs tm hr => ?_
  obtain ⟨ii, hi, hs, hz, hby⟩ := he.info
  simp [execOp, Instr.buildSlice, run_underlying ht.und, sizeOf, typeInfo, hi, Instr.fill, newRow, ar0]
theorem l_bs1 {t e : TypeId} {bytes : Nat} [ht : TSlice P t e] [he : TElem P e (.int .i64 0) bytes] {x : Operand} {a : Int} (hx : AV.ev env x = .i a) (ha : inI a) :
    LOp P ⟨d, .buildSlice t 1 #[(0, x)], ty, pos, af, g⟩ env os (.own os.length) env (os ++ [.sli e [a]]) := by
  refine l_laid (zs := [a]) (by simpa using ha) (by simp [maxLen]) fun base w gs tm hr => ?_
  obtain ⟨ii, hi, hs, hz, hby⟩ := he.info
  simp [execOp, Instr.buildSlice, run_underlying ht.und, sizeOf, typeInfo, zeroValue, hi, hs, hz, Instr.fill, newRow, hr.evv hx, Value.cells, ar1]
theorem l_bs2 {t e : TypeId} {bytes : Nat} [ht : TSlice P t e] [he : TElem P e (.int .i64 0) bytes] {x y : Operand} {a b : Int} (hx : AV.ev env x = .i a) (hy : AV.ev env y = .i b) (ha : inI a) (hb : inI b) :
    LOp P ⟨d, .buildSlice t 2 #[(0, x), (1, y)], ty, pos, af, g⟩ env os (.own os.length) env (os ++ [.sli e [a, b]]) := by
  refine l_laid (zs := [a, b]) (by simp; exact ⟨ha, hb⟩) (by simp [maxLen]) fun base w gs tm hr => ?_
  obtain ⟨ii, hi, hs, hz, hby⟩ := he.info
  simp [execOp, Instr.buildSlice, run_underlying ht.und, sizeOf, typeInfo, zeroValue, hi, hs, hz, Instr.fill, newRow, hr.evv hx, hr.evv hy, Value.cells, ar2]
theorem l_bs3 {t e : TypeId} {bytes : Nat} [ht : TSlice P t e] [he : TElem P e (.int .i64 0) bytes] {x y z : Operand} {a b c : Int} (hx : AV.ev env x = .i a) (hy : AV.ev env y = .i b) (hz' : AV.ev env z = .i c) (ha : inI a) (hb : inI b) (hc : inI c) :
    LOp P ⟨d, .buildSlice t 3 #[(0, x), (1, y), (2, z)], ty, pos, af, g⟩ env os (.own os.length) env (os ++ [.sli e [a, b, c]]) := by
  refine l_laid (zs := [a, b, c]) (by simp; exact ⟨ha, hb, hc⟩) (by simp [maxLen]) fun base w gs tm hr => ?_
  obtain ⟨ii, hi, hs, hz, hby⟩ := he.info
  simp [execOp, Instr.buildSlice, run_underlying ht.und, sizeOf, typeInfo, zeroValue, hi, hs, hz, Instr.fill, newRow, hr.evv hx, hr.evv hy, hr.evv hz', Value.cells, ar3]

/-! ### append -/
theorem run_append_none {t ty' e : TypeId} {i : TypeInfo} (ht : P.underlying t = some (.slice e)) (hi : P.info? e = some i) {base : Nat} {w : World} {v : Value} {n : Nat} {xs : List Value} (h : w.ownsRow base e 1 v n xs) (a : Option Addr) (c : Nat) :
    (Builtin.append_ #[t, t] ty' #[v, .slice a 0 c]).run P w = .ok v w := by
  rcases h.2 with ⟨rfl, rfl⟩ | ⟨g, cap, cur, rfl, hb, hg, hnc, hcm, hcs, htake⟩
  · simp [Builtin.append_, run_underlying ht, sizeOf, typeInfo, hi, Builtin.lenOf, Builtin.firstCells, loadCells, loadCellsFrom]
    try (cases a <;> simp)
  · cases a <;> simp [Builtin.append_, run_underlying ht, sizeOf, typeInfo, hi, Builtin.lenOf, Builtin.firstCells, loadCells, loadCellsFrom, hnc, storeCells]

theorem l_append {t e : TypeId} {bytes : Nat} [ht : TSlice P t e] [he : TElem P e (.int .i64 0) bytes] {x y : Operand} {h : Nat} {e' : TypeId} {xs ys : List Int} (hx : AV.ev env x = .own h) (hs : os[h]? = some (.sli e' xs)) (hee : e' = e)
    (hy : Imm os (AV.ev env y) (.ints ys)) (hb : (xs.length + ys.length) * bytes ≤ 140737488355328) :
    LOp P ⟨d, .call { callee := .builtin .append, args := #[x, y], argTypes := #[t, t] }, ty, pos, af, g⟩ env os (.own h) (env.mp (AV.kill h)) ((os.map (AO.kill h)).set h (.sli e (xs ++ ys))) := by
  subst hee
  intro base w gs tm hr
  have hxv := hr.ev x
  rw [hx] at hxv
  have hyv := hy.rv hr (hr.ev y)
  generalize hv : Act.eval ⟨tm, []⟩ x = v at hxv
  generalize hu : Act.eval ⟨tm, []⟩ y = u at hyv
  cases hxv with
  | @own _ gh hg =>
  cases hyv with
  | ints hys =>
    obtain ⟨⟨ad, cap, rfl, hcap, hcm, hcells⟩, hyin⟩ := hys
    obtain ⟨a1, a2, a3⟩ := hr.ho _ _ _ hg hs
    obtain ⟨ii, hi, hsz, hz, hby⟩ := he.info
    have hbase : base ≤ w.heap.size := hr.hb
    have hbase' : base ≤ w.heap.size := hr.hb
    -- the call, and what it leaves
    have key : ∃ v' w', (Builtin.append_ #[t, t] ty #[gh.v, .slice ad (ys.map (Value.int .i64)).length cap]).run P w = .ok v' w' ∧ w'.ownsRow base e' 1 v' (xs.length + ys.length) ((xs ++ ys).map (Value.int .i64)) ∧ w.grownBy w' gh.v.ownBlock ∧
        (v'.ownBlock = gh.v.ownBlock ∨ v'.ownBlock = some w.heap.size) := by
      by_cases h0 : ys = []
      · subst h0
        exact ⟨gh.v, w, run_append_none ht.und hi a1 ad cap, by simpa using a1, ⟨rfl, rfl, rfl, Nat.le_refl _, fun _ _ _ => rfl⟩, .inl rfl⟩
      · have hp : 0 < ys.length := List.length_pos_iff.2 h0
        obtain ⟨b, off, rfl, _, hc⟩ := hcells (by simpa using hp)
        have h64 : xs.length + ys.length ≤ maxLen := by
          rcases Nat.eq_zero_or_pos bytes with hb0 | hb0
          · have hx' := a1.2
            have hxl : xs.length ≤ maxLen - ys.length ∨ True := .inr trivial
            exact absurd hb0 (by have := he.pos; omega)
          · have : xs.length + ys.length ≤ (xs.length + ys.length) * bytes := Nat.le_mul_of_pos_right _ hb0
            simp only [maxLen]; omega
        obtain ⟨v', w', r1, r2, r3, _, r5⟩ := run_append_own_at (P := P) w base t ty e' ii _ 1 bytes ht.und hi hz hsz hby rfl (by omega) gh.v xs.length (xs.map (Value.int .i64)) a1 ⟨b, off, none⟩ ys.length cap (ys.map (Value.int .i64)) (by simp)
          (fun j u hj => by rw [add_none]; exact hc j u hj) (fun u hu => by obtain ⟨_, _, rfl⟩ := List.mem_map.1 hu; rfl) h64 hb hbase
        exact ⟨v', w', by simpa using r1, by simpa using r2, r3, r5⟩
    obtain ⟨v', w', r1, r2, r3, r4⟩ := key
    have hgb : ∀ b, b ∉ gh.bl → some b ≠ gh.v.ownBlock := fun b hb e => hb (a3.mem e.symm)
    -- the new ghost
    let bl' : List Nat := v'.ownBlock.toList
    let g' : Gh := ⟨v', v'.ownBlock.getD 0, bl', gh.rows⟩
    have hgb' : GB g' := by
      show (v'.ownBlock = none ∧ v'.ownBlock.toList = []) ∨ (v'.ownBlock = some (v'.ownBlock.getD 0) ∧ v'.ownBlock.toList = [v'.ownBlock.getD 0])
      cases v'.ownBlock with
      | none => exact .inl ⟨rfl, rfl⟩
      | some b => exact .inr ⟨rfl, rfl⟩
    have hlt : ∀ b, v'.ownBlock = some b → b < w'.heap.size := by
      intro b hb
      rcases r2.2 with ⟨e1, _⟩ | ⟨gg, cc, cur, e1, _, hgg, _⟩
      · rw [e1] at hb; cases hb
      · rw [e1] at hb; cases hb; exact (Array.getElem?_eq_some_iff.1 hgg).1
    refine ⟨v', w', gs.set h g', .inl ?_, hr.turn hg hs trivial g' (.sli e' (xs ++ ys)) (fun b hb hn => r3.block b hb (hgb b hn)) r3.size ?_ (fun i v hv => hv) ?_, ?_, ?_⟩
    · simp only [execOp, resolve, invoke, builtin, Sem.run_bind, Sem.run_pure, Result.andThen_ok, List.map_toArray, List.map_cons, List.map_nil, hv, hu, r1]
    · intro b hb
      have hb' : v'.ownBlock = some b := by
        have hb2 : b ∈ v'.ownBlock.toList := hb
        cases hvb : v'.ownBlock with
        | none => rw [hvb] at hb2; simp at hb2
        | some c => rw [hvb] at hb2; simp at hb2; rw [hb2]
      refine ⟨?_, hlt b hb'⟩
      rcases r4 with r4 | r4
      · left; rw [hb'] at r4; exact a3.mem r4.symm
      · right; rw [hb'] at r4; cases r4; exact Nat.le_refl _
    · intro _ _
      refine ⟨by simpa using r2, fun z hz => ?_, hgb'⟩
      rcases List.mem_append.1 hz with hz | hz
      · exact a2 z hz
      · exact hyin z hz
    · have hk : h < gs.length := (List.getElem?_eq_some_iff.1 hg).1
      exact RV.own (g := g') (by simp [hk])
    · refine ⟨r3.os, r3.tape, r3.output, r3.size, fun b hb => r3.block b (by omega) (hgb b fun hm => ?_)⟩
      have := (hr.hn _ _ _ hg hs (by simp) b hm).1
      omega

/-- To a slice that is nil. -/
theorem l_append_nil {t e : TypeId} {bytes : Nat} [ht : TSlice P t e] [he : TElem P e (.int .i64 0) bytes] {x y : Operand} {ys : List Int} (hx : AV.ev env x = .val (.slice none 0 0)) (hy : Imm os (AV.ev env y) (.ints ys)) (hb : ys.length * bytes ≤ 140737488355328) :
    LOp P ⟨d, .call { callee := .builtin .append, args := #[x, y], argTypes := #[t, t] }, ty, pos, af, g⟩ env os (.own os.length) env (os ++ [.sli e ys]) := by
  refine l_new fun base w gs tm hr => ?_
  have hyv := hy.rv hr (hr.ev y)
  generalize hu : Act.eval ⟨tm, []⟩ y = u at hyv
  cases hyv with
  | ints hys =>
    obtain ⟨⟨ad, cap, rfl, hcap, hcm, hcells⟩, hyin⟩ := hys
    obtain ⟨ii, hi, hsz, hz, hby⟩ := he.info
    have a1 : w.ownsRow base e 1 (.slice none 0 0) 0 [] := World.ownsRow_nil w base e 1
    by_cases h0 : ys = []
    · subst h0
      refine ⟨w, ⟨.slice none 0 0, 0, [], []⟩, ?_, Below.refl _ _, fun b hb => by simp at hb, fun ok gs' => ⟨by simpa using a1, hyin, .inl ⟨rfl, rfl⟩⟩⟩
      have := run_append_none (ty' := ty) ht.und hi a1 ad cap
      simp only [execOp, resolve, invoke, builtin, Sem.run_bind, Sem.run_pure, Result.andThen_ok, List.map_toArray, List.map_cons, List.map_nil, hr.evv hx, hu, this, List.length_nil]
    · have hp : 0 < ys.length := List.length_pos_iff.2 h0
      obtain ⟨b, off, rfl, _, hc⟩ := hcells (by simpa using hp)
      have h64 : 0 + ys.length ≤ maxLen := by
        have := he.pos
        have : ys.length ≤ ys.length * bytes := Nat.le_mul_of_pos_right _ this
        simp only [maxLen]; omega
      obtain ⟨v', w', r1, r2, r3, r4, r5⟩ := run_append_own_at (P := P) w base t ty e ii _ 1 bytes ht.und hi hz hsz hby rfl (by omega) (.slice none 0 0) 0 [] a1 ⟨b, off, none⟩ ys.length cap (ys.map (Value.int .i64)) (by simp)
        (fun j u hj => by rw [add_none]; exact hc j u hj) (fun u hu => by obtain ⟨_, _, rfl⟩ := List.mem_map.1 hu; rfl) h64 (by simpa using hb) hr.hb
      have hne : ¬ v' = .slice none 0 0 := fun e => by have := (r4.1 e).2; omega
      rcases r2.2 with ⟨e1, _⟩ | ⟨gg, cc, cur, e1, e2, hgg, _⟩
      · exact absurd e1 hne
      · have hob : v'.ownBlock = some w.heap.size := by
          rcases r5 with r5 | r5
          · rw [e1] at r5; cases r5
          · exact r5
        have egg : gg = w.heap.size := by rw [e1] at hob; cases hob; rfl
        have hlt := (Array.getElem?_eq_some_iff.1 hgg).1
        refine ⟨w', ⟨v', w.heap.size, [w.heap.size], []⟩, ?_, (Below.refl _ _).grown r3 (Nat.le_refl _) (fun k hk => by cases hk), fun b hb => by simp at hb; omega, fun ok gs' => ⟨by simpa using r2, hyin, .inr ⟨hob, rfl⟩⟩⟩
        simp only [execOp, resolve, invoke, builtin, Sem.run_bind, Sem.run_pure, Result.andThen_ok, List.map_toArray, List.map_cons, List.map_nil, hr.evv hx, hu]
        rw [List.length_map, r1]
        simp

/-! ### Parts of slices that are read -/
theorem RowAt.sub {w : World} {ok : Nat → Prop} {a : Option Addr} {n cap : Nat} {vs : List Value} (h : RowAt w ok (.slice a n cap) vs) (lo hi : Nat) (h1 : lo ≤ hi) (h2 : hi ≤ vs.length) :
    RowAt w ok (sliced a lo hi cap 1) ((vs.take hi).drop lo) := by
  obtain ⟨a', cap', e, h3, h4, h5⟩ := h
  cases e
  have hl : ((vs.take hi).drop lo).length = hi - lo := by simp; omega
  refine ⟨_, cap - lo, by rw [hl]; rfl, by omega, by omega, fun hp => ?_⟩
  rw [hl] at hp
  obtain ⟨b, off, rfl, hok, hc⟩ := h5 (by omega)
  refine ⟨b, off + lo, ?_, hok, fun i u hu => ?_⟩
  · rw [if_neg (by omega)]; simp [add_none]
  · have hi' := (List.getElem?_eq_some_iff.1 hu).1
    rw [hl] at hi'
    rw [List.getElem?_drop, List.getElem?_take, if_pos (by omega)] at hu
    rw [Nat.add_assoc]
    exact hc (lo + i) u hu
theorem IntsAt.sub {w : World} {ok : Nat → Prop} {a : Option Addr} {n cap : Nat} {xs : List Int} (h : IntsAt w ok (.slice a n cap) xs) (lo hi : Nat) (h1 : lo ≤ hi) (h2 : hi ≤ xs.length) :
    IntsAt w ok (sliced a lo hi cap 1) ((xs.take hi).drop lo) := by
  refine ⟨?_, fun x hx => h.2 x (List.mem_of_mem_take (List.mem_of_mem_drop hx))⟩
  rw [List.map_drop, List.map_take]
  exact h.1.sub lo hi h1 (by simpa using h2)

theorem IntsAt.slice {w : World} {ok : Nat → Prop} {v : Value} {xs : List Int} (h : IntsAt w ok v xs) : ∃ a cap, v = .slice a xs.length cap ∧ xs.length ≤ cap := by
  obtain ⟨⟨a, cap, e, h1, _⟩, _⟩ := h
  simp at e h1
  exact ⟨a, cap, e, h1⟩

/-- The element's cells. -/
theorem run_size {e : TypeId} [he : TCell P e] (w : World) : (sizeOf e).run P w = .ok 1 w := by
  obtain ⟨ii, hi, hs⟩ := he.info
  simp [sizeOf, typeInfo, hi, hs]
theorem elem_of {t e : TypeId} (ht : P.underlying t = some (.slice e)) : P.elem t = e := by simp [Program.elem, ht]

theorem q_slice_hi {t e : TypeId} [ht : TSlice P t e] [he : TCell P e] {x y : Operand} {xs : List Int} {n : Int} (hx : AV.ev env x = .ints xs) (hy : AV.ev env y = .i n) (h0 : 0 ≤ n) (h1 : n ≤ xs.length) :
    QOp P wl ⟨d, .slice t x none (some y) none, ty, pos, af, g⟩ env os (.ints (xs.take n.toNat)) :=
  .of_run fun _ w gs tm hr => by
    have h := hr.ev x
    rw [hx] at h
    generalize hv : Act.eval ⟨tm, []⟩ x = v at h
    cases h with
    | ints hxs =>
      obtain ⟨a, cap, rfl, hc⟩ := hxs.slice
      have e1 := elem_of (P := P) ht.und
      refine ⟨_, .ints (by simpa using hxs.sub 0 n.toNat (by omega) (by omega)), fun w' _ => ?_⟩
      have hrun := run_slice_h (P := P) w' t a xs.length cap (by rw [e1]; exact ht.und) .i64 n h0 (by omega)
      rw [e1, run_size] at hrun
      have hat := run_sliceAt_slice (P := P) w' t (.slice a xs.length cap) none (some (.int .i64 n)) none (by rw [e1]; exact ht.und)
      simp only [execOp, hv, hr.evv hy, Option.map_none, Option.map_some, Sem.run_bind, hat, hrun, Result.andThen_ok, Sem.run_pure]
theorem q_slice_lo {t e : TypeId} [ht : TSlice P t e] [he : TCell P e] {x y : Operand} {xs : List Int} {n : Int} (hx : AV.ev env x = .ints xs) (hy : AV.ev env y = .i n) (h0 : 0 ≤ n) (h1 : n ≤ xs.length) :
    QOp P wl ⟨d, .slice t x (some y) none none, ty, pos, af, g⟩ env os (.ints (xs.drop n.toNat)) :=
  .of_run fun _ w gs tm hr => by
    have h := hr.ev x
    rw [hx] at h
    generalize hv : Act.eval ⟨tm, []⟩ x = v at h
    cases h with
    | ints hxs =>
      obtain ⟨a, cap, rfl, hc⟩ := hxs.slice
      have e1 := elem_of (P := P) ht.und
      refine ⟨_, .ints (by simpa using hxs.sub n.toNat xs.length (by omega) (by omega)), fun w' _ => ?_⟩
      have hrun := run_slice_l (P := P) w' t a xs.length cap (by rw [e1]; exact ht.und) .i64 n h0 h1
      rw [e1, run_size] at hrun
      have hat := run_sliceAt_slice (P := P) w' t (.slice a xs.length cap) (some (.int .i64 n)) none none (by rw [e1]; exact ht.und)
      simp only [execOp, hv, hr.evv hy, Option.map_none, Option.map_some, Sem.run_bind, hat, hrun, Result.andThen_ok, Sem.run_pure]
theorem q_slice_lh {t e : TypeId} [ht : TSlice P t e] [he : TCell P e] {x y z : Operand} {xs : List Int} {m n : Int} (hx : AV.ev env x = .ints xs) (hy : AV.ev env y = .i m) (hz : AV.ev env z = .i n) (h0 : 0 ≤ m) (h1 : m ≤ n) (h2 : n ≤ xs.length) :
    QOp P wl ⟨d, .slice t x (some y) (some z) none, ty, pos, af, g⟩ env os (.ints ((xs.take n.toNat).drop m.toNat)) :=
  .of_run fun _ w gs tm hr => by
    have h := hr.ev x
    rw [hx] at h
    generalize hv : Act.eval ⟨tm, []⟩ x = v at h
    cases h with
    | ints hxs =>
      obtain ⟨a, cap, rfl, hc⟩ := hxs.slice
      have e1 := elem_of (P := P) ht.und
      refine ⟨_, .ints (hxs.sub m.toNat n.toNat (by omega) (by omega)), fun w' _ => ?_⟩
      have hrun := run_slice_lh (P := P) w' t a xs.length cap (by rw [e1]; exact ht.und) .i64 .i64 m n h0 h1 (by omega)
      rw [e1, run_size] at hrun
      have hat := run_sliceAt_slice (P := P) w' t (.slice a xs.length cap) (some (.int .i64 m)) (some (.int .i64 n)) none (by rw [e1]; exact ht.und)
      simp only [execOp, hv, hr.evv hy, hr.evv hz, Option.map_some, Option.map_none, Sem.run_bind, hat, hrun, Result.andThen_ok, Sem.run_pure]

/-! ### Parts of the call's own slices -/
theorem sliced_own {w : World} {base : Nat} {e : TypeId} {gh : Gh} {xs : List Int} (a1 : w.ownsRow base e 1 gh.v xs.length (xs.map (Value.int .i64))) (a3 : GB gh) : ∃ a cap, gh.v = .slice a xs.length cap ∧ xs.length ≤ cap ∧ cap ≤ maxLen ∧ (0 < cap → a = some ⟨gh.b, 0, none⟩) := by
  rcases a1.2 with ⟨e1, e2⟩ | ⟨b, cap, cur, e1, e2, e3, e4, e5, _⟩
  · exact ⟨none, 0, by rw [e1, e2], by omega, by simp [maxLen], fun h => by omega⟩
  · refine ⟨some ⟨b, 0, none⟩, cap, e1, e4, e5, fun _ => ?_⟩
    rw [a3.eq (b := b) (by rw [e1]; rfl)]

theorem q_oslice_lo {t e : TypeId} [ht : TSlice P t e] [he : TCell P e] {x y : Operand} {h : Nat} {e' : TypeId} {xs : List Int} {n : Int} (hx : AV.ev env x = .own h) (hs : os[h]? = some (.sli e' xs)) (hy : AV.ev env y = .i n) (h0 : 0 ≤ n) (h1 : n ≤ xs.length) :
    QOp P wl ⟨d, .slice t x (some y) none none, ty, pos, af, g⟩ env os (.osub h n.toNat (xs.length - n.toNat)) :=
  .of_run fun _ w gs tm hr => by
    have hh := hr.ev x
    rw [hx] at hh
    generalize hv : Act.eval ⟨tm, []⟩ x = v at hh
    cases hh with
    | @own _ gh hg =>
      obtain ⟨a1, a2, a3⟩ := hr.ho _ _ _ hg hs
      obtain ⟨a, cap, ev, hc, hm, ha⟩ := sliced_own a1 a3
      have e1 := elem_of (P := P) ht.und
      refine ⟨sliced a n.toNat xs.length cap 1, ?_, fun w' _ => ?_⟩
      · refine RV.osub hg (fun hp => ?_) (by omega) (by omega)
        rw [if_neg (by omega), ha (by omega)]
        simp [add_none]
      · have hrun := run_slice_l (P := P) w' t a xs.length cap (by rw [e1]; exact ht.und) .i64 n h0 h1
        rw [e1, run_size] at hrun
        have hat := run_sliceAt_slice (P := P) w' t (.slice a xs.length cap) (some (.int .i64 n)) none none (by rw [e1]; exact ht.und)
        simp only [execOp, hv, ev, hr.evv hy, Option.map_none, Option.map_some, Sem.run_bind, hat, hrun, Result.andThen_ok, Sem.run_pure]
theorem q_oslice_hi {t e : TypeId} [ht : TSlice P t e] [he : TCell P e] {x y : Operand} {h : Nat} {e' : TypeId} {xs : List Int} {n : Int} (hx : AV.ev env x = .own h) (hs : os[h]? = some (.sli e' xs)) (hy : AV.ev env y = .i n) (h0 : 0 ≤ n) (h1 : n ≤ xs.length) :
    QOp P wl ⟨d, .slice t x none (some y) none, ty, pos, af, g⟩ env os (.osub h 0 n.toNat) :=
  .of_run fun _ w gs tm hr => by
    have hh := hr.ev x
    rw [hx] at hh
    generalize hv : Act.eval ⟨tm, []⟩ x = v at hh
    cases hh with
    | @own _ gh hg =>
      obtain ⟨a1, a2, a3⟩ := hr.ho _ _ _ hg hs
      obtain ⟨a, cap, ev, hc, hm, ha⟩ := sliced_own a1 a3
      have e1 := elem_of (P := P) ht.und
      refine ⟨sliced a 0 n.toNat cap 1, ?_, fun w' _ => ?_⟩
      · refine RV.osub hg (fun hp => ?_) (by omega) (by omega)
        rw [if_neg (by omega), ha (by omega)]
        simp [add_none]
      · have hrun := run_slice_h (P := P) w' t a xs.length cap (by rw [e1]; exact ht.und) .i64 n h0 (by omega)
        rw [e1, run_size] at hrun
        have hat := run_sliceAt_slice (P := P) w' t (.slice a xs.length cap) none (some (.int .i64 n)) none (by rw [e1]; exact ht.und)
        simp only [execOp, hv, ev, hr.evv hy, Option.map_none, Option.map_some, Sem.run_bind, hat, hrun, Result.andThen_ok, Sem.run_pure]

/-! ### copy -/
/-- Over a list from place 'off' on, as far as there is room. -/
def over (xs : List Int) (off len : Nat) (ys : List Int) : List Int := xs.take off ++ (ys.take len ++ xs.drop (off + min len ys.length))

theorem over_len {xs ys : List Int} {off len : Nat} (h : off + len ≤ xs.length) : (over xs off len ys).length = xs.length := by
  simp [over]; omega

/-- Where a copy goes to: all of a slice, or a part. -/
inductive Dst (os : List AO) (h : Nat) (off len : Nat) : AV → Prop
  | own {e : TypeId} {xs : List Int} : os[h]? = some (.sli e xs) → off = 0 → len = xs.length → Dst os h off len (.own h)
  | osub : Dst os h off len (.osub h off len)

theorem l_copy {t e : TypeId} {bytes : Nat} [ht : TSlice P t e] [he : TElem P e (.int .i64 0) bytes] {x y : Operand} {h off len : Nat} {e' : TypeId} {xs ys : List Int} {a : AV} (hx : AV.ev env x = a) (hd : Dst os h off len a) (hs : os[h]? = some (.sli e' xs)) (hle : off + len ≤ xs.length)
    (hy : Imm os (AV.ev env y) (.ints ys)) :
    LOp P ⟨d, .call { callee := .builtin .copy, args := #[x, y], argTypes := #[t, t] }, ty, pos, af, g⟩ env os (.i (min len ys.length : Nat)) env (os.set h (.sli e' (over xs off len ys))) := by
  intro base w gs tm hr
  have hxv := hr.ev x
  rw [hx] at hxv
  have hyv := hy.rv hr (hr.ev y)
  generalize hv : Act.eval ⟨tm, []⟩ x = v at hxv
  generalize hu : Act.eval ⟨tm, []⟩ y = u at hyv
  obtain ⟨gh, p, cap, hg, rfl, hp⟩ : ∃ gh p cap, gs[h]? = some gh ∧ v = .slice p len cap ∧ (0 < len → p = some ⟨gh.b, off, none⟩) := by
    cases hd with
    | own h1 h2 h3 =>
      cases hxv with
      | @own _ gh hg =>
        obtain ⟨a1, a2, a3⟩ := hr.ho _ _ _ hg h1
        obtain ⟨p, cap, ev, hc, hm, ha⟩ := sliced_own a1 a3
        subst h2 h3
        exact ⟨gh, p, cap, hg, ev, fun h0 => ha (by omega)⟩
    | osub =>
      cases hxv with
      | osub hg h1 h2 h3 => exact ⟨_, _, _, hg, rfl, h1⟩
  cases hyv with
  | ints hys =>
    obtain ⟨⟨ad, scap, rfl, hcap, hcm, hcells⟩, hyin⟩ := hys
    obtain ⟨a1, a2, a3⟩ := hr.ho _ _ _ hg hs
    obtain ⟨ii, hi, hsz, hz, hby⟩ := he.info
    have hsz' : (P.info? e).map (·.size) = some 1 := by rw [hi]; simp [hsz]
    have hyl : (ys.map (Value.int .i64)).length = ys.length := by simp
    by_cases h0 : min len ys.length = 0
    · -- nothing is copied
      have hrun := run_copy_none (P := P) w t t ty e p ad len cap ys.length scap ht.und hsz' (by show min ys.length len = 0; omega)
      have eo : over xs off len ys = xs := by
        unfold over
        rw [h0, Nat.add_zero, show ys.take len = [] from by apply List.eq_nil_of_length_eq_zero; rw [List.length_take]; omega]
        simp
      refine ⟨.int .i64 (min len ys.length : Nat), w, gs, .inl ?_, ?_, .val _, Below.refl _ _⟩
      · rw [hyl] at hu
        simp only [execOp, resolve, invoke, builtin, Sem.run_bind, Sem.run_pure, Result.andThen_ok, List.map_toArray, List.map_cons, List.map_nil, hv, hu, hrun, h0]
        rfl
      · rw [eo]
        have : os.set h (.sli e' xs) = os := by
          apply List.ext_getElem?
          intro i
          rw [List.getElem?_set]
          split
          · subst_vars
            have hlt := (List.getElem?_eq_some_iff.1 hs).1
            simp [hlt, (List.getElem?_eq_some_iff.1 hs).2]
          · rfl
        rw [this]; exact hr
    · obtain ⟨b, soff, rfl, _, hc⟩ := hcells (by rw [hyl]; omega)
      have hp' := hp (by omega)
      subst hp'
      rcases a1.2 with ⟨e1, e2⟩ | ⟨bb, cap', cur, e1, e2, e3, e4, e5, e6, e7⟩
      · omega
      · have ebb : gh.b = bb := a3.eq (by rw [e1]; rfl)
        have hn : ((ys.take len).map (Value.int .i64)).length = Nat.min ys.length len := by
          rw [List.length_map, List.length_take]; exact Nat.min_comm _ _
        have hrun := run_copy_row (P := P) w t t ty e gh.b off len cap ⟨b, soff, none⟩ ys.length scap cur e' ((ys.take len).map (Value.int .i64)) ht.und hsz' (by rw [ebb]; exact e3) hn
          (fun j u hj => by
            rw [add_none]
            refine hc j u ?_
            rw [List.map_take, List.getElem?_take] at hj
            split at hj
            · exact hj
            · cases hj)
          (by rw [hn]; have : Nat.min ys.length len ≤ len := Nat.min_le_right _ _; omega) (fun u hu => by obtain ⟨_, _, rfl⟩ := List.mem_map.1 hu; rfl)
        rw [List.append_assoc] at hrun
        have hl9 : ((ys.take len).map (Value.int .i64)).length = min len ys.length := by simp
        have hcl : cur.toList.length = cap' := by simp [e6]
        obtain ⟨L, hL⟩ : ∃ L, L = cur.toList.take off ++ ((ys.take len).map (Value.int .i64) ++ cur.toList.drop (off + ((ys.take len).map (Value.int .i64)).length)) := ⟨_, rfl⟩
        rw [← hL] at hrun
        have hLl : L.length = cap' := by
          rw [hL]
          simp only [List.length_append, List.length_take, List.length_drop, hl9, hcl]
          omega
        have hLx : L.take xs.length = (over xs off len ys).map (Value.int .i64) := by
          have hx7 : xs.map (Value.int .i64) = cur.toList.take xs.length := by rw [← e7, Nat.mul_one]
          rw [hL]
          unfold over
          simp only [List.map_append, List.map_take, List.map_drop, hx7]
          rw [List.take_append, List.take_append]
          simp only [List.length_take, List.length_map, List.take_take, hcl]
          congr 1
          · congr 1; omega
          · congr 1
            · rw [Nat.min_eq_right (by omega)]
            · rw [List.drop_take]
              congr 1
              omega
        have hheap : (w.setRow gh.b L.toArray).heap[bb]? = some (.cells L.toArray e' (0, 0)) := by rw [ebb]; exact setRow_heap w bb cur _ e' (0, 0) e3
        have hother : ∀ c, c < w.heap.size → c ∉ gh.bl → (w.setRow gh.b L.toArray).heap[c]? = w.heap[c]? := fun c hc hcb =>
          setRow_other w gh.b c _ (fun e' => hcb (a3.mem (by rw [e1, ← ebb, e']; rfl)))
        have hsize : (w.setRow gh.b L.toArray).heap.size = w.heap.size := by simp
        refine ⟨.int .i64 (min len ys.length : Nat), _, gs, .inl ?_, hr.upd hg hs trivial _ trivial hother (by rw [hsize]; exact Nat.le_refl _) fun _ => ?_, .val _, ?_⟩
        · rw [hyl] at hu
          have e9 : goInt ((ys.take len).map (Value.int .i64)).length = .int .i64 (min len ys.length : Nat) := by rw [hl9]; rfl
          simp only [execOp, resolve, invoke, builtin, Sem.run_bind, Sem.run_pure, Result.andThen_ok, List.map_toArray, List.map_cons, List.map_nil, hv, hu, hrun, e9]
        · refine ⟨⟨by simp [over_len hle], .inr ⟨bb, cap', _, by rw [over_len hle]; exact e1, e2, hheap, by rw [over_len hle]; exact e4, e5, by simp [hLl], ?_⟩⟩, fun z hz => ?_, a3⟩
          · rw [over_len hle, Nat.mul_one]; exact hLx
          · unfold over at hz
            rcases List.mem_append.1 hz with hz | hz
            · exact a2 z (List.mem_of_mem_take hz)
            · rcases List.mem_append.1 hz with hz | hz
              · exact hyin z (List.mem_of_mem_take hz)
              · exact a2 z (List.mem_of_mem_drop hz)
        · have hbb : base ≤ gh.b := by rw [ebb]; exact e2
          exact below_setRow (Below.refl _ _) hbb _

/-! ### Arrays and maps -/
class TArr (P : Program) (t : TypeId) (e : outParam TypeId) (n : outParam Nat) : Prop where
  und : P.underlying t = some (.array n e)
  elm : ∃ i, P.info? e = some i ∧ i.size = 1
class TMap (P : Program) (t : TypeId) (k e : outParam TypeId) : Prop where
  und : P.underlying t = some (.map k e)

/-! ### Structs laid out of their parts -/
/-- A struct all of whose n fields have one cell. -/
class TBuild (P : Program) (t : TypeId) (n : outParam Nat) (zs : outParam (List Value)) : Prop where
  info : ∃ i, P.info? t = some i ∧ i.zero = some (.agg zs.toArray) ∧ zs.length = n
  bl : (∀ parts, P.built t parts = Instr.fill (((List.range n).map fun i => (i, 1)).toArray[·]?) zs.toArray parts) ∨ (∀ parts, P.built t parts = Instr.fill (fun i => some (i * 1, 1)) zs.toArray parts)

theorem TBuild.str {t : TypeId} {n : Nat} {zs : List Value} (info : ∃ i, P.info? t = some i ∧ i.zero = some (.agg zs.toArray) ∧ zs.length = n)
    (und : ∃ fs, P.underlying t = some (.struct fs) ∧ fs.toList.mapM (fun f => (P.info? f.type).map fun i => (f.offset, i.size)) = some ((List.range n).map fun i => (i, 1))) : TBuild P t n zs := by
  refine ⟨info, .inl fun parts => ?_⟩
  obtain ⟨ii, hi, hz, _⟩ := info
  obtain ⟨fs, hu, hp⟩ := und
  unfold Program.built
  rw [hi, hu]
  simp only [hz, hp]
  rfl
theorem TBuild.arr {t : TypeId} {n : Nat} {zs : List Value} (info : ∃ i, P.info? t = some i ∧ i.zero = some (.agg zs.toArray) ∧ zs.length = n)
    (und : ∃ e ie, P.underlying t = some (.array n e) ∧ P.info? e = some ie ∧ ie.size = 1) : TBuild P t n zs := by
  refine ⟨info, .inr fun parts => ?_⟩
  obtain ⟨ii, hi, hz, _⟩ := info
  obtain ⟨e, ie, hu, hp, hs⟩ := und
  unfold Program.built
  rw [hi, hu]
  simp only [hz, hp, hs]
  rfl

/-- A value of one cell. -/
def OneC (env : Env) (os : List AO) (a : AV) : Prop := ∀ base w gs tm, Rel base w gs env os tm → ∀ v, RV w (okOf gs os) gs v a → v.oneCell' = true ∧ v.cells = #[v]

theorem rv_list {w : World} {ok : Nat → Prop} {gs : List Gh} : ∀ {vs : List Value} {l : List AV}, vs.length = l.length → (∀ i : Nat, i < vs.length → RV w ok gs (vs.getD i undef) (l.getD i .any)) → ∀ i : Nat, RV w ok gs (vs.getD i undef) (l.getD i .any) := by
  intro vs l hl h i
  rcases Nat.lt_or_ge i vs.length with hi | hi
  · exact h i hi
  · rw [show l.getD i .any = .any from by simp [List.getD_eq_getElem?_getD, List.getElem?_eq_none (show l.length ≤ i by omega)]]
    exact .any _

theorem q_build0 {t : TypeId} {n : Nat} {zs : List Value} [ht : TBuild P t n zs] (h1 : zs.all (·.oneCell') = true) : QOp P wl ⟨d, .build t #[], ty, pos, af, g⟩ env os (.agg (zs.map AV.val)) :=
  .of_run fun _ w gs tm hr => by
    refine ⟨.agg zs.toArray, .agg (by simp) (List.all_eq_true.1 h1) fun i => ?_, fun w' _ => ?_⟩
    · simp only [List.getD_eq_getElem?_getD, List.getElem?_map]
      cases zs[i]? with
      | none => exact .any _
      | some z => exact .val _
    · have hb : P.built t (#[] : Array (Nat × Value)).toList = some zs.toArray := by rcases ht.bl with e | e <;> rw [e] <;> rfl
      simp [execOp, run_build (P := P) w' t _ _ hb]
theorem q_build1 {t : TypeId} {zs : List Value} [ht : TBuild P t 1 zs] {x : Operand} {a : AV} (hx : AV.ev env x = a) (h1 : OneC env os a) : QOp P wl ⟨d, .build t #[(0, x)], ty, pos, af, g⟩ env os (.agg [a]) :=
  .of_run fun _ w gs tm hr => by
    have hv := hr.ev x
    rw [hx] at hv
    obtain ⟨o1, c1⟩ := h1 _ _ _ _ hr _ hv
    refine ⟨.agg [Act.eval ⟨tm, []⟩ x].toArray, .agg rfl (by simpa using o1) (rv_list rfl fun i hi => ?_), fun w' _ => ?_⟩
    · match i, hi with
      | 0, _ => exact hv
    · obtain ⟨ii, _, _, hl⟩ := ht.info
      match zs, hl, ht with
      | [z], _, ht =>
        have hb : P.built t (#[(0, Act.eval ⟨tm, []⟩ x)] : Array (Nat × Value)).toList = some #[Act.eval ⟨tm, []⟩ x] := by
          rcases ht.bl with e | e <;> rw [e] <;> simp [Instr.fill, c1, List.range_succ]
        simp [execOp, run_build (P := P) w' t _ _ hb]
theorem q_build2 {t : TypeId} {zs : List Value} [ht : TBuild P t 2 zs] {x y : Operand} {a b : AV} (hx : AV.ev env x = a) (hy : AV.ev env y = b) (h1 : OneC env os a) (h2 : OneC env os b) : QOp P wl ⟨d, .build t #[(0, x), (1, y)], ty, pos, af, g⟩ env os (.agg [a, b]) :=
  .of_run fun _ w gs tm hr => by
    have hv := hr.ev x
    rw [hx] at hv
    have hu := hr.ev y
    rw [hy] at hu
    obtain ⟨o1, c1⟩ := h1 _ _ _ _ hr _ hv
    obtain ⟨o2, c2⟩ := h2 _ _ _ _ hr _ hu
    refine ⟨.agg [Act.eval ⟨tm, []⟩ x, Act.eval ⟨tm, []⟩ y].toArray, .agg rfl (by simp; exact ⟨o1, o2⟩) (rv_list rfl fun i hi => ?_), fun w' _ => ?_⟩
    · match i, hi with
      | 0, _ => exact hv
      | 1, _ => exact hu
    · obtain ⟨ii, _, _, hl⟩ := ht.info
      match zs, hl, ht with
      | [z1, z2], _, ht =>
        have hb : P.built t (#[(0, Act.eval ⟨tm, []⟩ x), (1, Act.eval ⟨tm, []⟩ y)] : Array (Nat × Value)).toList = some #[Act.eval ⟨tm, []⟩ x, Act.eval ⟨tm, []⟩ y] := by
          rcases ht.bl with e | e <;> rw [e] <;> simp [Instr.fill, c1, c2, List.range_succ]
        simp [execOp, run_build (P := P) w' t _ _ hb]

/-! ### A call of a function that is a value -/
theorem run_callv {d : Option Tmp} {f : FuncId} (hb : HasBody P f) (x : Operand) (xs : List Operand) (ats : Array TypeId) (ρ : Operand → Value) (hρ : ρ x = .func (.func f) #[] #[]) (w : World) :
    (execOp ρ ⟨d, .call { callee := .value x, args := xs.toArray, argTypes := ats }, ty, pos, af, g⟩).run P w = .ok (.enter f (xs.map ρ).toArray) w := by
  have := hb.run (xs.map ρ).toArray w
  simp only [execOp, resolve, hρ, Deferred.ofValue, Sem.run_bind, Sem.run_pure, Result.andThen_ok, invoke, List.map_toArray]
  simpa using this

theorem q_callv {f : FuncId} {args : List AV} {v : Value} (hc : AFnV P f args v) {x : Operand} (hx : AV.ev env x = .val (.func (.func f) #[] #[])) {xs : List Operand} {ats : Array TypeId} (hi : Imms os (xs.map (AV.ev env)) args) :
    QOp P false ⟨d, .call { callee := .value x, args := xs.toArray, argTypes := ats }, ty, pos, af, g⟩ env os (.val v) := by
  intro base w gs tm hr
  refine ⟨v, .val v, fun e => (by cases e), fun w' hw' => ?_⟩
  unfold Oper.quietAt
  rw [run_callv hc.1 x xs ats _ (hr.evv hx)]
  refine ⟨rfl, (hc.2 w' _ (hi.rvs (hr.below (hw' rfl)))).mono ?_⟩
  rintro e w'' ⟨rfl, hb⟩
  exact ⟨rfl, fun _ => (hw' rfl).trans (hb.mono (hw' rfl).size)⟩
end

end Go.Proofs.YtfgnccoaebkckaaDoor
