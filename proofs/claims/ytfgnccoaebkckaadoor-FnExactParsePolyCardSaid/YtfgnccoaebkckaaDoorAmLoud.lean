/-
  The operations of the abstract machine that make or write memory. No condition.
-/
import Derived.Test.YtfgnccoaebkckaaDoorAmCall
import Derived.Laws.CopyOwn
namespace Go.Proofs.YtfgnccoaebkckaaDoor
open Go Go.RowKit

section
variable {P : Program} {env : Env} {os : List AO} {d : Option Tmp} {ty : TypeId} {pos : String} {af : Array Edge} {g : Option (Nat × Bool)}

theorem below_alloc (w : World) (o : Obj) : Below w.heap.size w (w.alloc o) := (Below.refl _ _).alloc (Nat.le_refl _) o

theorem len_new {gs : List Gh} {g : Gh} : (gs ++ [g])[gs.length]? = some g := by simp

/-- A new block of cells. -/
theorem l_block {o : Oper} {T : TypeId} {avs : List AV}
    (hrun : ∀ base w gs tm, Rel base w gs env os tm → ∃ cs : List Value, (execOp (Act.eval ⟨tm, []⟩) o).run P w = .ok (.value (.pointer (some ⟨w.heap.size, 0, none⟩))) (w.alloc (.cells cs.toArray T)) ∧
      cs.length = avs.length ∧ (∀ c ∈ cs, c.oneCell' = true) ∧ ∀ i : Nat, RV w (okOf gs os) gs (cs.getD i undef) (avs.getD i .any)) :
    LOp P o env os (.optr os.length 0) env (os ++ [.bx T avs]) := by
  intro base w gs tm hr
  obtain ⟨cs, h1, h2, h3, h4⟩ := hrun base w gs tm hr
  have hbel := below_alloc w (.cells cs.toArray T)
  have hlt : w.heap.size < (w.alloc (.cells cs.toArray T)).heap.size := by simp
  have hno : AO.bx T avs ≠ .dead → ∀ b, b ∈ [w.heap.size] → w.heap.size ≤ b ∧ b < (w.alloc (.cells cs.toArray T)).heap.size := fun _ b hb => by simp at hb; omega
  have kp := keeps_new (g := ⟨.pointer (some ⟨w.heap.size, 0, none⟩), w.heap.size, [w.heap.size], []⟩) (o := .bx T avs) hr.hl hbel hno
  have hgs : ∀ (i : Nat) g', gs[i]? = some g' → (gs ++ [⟨.pointer (some ⟨w.heap.size, 0, none⟩), w.heap.size, [w.heap.size], []⟩])[i]? = some g' := fun i g' e => by
    rw [List.getElem?_append_left (List.getElem?_eq_some_iff.1 e).1]; exact e
  refine ⟨_, _, gs ++ [⟨.pointer (some ⟨w.heap.size, 0, none⟩), w.heap.size, [w.heap.size], []⟩], .inl h1, hr.new hbel _ _ hno ?_, ?_, hbel.mono hr.hb⟩
  · exact ⟨cs, heap_alloc_new w _, hr.hb, rfl, rfl, h2, h3, fun i => (h4 i).mono kp hgs⟩
  · have := RV.optr (w := w.alloc (.cells cs.toArray T)) (ok := okOf (gs ++ [⟨.pointer (some ⟨w.heap.size, 0, none⟩), w.heap.size, [w.heap.size], []⟩]) (os ++ [.bx T avs])) (i := 0) (len_new (gs := gs) (g := ⟨.pointer (some ⟨w.heap.size, 0, none⟩), w.heap.size, [w.heap.size], []⟩))
    rw [hr.hl] at this
    exact this

theorem l_box_agg {T : TypeId} {x : Operand} {avs : List AV} (hx : AV.ev env x = .agg avs) : LOp P ⟨d, .box T x, ty, pos, af, g⟩ env os (.optr os.length 0) env (os ++ [.bx T avs]) := by
  refine l_block fun base w gs tm hr => ?_
  have h := hr.ev x
  rw [hx] at h
  generalize hv : Act.eval ⟨tm, []⟩ x = v at h
  cases h with
  | agg a1 a2 a3 => exact ⟨_, by simp [execOp, hv, Instr.box, newVar, newRow, Value.cells], a1, a2, a3⟩

theorem l_box_val {T : TypeId} {x : Operand} {v : Value} (hx : AV.ev env x = .val v) (h1 : v.oneCell' = true) (hc : v.cells = #[v]) : LOp P ⟨d, .box T x, ty, pos, af, g⟩ env os (.optr os.length 0) env (os ++ [.bx T [.val v]]) := by
  refine l_block fun base w gs tm hr => ?_
  refine ⟨[v], by simp [execOp, hr.evv hx, Instr.box, newVar, newRow, hc], rfl, by simpa using h1, fun i => ?_⟩
  match i with
  | 0 => exact .val _
  | i + 1 => exact .any _

theorem l_alloc_str {T : TypeId} {n : Nat} {zs : List Value} [ht : TStruct P T n zs] (h1 : ∀ z ∈ zs, z.oneCell' = true) : LOp P ⟨d, .alloc T, ty, pos, af, g⟩ env os (.optr os.length 0) env (os ++ [.bx T (zs.map AV.val)]) := by
  refine l_block fun base w gs tm hr => ?_
  obtain ⟨ii, hi, hs, hz, hl⟩ := ht.info
  refine ⟨zs, by simp [execOp, Instr.alloc, zeroValue, typeInfo, hi, hz, newVar, newRow, Value.cells], by simp, h1, fun i => ?_⟩
  simp only [List.getD_eq_getElem?_getD, List.getElem?_map]
  cases zs[i]? with
  | none => exact .any _
  | some z => exact .val _

theorem l_alloc_one {T : TypeId} {z : Value} {bytes : Nat} [ht : TElem P T z bytes] (h1 : z.oneCell' = true) (hc : z.cells = #[z]) : LOp P ⟨d, .alloc T, ty, pos, af, g⟩ env os (.optr os.length 0) env (os ++ [.bx T [.val z]]) := by
  refine l_block fun base w gs tm hr => ?_
  obtain ⟨ii, hi, hs, hz, _⟩ := ht.info
  refine ⟨[z], by simp [execOp, Instr.alloc, zeroValue, typeInfo, hi, hz, newVar, newRow, hc], rfl, by simpa using h1, fun i => ?_⟩
  match i with
  | 0 => exact .val _
  | i + 1 => exact .any _

/-! ### New slices -/
theorem l_new {o : Oper} {obj : AO}
    (h : ∀ base w gs tm, Rel base w gs env os tm → ∃ w' gh, (execOp (Act.eval ⟨tm, []⟩) o).run P w = .ok (.value gh.v) w' ∧ Below w.heap.size w w' ∧ (∀ b, b ∈ gh.bl → w.heap.size ≤ b ∧ b < w'.heap.size) ∧ ∀ ok gs', RO base w' ok gs' gh obj) :
    LOp P o env os (.own os.length) env (os ++ [obj]) := by
  intro base w gs tm hr
  obtain ⟨w', gh, h1, h2, h3, h4⟩ := h base w gs tm hr
  refine ⟨gh.v, w', gs ++ [gh], .inl h1, hr.new h2 obj gh (fun _ => h3) (h4 _ _), ?_, h2.mono hr.hb⟩
  have := RV.own (w := w') (ok := okOf (gs ++ [gh]) (os ++ [obj])) (len_new (gs := gs) (g := gh))
  rw [hr.hl] at this
  exact this

theorem l_make_int {t e : TypeId} {bytes : Nat} [ht : TSlice P t e] [he : TElem P e (.int .i64 0) bytes] {x y : Operand} {n : Int} (hx : AV.ev env x = .i n) (hy : AV.ev env y = .i n) (h0 : 0 ≤ n) (hb : (bytes : Int) * n ≤ 281474976710656) (hm : n ≤ 9223372036854775807) :
    LOp P ⟨d, .makeSlice t x y, ty, pos, af, g⟩ env os (.own os.length) env (os ++ [.sli e (List.replicate n.toNat 0)]) := by
  refine l_new fun base w gs tm hr => ?_
  obtain ⟨ii, hi, hs, hz, hby⟩ := he.info
  obtain ⟨m, rfl⟩ := Int.eq_ofNat_of_zero_le h0
  have hb' : ii.bytes * m ≤ 281474976710656 := by
    have : ((bytes * m : Nat) : Int) ≤ 281474976710656 := by rw [Int.natCast_mul]; exact hb
    rw [hby]; omega
  obtain ⟨w', h1, h2, h3⟩ := run_make_full (P := P) w base t e ii _ 1 ht.und hi hz hs .i64 .i64 m hb' (by simp [maxLen]; omega) hr.hb
  have hbel : Below w.heap.size w w' := (Below.refl _ _).grown h3 (Nat.le_refl _) (fun k hk => by cases hk)
  have hlt := h2.lt w.heap.size rfl
  refine ⟨w', ⟨.slice (some ⟨w.heap.size, 0, none⟩) m m, w.heap.size, [w.heap.size], []⟩, by simp only [execOp, hr.evv hx, hr.evv hy, Sem.run_bind, h1, Result.andThen_ok, Sem.run_pure], hbel,
    fun b hb => by simp at hb; omega, fun ok gs' => ⟨?_, fun x hx => by rw [List.eq_of_mem_replicate hx]; unfold inI; omega, .inr ⟨rfl, rfl⟩⟩⟩
  rw [show (Value.int IntKind.i64 0).cells = #[.int .i64 0] from rfl, toList_madeCells_one] at h2
  simpa using h2

theorem l_make_rows {t e : TypeId} {bytes : Nat} [ht : TSlice P t e] [he : TElem P e (.slice none 0 0) bytes] (e2 : TypeId) {x y : Operand} {n : Int} (hx : AV.ev env x = .i n) (hy : AV.ev env y = .i n) (h0 : 0 ≤ n) (hb : (bytes : Int) * n ≤ 281474976710656) (hm : n ≤ 9223372036854775807) :
    LOp P ⟨d, .makeSlice t x y, ty, pos, af, g⟩ env os (.own os.length) env (os ++ [.sls e e2 (List.replicate n.toNat [])]) := by
  refine l_new fun base w gs tm hr => ?_
  obtain ⟨ii, hi, hs, hz, hby⟩ := he.info
  obtain ⟨m, rfl⟩ := Int.eq_ofNat_of_zero_le h0
  have hb' : ii.bytes * m ≤ 281474976710656 := by
    have : ((bytes * m : Nat) : Int) ≤ 281474976710656 := by rw [Int.natCast_mul]; exact hb
    rw [hby]; omega
  obtain ⟨w', h1, h2, h3⟩ := run_make_full (P := P) w base t e ii _ 1 ht.und hi hz hs .i64 .i64 m hb' (by simp [maxLen]; omega) hr.hb
  have hbel : Below w.heap.size w w' := (Below.refl _ _).grown h3 (Nat.le_refl _) (fun k hk => by cases hk)
  have hlt := h2.lt w.heap.size rfl
  rw [show (Value.slice none 0 0).cells = #[.slice none 0 0] from rfl, toList_madeCells_one] at h2
  refine ⟨w', ⟨.slice (some ⟨w.heap.size, 0, none⟩) m m, w.heap.size, [w.heap.size], List.replicate m (.slice none 0 0)⟩, by simp only [execOp, hr.evv hx, hr.evv hy, Sem.run_bind, h1, Result.andThen_ok, Sem.run_pure], hbel,
    fun b hb => by simp at hb; omega, fun ok gs' => ⟨List.replicate m (.slice none 0 0), List.replicate m [], [w.heap.size], by simpa using h2, by simp, by simp, rfl, fun i u hu => ?_, .inr ⟨rfl, rfl⟩, by simp, by simp⟩⟩
  have hu' : u = .slice none 0 0 := List.eq_of_mem_replicate (List.mem_of_getElem? hu)
  have e0 : (List.replicate m ([] : List Int)).getD i [] = [] := by simp [List.getD_eq_getElem?_getD, List.getElem?_replicate]; split <;> rfl
  have e1 : (List.replicate m ([] : List Nat)).getD i [] = [] := by simp [List.getD_eq_getElem?_getD, List.getElem?_replicate]; split <;> rfl
  subst hu'
  rw [Int.toNat_natCast, e0, e1]
  exact ⟨World.ownsRow_nil _ _ _ _, fun x hx => (by cases hx), rfl⟩

/-! ### Stores -/
theorem run_store_cell {t : TypeId} [ht : TCell P t] {a : Addr} {u v : Value} {w : World} (hc : w.cell? a = some u) (hf : w.frozen? a = false) (h1 : v.oneCell' = true) (hv : v.cells = #[v]) :
    (Instr.storeAt t (.pointer (some a)) v).run P w = .ok () (w.setCell a v) := by
  obtain ⟨ii, hi, hs⟩ := ht.info
  have hst := run_store P w a v .plain h1
  simp only [hc, hf] at hst
  simp only [Instr.storeAt, Instr.sureAddr, storeVar, sizeOf, typeInfo, hi, hs, hv, storeCells, Sem.run_bind, Sem.run_pure, Result.andThen_ok, run_program, Addr.add_zero', Sem.run_ite]
  simp [hst]

theorem l_store_sli {t : TypeId} [ht : TCell P t] {x y : Operand} {h i : Nat} {e : TypeId} {xs : List Int} {n : Int} (hx : AV.ev env x = .optr h i) (hs : os[h]? = some (.sli e xs)) (hi : i < xs.length) (hy : AV.ev env y = .i n) (hn : inI n) :
    LOp P ⟨d, .store t x y, ty, pos, af, g⟩ env os .any env (os.set h (.sli e (xs.set i n))) := by
  intro base w gs tm hr
  have hh := hr.ev x
  rw [hx] at hh
  generalize hv : Act.eval ⟨tm, []⟩ x = v at hh
  cases hh with
  | @optr _ _ gh hg =>
    obtain ⟨a1, a2, a3⟩ := hr.ho _ _ _ hg hs
    obtain ⟨b, cap, e1, e2, e3, e4⟩ := own_slice a1 (i := i) (by simpa using hi)
    have eb := a3.eq e2
    rw [e1] at a1
    have hst := a1.stored i (.int .i64 n)
    have hcell : w.cell? ⟨gh.b, i, none⟩ = some (.int .i64 (xs.getD i 0)) := by rw [eb, e3]; simp [hi]
    have hbl : gh.bl = [gh.b] := by
      rcases a3 with ⟨h1, _⟩ | ⟨_, h2⟩
      · rw [h1] at e2; cases e2
      · exact h2
    have hother : ∀ c, c < w.heap.size → c ∉ gh.bl → (w.setCell ⟨b, i, none⟩ (.int .i64 n)).heap[c]? = w.heap[c]? := fun c hc hcb => hst.2.block c hc (fun e' => hcb (by rw [hbl, eb]; simpa using e'))
    refine ⟨undef, w.setCell ⟨b, i, none⟩ (.int .i64 n), gs, .inr ⟨?_, rfl⟩, hr.upd hg hs trivial _ trivial hother hst.2.size fun _ => ?_, .any _, ?_⟩
    · have := run_store_cell (P := P) (t := t) (a := ⟨gh.b, i, none⟩) hcell (by rw [eb]; exact e4) (v := .int .i64 n) rfl rfl
      rw [eb] at this hv
      simp only [execOp, hv, hr.evv hy, Sem.run_bind, this, Result.andThen_ok, Sem.run_pure]
    · refine ⟨?_, fun x hx => ?_, a3⟩
      · rw [e1]
        have := hst.1
        rw [List.length_set]
        simpa [List.map_set] using this
      · rcases List.mem_or_eq_of_mem_set hx with h1 | rfl
        · exact a2 x h1
        · exact hn
    · have hbb : base ≤ b := by rw [← eb]; exact (hr.hn _ _ _ hg hs (by simp) gh.b (by simp [hbl])).1
      exact (Below.refl _ _).setCell (p := ⟨b, i, none⟩) hbb _

/-- A value of one cell goes into a cell of a variable. -/
theorem l_store_bx {t : TypeId} [ht : TCell P t] {x y : Operand} {h i : Nat} {T : TypeId} {avs : List AV} {a : AV} (hx : AV.ev env x = .optr h i) (hs : os[h]? = some (.bx T avs)) (hi : i < avs.length) (hy : AV.ev env y = a)
    (h1 : ∀ base w gs tm, Rel base w gs env os tm → ∀ v, RV w (okOf gs os) gs v a → v.oneCell' = true ∧ v.cells = #[v]) :
    LOp P ⟨d, .store t x y, ty, pos, af, g⟩ env os .any env (os.set h (.bx T (avs.set i a))) := by
  intro base w gs tm hr
  have hh := hr.ev x
  have hyv := hr.ev y
  rw [hx] at hh
  rw [hy] at hyv
  generalize hv : Act.eval ⟨tm, []⟩ x = v at hh
  generalize hu : Act.eval ⟨tm, []⟩ y = u at hyv
  obtain ⟨o1, o2⟩ := h1 base w gs tm hr u hyv
  cases hh with
  | @optr _ _ gh hg =>
    obtain ⟨cs, a1, a2, a3, a4, a5, a6, a7⟩ := hr.ho _ _ _ hg hs
    have hic : i < cs.length := by omega
    have hcell : w.cell? ⟨gh.b, i, none⟩ = some cs[i] := by rw [cell_of_row w _ i _ T (0, 0) a1]; simp [hic]
    have hother : ∀ c, c < w.heap.size → c ∉ gh.bl → (w.setCell ⟨gh.b, i, none⟩ u).heap[c]? = w.heap[c]? := fun c hc hcb => heap_setCell_other w ⟨gh.b, i, none⟩ c u (fun e' => hcb (by rw [a3]; simpa using e'))
    refine ⟨undef, w.setCell ⟨gh.b, i, none⟩ u, gs, .inr ⟨?_, rfl⟩, hr.upd hg hs trivial _ trivial hother (by simp) fun kp => ?_, .any _, (Below.refl _ _).setCell (p := ⟨gh.b, i, none⟩) a2 _⟩
    · have := run_store_cell (P := P) (t := t) (a := ⟨gh.b, i, none⟩) hcell (frozen_of_row w _ i _ T a1) (v := u) o1 o2
      simp only [execOp, hv, hu, Sem.run_bind, this, Result.andThen_ok, Sem.run_pure]
    · refine ⟨cs.set i u, ?_, a2, a3, a4, by simpa using a5, fun c hc => ?_, fun j => ?_⟩
      · rw [heap_setCell_same w gh.b i cs.toArray T u a1]; simp
      · rcases List.mem_or_eq_of_mem_set hc with h1 | rfl
        · exact a6 c h1
        · exact o1
      · have e1 : (cs.set i u).getD j undef = if j = i then u else cs.getD j undef := by
          simp only [List.getD_eq_getElem?_getD, List.getElem?_set]
          by_cases e : i = j
          · subst e; simp [hic]
          · have e' : ¬ j = i := fun h => e h.symm
            simp [e, e']
        have e2 : (avs.set i a).getD j .any = if j = i then a else avs.getD j .any := by
          rw [getD_set]; simp [hi]
        rw [e1, e2]
        split
        · exact hyv.mono kp (fun _ _ e => e)
        · exact (a7 j).mono kp (fun _ _ e => e)

theorem one_val {v : Value} (h1 : v.oneCell' = true) (h2 : v.cells = #[v]) : ∀ base w gs tm, Rel base w gs env os tm → ∀ u, RV w (okOf gs os) gs u (.val v) → u.oneCell' = true ∧ u.cells = #[u] := by
  intro base w gs tm hr u hu
  cases hu
  exact ⟨h1, h2⟩
theorem one_ints {xs : List Int} : ∀ base w gs tm, Rel base w gs env os tm → ∀ u, RV w (okOf gs os) gs u (.ints xs) → u.oneCell' = true ∧ u.cells = #[u] := by
  intro base w gs tm hr u hu
  cases hu with | ints h => obtain ⟨⟨a, cap, rfl, _⟩, _⟩ := h; exact ⟨rfl, rfl⟩
theorem one_intss {xss : List (List Int)} : ∀ base w gs tm, Rel base w gs env os tm → ∀ u, RV w (okOf gs os) gs u (.intss xss) → u.oneCell' = true ∧ u.cells = #[u] := by
  intro base w gs tm hr u hu
  cases hu with | intss h => obtain ⟨vs, ⟨a, cap, rfl, _⟩, _⟩ := h; exact ⟨rfl, rfl⟩
theorem one_own {h : Nat} {o : AO} (hs : os[h]? = some o) (hn : o.live) : ∀ base w gs tm, Rel base w gs env os tm → ∀ u, RV w (okOf gs os) gs u (.own h) → u.oneCell' = true ∧ u.cells = #[u] := by
  intro base w gs tm hr u hu
  cases hu with
  | own hg =>
    have ho := hr.ho _ _ _ hg hs
    cases o with
    | dead => exact hn.elim
    | keep n K => exact hn.elim
    | ob q => exact q.one ho
    | sli e xs => obtain ⟨a, cap, e1⟩ := ownsRow_slice ho.1; rw [e1]; exact ⟨rfl, rfl⟩
    | slr e xss => obtain ⟨vs, h1, _⟩ := ho; obtain ⟨a, cap, e1⟩ := ownsRow_slice h1; rw [e1]; exact ⟨rfl, rfl⟩
    | sls e e2 xss => obtain ⟨vs, bs, mb, h1, _⟩ := ho; obtain ⟨a, cap, e1⟩ := ownsRow_slice h1; rw [e1]; exact ⟨rfl, rfl⟩
    | bx T avs => obtain ⟨cs, h1, h2, h3, h4, _⟩ := ho; rw [h4]; exact ⟨rfl, rfl⟩

/-- A whole struct goes into its variable. -/
theorem l_store_str {t : TypeId} {n : Nat} {zs : List Value} [ht : TStruct P t n zs] {x y : Operand} {h : Nat} {T : TypeId} {avs l : List AV} (hx : AV.ev env x = .optr h 0) (hs : os[h]? = some (.bx T avs)) (hn : avs.length = n) (hy : AV.ev env y = .agg l) (hl : l.length = n) :
    LOp P ⟨d, .store t x y, ty, pos, af, g⟩ env os .any env (os.set h (.bx T l)) := by
  intro base w gs tm hr
  have hh := hr.ev x
  have hyv := hr.ev y
  rw [hx] at hh
  rw [hy] at hyv
  generalize hv : Act.eval ⟨tm, []⟩ x = v at hh
  generalize hu : Act.eval ⟨tm, []⟩ y = u at hyv
  cases hh with
  | @optr _ _ gh hg =>
    obtain ⟨cs, a1, a2, a3, a4, a5, a6, a7⟩ := hr.ho _ _ _ hg hs
    cases hyv with
    | @agg vs _ b1 b2 b3 =>
      obtain ⟨ii, hi, hsz, _⟩ := ht.info
      have hrun := run_storeVar_row (P := P) w gh.b T t cs.toArray vs.toArray a1 (by rw [hi]; simp [hsz, b1, hl]) (by simp; omega) (by simpa [Array.all_eq_true] using b2)
      have hset := setRow_heap w gh.b cs.toArray vs.toArray T (0, 0) a1
      have hother : ∀ c, c < w.heap.size → c ∉ gh.bl → (w.setRow gh.b vs.toArray).heap[c]? = w.heap[c]? := fun c hc hcb => setRow_other w gh.b c _ (fun e' => hcb (by rw [a3]; simpa using e'))
      refine ⟨undef, w.setRow gh.b vs.toArray, gs, .inr ⟨?_, rfl⟩, hr.upd hg hs trivial _ trivial hother (by simp) fun kp => ?_, .any _, below_setRow (Below.refl _ _) a2 _⟩
      · simp only [execOp, hv, hu, Instr.storeAt, Instr.sureAddr, Sem.run_bind, Sem.run_pure, Result.andThen_ok, hrun]
      · exact ⟨vs, hset, a2, a3, a4, b1, b2, fun j => (b3 j).mono kp (fun _ _ e => e)⟩
end

end Go.Proofs.YtfgnccoaebkckaaDoor
