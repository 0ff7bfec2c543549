/-
  Maps from numbers to rows, all of it own memory; functions that write to such an object in its place. No condition.
-/
import Derived.Test.YtifkgmbghcmdeaaAmMore12
namespace Go.Proofs.Ytifkgmbghcmdeaa
open Go Go.RowKit
open Go.ChangeMaps (setBlock)

abbrev Rws := List (Int × List Int)
def rwAt (L : Rws) (i : Nat) : List Int := (L.getD i (0, [])).2
def fndR (L : Rws) (k : Int) : Option Nat := L.findIdx? fun t => decide (t.1 = k)
/-- A map from numbers to rows; 'pb': the block in which it lies, if that is to be known. -/
def EchP (pb : Option Nat) (e2 : TypeId) (L : Rws) (base : Nat) (w : World) (g : Gh) : Prop :=
  ∃ (es : Array MapEntry) (clock : Nat) (vs : List Value) (bs : List (List Nat)), w.heap[g.b]? = some (.map es clock) ∧ base ≤ g.b ∧ g.v = .map (some g.b) ∧ (∀ b, pb = some b → g.b = b) ∧
    es.toList.map (fun e => (e.key, e.val)) = List.zipWith (fun (t : Int × List Int) (v : Value) => (Value.int .i64 t.1, v)) L vs ∧ vs.length = L.length ∧ bs.length = L.length ∧ g.rows = vs ∧
    (∀ (i : Nat) u, vs[i]? = some u → w.ownsRow base e2 1 u (rwAt L i).length ((rwAt L i).map (Value.int .i64)) ∧ (∀ x ∈ rwAt L i, inI x) ∧ u.ownBlock.toList = bs.getD i []) ∧
    g.bl = [g.b] ++ bs.flatten ∧ g.bl.Nodup
theorem ech_row {bs : List (List Nat)} {b i : Nat} {l : List Nat} {u : Value} (hbl : l = [b] ++ bs.flatten) (h : u.ownBlock.toList = bs.getD i []) (hi : i < bs.length) {c : Nat} (hc : u.ownBlock = some c) : c ∈ l := by
  rw [hbl]
  refine List.mem_append.2 (.inr (List.mem_flatten.2 ⟨bs.getD i [], ?_, by rw [← h, hc]; simp⟩))
  rw [List.getD_eq_getElem?_getD, List.getElem?_eq_getElem hi]
  simp
def echOb (pb : Option Nat) (e2 : TypeId) (L : Rws) : Ob where
  p := EchP pb e2 L
  up {base w w' g} hb h := by
    obtain ⟨es, clock, vs, bs, h1, h2, h3, h3', h4, h5, h6, h7, h8, h9, h10⟩ := h
    refine ⟨es, clock, vs, bs, by rw [hb g.b (by rw [h9]; simp)]; exact h1, h2, h3, h3', h4, h5, h6, h7, fun i u hu => ?_, h9, h10⟩
    obtain ⟨r1, r2, r3⟩ := h8 i u hu
    have hi := (List.getElem?_eq_some_iff.1 hu).1
    exact ⟨ownsRow_of_block r1 fun c hc => hb c (ech_row h9 r3 (by omega) hc), r2, r3⟩
  lower hl h := by
    obtain ⟨es, clock, vs, bs, h1, h2, h3, h3', h4, h5, h6, h7, h8, h9, h10⟩ := h
    refine ⟨es, clock, vs, bs, h1, Nat.le_trans hl h2, h3, h3', h4, h5, h6, h7, fun i u hu => ?_, h9, h10⟩
    obtain ⟨r1, r2, r3⟩ := h8 i u hu
    refine ⟨⟨r1.1, r1.2.imp id ?_⟩, r2, r3⟩
    rintro ⟨g, cap, cur, e1, e2, r⟩
    exact ⟨g, cap, cur, e1, Nat.le_trans hl e2, r⟩
  one h := by
    obtain ⟨es, clock, vs, bs, h1, h2, h3, _⟩ := h
    rw [h3]; exact ⟨rfl, rfl⟩
theorem ech_pin {pb : Option Nat} {e2 : TypeId} {L : Rws} {base : Nat} {w : World} {g : Gh} (h : (echOb pb e2 L).p base w g) : (echOb (some g.b) e2 L).p base w g := by
  obtain ⟨es, clock, vs, bs, h1, h2, h3, h3', r⟩ := h
  exact ⟨es, clock, vs, bs, h1, h2, h3, fun b hb => by cases hb; rfl, r⟩
theorem ech_unpin {b : Nat} {e2 : TypeId} {L : Rws} {base : Nat} {w : World} {g : Gh} (h : (echOb (some b) e2 L).p base w g) : (echOb none e2 L).p base w g ∧ g.b = b ∧ g.v = .map (some b) := by
  obtain ⟨es, clock, vs, bs, h1, h2, h3, h3', r⟩ := h
  have := h3' b rfl
  exact ⟨⟨es, clock, vs, bs, h1, h2, h3, fun b hb => (by cases hb), r⟩, this, by rw [← this]; exact h3⟩

section
variable {P : Program}
theorem run_echfind {kt : TypeId} [hk : TKind P kt .i64] (k : Int) (w : World) (es : List MapEntry) (L : Rws) (vs : List Value) (hl : vs.length = L.length)
    (h : es.map (fun e => (e.key, e.val)) = List.zipWith (fun (t : Int × List Int) (v : Value) => (Value.int .i64 t.1, v)) L vs) :
    (Instr.findKey kt (.int .i64 k) es).run P w = .ok (match fndR L k with | some i => some (i, vs.getD i undef) | none => none) w := by
  have key : ∀ (es : List MapEntry) (L : Rws) (vs : List Value) (n : Nat), vs.length = L.length → es.map (fun e => (e.key, e.val)) = List.zipWith (fun (t : Int × List Int) (v : Value) => (Value.int .i64 t.1, v)) L vs →
      Instr.findNow (.int .i64) (.int .i64 k) es n = some (match fndR L k with | some i => some (n + i, vs.getD i undef) | none => none) := by
    intro es
    induction es with
    | nil =>
      intro L vs n hl h
      match L, vs, hl with
      | [], [], _ => rfl
      | a :: L, b :: vs, _ => simp at h
    | cons x es ih =>
      intro L vs n hl h
      match L, vs, hl with
      | [], [], _ => simp at h
      | a :: L, b :: vs, hl =>
        simp only [List.map_cons, List.zipWith_cons_cons, List.cons.injEq, Prod.mk.injEq] at h
        obtain ⟨⟨h1, h2⟩, h3⟩ := h
        simp only [Instr.findNow, h1, Instr.sameNow, if_true]
        unfold fndR
        rw [List.findIdx?_cons]
        by_cases e : a.1 = k
        · have : (k == a.1) = true := by simp [e]
          simp [e, h2]
        · have : (k == a.1) = false := by simp; exact fun e' => e e'.symm
          have ih' := ih L vs (n + 1) (by simpa using hl) h3
          simp only [this, ih', e, decide_false, Bool.false_eq_true, if_false]
          unfold fndR
          cases L.findIdx? fun t => decide (t.1 = k) with
          | none => rfl
          | some i => simp [Nat.add_comm, Nat.add_left_comm]
  unfold Instr.findKey
  have := key es L vs 0 hl h
  simp only [Nat.zero_add] at this
  simp only [Sem.run_bind, run_underlying hk.und, Result.andThen_ok, this, Sem.run_pure]
theorem run_echcheck {kt : TypeId} [hk : TKind P kt .i64] (c : Bool) (k : Int) (w : World) : (Instr.checkKey c 10000 kt (.int .i64 k)).run P w = .ok () w := by
  rw [show (10000 : Nat) = 9999 + 1 from rfl]
  unfold Instr.checkKey
  simp only [Sem.run_bind, run_underlying hk.und, Result.andThen_ok, Sem.run_pure]
end

section
variable {P : Program} {wl : Bool} {env : Env} {os : List AO} {d : Option Tmp} {ty : TypeId} {pos : String} {af : Array Edge} {g : Option (Nat × Bool)}

theorem l_echmake {T kt ve e2 : TypeId} [TMap P T kt ve] [TSlice P ve e2] : LOp P ⟨d, .makeMap T none, ty, pos, af, g⟩ env os (.own os.length) env (os ++ [.ob (echOb none e2 [])]) := by
  intro base w gs tm hr
  refine ⟨.map (some w.heap.size), w.alloc (.map #[] 0), gs ++ [⟨.map (some w.heap.size), w.heap.size, [w.heap.size], []⟩], .inl ?_, hr.new (below_alloc w _) _ _ (fun _ b hb => by simp at hb; simp [hb]) ?_, ?_, (below_alloc w _).mono hr.hb⟩
  · simp [execOp, Instr.makeMap]
  · exact ⟨#[], 0, [], [], heap_alloc_new w _, hr.hb, rfl, fun b hb => (by cases hb), rfl, rfl, rfl, rfl, fun i u hu => (by simp at hu), rfl, by simp⟩
  · have := RV.own (w := w.alloc (.map #[] 0)) (ok := okOf (gs ++ [⟨.map (some w.heap.size), w.heap.size, [w.heap.size], []⟩]) (os ++ [.ob (echOb none e2 [])])) (len_new (gs := gs) (g := ⟨.map (some w.heap.size), w.heap.size, [w.heap.size], []⟩))
    rw [hr.hl] at this
    exact this

/-- A row that is there. -/
theorem q_echhit {T kt ve : TypeId} [hT : TMap P T kt ve] [TKind P kt .i64] {m k : Operand} {h i : Nat} {pb : Option Nat} {e2 : TypeId} {L : Rws} {n : Int} (hm : AV.ev env m = .own h) (hs : os[h]? = some (.ob (echOb pb e2 L))) (hk : AV.ev env k = .i n) (hf : fndR L n = some i) :
    QOp P false ⟨d, .lookup T m k true, ty, pos, af, g⟩ env os (.tup [.orow h i, .b true]) :=
  .of_runb fun base w gs tm hr => by
    have hh := hr.ev m
    rw [hm] at hh
    generalize hu : Act.eval ⟨tm, []⟩ m = u at hh
    cases hh with
    | @own _ gh hg =>
      obtain ⟨es, clock, vs, bs, h1, h2, h3, h3', h4, h5, h6, h7, h8, h9, h10⟩ := hr.ho _ _ _ hg hs
      have hi : i < vs.length := by rw [h5]; exact (List.findIdx?_eq_some_iff_getElem.1 hf).1
      refine ⟨.tuple [vs[i], .bool true].toArray, .tup rfl (rv_list rfl fun j hj => ?_), fun w' hw' => ?_⟩
      · match j, hj with
        | 0, _ => exact .orow hg (by rw [h7]; exact List.getElem?_eq_getElem hi)
        | 1, _ => exact .val _
      · have hb1 := (hw'.block _ (Array.getElem?_eq_some_iff.1 h1).1).trans h1
        have hfd := run_echfind (P := P) (kt := kt) n w' es.toList L vs h5 h4
        have e : vs.getD i undef = vs[i] := by simp [List.getD_eq_getElem?_getD, hi]
        simp only [hf, e] at hfd
        simp only [execOp, hu, h3, hr.evv hk, Instr.lookup, Sem.run_bind, run_underlying hT.und, Result.andThen_ok, MapKept.run_getObj_map hb1, Sem.run_pure, run_echcheck (P := P) (kt := kt), hfd, if_true]
/-- A row that is not there. -/
theorem q_echmiss {T kt ve : TypeId} {bb : Nat} [hT : TMap P T kt ve] [TKind P kt .i64] [hz : TElem P ve (.slice none 0 0) bb] {m k : Operand} {h : Nat} {pb : Option Nat} {e2 : TypeId} {L : Rws} {n : Int} (hm : AV.ev env m = .own h) (hs : os[h]? = some (.ob (echOb pb e2 L))) (hk : AV.ev env k = .i n) (hf : fndR L n = none) :
    QOp P false ⟨d, .lookup T m k true, ty, pos, af, g⟩ env os (.tup [.val (.slice none 0 0), .b false]) :=
  .of_runb fun base w gs tm hr => by
    have hh := hr.ev m
    rw [hm] at hh
    generalize hu : Act.eval ⟨tm, []⟩ m = u at hh
    cases hh with
    | @own _ gh hg =>
      obtain ⟨es, clock, vs, bs, h1, h2, h3, h3', h4, h5, h6, h7, h8, h9, h10⟩ := hr.ho _ _ _ hg hs
      obtain ⟨ii, hi, _, hzz, _⟩ := hz.info
      refine ⟨.tuple [.slice none 0 0, .bool false].toArray, .tup rfl (rv_list rfl fun j hj => ?_), fun w' hw' => ?_⟩
      · match j, hj with
        | 0, _ => exact .val _
        | 1, _ => exact .val _
      · have hb1 := (hw'.block _ (Array.getElem?_eq_some_iff.1 h1).1).trans h1
        have hfd := run_echfind (P := P) (kt := kt) n w' es.toList L vs h5 h4
        simp only [hf] at hfd
        simp [execOp, hu, h3, hr.evv hk, Instr.lookup, Sem.run_bind, run_underlying hT.und, Result.andThen_ok, MapKept.run_getObj_map hb1, Sem.run_pure, run_echcheck (P := P) (kt := kt), hfd, zeroValue, typeInfo, hi, hzz]
theorem q_echlen {t e : TypeId} [ht : TSlice P t e] {x : Operand} {h j : Nat} {pb : Option Nat} {e2 : TypeId} {L : Rws} (hx : AV.ev env x = .orow h j) (hs : os[h]? = some (.ob (echOb pb e2 L))) :
    QOp P wl ⟨d, .call { callee := .builtin .len, args := #[x], argTypes := #[t] }, ty, pos, af, g⟩ env os (.i (rwAt L j).length) :=
  .of_run fun _ w gs tm hr => by
    have hh := hr.ev x
    rw [hx] at hh
    generalize hv : Act.eval ⟨tm, []⟩ x = v at hh
    cases hh with
    | orow hg hrow =>
      obtain ⟨es, clock, vs, bs, h1, h2, h3, h3', h4, h5, h6, h7, h8, h9, h10⟩ := hr.ho _ _ _ hg hs
      rw [h7] at hrow
      obtain ⟨r1, _⟩ := h8 _ _ hrow
      obtain ⟨a, cap, e1⟩ := ownsRow_slice r1
      refine ⟨_, .val _, fun w' _ => ?_⟩
      simp [execOp, resolve, invoke, builtin, hv, e1, Builtin.len_, run_underlying ht.und, goInt]
theorem q_echidx {t e : TypeId} [ht : TSlice P t e] [he : TCell P e] {x y : Operand} {h j : Nat} {pb : Option Nat} {e2 : TypeId} {L : Rws} {i : Int} (hx : AV.ev env x = .orow h j) (hs : os[h]? = some (.ob (echOb pb e2 L))) (hy : AV.ev env y = .i i)
    (h0 : 0 ≤ i) (h1 : i < (rwAt L j).length) : QOp P wl ⟨d, .indexAddr t x y, ty, pos, af, g⟩ env os (.orptr h j i.toNat) :=
  .of_run fun _ w gs tm hr => by
    have hh := hr.ev x
    rw [hx] at hh
    generalize hv : Act.eval ⟨tm, []⟩ x = v at hh
    cases hh with
    | orow hg hrow =>
      have hrow' := hrow
      obtain ⟨es, clock, vs, bs, p1, p2, p3, p3', p4, p5, p6, p7, p8, p9, p10⟩ := hr.ho _ _ _ hg hs
      rw [p7] at hrow'
      obtain ⟨r1, _⟩ := p8 _ _ hrow'
      obtain ⟨b, cap, e1, _⟩ := own_slice r1 (i := i.toNat) (by rw [List.length_map]; omega)
      rw [e1] at hrow
      refine ⟨_, .orptr hg hrow, fun w' _ => ?_⟩
      obtain ⟨ie, hi, hs1⟩ := he.info
      have hrun := run_idx ht.und hi hs1 ⟨b, 0, none⟩ _ cap i h0 h1 w'
      simp only [execOp, hv, e1, hr.evv hy, Sem.run_bind, hrun, add_none, Nat.zero_add, Result.andThen_ok, Sem.run_pure]
theorem q_echld {t : TypeId} [ht : TCell P t] {x : Operand} {h i j : Nat} {pb : Option Nat} {e2 : TypeId} {L : Rws} (hx : AV.ev env x = .orptr h i j) (hs : os[h]? = some (.ob (echOb pb e2 L))) (hj : j < (rwAt L i).length) :
    QOp P false ⟨d, .load t x, ty, pos, af, g⟩ env os (.i (geti (rwAt L i) j)) :=
  .of_runb fun _ w gs tm hr => by
    have hh := hr.ev x
    rw [hx] at hh
    generalize hv : Act.eval ⟨tm, []⟩ x = v at hh
    cases hh with
    | @orptr _ _ _ blk n c gh hg hrow =>
      obtain ⟨es, clock, vs, bs, p1, p2, p3, p3', p4, p5, p6, p7, p8, p9, p10⟩ := hr.ho _ _ _ hg hs
      rw [p7] at hrow
      obtain ⟨r1, _⟩ := p8 _ _ hrow
      obtain ⟨b, cap, e1, e2', e3, _⟩ := own_slice r1 (i := j) (by simpa using hj)
      simp only [Value.slice.injEq, Option.some.injEq, Addr.mk.injEq, and_true] at e1
      obtain ⟨rfl, _, _⟩ := e1
      refine ⟨_, .val _, fun w' hw' => ?_⟩
      have hcell := below_cell hw' (u := .int .i64 (geti (rwAt L i) j)) (by rw [e3]; generalize rwAt L i = row at hj ⊢; simp [geti, hj])
      simp only [execOp, hv, Sem.run_bind, run_load_cell hcell, Result.andThen_ok, Sem.run_pure]

theorem zip_snoc {α β γ : Type} (f : α → β → γ) : ∀ (l : List α) (m : List β) (a : α) (b : β), m.length = l.length → List.zipWith f (l ++ [a]) (m ++ [b]) = List.zipWith f l m ++ [f a b]
  | [], [], _, _, _ => rfl
  | x :: l, y :: m, a, b, h => by simp [zip_snoc f l m a b (by simpa using h)]
  | [], _ :: _, _, _, h => by simp at h
  | _ :: _, [], _, _, h => by simp at h
set_option maxHeartbeats 1000000 in
/-- A row is laid under a number that is not there. -/
theorem l_echset {T kt ve : TypeId} [hT : TMap P T kt ve] [TKind P kt .i64] {m k v : Operand} {h r : Nat} {pb : Option Nat} {e2 e3 : TypeId} {L : Rws} {n : Int} {xs : List Int} (hm : AV.ev env m = .own h) (hs : os[h]? = some (.ob (echOb pb e2 L))) (hk : AV.ev env k = .i n) (hv : AV.ev env v = .own r)
    (hr0 : os[r]? = some (.sli e3 xs)) (he : e3 = e2) (hne : h ≠ r) (hf : fndR L n = none) :
    LOp P ⟨d, .mapUpdate T m k v, ty, pos, af, g⟩ env os .any (env.mp (AV.rin r h L.length)) (((os.map (AO.via (AV.rin r h L.length) h)).set h (.ob (echOb pb e2 (L ++ [(n, xs)])))).set r .dead) := by
  subst he
  intro base w gs tm hr
  have hh := hr.ev m
  rw [hm] at hh
  have hvv := hr.ev v
  rw [hv] at hvv
  generalize hu : Act.eval ⟨tm, []⟩ m = u at hh
  generalize hu2 : Act.eval ⟨tm, []⟩ v = u2 at hvv
  cases hh with
  | @own _ gh hg =>
  cases hvv with
  | @own _ gk hgk =>
    obtain ⟨es, clock, vs, bs, p1, p2, p3, p3', p4, p5, p6, p7, p8, p9, p10⟩ := hr.ho _ _ _ hg hs
    obtain ⟨b1, b2, b3⟩ := hr.ho _ _ _ hgk hr0
    have hfd := run_echfind (P := P) (kt := kt) n w es.toList L vs p5 p4
    simp only [hf] at hfd
    let w' := setBlock w gh.b (.map (es.push ⟨.int .i64 n, gk.v, clock⟩) (clock + 1))
    have hlt : gh.b < w.heap.size := (Array.getElem?_eq_some_iff.1 p1).1
    let g' : Gh := ⟨gh.v, gh.b, [gh.b] ++ (bs ++ [gk.bl]).flatten, vs ++ [gk.v]⟩
    have hhg : h < gs.length := (List.getElem?_eq_some_iff.1 hg).1
    have hdis : ∀ b, b ∈ gk.bl → b ∉ gh.bl := fun b hb => hr.hd r h gk gh _ _ (fun e => hne e.symm) hgk hg hr0 hs (by simp) (by simp) b hb
    have hblk : ∀ b, b ∈ gk.bl → b < w.heap.size := fun b hb => (hr.hn _ _ _ hgk hr0 (by simp) b hb).2
    have hbl0 : ∀ b, b ∈ gh.bl → b < w.heap.size := fun b hb => (hr.hn _ _ _ hg hs (by simp) b hb).2
    have hsz : w'.heap.size = w.heap.size := by simp [w', setBlock]
    have hmem : gh.b ∈ gh.bl := by rw [p9]; simp
    have sv : RowIn h r L.length gs (gs.set h g') := by
      refine ⟨fun j z hj hz => ?_, fun z hz => ⟨g', by simp [hhg], fun i u hiu => ?_⟩, fun z hz => ⟨g', by simp [hhg], ?_⟩⟩
      · rw [List.getElem?_set, if_neg (fun e => hj e.symm)]; exact hz
      · rw [hg] at hz; cases hz
        rw [p7] at hiu
        show (vs ++ [gk.v])[i]? = some u
        rw [List.getElem?_append_left (List.getElem?_eq_some_iff.1 hiu).1]; exact hiu
      · rw [hgk] at hz; cases hz
        show (vs ++ [gk.v])[L.length]? = some gk.v
        rw [← p5]; simp
    have keep : ∀ c, c ≠ gh.b → w'.heap[c]? = w.heap[c]? := fun c hc => setBlock_other _ _ _ _ hc
    have nd1 : ([gh.b] ++ bs.flatten).Nodup := by rw [← p9]; exact p10
    have hgb : gh.b ∉ bs.flatten := by
      rw [List.singleton_append, List.nodup_cons] at nd1; exact nd1.1
    refine ⟨undef, w', gs.set h g', .inr ⟨?_, rfl⟩, hr.absorb hg hs trivial hgk hr0 trivial hne g' _ (AV.rin r h L.length) rfl (fun b hb hn => keep b fun e => hn (e ▸ hmem)) (by rw [hsz]; exact Nat.le_refl _) ?_ (fun kp hv => hv.rin kp sv) ?_, .any _, setBlock_below (.inl rfl) p2⟩
    · unfold execOp
      simp only [hu, p3, hr.evv hk, hu2, Instr.mapUpdate, Sem.run_bind, run_underlying hT.und, Result.andThen_ok, MapKept.run_getObj_map p1, run_echcheck (P := P) (kt := kt), hfd, run_setmap p1, Sem.run_pure]
      rfl
    · intro b hb
      have hb' : b ∈ gh.bl ∨ b ∈ gk.bl := by
        rw [p9]
        simp only [g', List.flatten_append, List.mem_append] at hb ⊢
        rcases hb with hb | hb | hb
        · exact .inl (.inl hb)
        · exact .inl (.inr hb)
        · right
          simpa using hb
      refine ⟨?_, by rw [hsz]; rcases hb' with h1 | h1; exact hbl0 b h1; exact hblk b h1⟩
      rcases hb' with h1 | h1
      · exact .inl h1
      · exact .inr (.inl h1)
    · intro kp
      refine ⟨es.push ⟨.int .i64 n, gk.v, clock⟩, clock + 1, vs ++ [gk.v], bs ++ [gk.bl], setBlock_same _ _ _ hlt, p2, p3, p3', ?_, by simp [p5], by simp [p6], rfl, fun i u hiu => ?_, rfl, ?_⟩
      · rw [zip_snoc _ _ _ _ _ p5]
        simp [p4]
      · rw [List.getElem?_append] at hiu
        split at hiu
        · rename_i hi
          obtain ⟨r1, r2, r3⟩ := p8 i u hiu
          have e1 : rwAt (L ++ [(n, xs)]) i = rwAt L i := by
            unfold rwAt
            rw [List.getD_eq_getElem?_getD, List.getElem?_append_left (by omega), ← List.getD_eq_getElem?_getD]
          have e2 : (bs ++ [gk.bl]).getD i [] = bs.getD i [] := by
            rw [List.getD_eq_getElem?_getD, List.getElem?_append_left (by omega), ← List.getD_eq_getElem?_getD]
          rw [e1, e2]
          refine ⟨ownsRow_of_block r1 fun c hc => keep c fun e => ?_, r2, r3⟩
          subst e
          refine hgb (List.mem_flatten.2 ⟨bs.getD i [], ?_, by rw [← r3, hc]; simp⟩)
          rw [List.getD_eq_getElem?_getD, List.getElem?_eq_getElem (by omega)]
          simp
        · rename_i hi
          have hi0 : i - vs.length = 0 := by
            have := (List.getElem?_eq_some_iff.1 hiu).1
            simp at this; omega
          rw [hi0] at hiu
          simp at hiu
          subst hiu
          have ei : i = L.length := by omega
          have e1 : rwAt (L ++ [(n, xs)]) i = xs := by unfold rwAt; rw [ei]; simp [List.getD_eq_getElem?_getD]
          have e2 : (bs ++ [gk.bl]).getD i [] = gk.bl := by rw [ei, ← p6]; simp [List.getD_eq_getElem?_getD]
          rw [e1, e2]
          have hl1 : xs.length = (xs.map (Value.int .i64)).length := by simp
          refine ⟨ownsRow_of_block b1 fun c hc => keep c fun e => ?_, b2, ?_⟩
          · subst e
            exact hdis _ (b3.mem hc) hmem
          · exact b3.list
      · show ([gh.b] ++ (bs ++ [gk.bl]).flatten).Nodup
        rw [List.flatten_append, ← List.append_assoc]
        refine List.nodup_append.2 ⟨nd1, by simpa using b3.nodup, fun a ha b hb e => ?_⟩
        subst e
        rw [← p9] at ha
        exact hdis a (by simpa using hb) ha
end
end Go.Proofs.Ytifkgmbghcmdeaa
