/-
  Parts of the proof, one behind the other: contracts of functions and plain laws. No condition.
-/
import Derived.Test.YtifkgmbghcmdeaaPt2LocalCounts
/-
  Maps from numbers to rows, all of it own memory; functions that write to such an object in its place. No condition.
-/
namespace Go.Proofs.Ytifkgmbghcmdeaa
open Go Go.RowKit
open Go.ChangeMaps (setBlock)

abbrev Rws := List (Int × List Int)
def rwAt (L : Rws) (i : Nat) : List Int := (L.getD i (0, [])).2
def fndR (L : Rws) (k : Int) : Option Nat := L.findIdx? fun t => decide (t.1 = k)
/-- A map from numbers to rows; 'pb': the block in which it lies, if that is to be known. -/
def EchP (pb : Option Nat) (e2 : TypeId) (L : Rws) (base : Nat) (w : World) (g : Gh) : Prop :=
  ∃ (es : Array MapEntry) (clock : Nat) (vs : List Value) (bs : List (List Nat)), w.heap[g.b]? = some (.map es clock) ∧ base ≤ g.b ∧ g.v = .map (some g.b) ∧ (∀ b, pb = some b → g.b = b) ∧
    es.toList.map (fun e => (e.key, e.val)) = List.zipWith (fun (t : Int × List Int) (v : Value) => (Value.int .i64 t.1, v)) L vs ∧ vs.length = L.length ∧ bs.length = L.length ∧ g.rows = vs ∧
    (∀ (i : Nat) u, vs[i]? = some u → w.ownsRow base e2 1 u (rwAt L i).length ((rwAt L i).map (Value.int .i64)) ∧ (∀ x ∈ rwAt L i, inI x) ∧ u.ownBlock.toList = bs.getD i []) ∧
    g.bl = [g.b] ++ bs.flatten ∧ g.bl.Nodup
theorem ech_row {bs : List (List Nat)} {b i : Nat} {l : List Nat} {u : Value} (hbl : l = [b] ++ bs.flatten) (h : u.ownBlock.toList = bs.getD i []) (hi : i < bs.length) {c : Nat} (hc : u.ownBlock = some c) : c ∈ l := by
  rw [hbl]
  refine List.mem_append.2 (.inr (List.mem_flatten.2 ⟨bs.getD i [], ?_, by rw [← h, hc]; simp⟩))
  rw [List.getD_eq_getElem?_getD, List.getElem?_eq_getElem hi]
  simp
def echOb (pb : Option Nat) (e2 : TypeId) (L : Rws) : Ob where
  p := EchP pb e2 L
  up {base w w' g} hb h := by
    obtain ⟨es, clock, vs, bs, h1, h2, h3, h3', h4, h5, h6, h7, h8, h9, h10⟩ := h
    refine ⟨es, clock, vs, bs, by rw [hb g.b (by rw [h9]; simp)]; exact h1, h2, h3, h3', h4, h5, h6, h7, fun i u hu => ?_, h9, h10⟩
    obtain ⟨r1, r2, r3⟩ := h8 i u hu
    have hi := (List.getElem?_eq_some_iff.1 hu).1
    exact ⟨ownsRow_of_block r1 fun c hc => hb c (ech_row h9 r3 (by omega) hc), r2, r3⟩
  lower hl h := by
    obtain ⟨es, clock, vs, bs, h1, h2, h3, h3', h4, h5, h6, h7, h8, h9, h10⟩ := h
    refine ⟨es, clock, vs, bs, h1, Nat.le_trans hl h2, h3, h3', h4, h5, h6, h7, fun i u hu => ?_, h9, h10⟩
    obtain ⟨r1, r2, r3⟩ := h8 i u hu
    refine ⟨⟨r1.1, r1.2.imp id ?_⟩, r2, r3⟩
    rintro ⟨g, cap, cur, e1, e2, r⟩
    exact ⟨g, cap, cur, e1, Nat.le_trans hl e2, r⟩
  one h := by
    obtain ⟨es, clock, vs, bs, h1, h2, h3, _⟩ := h
    rw [h3]; exact ⟨rfl, rfl⟩
theorem ech_pin {pb : Option Nat} {e2 : TypeId} {L : Rws} {base : Nat} {w : World} {g : Gh} (h : (echOb pb e2 L).p base w g) : (echOb (some g.b) e2 L).p base w g := by
  obtain ⟨es, clock, vs, bs, h1, h2, h3, h3', r⟩ := h
  exact ⟨es, clock, vs, bs, h1, h2, h3, fun b hb => by cases hb; rfl, r⟩
theorem ech_unpin {b : Nat} {e2 : TypeId} {L : Rws} {base : Nat} {w : World} {g : Gh} (h : (echOb (some b) e2 L).p base w g) : (echOb none e2 L).p base w g ∧ g.b = b ∧ g.v = .map (some b) := by
  obtain ⟨es, clock, vs, bs, h1, h2, h3, h3', r⟩ := h
  have := h3' b rfl
  exact ⟨⟨es, clock, vs, bs, h1, h2, h3, fun b hb => (by cases hb), r⟩, this, by rw [← this]; exact h3⟩

section
variable {P : Program}
theorem run_echfind {kt : TypeId} [hk : TKind P kt .i64] (k : Int) (w : World) (es : List MapEntry) (L : Rws) (vs : List Value) (hl : vs.length = L.length)
    (h : es.map (fun e => (e.key, e.val)) = List.zipWith (fun (t : Int × List Int) (v : Value) => (Value.int .i64 t.1, v)) L vs) :
    (Instr.findKey kt (.int .i64 k) es).run P w = .ok (match fndR L k with | some i => some (i, vs.getD i undef) | none => none) w := by
  have key : ∀ (es : List MapEntry) (L : Rws) (vs : List Value) (n : Nat), vs.length = L.length → es.map (fun e => (e.key, e.val)) = List.zipWith (fun (t : Int × List Int) (v : Value) => (Value.int .i64 t.1, v)) L vs →
      Instr.findNow (.int .i64) (.int .i64 k) es n = some (match fndR L k with | some i => some (n + i, vs.getD i undef) | none => none) := by
    intro es
    induction es with
    | nil =>
      intro L vs n hl h
      match L, vs, hl with
      | [], [], _ => rfl
      | a :: L, b :: vs, _ => simp at h
    | cons x es ih =>
      intro L vs n hl h
      match L, vs, hl with
      | [], [], _ => simp at h
      | a :: L, b :: vs, hl =>
        simp only [List.map_cons, List.zipWith_cons_cons, List.cons.injEq, Prod.mk.injEq] at h
        obtain ⟨⟨h1, h2⟩, h3⟩ := h
        simp only [Instr.findNow, h1, Instr.sameNow, if_true]
        unfold fndR
        rw [List.findIdx?_cons]
        by_cases e : a.1 = k
        · have : (k == a.1) = true := by simp [e]
          simp [e, h2]
        · have : (k == a.1) = false := by simp; exact fun e' => e e'.symm
          have ih' := ih L vs (n + 1) (by simpa using hl) h3
          simp only [this, ih', e, decide_false, Bool.false_eq_true, if_false]
          unfold fndR
          cases L.findIdx? fun t => decide (t.1 = k) with
          | none => rfl
          | some i => simp [Nat.add_comm, Nat.add_left_comm]
  unfold Instr.findKey
  have := key es L vs 0 hl h
  simp only [Nat.zero_add] at this
  simp only [Sem.run_bind, run_underlying hk.und, Result.andThen_ok, this, Sem.run_pure]
theorem run_echcheck {kt : TypeId} [hk : TKind P kt .i64] (c : Bool) (k : Int) (w : World) : (Instr.checkKey c 10000 kt (.int .i64 k)).run P w = .ok () w := by
  rw [show (10000 : Nat) = 9999 + 1 from rfl]
  unfold Instr.checkKey
  simp only [Sem.run_bind, run_underlying hk.und, Result.andThen_ok, Sem.run_pure]
end

section
variable {P : Program} {wl : Bool} {env : Env} {os : List AO} {d : Option Tmp} {ty : TypeId} {pos : String} {af : Array Edge} {g : Option (Nat × Bool)}

theorem l_echmake {T kt ve e2 : TypeId} [TMap P T kt ve] [TSlice P ve e2] : LOp P ⟨d, .makeMap T none, ty, pos, af, g⟩ env os (.own os.length) env (os ++ [.ob (echOb none e2 [])]) := by
  intro base w gs tm hr
  refine ⟨.map (some w.heap.size), w.alloc (.map #[] 0), gs ++ [⟨.map (some w.heap.size), w.heap.size, [w.heap.size], []⟩], .inl ?_, hr.new (below_alloc w _) _ _ (fun _ b hb => by simp at hb; simp [hb]) ?_, ?_, (below_alloc w _).mono hr.hb⟩
  · simp [execOp, Instr.makeMap]
  · exact ⟨#[], 0, [], [], heap_alloc_new w _, hr.hb, rfl, fun b hb => (by cases hb), rfl, rfl, rfl, rfl, fun i u hu => (by simp at hu), rfl, by simp⟩
  · have := RV.own (w := w.alloc (.map #[] 0)) (ok := okOf (gs ++ [⟨.map (some w.heap.size), w.heap.size, [w.heap.size], []⟩]) (os ++ [.ob (echOb none e2 [])])) (len_new (gs := gs) (g := ⟨.map (some w.heap.size), w.heap.size, [w.heap.size], []⟩))
    rw [hr.hl] at this
    exact this

/-- A row that is there. -/
theorem q_echhit {T kt ve : TypeId} [hT : TMap P T kt ve] [TKind P kt .i64] {m k : Operand} {h i : Nat} {pb : Option Nat} {e2 : TypeId} {L : Rws} {n : Int} (hm : AV.ev env m = .own h) (hs : os[h]? = some (.ob (echOb pb e2 L))) (hk : AV.ev env k = .i n) (hf : fndR L n = some i) :
    QOp P false ⟨d, .lookup T m k true, ty, pos, af, g⟩ env os (.tup [.orow h i, .b true]) :=
  .of_runb fun base w gs tm hr => by
    have hh := hr.ev m
    rw [hm] at hh
    generalize hu : Act.eval ⟨tm, []⟩ m = u at hh
    cases hh with
    | @own _ gh hg =>
      obtain ⟨es, clock, vs, bs, h1, h2, h3, h3', h4, h5, h6, h7, h8, h9, h10⟩ := hr.ho _ _ _ hg hs
      have hi : i < vs.length := by rw [h5]; exact (List.findIdx?_eq_some_iff_getElem.1 hf).1
      refine ⟨.tuple [vs[i], .bool true].toArray, .tup rfl (rv_list rfl fun j hj => ?_), fun w' hw' => ?_⟩
      · match j, hj with
        | 0, _ => exact .orow hg (by rw [h7]; exact List.getElem?_eq_getElem hi)
        | 1, _ => exact .val _
      · have hb1 := (hw'.block _ (Array.getElem?_eq_some_iff.1 h1).1).trans h1
        have hfd := run_echfind (P := P) (kt := kt) n w' es.toList L vs h5 h4
        have e : vs.getD i undef = vs[i] := by simp [List.getD_eq_getElem?_getD, hi]
        simp only [hf, e] at hfd
        simp only [execOp, hu, h3, hr.evv hk, Instr.lookup, Sem.run_bind, run_underlying hT.und, Result.andThen_ok, MapKept.run_getObj_map hb1, Sem.run_pure, run_echcheck (P := P) (kt := kt), hfd, if_true]
/-- A row that is not there. -/
theorem q_echmiss {T kt ve : TypeId} {bb : Nat} [hT : TMap P T kt ve] [TKind P kt .i64] [hz : TElem P ve (.slice none 0 0) bb] {m k : Operand} {h : Nat} {pb : Option Nat} {e2 : TypeId} {L : Rws} {n : Int} (hm : AV.ev env m = .own h) (hs : os[h]? = some (.ob (echOb pb e2 L))) (hk : AV.ev env k = .i n) (hf : fndR L n = none) :
    QOp P false ⟨d, .lookup T m k true, ty, pos, af, g⟩ env os (.tup [.val (.slice none 0 0), .b false]) :=
  .of_runb fun base w gs tm hr => by
    have hh := hr.ev m
    rw [hm] at hh
    generalize hu : Act.eval ⟨tm, []⟩ m = u at hh
    cases hh with
    | @own _ gh hg =>
      obtain ⟨es, clock, vs, bs, h1, h2, h3, h3', h4, h5, h6, h7, h8, h9, h10⟩ := hr.ho _ _ _ hg hs
      obtain ⟨ii, hi, _, hzz, _⟩ := hz.info
      refine ⟨.tuple [.slice none 0 0, .bool false].toArray, .tup rfl (rv_list rfl fun j hj => ?_), fun w' hw' => ?_⟩
      · match j, hj with
        | 0, _ => exact .val _
        | 1, _ => exact .val _
      · have hb1 := (hw'.block _ (Array.getElem?_eq_some_iff.1 h1).1).trans h1
        have hfd := run_echfind (P := P) (kt := kt) n w' es.toList L vs h5 h4
        simp only [hf] at hfd
        simp [execOp, hu, h3, hr.evv hk, Instr.lookup, Sem.run_bind, run_underlying hT.und, Result.andThen_ok, MapKept.run_getObj_map hb1, Sem.run_pure, run_echcheck (P := P) (kt := kt), hfd, zeroValue, typeInfo, hi, hzz]
theorem q_echidx {t e : TypeId} [ht : TSlice P t e] [he : TCell P e] {x y : Operand} {h j : Nat} {pb : Option Nat} {e2 : TypeId} {L : Rws} {i : Int} (hx : AV.ev env x = .orow h j) (hs : os[h]? = some (.ob (echOb pb e2 L))) (hy : AV.ev env y = .i i)
    (h0 : 0 ≤ i) (h1 : i < (rwAt L j).length) : QOp P wl ⟨d, .indexAddr t x y, ty, pos, af, g⟩ env os (.orptr h j i.toNat) :=
  .of_run fun _ w gs tm hr => by
    have hh := hr.ev x
    rw [hx] at hh
    generalize hv : Act.eval ⟨tm, []⟩ x = v at hh
    cases hh with
    | orow hg hrow =>
      have hrow' := hrow
      obtain ⟨es, clock, vs, bs, p1, p2, p3, p3', p4, p5, p6, p7, p8, p9, p10⟩ := hr.ho _ _ _ hg hs
      rw [p7] at hrow'
      obtain ⟨r1, _⟩ := p8 _ _ hrow'
      obtain ⟨b, cap, e1, _⟩ := own_slice r1 (i := i.toNat) (by rw [List.length_map]; omega)
      rw [e1] at hrow
      refine ⟨_, .orptr hg hrow, fun w' _ => ?_⟩
      obtain ⟨ie, hi, hs1⟩ := he.info
      have hrun := run_idx ht.und hi hs1 ⟨b, 0, none⟩ _ cap i h0 h1 w'
      simp only [execOp, hv, e1, hr.evv hy, Sem.run_bind, hrun, add_none, Nat.zero_add, Result.andThen_ok, Sem.run_pure]
theorem q_echld {t : TypeId} [ht : TCell P t] {x : Operand} {h i j : Nat} {pb : Option Nat} {e2 : TypeId} {L : Rws} (hx : AV.ev env x = .orptr h i j) (hs : os[h]? = some (.ob (echOb pb e2 L))) (hj : j < (rwAt L i).length) :
    QOp P false ⟨d, .load t x, ty, pos, af, g⟩ env os (.i (geti (rwAt L i) j)) :=
  .of_runb fun _ w gs tm hr => by
    have hh := hr.ev x
    rw [hx] at hh
    generalize hv : Act.eval ⟨tm, []⟩ x = v at hh
    cases hh with
    | @orptr _ _ _ blk n c gh hg hrow =>
      obtain ⟨es, clock, vs, bs, p1, p2, p3, p3', p4, p5, p6, p7, p8, p9, p10⟩ := hr.ho _ _ _ hg hs
      rw [p7] at hrow
      obtain ⟨r1, _⟩ := p8 _ _ hrow
      obtain ⟨b, cap, e1, e2', e3, _⟩ := own_slice r1 (i := j) (by simpa using hj)
      simp only [Value.slice.injEq, Option.some.injEq, Addr.mk.injEq, and_true] at e1
      obtain ⟨rfl, _, _⟩ := e1
      refine ⟨_, .val _, fun w' hw' => ?_⟩
      have hcell := below_cell hw' (u := .int .i64 (geti (rwAt L i) j)) (by rw [e3]; generalize rwAt L i = row at hj ⊢; simp [geti, hj])
      simp only [execOp, hv, Sem.run_bind, run_load_cell hcell, Result.andThen_ok, Sem.run_pure]

theorem zip_snoc {α β γ : Type} (f : α → β → γ) : ∀ (l : List α) (m : List β) (a : α) (b : β), m.length = l.length → List.zipWith f (l ++ [a]) (m ++ [b]) = List.zipWith f l m ++ [f a b]
  | [], [], _, _, _ => rfl
  | x :: l, y :: m, a, b, h => by simp [zip_snoc f l m a b (by simpa using h)]
  | [], _ :: _, _, _, h => by simp at h
  | _ :: _, [], _, _, h => by simp at h
set_option maxHeartbeats 1000000 in
/-- A row is laid under a number that is not there. -/
theorem l_echset {T kt ve : TypeId} [hT : TMap P T kt ve] [TKind P kt .i64] {m k v : Operand} {h r : Nat} {pb : Option Nat} {e2 e3 : TypeId} {L : Rws} {n : Int} {xs : List Int} (hm : AV.ev env m = .own h) (hs : os[h]? = some (.ob (echOb pb e2 L))) (hk : AV.ev env k = .i n) (hv : AV.ev env v = .own r)
    (hr0 : os[r]? = some (.sli e3 xs)) (he : e3 = e2) (hne : h ≠ r) (hf : fndR L n = none) :
    LOp P ⟨d, .mapUpdate T m k v, ty, pos, af, g⟩ env os .any (env.mp (AV.rin r h L.length)) (((os.map (AO.via (AV.rin r h L.length) h)).set h (.ob (echOb pb e2 (L ++ [(n, xs)])))).set r .dead) := by
  subst he
  intro base w gs tm hr
  have hh := hr.ev m
  rw [hm] at hh
  have hvv := hr.ev v
  rw [hv] at hvv
  generalize hu : Act.eval ⟨tm, []⟩ m = u at hh
  generalize hu2 : Act.eval ⟨tm, []⟩ v = u2 at hvv
  cases hh with
  | @own _ gh hg =>
  cases hvv with
  | @own _ gk hgk =>
    obtain ⟨es, clock, vs, bs, p1, p2, p3, p3', p4, p5, p6, p7, p8, p9, p10⟩ := hr.ho _ _ _ hg hs
    obtain ⟨b1, b2, b3⟩ := hr.ho _ _ _ hgk hr0
    have hfd := run_echfind (P := P) (kt := kt) n w es.toList L vs p5 p4
    simp only [hf] at hfd
    let w' := setBlock w gh.b (.map (es.push ⟨.int .i64 n, gk.v, clock⟩) (clock + 1))
    have hlt : gh.b < w.heap.size := (Array.getElem?_eq_some_iff.1 p1).1
    let g' : Gh := ⟨gh.v, gh.b, [gh.b] ++ (bs ++ [gk.bl]).flatten, vs ++ [gk.v]⟩
    have hhg : h < gs.length := (List.getElem?_eq_some_iff.1 hg).1
    have hdis : ∀ b, b ∈ gk.bl → b ∉ gh.bl := fun b hb => hr.hd r h gk gh _ _ (fun e => hne e.symm) hgk hg hr0 hs (by simp) (by simp) b hb
    have hblk : ∀ b, b ∈ gk.bl → b < w.heap.size := fun b hb => (hr.hn _ _ _ hgk hr0 (by simp) b hb).2
    have hbl0 : ∀ b, b ∈ gh.bl → b < w.heap.size := fun b hb => (hr.hn _ _ _ hg hs (by simp) b hb).2
    have hsz : w'.heap.size = w.heap.size := by simp [w', setBlock]
    have hmem : gh.b ∈ gh.bl := by rw [p9]; simp
    have sv : RowIn h r L.length gs (gs.set h g') := by
      refine ⟨fun j z hj hz => ?_, fun z hz => ⟨g', by simp [hhg], fun i u hiu => ?_⟩, fun z hz => ⟨g', by simp [hhg], ?_⟩⟩
      · rw [List.getElem?_set, if_neg (fun e => hj e.symm)]; exact hz
      · rw [hg] at hz; cases hz
        rw [p7] at hiu
        show (vs ++ [gk.v])[i]? = some u
        rw [List.getElem?_append_left (List.getElem?_eq_some_iff.1 hiu).1]; exact hiu
      · rw [hgk] at hz; cases hz
        show (vs ++ [gk.v])[L.length]? = some gk.v
        rw [← p5]; simp
    have keep : ∀ c, c ≠ gh.b → w'.heap[c]? = w.heap[c]? := fun c hc => setBlock_other _ _ _ _ hc
    have nd1 : ([gh.b] ++ bs.flatten).Nodup := by rw [← p9]; exact p10
    have hgb : gh.b ∉ bs.flatten := by
      rw [List.singleton_append, List.nodup_cons] at nd1; exact nd1.1
    refine ⟨undef, w', gs.set h g', .inr ⟨?_, rfl⟩, hr.absorb hg hs trivial hgk hr0 trivial hne g' _ (AV.rin r h L.length) rfl (fun b hb hn => keep b fun e => hn (e ▸ hmem)) (by rw [hsz]; exact Nat.le_refl _) ?_ (fun kp hv => hv.rin kp sv) ?_, .any _, setBlock_below (.inl rfl) p2⟩
    · unfold execOp
      simp only [hu, p3, hr.evv hk, hu2, Instr.mapUpdate, Sem.run_bind, run_underlying hT.und, Result.andThen_ok, MapKept.run_getObj_map p1, run_echcheck (P := P) (kt := kt), hfd, run_setmap p1, Sem.run_pure]
      rfl
    · intro b hb
      have hb' : b ∈ gh.bl ∨ b ∈ gk.bl := by
        rw [p9]
        simp only [g', List.flatten_append, List.mem_append] at hb ⊢
        rcases hb with hb | hb | hb
        · exact .inl (.inl hb)
        · exact .inl (.inr hb)
        · right
          simpa using hb
      refine ⟨?_, by rw [hsz]; rcases hb' with h1 | h1; exact hbl0 b h1; exact hblk b h1⟩
      rcases hb' with h1 | h1
      · exact .inl h1
      · exact .inr (.inl h1)
    · intro kp
      refine ⟨es.push ⟨.int .i64 n, gk.v, clock⟩, clock + 1, vs ++ [gk.v], bs ++ [gk.bl], setBlock_same _ _ _ hlt, p2, p3, p3', ?_, by simp [p5], by simp [p6], rfl, fun i u hiu => ?_, rfl, ?_⟩
      · rw [zip_snoc _ _ _ _ _ p5]
        simp [p4]
      · rw [List.getElem?_append] at hiu
        split at hiu
        · rename_i hi
          obtain ⟨r1, r2, r3⟩ := p8 i u hiu
          have e1 : rwAt (L ++ [(n, xs)]) i = rwAt L i := by
            unfold rwAt
            rw [List.getD_eq_getElem?_getD, List.getElem?_append_left (by omega), ← List.getD_eq_getElem?_getD]
          have e2 : (bs ++ [gk.bl]).getD i [] = bs.getD i [] := by
            rw [List.getD_eq_getElem?_getD, List.getElem?_append_left (by omega), ← List.getD_eq_getElem?_getD]
          rw [e1, e2]
          refine ⟨ownsRow_of_block r1 fun c hc => keep c fun e => ?_, r2, r3⟩
          subst e
          refine hgb (List.mem_flatten.2 ⟨bs.getD i [], ?_, by rw [← r3, hc]; simp⟩)
          rw [List.getD_eq_getElem?_getD, List.getElem?_eq_getElem (by omega)]
          simp
        · rename_i hi
          have hi0 : i - vs.length = 0 := by
            have := (List.getElem?_eq_some_iff.1 hiu).1
            simp at this; omega
          rw [hi0] at hiu
          simp at hiu
          subst hiu
          have ei : i = L.length := by omega
          have e1 : rwAt (L ++ [(n, xs)]) i = xs := by unfold rwAt; rw [ei]; simp [List.getD_eq_getElem?_getD]
          have e2 : (bs ++ [gk.bl]).getD i [] = gk.bl := by rw [ei, ← p6]; simp [List.getD_eq_getElem?_getD]
          rw [e1, e2]
          have hl1 : xs.length = (xs.map (Value.int .i64)).length := by simp
          refine ⟨ownsRow_of_block b1 fun c hc => keep c fun e => ?_, b2, ?_⟩
          · subst e
            exact hdis _ (b3.mem hc) hmem
          · exact b3.list
      · show ([gh.b] ++ (bs ++ [gk.bl]).flatten).Nodup
        rw [List.flatten_append, ← List.append_assoc]
        refine List.nodup_append.2 ⟨nd1, by simpa using b3.nodup, fun a ha b hb e => ?_⟩
        subst e
        rw [← p9] at ha
        exact hdis a (by simpa using hb) ha
end
end Go.Proofs.Ytifkgmbghcmdeaa
/-
  Functions that lay rows into a map from numbers to rows that is handed to them. No condition.
-/
namespace Go.Proofs.Ytifkgmbghcmdeaa
open Go Go.RowKit
open Go.ChangeMaps (setBlock)

/-- The function turns the rows L of the map that it is handed into L', and hands back v. -/
def AFnE (P : Program) (f : FuncId) (args : List AV) (e2 : TypeId) (L L' : Rws) (v : Value) : Prop :=
  HasBody P f ∧ ∀ base w g vs, base ≤ w.heap.size → Objs base w [g] [.ob (echOb none e2 L)] → vs.size = args.length → (∀ i : Nat, RV w (okOf [g] [.ob (echOb none e2 L)]) [g] (vs.getD i undef) (args.getD i .any)) →
    Calls P f vs w fun e w' => ∃ g', e = .returned v ∧ g'.v = g.v ∧ g'.b = g.b ∧ RO base w' (fun _ => True) [g'] g' (.ob (echOb none e2 L')) ∧ (∀ b, b ∈ g'.bl → (b ∈ g.bl ∨ w.heap.size ≤ b) ∧ b < w'.heap.size) ∧ Below base w w' ∧ ∀ b, b < w.heap.size → b ∉ g.bl → w'.heap[b]? = w.heap[b]?

theorem AFnE.of {P : Program} {f : FuncId} {fn : Func} {c : Code} {args args' : List AV} {e2 : TypeId} {L L' : Rws} {v : Value} {n : Nat} (hf : P.funcs[f]? = some fn) (hb : fn.body = some c) (hnm : (fn.name == "runtime.NumGoroutine") = false) (hn : fn.ntmps - args.length = n) (ha : args' = args.map (AV.sh 1))
    (h : ∀ K pb, AWp P c (fun env (os : List AO) => ∃ k : Nat, ResIs P fn env os (.val v) ∧ os[k]? = some (.ob (echOb (some pb) e2 L')) ∧ os[0]? = some (.keep 1 K)) (fun _ _ _ => False) (fun env (os : List AO) => ∃ k : Nat, ResIs P fn env os (.val v) ∧ os[k]? = some (.ob (echOb (some pb) e2 L')) ∧ os[0]? = some (.keep 1 K)) (Env.start args' n) [.keep 1 K, .ob (echOb (some pb) e2 L)]) :
    AFnE P f args e2 L L' v := by
  refine ⟨⟨fn, c, hf, hnm, hb⟩, fun base w g vs hbase hO hsz hvs => calls_of_wp hf hb ?_⟩
  rw [show fn.ntmps - vs.size = n by rw [hsz]; exact hn]
  have h := fun K => h K g.b
  let bl : List Nat := (List.range w.heap.size).filter fun b => decide (base ≤ b) && !g.bl.contains b
  let gk : Gh := ⟨undef, 0, bl, []⟩
  let K : Kp := ⟨fun b => w.heap[b]?, [gk]⟩
  let oo : AO := .ob (echOb (some g.b) e2 L)
  have hbl : ∀ b, b ∈ bl ↔ b < w.heap.size ∧ base ≤ b ∧ b ∉ g.bl := by
    intro b
    simp only [bl, List.mem_filter, List.mem_range, Bool.and_eq_true, decide_eq_true_eq, Bool.not_eq_true', List.contains_eq_mem, decide_eq_false_iff_not]
  have gg : ∀ {i : Nat} {x : Gh}, [gk, g][i]? = some x → (i = 0 ∧ x = gk) ∨ (i = 1 ∧ x = g) := by
    intro i x hx
    match i with
    | 0 => simp at hx; exact .inl ⟨rfl, hx.symm⟩
    | 1 => simp at hx; exact .inr ⟨rfl, hx.symm⟩
    | i + 2 => simp at hx
  have go : ∀ {i : Nat} {x : AO}, [AO.keep 1 K, oo][i]? = some x → (i = 0 ∧ x = .keep 1 K) ∨ (i = 1 ∧ x = oo) := by
    intro i x hx
    match i with
    | 0 => simp at hx; exact .inl ⟨rfl, hx.symm⟩
    | 1 => simp at hx; exact .inr ⟨rfl, hx.symm⟩
    | i + 2 => simp at hx
  have hkeep : Keeps (okOf [g] [.ob (echOb none e2 L)]) (okOf [gk, g] [.keep 1 K, oo]) w w := by
    intro b hbk _
    refine ⟨fun i x y hx hy hny hm => ?_, rfl⟩
    rcases gg hx with ⟨rfl, rfl⟩ | ⟨rfl, rfl⟩
    · rcases go hy with ⟨_, rfl⟩ | ⟨h0, _⟩
      · exact hny.elim
      · omega
    · rcases go hy with ⟨h0, _⟩ | ⟨_, rfl⟩
      · omega
      · exact hbk 0 _ _ rfl rfl trivial hm
  have hro0 := hO.ho 0 g _ rfl rfl
  have hn0 := hO.hn 0 g rfl
  have hv0 : g.v = .map (some g.b) := (ech_unpin (ech_pin hro0)).2.2
  have hrel : Rel base w [gk, g] (Env.start args' n) [.keep 1 K, oo] (vs ++ Array.replicate n undef) := by
    refine ⟨hbase, rfl, by simp [Env.start, hsz, ha], fun i => start_rv args' n vs (fun i => ?_) i, ?_, ?_, ?_⟩
    · rw [ha, getD_map_any _ rfl]
      have := (hvs i).sh (gs0 := [gk]) hkeep
      exact this
    · intro i x y hx hy
      rcases gg hx with ⟨rfl, rfl⟩ | ⟨rfl, rfl⟩
      · rcases go hy with ⟨_, rfl⟩ | ⟨h0, _⟩
        · exact ⟨fun b _ => rfl, rfl, fun i x h => by
            match i with
            | 0 => exact h
            | i + 1 => simp [K] at h⟩
        · omega
      · rcases go hy with ⟨h0, _⟩ | ⟨_, rfl⟩
        · omega
        · exact ech_pin hro0
    · intro i j g1 g2 o1 o2 hij hg1 hg2 ho1 ho2 _ _ b hb1 hb2
      rcases gg hg1 with ⟨rfl, rfl⟩ | ⟨rfl, rfl⟩
      · rcases gg hg2 with ⟨rfl, rfl⟩ | ⟨rfl, rfl⟩
        · exact hij rfl
        · exact ((hbl b).1 hb1).2.2 hb2
      · rcases gg hg2 with ⟨rfl, rfl⟩ | ⟨rfl, rfl⟩
        · exact ((hbl b).1 hb2).2.2 hb1
        · exact hij rfl
    · intro i x y hx hy _ b hb
      rcases gg hx with ⟨rfl, rfl⟩ | ⟨rfl, rfl⟩
      · exact ⟨((hbl b).1 hb).2.1, ((hbl b).1 hb).1⟩
      · exact hn0 b hb
  have fin : ∀ {env : Env} {os1 : List AO} {gs2 : List Gh} {a : Act} {w' : World}, Rel base w' gs2 env os1 a.tmps → Below base w w' → (∃ k : Nat, ResIs P fn env os1 (.val v) ∧ os1[k]? = some (AO.ob (echOb (some g.b) e2 L')) ∧ os1[0]? = some (.keep 1 K)) →
      ∃ u, (results fn a.tmps).run P w' = .ok u w' ∧ ∃ g', Exit.ret = Exit.ret ∧ u = v ∧ g'.v = g.v ∧ g'.b = g.b ∧ RO base w' (fun _ => True) [g'] g' (.ob (echOb none e2 L')) ∧ (∀ b, b ∈ g'.bl → (b ∈ g.bl ∨ w.heap.size ≤ b) ∧ b < w'.heap.size) ∧ Below base w w' ∧ ∀ b, b < w.heap.size → b ∉ g.bl → w'.heap[b]? = w.heap[b]? := by
    intro env os1 gs2 a w' hr hbel ⟨k, hres, hok, hkp⟩
    obtain ⟨u, hu, hv⟩ := hres _ _ _ _ hr
    cases hv
    have hltk : k < gs2.length := by rw [hr.hl]; exact (List.getElem?_eq_some_iff.1 hok).1
    obtain ⟨g', hg'⟩ : ∃ g', gs2[k]? = some g' := ⟨_, List.getElem?_eq_getElem hltk⟩
    have hlt0 : 0 < gs2.length := by rw [hr.hl]; exact (List.getElem?_eq_some_iff.1 hkp).1
    obtain ⟨g0, hg0⟩ : ∃ g0, gs2[0]? = some g0 := ⟨_, List.getElem?_eq_getElem hlt0⟩
    obtain ⟨r1, r2, r3⟩ := hr.ho _ _ _ hg0 hkp
    have egk : g0 = gk := by
      have := r3 0 gk rfl
      rw [hg0] at this
      exact Option.some.inj this
    subst egk
    have hk0 : k ≠ 0 := fun e => by subst e; rw [hkp] at hok; cases hok
    have hro := ech_unpin (hr.ho _ _ _ hg' hok)
    refine ⟨v, hu, g', rfl, rfl, by rw [hro.2.2, hv0], hro.2.1, hro.1, fun b hb => ?_, hbel, fun b hb hnot => ?_⟩
    · have hbn := hr.hn _ _ _ hg' hok (by simp) b hb
      refine ⟨?_, hbn.2⟩
      by_cases hbw : b < w.heap.size
      · left
        apply Classical.byContradiction
        intro hnb
        exact hr.hd k 0 g' _ _ _ hk0 hg' hg0 hok hkp (by simp) (by simp) b hb ((hbl b).2 ⟨hbw, hbn.1, hnb⟩)
      · right; omega
    · rcases Nat.lt_or_ge b base with h6 | h6
      · exact hbel.block b h6
      · exact r1 b ((hbl b).2 ⟨hb, h6, hnot⟩)
  refine wp_mono (h K base w w _ _ hrel (Below.refl _ _)) ?_
  intro e a w' hq
  cases e with
  | normal =>
    obtain ⟨env, os1, gs1, hr, hd, hbel, hx⟩ := hq
    obtain ⟨u, hu, g', _, rfl, r⟩ := fin hr hbel hx
    exact ⟨hd, _, hu, g', rfl, r⟩
  | exit j => obtain ⟨_, _, _, _, _, _, hx⟩ := hq; exact hx.elim
  | ret =>
    obtain ⟨env, os1, gs1, hr, hd, hbel, hx⟩ := hq
    obtain ⟨u, hu, g', _, rfl, r⟩ := fin hr hbel hx
    exact ⟨hd, _, hu, g', rfl, r⟩
  | goto l => exact (hq : False).elim
  | panic ch => exact (hq : False).elim
  | outgrown => exact (hq : False).elim
theorem AFnE.start {P : Program} {f : FuncId} {fn : Func} {nt : Nat} {args : List AV} {e2 : TypeId} {L L' : Rws} {v : Value} (hf : P.funcs[f]? = some fn) (hnt : fn.ntmps = nt) {c : Code} (hb : fn.body = some c) (hnm : (fn.name == "runtime.NumGoroutine") = false)
    (h : ∀ K pb, AWp P c (fun env (os : List AO) => ∃ k : Nat, ResIs P fn env os (.val v) ∧ os[k]? = some (.ob (echOb (some pb) e2 L')) ∧ os[0]? = some (.keep 1 K)) (fun _ _ _ => False) (fun env (os : List AO) => ∃ k : Nat, ResIs P fn env os (.val v) ∧ os[k]? = some (.ob (echOb (some pb) e2 L')) ∧ os[0]? = some (.keep 1 K)) (Env.start (args.map (AV.sh 1)) (nt - args.length)) [.keep 1 K, .ob (echOb (some pb) e2 L)]) :
    AFnE P f args e2 L L' v := AFnE.of hf hb hnm (by rw [hnt]) rfl h

section
variable {P : Program} {env : Env} {os : List AO} {d : Option Tmp} {ty : TypeId} {pos : String} {af : Array Edge} {g : Option (Nat × Bool)}
theorem c_calle {f : FuncId} {args : List AV} {e2 : TypeId} {L L' : Rws} {v : Value} (hc : AFnE P f args e2 L L' v) {xs : List Operand} {ats : Array TypeId} {h : Nat} (hs : os[h]? = some (.ob (echOb none e2 L))) (hi : ImmUs os [h] (xs.map (AV.ev env)) args) :
    COp P ⟨d, .call { callee := .value (.func f), args := xs.toArray, argTypes := ats }, ty, pos, af, g⟩ env os (fun r e o => r = .val v ∧ e = env.mp (AV.noRow h) ∧ o = (((os ++ [AO.sli e2 []]).map (AO.via (AV.noRow h) h)).set h (.ob (echOb none e2 L'))).set os.length .dead) := by
  intro base w gs tm hr
  have hh : Handed os [h] [.ob (echOb none e2 L)] := handed1 hs True.intro
  have hg := hi.get
  have hlt := hh.lt h (by simp)
  have hgl : h < gs.length := by rw [hr.hl]; exact hlt
  obtain ⟨gh, hgh⟩ : ∃ x, gs[h]? = some x := ⟨_, List.getElem?_eq_getElem hgl⟩
  have esel : selG gs [h] = [gh] := by simp [selG, hgh]
  have hobj := hr.objs hh
  rw [esel] at hobj
  refine ⟨f, _, run_call hc.1 xs ats _ rfl w, (hc.2 base w gh _ hr.hb hobj (by simpa using hg.1) fun i => ?_).mono ?_⟩
  · have h1 := hg.2 i
    have e1 : (xs.map (AV.ev env)).getD i .any = match xs[i]? with | some x => AV.ev env x | none => .any := by
      simp only [List.getD_eq_getElem?_getD, List.getElem?_map]; cases xs[i]? <;> rfl
    have e2 : (xs.map (Act.eval ⟨tm, []⟩)).toArray.getD i undef = match xs[i]? with | some x => Act.eval ⟨tm, []⟩ x | none => undef := by
      simp only [Array.getD_eq_getD_getElem?, List.getElem?_toArray, List.getElem?_map]; cases xs[i]? <;> rfl
    rw [e1] at h1
    rw [e2, ← esel]
    cases hx : xs[i]? with
    | some x => rw [hx] at h1; exact h1.rv hr hh (hr.ev x)
    | none => rw [hx] at h1; exact h1.rv hr hh (.any _)
  · rintro e w' ⟨g', rfl, hgv, hgb, hro, hbl, hbel, hfr⟩
    let gd : Gh := ⟨.slice none 0 0, 0, [], []⟩
    have hr1 : Rel base w (gs ++ [gd]) env (os ++ [.sli e2 []]) tm := hr.new (Below.refl _ _) (.sli e2 []) gd (fun _ b hb => by simp [gd] at hb) ⟨World.ownsRow_nil w base e2 1, fun x hx => by simp at hx, .inl ⟨rfl, rfl⟩⟩
    have hg1 : (gs ++ [gd])[h]? = some gh := by rw [List.getElem?_append_left hgl]; exact hgh
    have hs1 : (os ++ [AO.sli e2 []])[h]? = some (.ob (echOb none e2 L)) := by rw [List.getElem?_append_left hlt]; exact hs
    have hgd : (gs ++ [gd])[os.length]? = some gd := by rw [← hr.hl]; simp
    have hod : (os ++ [AO.sli e2 []])[os.length]? = some (.sli e2 []) := by simp
    have sv : SameV h (gs ++ [gd]) ((gs ++ [gd]).set h g') := by
      refine ⟨fun j z hj hz => ?_, fun z hz => ⟨g', by rw [List.getElem?_set_self (by rw [List.length_append]; omega)], ?_⟩⟩
      · rw [List.getElem?_set, if_neg (fun e => hj e.symm)]; exact hz
      · rw [hg1] at hz; cases hz; exact ⟨hgv, hgb⟩
    refine ⟨v, .val v, _, _, (gs ++ [gd]).set h g', rfl, ⟨rfl, rfl, rfl⟩, hr1.absorb hg1 hs1 trivial hgd hod trivial (by omega) g' _ (AV.noRow h) rfl hfr hbel.size ?_ (fun kp hv => hv.noRow kp sv) (fun _ => AO.plain.ro trivial hro), .val _, hbel⟩
    intro b hb
    have := hbl b hb
    refine ⟨?_, this.2⟩
    rcases this.1 with h1 | h1
    · exact .inl h1
    · exact .inr (.inr h1)
end

section
variable {P : Program} {env : Env} {os : List AO} {d : Tmp} {ty : TypeId} {pos : String} {af : Array Edge} {g : Option (Nat × Bool)} {l rest : List Oper} {K : APost} {q : Md}
theorem w_calle {f : FuncId} {args : List AV} {e2 : TypeId} {L L' : Rws} {v : Value} {xs : List Operand} {ats : Array TypeId} (h : Nat) {m : Nat} (hc : AFnE P f args e2 L L' v) (hs : os[h]? = some (.ob (echOb none e2 L))) (hm : os.length = m) (hi : ImmUs os [h] (xs.map (AV.ev env)) args)
    (h' : AOps P .seq l rest K ((env.mp (AV.noRow h)).up d (.val v)) ((((os ++ [AO.sli e2 []]).map (AO.via (AV.noRow h) h)).set h (.ob (echOb none e2 L'))).set m .dead)) :
    AOps P .seq l (⟨some d, .call { callee := .value (.func f), args := xs.toArray, argTypes := ats }, ty, pos, af, none⟩ :: rest) K env os := by
  subst hm
  exact AOps.ca (c_calle hc hs hi) fun r e o ⟨h1, h2, h3⟩ => by subst h1; subst h2; subst h3; exact h'
theorem w_echmake {T kt ve e2 : TypeId} [TMap P T kt ve] [TSlice P ve e2] {m : Nat} (hm : os.length = m) (h' : AOps P .seq l rest K (env.up d (.own m)) (os ++ [.ob (echOb none e2 [])])) : AOps P .seq l (⟨some d, .makeMap T none, ty, pos, af, none⟩ :: rest) K env os := by
  subst hm; exact AOps.lo l_echmake h'
theorem w_echhit {T kt ve : TypeId} [TMap P T kt ve] [TKind P kt .i64] {m k : Operand} {h i : Nat} {pb : Option Nat} {e2 : TypeId} {L : Rws} {n : Int} (hf : fndR L n = some i) (hw : wantedA l env ⟨some d, .lookup T m k true, ty, pos, af, g⟩ = some true) (hq : q.wl = false)
    (hm : evo env m = some (.own h)) (hs : os[h]? = some (.ob (echOb pb e2 L))) (hk : evo env k = some (.i n)) (h' : AOps P q l rest K (env.up d (.tup [.orow h i, .b true])) os) : AOps P q l (⟨some d, .lookup T m k true, ty, pos, af, g⟩ :: rest) K env os :=
  AOps.qo hw (by rw [hq]; exact q_echhit (ev_of hm) hs (ev_of hk) hf) h'
theorem w_echmiss {T kt ve : TypeId} {bb : Nat} [TMap P T kt ve] [TKind P kt .i64] [TElem P ve (.slice none 0 0) bb] {m k : Operand} {h : Nat} {pb : Option Nat} {e2 : TypeId} {L : Rws} {n : Int} (hf : fndR L n = none) (hw : wantedA l env ⟨some d, .lookup T m k true, ty, pos, af, g⟩ = some true) (hq : q.wl = false)
    (hm : evo env m = some (.own h)) (hs : os[h]? = some (.ob (echOb pb e2 L))) (hk : evo env k = some (.i n)) (h' : AOps P q l rest K (env.up d (.tup [.val (.slice none 0 0), .b false])) os) : AOps P q l (⟨some d, .lookup T m k true, ty, pos, af, g⟩ :: rest) K env os :=
  AOps.qo hw (by rw [hq]; exact q_echmiss (ev_of hm) hs (ev_of hk) hf) h'
theorem w_echidx {t e : TypeId} [TSlice P t e] [TCell P e] {x y : Operand} {h j : Nat} {pb : Option Nat} {e2 : TypeId} {L : Rws} {i : Int} (hw : wantedA l env ⟨some d, .indexAddr t x y, ty, pos, af, g⟩ = some true) (hx : evo env x = some (.orow h j)) (hs : os[h]? = some (.ob (echOb pb e2 L))) (hy : evo env y = some (.i i))
    (h0 : 0 ≤ i) (h1 : i < (rwAt L j).length) (h' : AOps P q l rest K (env.up d (.orptr h j i.toNat)) os) : AOps P q l (⟨some d, .indexAddr t x y, ty, pos, af, g⟩ :: rest) K env os :=
  AOps.qo hw (q_echidx (ev_of hx) hs (ev_of hy) h0 h1) h'
theorem w_echld {t : TypeId} [TCell P t] {x : Operand} {h i j : Nat} {pb : Option Nat} {e2 : TypeId} {L : Rws} (hw : wantedA l env ⟨some d, .load t x, ty, pos, af, g⟩ = some true) (hq : q.wl = false) (hx : evo env x = some (.orptr h i j)) (hs : os[h]? = some (.ob (echOb pb e2 L))) (hj : j < (rwAt L i).length)
    (h' : AOps P q l rest K (env.up d (.i (geti (rwAt L i) j))) os) : AOps P q l (⟨some d, .load t x, ty, pos, af, g⟩ :: rest) K env os :=
  AOps.qo hw (by rw [hq]; exact q_echld (ev_of hx) hs hj) h'
theorem w_echset {T kt ve : TypeId} [TMap P T kt ve] [TKind P kt .i64] {m k v : Operand} {h r : Nat} {pb : Option Nat} {e2 e3 : TypeId} {L : Rws} {n : Int} {xs : List Int} (hf : fndR L n = none) (hm : evo env m = some (.own h)) (hs : os[h]? = some (.ob (echOb pb e2 L))) (hk : evo env k = some (.i n)) (hv : evo env v = some (.own r))
    (hr0 : os[r]? = some (.sli e3 xs)) (he : e3 = e2) (hne : (h == r) = false)
    (h' : AOps P .seq l rest K (env.mp (AV.rin r h L.length)) (((os.map (AO.via (AV.rin r h L.length) h)).set h (.ob (echOb pb e2 (L ++ [(n, xs)])))).set r .dead)) : AOps P .seq l (⟨none, .mapUpdate T m k v, ty, pos, af, none⟩ :: rest) K env os :=
  AOps.so (l_echset (ev_of hm) hs (ev_of hk) (ev_of hv) hr0 he (by simpa using hne) hf) h'
end
end Go.Proofs.Ytifkgmbghcmdeaa
/-
  Rows over the field of 55441 elements: how a row is reduced. No condition.
-/
namespace Go.Proofs.Ytifkgmbghcmdeaa
open Go Go.RowKit

/-- A row whose numbers from lo on, below hi, are others. -/
def updR (row : List Int) (g : Nat → Int) (lo hi : Nat) : List Int := (List.range row.length).map fun k => if lo ≤ k ∧ k < hi then g k else geti row (k : Nat)
theorem updR_len (row : List Int) (g : Nat → Int) (lo hi : Nat) : (updR row g lo hi).length = row.length := by simp [updR]
theorem geti_upd {row : List Int} {g : Nat → Int} {lo hi k : Nat} (hk : k < row.length) : geti (updR row g lo hi) (k : Nat) = if lo ≤ k ∧ k < hi then g k else geti row (k : Nat) := by
  unfold updR
  conv => lhs; unfold geti
  rw [Int.toNat_natCast, List.getD_eq_getElem?_getD, List.getElem?_map, List.getElem?_range hk]
  rfl
theorem geti_out {row : List Int} {k : Nat} (hk : row.length ≤ k) : geti row (k : Nat) = 0 := by
  unfold geti
  rw [Int.toNat_natCast, List.getD_eq_getElem?_getD, List.getElem?_eq_none hk]; rfl
theorem ext_geti {a b : List Int} (hl : a.length = b.length) (h : ∀ k : Nat, k < a.length → geti a (k : Nat) = geti b (k : Nat)) : a = b := by
  refine List.ext_getElem hl fun k h1 h2 => ?_
  have := h k h1
  unfold geti at this
  rw [Int.toNat_natCast, List.getD_eq_getElem?_getD, List.getD_eq_getElem?_getD, List.getElem?_eq_getElem h1, List.getElem?_eq_getElem h2] at this
  exact this
theorem updR_none (row : List Int) (g : Nat → Int) {lo hi : Nat} (h : hi ≤ lo) : updR row g lo hi = row :=
  ext_geti (updR_len _ _ _ _) fun k hk => by
    rw [updR_len] at hk
    rw [geti_upd hk, if_neg (by omega)]
theorem updR_set {row : List Int} {g : Nat → Int} {lo k : Nat} (hlo : lo ≤ k) (hk : k < row.length) {v : Int} (hv : v = g k) : (updR row g lo k).set k v = updR row g lo (k + 1) :=
  ext_geti (by simp [updR_len]) fun j hj => by
    have hj' : j < row.length := by simpa [updR_len] using hj
    rw [geti_set, geti_upd hj', geti_upd hj', Int.toNat_natCast, updR_len]
    by_cases e : k = j
    · subst e; rw [if_pos ⟨rfl, hk⟩, if_pos ⟨hlo, by omega⟩, hv]
    · rw [if_neg (fun h => e h.1)]
      by_cases h2 : lo ≤ j ∧ j < k
      · rw [if_pos h2, if_pos (by omega)]
      · rw [if_neg h2, if_neg (by omega)]
theorem inF_upd {row : List Int} {g : Nat → Int} (h : inF row) (hg : ∀ k, 0 ≤ g k ∧ g k ≤ 55440) (lo hi : Nat) : inF (updR row g lo hi) := fun i => by
  have hi : geti (updR row g lo hi) i = geti (updR row g lo hi) (i.toNat : Nat) := by unfold geti; rw [Int.toNat_natCast]
  rw [hi]
  by_cases hk : i.toNat < row.length
  · rw [geti_upd hk]; split
    · exact hg _
    · exact h _
  · rw [geti_out (by rw [updR_len]; omega)]; omega

/-- A multiple of a row. -/
def sclG (row : List Int) (s : Int) (k : Nat) : Int := geti row (k : Nat) * s % 55441
/-- A row and a multiple of another one. -/
def adrG (row : List Int) (f : Int) (old : List Int) (k : Nat) : Int := (geti row (k : Nat) + f * geti old (k : Nat)) % 55441
/-- The row is reduced from the place 'at' on: nothing is left, or a row that begins with 1 at a place that is new. -/
def redR (L : Rws) : Nat → List Int → Nat → Option (Int × List Int)
  | 0, _, _ => none
  | n + 1, row, p => if geti row (p : Nat) = 0 then redR L n row (p + 1) else
    match fndR L (p : Nat) with
    | none => some ((p : Nat), updR row (sclG row (pwF (geti row (p : Nat)) 55439)) p row.length)
    | some k => redR L n (updR row (adrG row (55441 - geti row (p : Nat)) (rwAt L k)) p row.length) (p + 1)
/-- The rows with one more. -/
def addR (L : Rws) (row : List Int) : Rws := match redR L row.length row 0 with
  | none => L
  | some t => L ++ [t]

/-- Rows of one length with numbers of the field; each begins at its number. -/
structure RwOk (m : Nat) (L : Rws) : Prop where
  at_ : ∀ i : Nat, i < L.length → (rwAt L i).length = m ∧ inF (rwAt L i) ∧ 0 ≤ (L.getD i (0, [])).1 ∧ (L.getD i (0, [])).1 < m ∧ geti (rwAt L i) (L.getD i (0, [])).1 = 1 ∧ ∀ k : Nat, (k : Int) < (L.getD i (0, [])).1 → geti (rwAt L i) (k : Nat) = 0
theorem fnd_at {L : Rws} {p : Int} {k : Nat} (h : fndR L p = some k) : k < L.length ∧ (L.getD k (0, [])).1 = p := by
  obtain ⟨hk, h1, _⟩ := List.findIdx?_eq_some_iff_getElem.1 h
  refine ⟨hk, ?_⟩
  simp only [decide_eq_true_eq] at h1
  rw [List.getD_eq_getElem?_getD, List.getElem?_eq_getElem hk]
  exact h1
theorem scl_in (row : List Int) (s : Int) (k : Nat) : 0 ≤ sclG row s k ∧ sclG row s k ≤ 55440 := modP _
theorem adr_in (row : List Int) (f : Int) (old : List Int) (k : Nat) : 0 ≤ adrG row f old k ∧ adrG row f old k ≤ 55440 := modP _
/-- The state of a row that is being reduced. -/
structure RdI (m p : Nat) (row : List Int) : Prop where
  len : row.length = m
  inf : inF row
  zero : ∀ k : Nat, k < p → geti row (k : Nat) = 0
theorem RdI.next {m p : Nat} {row : List Int} (h : RdI m p row) (h0 : geti row (p : Nat) = 0) : RdI m (p + 1) row := ⟨h.len, h.inf, fun k hk => by
  by_cases e : k = p
  · subst e; exact h0
  · exact h.zero k (by omega)⟩
theorem RdI.red {m p : Nat} {row : List Int} {L : Rws} (h : RdI m p row) (hL : RwOk m L) {k : Nat} (hf : fndR L (p : Nat) = some k) (hp : p < m) : RdI m (p + 1) (updR row (adrG row (55441 - geti row (p : Nat)) (rwAt L k)) p row.length) := by
  obtain ⟨hk, e⟩ := fnd_at hf
  obtain ⟨a1, a2, a3, a4, a5, a6⟩ := hL.at_ k hk
  refine ⟨by rw [updR_len]; exact h.len, inF_upd h.inf (adr_in _ _ _) _ _, fun j hj => ?_⟩
  have hl := h.len
  rw [geti_upd (by omega)]
  by_cases e2 : j = p
  · subst e2
    rw [if_pos (by omega)]
    unfold adrG
    rw [e] at a5
    rw [a5]
    have := h.inf (j : Nat)
    omega
  · rw [if_neg (by omega)]
    exact h.zero j (by omega)
theorem redR_ok {m : Nat} {L : Rws} (hL : RwOk m L) : ∀ (n p : Nat) (row : List Int), RdI m p row → p + n = m → ∀ t, redR L n row p = some t → t.2.length = m ∧ inF t.2 ∧ 0 ≤ t.1 ∧ t.1 < m ∧ (∀ k : Nat, (k : Int) < t.1 → geti t.2 (k : Nat) = 0) ∧ fndR L t.1 = none ∧ (∃ q : Int, 1 ≤ q ∧ q ≤ 55440 ∧ geti t.2 t.1 = q * pwF q 55439 % 55441)
  | 0, p, row, h, hp, t, ht => by simp [redR] at ht
  | n + 1, p, row, h, hp, t, ht => by
    rw [redR] at ht
    have hl := h.len
    split at ht
    · exact redR_ok hL n (p + 1) row (h.next (by assumption)) (by omega) t ht
    · rename_i hne
      have hin := h.inf (p : Nat)
      cases hf : fndR L (p : Nat) with
      | none =>
        rw [hf] at ht
        simp only [Option.some.injEq] at ht
        subst ht
        refine ⟨by rw [updR_len]; exact hl, inF_upd h.inf (scl_in _ _) _ _, by simp, by simp only; omega, fun k hk => ?_, hf, geti row (p : Nat), by omega, by omega, ?_⟩
        · simp only at hk
          rw [geti_upd (by omega), if_neg (by omega)]
          exact h.zero k (by omega)
        · simp only
          rw [geti_upd (by omega), if_pos (by omega)]
          rfl
      | some k =>
        rw [hf] at ht
        exact redR_ok hL n (p + 1) _ (h.red hL hf (by omega)) (by omega) t ht
end Go.Proofs.Ytifkgmbghcmdeaa
/-
  Functions that use up own memory that is handed to them, and hand back own memory. No condition.
-/
namespace Go.Proofs.Ytifkgmbghcmdeaa
open Go Go.RowKit

/-- Values that hold no more than two levels of parts, and read nothing. -/
def AV.fl0 : AV → Prop
  | .any => True
  | .val _ => True
  | .own _ => True
  | .optr _ _ => True
  | .osub _ _ _ => True
  | .orow _ _ => True
  | .orptr _ _ _ => True
  | _ => False
def AV.fl1 : AV → Prop
  | .agg l => ∀ a ∈ l, a.fl0
  | a => a.fl0
def AV.fl : AV → Prop
  | .agg l => ∀ a ∈ l, a.fl0
  | .tup l => ∀ a ∈ l, a.fl1
  | a => a.fl0
section
variable {w : World} {ok ok' : Nat → Prop} {gs : List Gh} {g0 : Gh}
theorem RV.unsh0 {v : Value} {a : AV} (hf : a.fl0) (hv : RV w ok (g0 :: gs) v (a.sh0 1)) : RV w ok' gs v a := by
  cases a with
  | any => exact .any v
  | val u => cases hv with | val => exact .val _
  | own k => cases hv with | own h => exact .own (by simpa using h)
  | optr k i => cases hv with | optr h => exact .optr (by simpa using h)
  | osub k i j => cases hv with | osub h h1 h2 h3 => exact .osub (by simpa using h) h1 h2 h3
  | orow k i => cases hv with | orow h h1 => exact .orow (by simpa using h) h1
  | orptr k i j => cases hv with | orptr h h1 => exact .orptr (by simpa using h) h1
  | _ => exact hf.elim
theorem getD_mem_any {l : List AV} {p : AV → Prop} (h : ∀ a ∈ l, p a) (hany : p .any) (i : Nat) : p (l.getD i .any) := by
  rw [List.getD_eq_getElem?_getD]
  cases e : l[i]? with
  | none => exact hany
  | some a => exact h a (List.mem_of_getElem? e)
theorem RV.unsh1 {v : Value} {a : AV} (hf : a.fl1) (hv : RV w ok (g0 :: gs) v (a.sh1 1)) : RV w ok' gs v a := by
  cases a with
  | agg l => cases hv with | agg h1 h3 h2 => exact .agg (by simpa using h1) h3 (fun i => RV.unsh0 (getD_mem_any hf trivial i) (by have := h2 i; rw [getD_map_any _ rfl] at this; exact this))
  | any => exact .any v
  | val u => exact RV.unsh0 (a := .val u) trivial hv
  | own k => exact RV.unsh0 (a := .own k) trivial hv
  | optr k i => exact RV.unsh0 (a := .optr k i) trivial hv
  | osub k i j => exact RV.unsh0 (a := .osub k i j) trivial hv
  | orow k i => exact RV.unsh0 (a := .orow k i) trivial hv
  | orptr k i j => exact RV.unsh0 (a := .orptr k i j) trivial hv
  | _ => exact hf.elim
theorem RV.unsh {v : Value} {a : AV} (hf : a.fl) (hv : RV w ok (g0 :: gs) v (a.sh 1)) : RV w ok' gs v a := by
  cases a with
  | agg l => exact RV.unsh1 (a := .agg l) hf hv
  | tup l => cases hv with | tup h1 h2 => exact .tup (by simpa using h1) (fun i => RV.unsh1 (getD_mem_any hf trivial i) (by have := h2 i; rw [getD_map_any _ rfl] at this; exact this))
  | any => exact .any v
  | val u => exact RV.unsh0 (a := .val u) trivial hv
  | own k => exact RV.unsh0 (a := .own k) trivial hv
  | optr k i => exact RV.unsh0 (a := .optr k i) trivial hv
  | osub k i j => exact RV.unsh0 (a := .osub k i j) trivial hv
  | orow k i => exact RV.unsh0 (a := .orow k i) trivial hv
  | orptr k i j => exact RV.unsh0 (a := .orptr k i j) trivial hv
  | _ => exact hf.elim
end

/-- The function uses up the objects 'objs', which its arguments name, and hands back r over the objects os', of which Q speaks. All else is as it was. -/
def AFnC (P : Program) (f : FuncId) (args : List AV) (objs : List AO) (Q : AV → List AO → Prop) : Prop :=
  HasBody P f ∧ ∀ base w gs vs, base ≤ w.heap.size → Objs base w gs objs → vs.size = args.length → (∀ i : Nat, RV w (okOf gs objs) gs (vs.getD i undef) (args.getD i .any)) →
    Calls P f vs w fun e w' => ∃ v r os' gs', e = .returned v ∧ Q r os' ∧ Objs base w' gs' os' ∧ RV w' (fun _ => False) gs' v r ∧
      (∀ (h : Nat) g, gs'[h]? = some g → ∀ b, b ∈ g.bl → (∃ (k : Nat) (g0 : Gh), gs[k]? = some g0 ∧ b ∈ g0.bl) ∨ w.heap.size ≤ b) ∧ Below base w w' ∧ ∀ b, b < w.heap.size → (∀ (h : Nat) g, gs[h]? = some g → b ∉ g.bl) → w'.heap[b]? = w.heap[b]?

theorem AFnC.of {P : Program} {f : FuncId} {fn : Func} {c : Code} {args args' : List AV} {objs : List AO} {Q : AV → List AO → Prop} {n : Nat} (hf : P.funcs[f]? = some fn) (hb : fn.body = some c) (hnm : (fn.name == "runtime.NumGoroutine") = false) (hn : fn.ntmps - args.length = n) (ha : args' = args.map (AV.sh 1))
    (h : ∀ K, AWp P c (fun _ _ => False) (fun _ _ _ => False) (fun env os => ∃ env2 os' r, Turns env os env2 (.keep 1 K :: os') ∧ ResIs P fn env2 (.keep 1 K :: os') (r.sh 1) ∧ r.fl ∧ Q r os' ∧ ∀ o ∈ os', o.plain) (Env.start args' n) (.keep 1 K :: objs)) :
    AFnC P f args objs Q := by
  refine ⟨⟨fn, c, hf, hnm, hb⟩, fun base w gs vs hbase hO hsz hvs => calls_of_wp hf hb ?_⟩
  rw [show fn.ntmps - vs.size = n by rw [hsz]; exact hn]
  let bl : List Nat := (List.range w.heap.size).filter fun b => decide (base ≤ b) && gs.all fun g => !g.bl.contains b
  let gk : Gh := ⟨undef, 0, bl, []⟩
  let K : Kp := ⟨fun b => w.heap[b]?, [gk]⟩
  have hbl : ∀ b, b ∈ bl ↔ b < w.heap.size ∧ base ≤ b ∧ ∀ (h : Nat) g, gs[h]? = some g → b ∉ g.bl := by
    intro b
    simp only [bl, List.mem_filter, List.mem_range, Bool.and_eq_true, decide_eq_true_eq, List.all_eq_true, Bool.not_eq_true', List.contains_eq_mem, decide_eq_false_iff_not]
    constructor
    · rintro ⟨h1, h2, h3⟩
      exact ⟨h1, h2, fun h g hg => h3 g (List.mem_of_getElem? hg)⟩
    · rintro ⟨h1, h2, h3⟩
      exact ⟨h1, h2, fun g hg => by obtain ⟨i, hi⟩ := List.getElem?_of_mem hg; exact h3 i g hi⟩
  have hl := hO.hl
  have part : ∀ {i : Nat} {x : Gh} {y : AO}, (gk :: gs)[i]? = some x → (AO.keep 1 K :: objs)[i]? = some y → (∃ j, i = j + 1 ∧ gs[j]? = some x ∧ objs[j]? = some y) ∨ (i = 0 ∧ x = gk ∧ y = .keep 1 K) := by
    intro i x y hx hy
    match i, hx, hy with
    | 0, hx, hy => simp at hx hy; exact .inr ⟨rfl, hx.symm, hy.symm⟩
    | j + 1, hx, hy => exact .inl ⟨j, rfl, by simpa using hx, by simpa using hy⟩
  have hkeep : Keeps (okOf gs objs) (okOf (gk :: gs) (.keep 1 K :: objs)) w w := by
    intro b hbk _
    refine ⟨fun i x y hx hy hny hm => ?_, rfl⟩
    rcases part hx hy with ⟨j, rfl, h1, h2⟩ | ⟨_, _, rfl⟩
    · exact hbk j x y h1 h2 hny hm
    · exact hny.elim
  have hrel : Rel base w (gk :: gs) (Env.start args' n) (.keep 1 K :: objs) (vs ++ Array.replicate n undef) := by
    refine ⟨hbase, by simp [hl], by simp [Env.start, hsz, ha], fun i => start_rv args' n vs (fun i => ?_) i, ?_, ?_, ?_⟩
    · rw [ha, getD_map_any _ rfl]
      have := (hvs i).sh (gs0 := [gk]) hkeep
      exact this
    · intro i x y hx hy
      rcases part hx hy with ⟨j, rfl, h1, h2⟩ | ⟨_, rfl, rfl⟩
      · exact (hO.hp y (List.mem_of_getElem? h2)).ro (hO.ho j x y h1 h2)
      · exact ⟨fun b _ => rfl, rfl, fun i x h => by
            match i with
            | 0 => exact h
            | i + 1 => simp [K] at h⟩
    · intro i j g1 g2 o1 o2 hij hg1 hg2 ho1 ho2 _ _ b hb1 hb2
      rcases part hg1 ho1 with ⟨i', rfl, a1, a2⟩ | ⟨rfl, rfl, _⟩
      · rcases part hg2 ho2 with ⟨j', rfl, b1, b2⟩ | ⟨rfl, rfl, _⟩
        · exact hO.hd i' j' g1 g2 (by omega) a1 b1 b hb1 hb2
        · exact ((hbl b).1 hb2).2.2 i' g1 a1 hb1
      · rcases part hg2 ho2 with ⟨j', rfl, b1, b2⟩ | ⟨rfl, _, _⟩
        · exact ((hbl b).1 hb1).2.2 j' g2 b1 hb2
        · omega
    · intro i x y hx hy _ b hb
      rcases part hx hy with ⟨j, rfl, h1, h2⟩ | ⟨_, rfl, _⟩
      · exact hO.hn j x h1 b hb
      · exact ⟨((hbl b).1 hb).2.1, ((hbl b).1 hb).1⟩
  refine wp_mono (h K base w w _ _ hrel (Below.refl _ _)) ?_
  intro e a w' hq
  cases e with
  | normal => obtain ⟨_, _, _, _, _, _, hx⟩ := hq; exact hx.elim
  | exit j => obtain ⟨_, _, _, _, _, _, hx⟩ := hq; exact hx.elim
  | ret =>
    obtain ⟨env, os1, gs1, hr1, hd, hbel, env2, os', r, ht, hres, hfl, hQ, hpl⟩ := hq
    obtain ⟨gs2, hr⟩ := ht base w' gs1 _ hr1
    obtain ⟨v, hu, hv⟩ := hres _ _ _ _ hr
    obtain ⟨g0, gs', rfl⟩ : ∃ g0 gs', gs2 = g0 :: gs' := by
      have := hr.hl
      match gs2 with
      | [] => simp at this
      | a :: b => exact ⟨a, b, rfl⟩
    obtain ⟨r1, r2, r3⟩ := hr.ho 0 _ _ rfl rfl
    have egk : g0 = gk := by
      have := r3 0 gk rfl
      exact Option.some.inj this
    subst egk
    have hl' : gs'.length = os'.length := by have := hr.hl; simpa using this
    have hno : ∀ (i : Nat) x o, gs'[i]? = some x → os'[i]? = some o → ∀ b, b ∈ x.bl → base ≤ b ∧ b < w'.heap.size := fun i x o hx ho b hb =>
      hr.hn (i + 1) x o (by simpa using hx) (by simpa using ho) (hpl o (List.mem_of_getElem? ho)).live.ne b hb
    have obj : ∀ {i : Nat} {x : Gh}, gs'[i]? = some x → ∃ o, os'[i]? = some o := fun {i x} hx => by
      have : i < os'.length := by rw [← hl']; exact (List.getElem?_eq_some_iff.1 hx).1
      exact ⟨_, List.getElem?_eq_getElem this⟩
    refine ⟨hd, v, hu, v, r, os', gs', rfl, hQ, ⟨hl', hpl, ?_, ?_, ?_⟩, ?_, ?_, hbel, ?_⟩
    · intro i x o hx ho
      exact (hpl o (List.mem_of_getElem? ho)).ro (hr.ho (i + 1) x o (by simpa using hx) (by simpa using ho))
    · intro i j x y hij hx hy b hb1 hb2
      obtain ⟨o1, h1⟩ := obj hx
      obtain ⟨o2, h2⟩ := obj hy
      exact hr.hd (i + 1) (j + 1) x y o1 o2 (by omega) (by simpa using hx) (by simpa using hy) (by simpa using h1) (by simpa using h2) (hpl o1 (List.mem_of_getElem? h1)).live.ne (hpl o2 (List.mem_of_getElem? h2)).live.ne b hb1 hb2
    · intro i x hx b hb
      obtain ⟨o1, h1⟩ := obj hx
      exact hno i x o1 hx h1 b hb
    · exact RV.unsh (g0 := gk) hfl hv
    · intro i x hx b hb
      obtain ⟨o1, h1⟩ := obj hx
      have hb2 := hno i x o1 hx h1 b hb
      by_cases hbw : b < w.heap.size
      · left
        apply Classical.byContradiction
        intro hnb
        refine hr.hd (i + 1) 0 x gk o1 _ (by omega) (by simpa using hx) rfl (by simpa using h1) rfl (hpl o1 (List.mem_of_getElem? h1)).live.ne (by simp) b hb ((hbl b).2 ⟨hbw, hb2.1, fun k g0 hg hm => hnb ⟨k, g0, hg, hm⟩⟩)
      · right; omega
    · intro b hb hnot
      rcases Nat.lt_or_ge b base with h6 | h6
      · exact hbel.block b h6
      · exact r1 b ((hbl b).2 ⟨hb, h6, hnot⟩)
  | goto l => exact (hq : False).elim
  | panic ch => exact (hq : False).elim
  | outgrown => exact (hq : False).elim
theorem AFnC.start {P : Program} {f : FuncId} {fn : Func} {nt : Nat} {args : List AV} {objs : List AO} {Q : AV → List AO → Prop} (hf : P.funcs[f]? = some fn) (hnt : fn.ntmps = nt) {c : Code} (hb : fn.body = some c) (hnm : (fn.name == "runtime.NumGoroutine") = false)
    (h : ∀ K, AWp P c (fun _ _ => False) (fun _ _ _ => False) (fun env os => ∃ env2 os' r, Turns env os env2 (.keep 1 K :: os') ∧ ResIs P fn env2 (.keep 1 K :: os') (r.sh 1) ∧ r.fl ∧ Q r os' ∧ ∀ o ∈ os', o.plain) (Env.start (args.map (AV.sh 1)) (nt - args.length)) (.keep 1 K :: objs)) :
    AFnC P f args objs Q := AFnC.of hf hb hnm (by rw [hnt]) rfl h
theorem Turns.fit {env : Env} {os : List AO} {env' : Env} {os' : List AO} (f : Fit env os env' os') : Turns env os env' os' := fun _ _ _ _ h => h.fit f
theorem Turns.fits {env : Env} {os : List AO} {env' : Env} {os' : List AO} {σ : List Nat} (f : FitS σ env os env' os') : Turns env os env' os' := fun _ _ _ _ h => h.fits f
theorem Turns.or {env : Env} {os : List AO} {env' : Env} {os' : List AO} (f : Fit env os env' os' ∨ ∃ σ, FitS σ env os env' os') : Turns env os env' os' := by
  rcases f with f | ⟨σ, f⟩
  · exact .fit f
  · exact .fits f

section
variable {P : Program} {env : Env} {os : List AO} {d : Option Tmp} {ty : TypeId} {pos : String} {af : Array Edge} {g : Option (Nat × Bool)}
theorem deadAll_get {H : List Nat} (hn : H.Nodup) {os : List AO} {i : Nat} {y : AO} (h : (setAll os H (H.map fun _ => .dead))[i]? = some y) : (i ∈ H ∧ y = .dead) ∨ (i ∉ H ∧ os[i]? = some y) := by
  rcases setAll_get hn (by simp) h with ⟨k, h1, h2⟩ | h
  · refine .inl ⟨List.mem_of_getElem? h1, ?_⟩
    rw [List.getElem?_map, h1] at h2
    simpa using h2.symm
  · exact .inr h
theorem setAll_len : ∀ (H : List Nat) (os osP : List AO), (setAll os H osP).length = os.length
  | [], os, osP => by cases osP <;> rfl
  | h :: H, os, [] => rfl
  | h :: H, os, o :: osP => by rw [setAll, setAll_len H, List.length_set]
theorem c_callc {f : FuncId} {args : List AV} {objs : List AO} {Q : AV → List AO → Prop} (H : List Nat) (hc : AFnC P f args objs Q) {xs : List Operand} {ats : Array TypeId} (hh : Handed os H objs) (hi : ImmUs os H (xs.map (AV.ev env)) args) :
    COp P ⟨d, .call { callee := .value (.func f), args := xs.toArray, argTypes := ats }, ty, pos, af, g⟩ env os (fun r e o => ∃ r0 os', Q r0 os' ∧ r = r0.sh os.length ∧ e = env ∧ o = setAll os H (H.map fun _ => .dead) ++ os'.map (AO.sh os.length)) := by
  intro base w gs tm hr
  have hg := hi.get
  have hltH : ∀ h ∈ H, h < gs.length := fun h hm => by rw [hr.hl]; exact hh.lt h hm
  refine ⟨f, _, run_call hc.1 xs ats _ rfl w, (hc.2 base w (selG gs H) _ hr.hb (hr.objs hh) (by simpa using hg.1) fun i => ?_).mono ?_⟩
  · have h1 := hg.2 i
    have e1 : (xs.map (AV.ev env)).getD i .any = match xs[i]? with | some x => AV.ev env x | none => .any := by
      simp only [List.getD_eq_getElem?_getD, List.getElem?_map]; cases xs[i]? <;> rfl
    have e2 : (xs.map (Act.eval ⟨tm, []⟩)).toArray.getD i undef = match xs[i]? with | some x => Act.eval ⟨tm, []⟩ x | none => undef := by
      simp only [Array.getD_eq_getD_getElem?, List.getElem?_toArray, List.getElem?_map]; cases xs[i]? <;> rfl
    rw [e1] at h1
    rw [e2]
    cases hx : xs[i]? with
    | some x => rw [hx] at h1; exact h1.rv hr hh (hr.ev x)
    | none => rw [hx] at h1; exact h1.rv hr hh (.any _)
  · rintro e w' ⟨v, r, os', gs', rfl, hQ, hO', hv, hbl, hbel, hfr⟩
    have hl := hr.hl
    have hl' := hO'.hl
    have hlive : ∀ h, h ∈ H → ∃ o, os[h]? = some o ∧ o.plain := fun h hm => by
      obtain ⟨k, hk⟩ := List.getElem?_of_mem hm
      obtain ⟨o', h1, h2, h3⟩ := hh.get hk
      exact ⟨o', h2, h3⟩
    have selGet : ∀ {k : Nat} {x : Gh}, (selG gs H)[k]? = some x → ∃ h, h ∈ H ∧ gs[h]? = some x := fun hx => by
      obtain ⟨h, h1, h2⟩ := selG_get hltH hx
      exact ⟨h, List.mem_of_getElem? h1, h2⟩
    -- blocks of what is new
    have hnb : ∀ {i : Nat} {x : Gh}, gs'[i]? = some x → ∀ b, b ∈ x.bl → (∃ h gh, h ∈ H ∧ gs[h]? = some gh ∧ b ∈ gh.bl) ∨ w.heap.size ≤ b := fun hx b hb => by
      rcases hbl _ _ hx b hb with ⟨k, g0, h1, h2⟩ | h1
      · obtain ⟨h, h3, h4⟩ := selGet h1
        exact .inl ⟨h, g0, h3, h4, h2⟩
      · exact .inr h1
    have keepB : ∀ b, b < w.heap.size → (∀ h gh, h ∈ H → gs[h]? = some gh → b ∉ gh.bl) → w'.heap[b]? = w.heap[b]? := fun b hb hno => hfr b hb fun k x hx => by
      obtain ⟨h, h1, h2⟩ := selGet hx
      exact hno h x h1 h2
    let osN := setAll os H (H.map fun _ => .dead) ++ os'.map (AO.sh os.length)
    have hlen1 : (setAll os H (H.map fun _ => AO.dead)).length = gs.length := by rw [setAll_len, hl]
    have split : ∀ {i : Nat} {x : Gh} {y : AO}, (gs ++ gs')[i]? = some x → osN[i]? = some y → y ≠ .dead → (i ∉ H ∧ gs[i]? = some x ∧ os[i]? = some y) ∨ ∃ j o, i = os.length + j ∧ gs'[j]? = some x ∧ os'[j]? = some o ∧ y = o.sh os.length := by
      intro i x y hx hy hne
      by_cases hlt : i < gs.length
      · rw [List.getElem?_append_left hlt] at hx
        simp only [osN] at hy
        rw [List.getElem?_append_left (by rw [hlen1]; exact hlt)] at hy
        rcases deadAll_get hh.nd hy with ⟨_, rfl⟩ | ⟨h1, h2⟩
        · exact absurd rfl hne
        · exact .inl ⟨h1, hx, h2⟩
      · rw [List.getElem?_append_right (by omega)] at hx
        simp only [osN] at hy
        rw [List.getElem?_append_right (by rw [hlen1]; omega), hlen1, List.getElem?_map] at hy
        cases ho : os'[i - gs.length]? with
        | none => rw [ho] at hy; cases hy
        | some o =>
          rw [ho] at hy
          simp only [Option.map_some, Option.some.injEq] at hy
          exact .inr ⟨i - gs.length, o, by omega, hx, ho, hy.symm⟩
    have kp : Keeps (okOf gs os) (okOf (gs ++ gs') osN) w w' := by
      intro b hbk hlt
      refine ⟨fun i x y hx hy hny hm => ?_, keepB b hlt fun h gh hm hg hb => ?_⟩
      · rcases split hx hy hny.ne with ⟨_, h1, h2⟩ | ⟨j, o, _, h1, h2, rfl⟩
        · exact hbk i x y h1 h2 hny hm
        · rcases hnb h1 b hm with ⟨h, gh, hH, hgh, hbm⟩ | h3
          · obtain ⟨o', ho', hp⟩ := hlive h hH
            exact hbk h gh o' hgh ho' hp.live hbm
          · omega
      · obtain ⟨o', ho', hp⟩ := hlive h hm
        exact hbk h gh o' hg ho' hp.live hb
    have hgs : ∀ (i : Nat) g', gs[i]? = some g' → (gs ++ gs')[i]? = some g' := fun i g' e => by
      rw [List.getElem?_append_left (List.getElem?_eq_some_iff.1 e).1]; exact e
    have hplsh : ∀ o : AO, o.plain → (o.sh os.length) = o := fun o ho => by cases o <;> first | rfl | exact ho.elim
    have hsame : ∀ (i : Nat) x y, i ∉ H → gs[i]? = some x → os[i]? = some y → y ≠ .dead → ∀ b, b ∈ x.bl → w'.heap[b]? = w.heap[b]? := fun i x y hiH hx hy hne b hb => by
      refine keepB b (hr.hn i x y hx hy hne b hb).2 fun h gh hH hgh hbm => ?_
      obtain ⟨o', ho', hp⟩ := hlive h hH
      exact hr.hd i h x gh y o' (fun e => hiH (e ▸ hH)) hx hgh hy ho' hne hp.live.ne b hb hbm
    refine ⟨v, r.sh os.length, env, osN, gs ++ gs', rfl, ⟨r, os', hQ, rfl, rfl, rfl⟩, ?_, ?_, hbel⟩
    · refine ⟨Nat.le_trans hr.hb hbel.size, ?_, hr.hs, fun i => (hr.he i).mono kp hgs, ?_, ?_, ?_⟩
      · simp only [osN, List.length_append, List.length_map, hlen1, hl']
      · intro i x y hx hy
        by_cases hd : y = .dead
        · subst hd; trivial
        rcases split hx hy hd with ⟨h0, h1, h2⟩ | ⟨j, o, _, h1, h2, rfl⟩
        · exact (hr.ho i x y h1 h2).mono kp hgs fun hne b hb => hsame i x y h0 h1 h2 hne b hb
        · have hp := hO'.hp o (List.mem_of_getElem? h2)
          rw [hplsh o hp]
          exact hp.ro (hO'.ho j x o h1 h2)
      · intro i j x1 x2 y1 y2 hij hx1 hx2 hy1 hy2 hn1 hn2 b hb1 hb2
        rcases split hx1 hy1 hn1 with ⟨a0, a1, a2⟩ | ⟨j1, o1, e1, a1, a2, rfl⟩
        · rcases split hx2 hy2 hn2 with ⟨c0, c1, c2⟩ | ⟨j2, o2, e2, c1, c2, rfl⟩
          · exact hr.hd i j x1 x2 y1 y2 hij a1 c1 a2 c2 hn1 hn2 b hb1 hb2
          · rcases hnb c1 b hb2 with ⟨h, gh, hH, hgh, hbm⟩ | h3
            · obtain ⟨o', ho', hp⟩ := hlive h hH
              exact hr.hd i h x1 gh y1 o' (fun e => a0 (e ▸ hH)) a1 hgh a2 ho' hn1 hp.live.ne b hb1 hbm
            · have := (hr.hn i x1 y1 a1 a2 hn1 b hb1).2; omega
        · rcases split hx2 hy2 hn2 with ⟨c0, c1, c2⟩ | ⟨j2, o2, e2, c1, c2, rfl⟩
          · rcases hnb a1 b hb1 with ⟨h, gh, hH, hgh, hbm⟩ | h3
            · obtain ⟨o', ho', hp⟩ := hlive h hH
              exact hr.hd j h x2 gh y2 o' (fun e => c0 (e ▸ hH)) c1 hgh c2 ho' hn2 hp.live.ne b hb2 hbm
            · have := (hr.hn j x2 y2 c1 c2 hn2 b hb2).2; omega
          · exact hO'.hd j1 j2 x1 x2 (fun e => hij (by omega)) a1 c1 b hb1 hb2
      · intro i x y hx hy hne b hb
        rcases split hx hy hne with ⟨_, h1, h2⟩ | ⟨j, o, _, h1, h2, rfl⟩
        · have := hr.hn i x y h1 h2 hne b hb
          exact ⟨this.1, Nat.lt_of_lt_of_le this.2 hbel.size⟩
        · exact hO'.hn j x h1 b hb
    · have := hv.sh (ok' := okOf (gs ++ gs') osN) (gs0 := gs) (fun b hbk _ => hbk.elim)
      rw [hl] at this; exact this
end
section
variable {P : Program} {env : Env} {os : List AO} {d : Tmp} {ty : TypeId} {pos : String} {af : Array Edge} {l rest : List Oper} {K : APost}
theorem w_callc {f : FuncId} {args : List AV} {objs : List AO} {Q : AV → List AO → Prop} {xs : List Operand} {ats : Array TypeId} (H : List Nat) {m : Nat} (hc : AFnC P f args objs Q) (hm : os.length = m) (hh : Handed os H objs) (hi : ImmUs os H (xs.map (AV.ev env)) args)
    (h' : ∀ r os0, Q r os0 → AOps P .seq l rest K (env.up d (r.sh m)) (setAll os H (H.map fun _ => .dead) ++ os0.map (AO.sh m))) :
    AOps P .seq l (⟨some d, .call { callee := .value (.func f), args := xs.toArray, argTypes := ats }, ty, pos, af, none⟩ :: rest) K env os := by
  subst hm
  exact AOps.ca (c_callc H hc hh hi) fun r e o ⟨r0, os0, hq, h1, h2, h3⟩ => by subst h1; subst h2; subst h3; exact h' r0 os0 hq
theorem handed3 {h1 h2 h3 : Nat} {o1 o2 o3 : AO} (ho1 : os[h1]? = some o1) (ho2 : os[h2]? = some o2) (ho3 : os[h3]? = some o3) (hne : ((h1 == h2) || (h1 == h3) || (h2 == h3)) = false) (hp1 : o1.plain) (hp2 : o2.plain) (hp3 : o3.plain) : Handed os [h1, h2, h3] [o1, o2, o3] := by
  simp only [Bool.or_eq_false_iff, beq_eq_false_iff_ne] at hne
  obtain ⟨⟨n1, n2⟩, n3⟩ := hne
  refine ⟨by simp [n1, n2, n3], fun k h hk => ?_, rfl, fun o ho => ?_⟩
  · match k, hk with
    | 0, hk => simp at hk; subst hk; exact ho1.symm
    | 1, hk => simp at hk; subst hk; exact ho2.symm
    | 2, hk => simp at hk; subst hk; exact ho3.symm
  · simp at ho
    rcases ho with rfl | rfl | rfl
    · exact hp1
    · exact hp2
    · exact hp3
end
end Go.Proofs.Ytifkgmbghcmdeaa
/-
  A row of an own slice of rows is handed to a function that writes to it. No condition.
-/
namespace Go.Proofs.Ytifkgmbghcmdeaa
open Go Go.RowKit

theorem flatten_disj {bs : List (List Nat)} (h : bs.flatten.Nodup) {i j : Nat} (hij : i ≠ j) {c : Nat} (hi : c ∈ bs.getD i []) (hj : c ∈ bs.getD j []) : False := by
  have lt : ∀ {k : Nat}, c ∈ bs.getD k [] → k < bs.length := fun {k} hk => by
    rcases Nat.lt_or_ge k bs.length with h1 | h1
    · exact h1
    · rw [List.getD_eq_getElem?_getD, List.getElem?_eq_none h1] at hk; simp at hk
  have hil := lt hi
  have hjl := lt hj
  have ej : bs.getD j [] = bs[j] := by simp [List.getD_eq_getElem?_getD, hjl]
  rw [flatten_at hil] at h
  simp only [List.nodup_append, List.mem_append] at h
  obtain ⟨_, ⟨_, _, h2⟩, h3⟩ := h
  rcases Nat.lt_or_ge j i with h1 | h1
  · have : c ∈ (bs.take i).flatten := List.mem_flatten.2 ⟨bs[j], by rw [List.mem_take_iff_getElem]; exact ⟨j, by omega, rfl⟩, by rw [← ej]; exact hj⟩
    exact h3 c this c (.inl hi) rfl
  · have : c ∈ (bs.drop (i + 1)).flatten := List.mem_flatten.2 ⟨bs[j], by rw [List.mem_drop_iff_getElem]; exact ⟨j - (i + 1), by omega, by congr 1; omega⟩, by rw [← ej]; exact hj⟩
    exact h2 c hi c this rfl

section
variable {P : Program} {env : Env} {os : List AO} {d : Tmp} {ty : TypeId} {pos : String} {af : Array Edge} {l rest : List Oper} {K : APost}
theorem w_callrow {f : FuncId} {ats : Array TypeId} {v0 : Value} {h i : Nat} {e e2 : TypeId} {xss : List (List Int)} {Q : Value → List AO → Prop} {x y : Operand} (hx : evo env x = some (.orow h i)) (hs : os[h]? = some (.sls e e2 xss)) (hy : evo env y = some (.val v0))
    (hc : AFnU P f [.own 0, .val v0] [.sli e2 (xss.getD i [])] Q)
    (hQ : ∀ v os', Q v os' → ∃ row', os' = [.sli e2 row'])
    (h' : ∀ v row', Q v [.sli e2 row'] → AOps P .seq l rest K (env.up d (.val v)) (os.set h (.sls e e2 (xss.set i row')))) :
    AOps P .seq l (⟨some d, .call { callee := .value (.func f), args := #[x, y], argTypes := ats }, ty, pos, af, none⟩ :: rest) K env os := by
  refine AOps.ca (Q := fun r en o => ∃ v row', Q v [.sli e2 row'] ∧ r = .val v ∧ en = env ∧ o = os.set h (.sls e e2 (xss.set i row'))) ?_ fun r en o ⟨v, row', h0, h1, h2, h3⟩ => by subst h1; subst h2; subst h3; exact h' v row' h0
  intro base w gs tm hr
  have hev := hr.ev x
  rw [ev_of hx] at hev
  generalize hv : Act.eval ⟨tm, []⟩ x = u at hev
  cases hev with
  | @orow _ _ gh _ hg hrow =>
    obtain ⟨vs, bs, mb, a1, a2, a3, a4, a5, a6, a7, a8⟩ := hr.ho _ _ _ hg hs
    rw [a4] at hrow
    obtain ⟨r1, r2, r3⟩ := a5 _ _ hrow
    have hiv : i < vs.length := (List.getElem?_eq_some_iff.1 hrow).1
    let gr : Gh := ⟨u, u.ownBlock.getD 0, u.ownBlock.toList, []⟩
    have hgr : GB gr := by
      show (u.ownBlock = none ∧ u.ownBlock.toList = []) ∨ (u.ownBlock = some (u.ownBlock.getD 0) ∧ u.ownBlock.toList = [u.ownBlock.getD 0])
      cases u.ownBlock with
      | none => exact .inl ⟨rfl, rfl⟩
      | some b => exact .inr ⟨rfl, rfl⟩
    have sub : ∀ b, b ∈ gr.bl → b ∈ gh.bl := by
      intro b hb
      have hb' : b ∈ bs.getD i [] := by rw [← r3]; exact hb
      rw [a7]
      refine List.mem_append.2 (.inr (List.mem_flatten.2 ⟨bs.getD i [], ?_, hb'⟩))
      have hib : i < bs.length := by omega
      rw [List.getD_eq_getElem?_getD, List.getElem?_eq_getElem hib]; simp
    have one : ∀ {k : Nat} {g : Gh}, [gr][k]? = some g → k = 0 ∧ g = gr := by
      intro k g hk
      have := (List.getElem?_eq_some_iff.1 hk).1
      simp at this
      subst this
      simp at hk
      exact ⟨rfl, hk.symm⟩
    have hO : Objs base w [gr] [.sli e2 (xss.getD i [])] := by
      refine ⟨rfl, fun o ho => by simp at ho; subst ho; trivial, ?_, ?_, ?_⟩
      · intro k g o hk ho
        obtain ⟨rfl, rfl⟩ := one hk
        simp at ho
        subst ho
        exact ⟨r1, r2, hgr⟩
      · intro k m g g' hkm hk hm
        obtain ⟨rfl, _⟩ := one hk
        obtain ⟨rfl, _⟩ := one hm
        exact absurd rfl hkm
      · intro k g hk b hb
        obtain ⟨_, rfl⟩ := one hk
        exact hr.hn _ _ _ hg hs (by simp) b (sub b hb)
    refine ⟨f, _, run_call hc.1 [x, y] ats _ rfl w, (hc.2 base w [gr] _ hr.hb hO (by simp) fun k => ?_).mono ?_⟩
    · match k with
      | 0 =>
        have : RV w (okOf [gr] [.sli e2 (xss.getD i [])]) [gr] u (.own 0) := RV.own (g := gr) (by simp)
        simpa [hv] using this
      | 1 =>
        have hyv := hr.evv (ev_of hy)
        have : RV w (okOf [gr] [.sli e2 (xss.getD i [])]) [gr] (Act.eval ⟨tm, []⟩ y) (.val v0) := by rw [hyv]; exact .val _
        simpa using this
      | k + 2 => exact .any _
    · rintro en w' ⟨v, os', rfl, hq, hO', hbel, hw⟩
      obtain ⟨row', rfl⟩ := hQ v os' hq
      have hunch : ∀ c, c < w.heap.size → c ∉ gr.bl → w'.heap[c]? = w.heap[c]? := fun c hc hn => hw c hc fun k g hk => by
        obtain ⟨_, rfl⟩ := one hk
        exact hn
      have hother : ∀ c, c < w.heap.size → c ∉ gh.bl → w'.heap[c]? = w.heap[c]? := fun c hc hn => hunch c hc fun h1 => hn (sub c h1)
      have a8' : (mb ++ bs.flatten).Nodup := by rw [← a7]; exact a8
      have grb : ∀ c, c ∈ gr.bl → c ∈ bs.getD i [] := fun c hc => by rw [← r3]; exact hc
      have inbl : ∀ c, c ∈ gh.bl → c < w.heap.size := fun c hc => (hr.hn _ _ _ hg hs (by simp) c hc).2
      have memfl : ∀ {k : Nat} {c : Nat}, c ∈ bs.getD k [] → c ∈ bs.flatten := by
        intro k c hc
        have hkb : k < bs.length := by
          rcases Nat.lt_or_ge k bs.length with h1 | h1
          · exact h1
          · rw [List.getD_eq_getElem?_getD, List.getElem?_eq_none h1] at hc; simp at hc
        exact List.mem_flatten.2 ⟨bs.getD k [], by rw [List.getD_eq_getElem?_getD, List.getElem?_eq_getElem hkb]; simp, hc⟩
      refine ⟨v, .val v, env, os.set h (.sls e e2 (xss.set i row')), gs, rfl, ⟨v, row', hq, rfl, rfl, rfl⟩, hr.upd hg hs trivial _ trivial hother hbel.size (fun _ => ?_), .val v, hbel⟩
      refine ⟨vs, bs, mb, ?_, by simp [a2], by simp [a3], a4, fun j z hj => ?_, a6, a7, a8⟩
      · refine ownsRow_of_block a1 fun c hc => ?_
        have hcm : c ∈ mb := by
          rcases a6 with ⟨c1, _⟩ | ⟨c1, c2⟩
          · rw [c1] at hc; cases hc
          · rw [c1] at hc; cases hc; rw [c2]; simp
        have hcg : c ∈ gh.bl := by rw [a7]; exact List.mem_append.2 (.inl hcm)
        exact hunch c (inbl c hcg) fun h1 => (List.nodup_append.1 a8').2.2 c hcm c (memfl (grb c h1)) rfl
      · have egd : (xss.set i row').getD j [] = if i = j then row' else xss.getD j [] := by
          simp only [List.getD_eq_getElem?_getD, List.getElem?_set]
          by_cases e1 : i = j
          · subst e1
            have : i < xss.length := by omega
            simp [this]
          · simp [e1]
        rw [egd]
        by_cases e1 : i = j
        · subst e1
          rw [if_pos rfl]
          have h0 := hO'.ho 0 gr (.sli e2 row') (by simp) (by simp)
          obtain ⟨q1, q2, q3⟩ := h0
          have ez : z = u := by rw [hrow] at hj; exact (Option.some.inj hj).symm
          rw [ez]
          exact ⟨q1, q2, r3⟩
        · rw [if_neg e1]
          obtain ⟨q1, q2, q3⟩ := a5 j z hj
          refine ⟨ownsRow_of_block q1 fun c hc => ?_, q2, q3⟩
          have hcj : c ∈ bs.getD j [] := by rw [← q3, hc]; simp
          have hcg : c ∈ gh.bl := by rw [a7]; exact List.mem_append.2 (.inr (memfl hcj))
          exact hunch c (inbl c hcg) fun h1 => flatten_disj (List.nodup_append.1 a8').2.1 e1 (grb c h1) hcj
end

end Go.Proofs.Ytifkgmbghcmdeaa
/-
  A literal slice of one row, as an own slice of rows. No condition.
-/
namespace Go.Proofs.Ytifkgmbghcmdeaa
open Go Go.RowKit
section
variable {P : Program} {env : Env} {os : List AO} {d : Option Tmp} {ty : TypeId} {pos : String} {af : Array Edge} {g : Option (Nat × Bool)}

end
section
variable {P : Program} {env : Env} {os : List AO} {d : Tmp} {ty : TypeId} {pos : String} {af : Array Edge} {l rest : List Oper} {K : APost}
end
section
variable {P : Program} {N : APost} {X : Nat → APost} {Rt : APost} {env : Env} {os : List AO}
/-- A loop whose rounds may number the objects anew. -/
theorem AWp.loopS {c : Code} {ι : Type} (E : ι → Env) (O : ι → List AO) (φ : ι → Prop) (μ : ι → Nat) (x0 : ι) (h0 : φ x0) (f0 : Fit env os (E x0) (O x0))
    (round : ∀ x, φ x → AWp P c (fun env' os' => ∃ y, φ y ∧ μ y < μ x ∧ (Fit env' os' (E y) (O y) ∨ ∃ σ, FitS σ env' os' (E y) (O y))) X Rt (E x) (O x)) : AWp P (.loop c) N X Rt env os := by
  intro base w0 w gs tm hr hb
  obtain ⟨gs0, hr0⟩ := hr.fit f0
  refine wp_loop_ghost (fun n a w' => ∃ x gs', φ x ∧ μ x = n ∧ Rel base w' gs' (E x) (O x) a.tmps ∧ a.defers = [] ∧ Below base w0 w') (μ x0) ⟨x0, gs0, h0, rfl, hr0, rfl, hb⟩ ?_
  rintro n a w1 ⟨x, gs1, hφ, rfl, hr1, hd, hb1⟩
  have ea : a = ⟨a.tmps, []⟩ := by cases a; simp_all
  rw [ea]
  refine wp_mono (round x hφ base w0 w1 gs1 a.tmps hr1 hb1) ?_
  intro e a' w' hq
  cases e with
  | normal =>
    obtain ⟨env', os', gs', r1, r2, r3, y, hy, hlt, hf⟩ := hq
    rcases hf with hf | ⟨σ, hf⟩
    · obtain ⟨gs2, hr2⟩ := r1.fit hf
      exact ⟨μ y, hlt, y, gs2, hy, rfl, hr2, r2, r3⟩
    · obtain ⟨gs2, hr2⟩ := r1.fits hf
      exact ⟨μ y, hlt, y, gs2, hy, rfl, hr2, r2, r3⟩
  | exit j => exact hq
  | ret => exact hq
  | goto l => exact hq
  | panic ch => exact hq
  | outgrown => exact hq
end

end Go.Proofs.Ytifkgmbghcmdeaa
/-
  Functions without results that write to what they are handed. No condition.
-/
namespace Go.Proofs.Ytifkgmbghcmdeaa
open Go Go.RowKit
theorem AFnUN.of {P : Program} {f : FuncId} {fn : Func} {c : Code} {args : List AV} {os : List AO} {Q : Value → List AO → Prop} {n : Nat} (hf : P.funcs[f]? = some fn) (hb : fn.body = some c) (hnm : (fn.name == "runtime.NumGoroutine") = false) (hn : fn.ntmps - args.length = n)
    (h : ∀ K, AWp P c (fun env os1 => ∃ v os', ResIs P fn env os1 (.val v) ∧ Q v os' ∧ os1.take os.length = os' ∧ os1[os.length]? = some (.keep (os.length + 1) K) ∧ ∀ o ∈ os', o.plain) (fun _ _ _ => False) (fun env os1 => ∃ v os', ResIs P fn env os1 (.val v) ∧ Q v os' ∧ os1.take os.length = os' ∧ os1[os.length]? = some (.keep (os.length + 1) K) ∧ ∀ o ∈ os', o.plain) (Env.start args n) (os ++ [.keep (os.length + 1) K])) :
    AFnU P f args os Q := by
  refine ⟨⟨fn, c, hf, hnm, hb⟩, fun base w gs vs hbase hO hsz hvs => calls_of_wp hf hb ?_⟩
  rw [show fn.ntmps - vs.size = n by rw [hsz]; exact hn]
  let bl : List Nat := (List.range w.heap.size).filter fun b => decide (base ≤ b) && gs.all fun g => !g.bl.contains b
  let gk : Gh := ⟨undef, 0, bl, []⟩
  let K : Kp := ⟨fun b => w.heap[b]?, gs ++ [gk]⟩
  have hbl : ∀ b, b ∈ bl ↔ b < w.heap.size ∧ base ≤ b ∧ ∀ (h : Nat) g, gs[h]? = some g → b ∉ g.bl := by
    intro b
    simp only [bl, List.mem_filter, List.mem_range, Bool.and_eq_true, decide_eq_true_eq, List.all_eq_true, Bool.not_eq_true', List.contains_eq_mem, decide_eq_false_iff_not]
    constructor
    · rintro ⟨h1, h2, h3⟩
      exact ⟨h1, h2, fun h g hg => h3 g (List.mem_of_getElem? hg)⟩
    · rintro ⟨h1, h2, h3⟩
      exact ⟨h1, h2, fun g hg => by obtain ⟨i, hi⟩ := List.getElem?_of_mem hg; exact h3 i g hi⟩
  have hl := hO.hl
  have part : ∀ {i : Nat} {x : Gh} {y : AO}, (gs ++ [gk])[i]? = some x → (os ++ [.keep (os.length + 1) K])[i]? = some y → (gs[i]? = some x ∧ os[i]? = some y) ∨ (i = os.length ∧ x = gk ∧ y = .keep (os.length + 1) K) := by
    intro i x y hx hy
    rcases append_one hx with ⟨h1, h2⟩ | ⟨h1, rfl⟩
    · rcases append_one hy with ⟨h3, h4⟩ | ⟨h3, rfl⟩
      · exact .inl ⟨h2, h4⟩
      · omega
    · rcases append_one hy with ⟨h3, h4⟩ | ⟨h3, rfl⟩
      · omega
      · exact .inr ⟨h3, rfl, rfl⟩
  have gl : ∀ (i : Nat) x, gs[i]? = some x → (gs ++ [gk])[i]? = some x := fun i x e => by
    rw [List.getElem?_append_left (List.getElem?_eq_some_iff.1 e).1]; exact e
  have kp : Keeps (okOf gs os) (okOf (gs ++ [gk]) (os ++ [.keep (os.length + 1) K])) w w := by
    intro b hbk _
    refine ⟨fun i x y hx hy hny hm => ?_, rfl⟩
    rcases part hx hy with ⟨h1, h2⟩ | ⟨_, _, rfl⟩
    · exact hbk i x y h1 h2 hny hm
    · exact hny.elim
  have hrel : Rel base w (gs ++ [gk]) (Env.start args n) (os ++ [.keep (os.length + 1) K]) (vs ++ Array.replicate n undef) := by
    refine ⟨hbase, by simp [hl], by simp [Env.start, hsz], fun i => ?_, ?_, ?_, ?_⟩
    · exact start_rv args n vs (fun i => (hvs i).mono kp gl) i
    · intro i x y hx hy
      rcases part hx hy with ⟨h1, h2⟩ | ⟨_, rfl, rfl⟩
      · exact (hO.hp y (List.mem_of_getElem? h2)).ro (hO.ho i x y h1 h2)
      · exact ⟨fun b _ => rfl, by simp [K, hl], fun i x h => h⟩
    · intro i j g1 g2 o1 o2 hij hg1 hg2 ho1 ho2 _ _ b hb1 hb2
      rcases part hg1 ho1 with ⟨a1, a2⟩ | ⟨a1, rfl, _⟩
      · rcases part hg2 ho2 with ⟨b1, b2⟩ | ⟨_, rfl, _⟩
        · exact hO.hd i j g1 g2 hij a1 b1 b hb1 hb2
        · exact ((hbl b).1 hb2).2.2 i g1 a1 hb1
      · rcases part hg2 ho2 with ⟨b1, b2⟩ | ⟨b1, _, _⟩
        · exact ((hbl b).1 hb1).2.2 j g2 b1 hb2
        · omega
    · intro i x y hx hy _ b hb
      rcases part hx hy with ⟨h1, h2⟩ | ⟨_, rfl, _⟩
      · exact hO.hn i x h1 b hb
      · exact ⟨((hbl b).1 hb).2.1, ((hbl b).1 hb).1⟩
  refine wp_mono (h K base w w _ _ hrel (Below.refl _ _)) ?_
  intro e a w' hq
  cases e with
  | normal =>
    obtain ⟨env, os1, gs1, hr, hd, hbel, v, os', h1, h2, h3, h4, h5⟩ := hq
    obtain ⟨u, hu, hv⟩ := h1 _ _ _ _ hr
    cases hv
    have hlt : os.length < os1.length := (List.getElem?_eq_some_iff.1 h4).1
    have hltg : os.length < gs1.length := by have := hr.hl; omega
    obtain ⟨g1, hg1⟩ : ∃ g1, gs1[os.length]? = some g1 := ⟨_, List.getElem?_eq_getElem hltg⟩
    obtain ⟨r1, r2, r3⟩ := hr.ho _ _ _ hg1 h4
    have pin : ∀ (i : Nat) x, gs[i]? = some x → gs1[i]? = some x := fun i x e => r3 i x (gl i x e)
    have egk : g1 = gk := by
      have := r3 os.length gk (by show (gs ++ [gk])[os.length]? = some gk; rw [← hl]; simp)
      rw [hg1] at this
      exact Option.some.inj this
    rw [egk] at r1
    have get' : ∀ {i : Nat} {y : AO}, os'[i]? = some y → os1[i]? = some y ∧ i < os.length := by
      intro i y hy
      rw [← h3, List.getElem?_take] at hy
      split at hy
      · exact ⟨hy, ‹_›⟩
      · cases hy
    refine ⟨hd, v, hu, v, os', rfl, h2, ⟨?_, h5, ?_, hO.hd, ?_⟩, hbel, ?_⟩
    · rw [← h3, List.length_take]; omega
    · intro i x y hx hy
      obtain ⟨h6, h7⟩ := get' hy
      exact (h5 y (List.mem_of_getElem? hy)).ro (hr.ho i x y (pin i x hx) h6)
    · intro i x hx b hb
      have := hO.hn i x hx b hb
      exact ⟨this.1, Nat.lt_of_lt_of_le this.2 hbel.size⟩
    · intro b hb hnot
      rcases Nat.lt_or_ge b base with h6 | h6
      · exact hbel.block b h6
      · exact r1 b ((hbl b).2 ⟨hb, h6, hnot⟩)
  | exit j => obtain ⟨_, _, _, _, _, _, hx⟩ := hq; exact hx.elim
  | ret =>
    obtain ⟨env, os1, gs1, hr, hd, hbel, v, os', h1, h2, h3, h4, h5⟩ := hq
    obtain ⟨u, hu, hv⟩ := h1 _ _ _ _ hr
    cases hv
    have hlt : os.length < os1.length := (List.getElem?_eq_some_iff.1 h4).1
    have hltg : os.length < gs1.length := by have := hr.hl; omega
    obtain ⟨g1, hg1⟩ : ∃ g1, gs1[os.length]? = some g1 := ⟨_, List.getElem?_eq_getElem hltg⟩
    obtain ⟨r1, r2, r3⟩ := hr.ho _ _ _ hg1 h4
    have pin : ∀ (i : Nat) x, gs[i]? = some x → gs1[i]? = some x := fun i x e => r3 i x (gl i x e)
    have egk : g1 = gk := by
      have := r3 os.length gk (by show (gs ++ [gk])[os.length]? = some gk; rw [← hl]; simp)
      rw [hg1] at this
      exact Option.some.inj this
    rw [egk] at r1
    have get' : ∀ {i : Nat} {y : AO}, os'[i]? = some y → os1[i]? = some y ∧ i < os.length := by
      intro i y hy
      rw [← h3, List.getElem?_take] at hy
      split at hy
      · exact ⟨hy, ‹_›⟩
      · cases hy
    refine ⟨hd, v, hu, v, os', rfl, h2, ⟨?_, h5, ?_, hO.hd, ?_⟩, hbel, ?_⟩
    · rw [← h3, List.length_take]; omega
    · intro i x y hx hy
      obtain ⟨h6, h7⟩ := get' hy
      exact (h5 y (List.mem_of_getElem? hy)).ro (hr.ho i x y (pin i x hx) h6)
    · intro i x hx b hb
      have := hO.hn i x hx b hb
      exact ⟨this.1, Nat.lt_of_lt_of_le this.2 hbel.size⟩
    · intro b hb hnot
      rcases Nat.lt_or_ge b base with h6 | h6
      · exact hbel.block b h6
      · exact r1 b ((hbl b).2 ⟨hb, h6, hnot⟩)
  | goto l => exact (hq : False).elim
  | panic ch => exact (hq : False).elim
  | outgrown => exact (hq : False).elim


theorem AFnUN.start {P : Program} {f : FuncId} {fn : Func} {c : Code} {args : List AV} {objs : List AO} {Q : Value → List AO → Prop} {m : Nat} (hf : P.funcs[f]? = some fn) (hn : fn.ntmps = m) (hb : fn.body = some c) (hnm : (fn.name == "runtime.NumGoroutine") = false)
    (h : ∀ K, AWp P c (fun env os1 => ∃ v os', ResIs P fn env os1 (.val v) ∧ Q v os' ∧ os1.take objs.length = os' ∧ os1[objs.length]? = some (.keep (objs.length + 1) K) ∧ ∀ o ∈ os', o.plain) (fun _ _ _ => False) (fun env os1 => ∃ v os', ResIs P fn env os1 (.val v) ∧ Q v os' ∧ os1.take objs.length = os' ∧ os1[objs.length]? = some (.keep (objs.length + 1) K) ∧ ∀ o ∈ os', o.plain) (Env.start args (m - args.length)) (objs ++ [.keep (objs.length + 1) K])) :
    AFnU P f args objs Q := AFnUN.of hf hb hnm (by rw [hn]) h
theorem ResIs.unit {P : Program} {fn : Func} {env : Env} {os : List AO} (h : fn.results = #[]) : ResIs P fn env os (.val (.tuple #[])) :=
  fun _ _ _ tm hr => ⟨.tuple #[], by unfold results; rw [h]; simp, .val _⟩
end Go.Proofs.Ytifkgmbghcmdeaa
/-
  Rows over the field of 55441 elements: the program and the reference reduce a row. No condition but bounds.
-/
namespace Go.Proofs.Ytifkgmbghcmdeaa
open Go Go.RowKit
attribute [local irreducible] AWp AOps ResIs Ret1 QOp LOp COp AFnV AFn Imms LeE LeO
set_option maxHeartbeats 1000000
set_option linter.unusedSimpArgs false
set_option linter.unusedVariables false

theorem inverse_c (z : Int) (hz : 0 ≤ z ∧ z ≤ 55440) : AFnV Try.prog 84 [.i z] (.int .i64 (pwF z 55439)) := by
  (refine AFnV.start Try.func84 Try.ntmps84 rfl (by kernel_rfl) fun hk => ?_; simp only [Env.start, enumF, List.length_cons, List.length_nil, Nat.reduceAdd, Nat.reduceSub, List.cons_append, List.nil_append])
  repeat' (first | (apply AOps.nil; try simp only [List.nil_append, List.cons_append, List.set_cons_zero, List.set_cons_succ, List.length_cons, List.length_nil, Nat.reduceAdd, AV.sh, AV.sh1, AV.sh0, AO.sh, List.map_cons, List.map_nil, Nat.zero_add, Nat.add_zero, setAll]) | (apply w_move; exact rfl; exact rfl) | (apply w_assign; exact rfl; exact rfl) | apply AWp.seq | apply AWp.region | apply AWp.ret | (apply w_call (power_c z 55439 hz (by omega)); exact rfl; exact rfl; focus ((repeat (first | exact im_nil | refine im_cons rfl (.val _) ?_)); done)))
  all_goals exact .int Try.results84 rfl rfl
theorem clone_c (xs : List Int) (h1 : 0 < xs.length) (h2 : xs.length ≤ 1048576) : AFn Try.prog 83 [.ints xs] (IsInts 2 xs) := by
  (refine AFn.start Try.func83 Try.ntmps83 rfl (by kernel_rfl) fun hk => ?_; simp only [Env.start, enumF, List.length_cons, List.length_nil, Nat.reduceAdd, Nat.reduceSub, List.cons_append, List.nil_append])
  repeat' (first | (apply AOps.nil; try simp only [List.nil_append, List.cons_append, List.set_cons_zero, List.set_cons_succ, List.length_cons, List.length_nil, Nat.reduceAdd, AV.sh, AV.sh1, AV.sh0, AO.sh, List.map_cons, List.map_nil, Nat.zero_add, Nat.add_zero, setAll]) | (apply w_move; exact rfl; exact rfl) | (apply w_assign; exact rfl; exact rfl) | apply AWp.seq | apply AWp.region | (apply AWp.condF; exact rfl) | apply AWp.ret | apply AWp.skip | (apply w_eqnil; iterate 2 exact rfl) | (apply w_bs0; iterate 1 exact rfl) | (apply w_app; exact rfl; exact rfl; exact rfl; exact rfl; (exact .ints _); rotate_left 1; simp only [Env.mp, List.map_cons, List.map_nil, List.set_cons_zero, List.set_cons_succ, AV.kill, AV.kill1, AO.kill, AV.noRow, AV.noRow1, AO.via, reduceIte, Nat.reduceEqDiff, Nat.reduceLT, Env.up, Nat.zero_ne_one, Nat.one_ne_zero, Nat.reduceAdd, List.cons_append, List.nil_append]; rotate_left 1) | omega | (simp <;> omega))
  all_goals exact ⟨_, _, _, .v1 Try.results83 rfl, .sli rfl, rfl, rfl⟩

set_option maxHeartbeats 4000000 in
theorem add_c (m : Nat) (L : Rws) (hL : RwOk m L) (row : List Int) (hl : row.length = m) (hm : 1 ≤ m ∧ m ≤ 10000) (hr : inF row) :
    AFnE Try.prog 45 [.agg [.own 0], .ints row] 2 L (addR L row) (.tuple #[]) := by
  have hcl := clone_c row (by omega) (by omega)
  (refine AFnE.start Try.func45 Try.ntmps45 rfl (by kernel_rfl) fun K pb => ?_; simp only [Env.start, enumF, List.map_cons, List.map_nil, AV.sh, AV.sh0, List.length_cons, List.length_nil, Nat.reduceAdd, Nat.zero_add, Nat.reduceSub, List.cons_append, List.nil_append])
  repeat' (first | (apply AOps.nil; try simp only [List.nil_append, List.cons_append, List.set_cons_zero, List.set_cons_succ, List.length_cons, List.length_nil, Nat.reduceAdd, AV.sh, AV.sh1, AV.sh0, AO.sh, List.map_cons, List.map_nil, Nat.zero_add, Nat.add_zero, setAll]) | (apply w_move; exact rfl; exact rfl) | (apply w_assign; exact rfl; exact rfl) | apply AWp.seq | apply AWp.region | apply AWp.block | (apply w_len; exact rfl; exact rfl; first | exact .ints _ | exact .intss _ | exact .sli rfl | exact .sls rfl | exact .slr rfl | exact .orow rfl | exact .nil) | (apply w_callm (hcl); (focus ((repeat (first | exact im_nil | refine im_cons rfl (.ints _) ?_)); done)); rintro r os0 ⟨rfl, rfl⟩; try simp only [List.nil_append, List.cons_append, List.set_cons_zero, List.set_cons_succ, List.length_cons, List.length_nil, Nat.reduceAdd, AV.sh, AV.sh1, AV.sh0, AO.sh, List.map_cons, List.map_nil, Nat.zero_add, Nat.add_zero, setAll]) | ((apply w_boxa); iterate 2 exact rfl))
  refine AWp.loop (ι := Nat × List Int) (fun x => ⟨86, [(1, .own 3), (2, .optr 2 0), (14, .i row.length), (15, .i x.1)]⟩) (fun x => [.keep 1 K, .ob (echOb (some pb) 2 L), .bx 63 [.own 1], .sli 2 x.2])
    (fun x => x.1 ≤ m ∧ RdI m x.1 x.2 ∧ redR L (m - x.1) x.2 x.1 = redR L m row 0) (fun x => m - x.1) (0, row) ⟨Nat.zero_le _, ⟨hl, hr, fun k hk => by omega⟩, rfl⟩ ⟨lee rfl (by (repeat (first | exact le_nil | refine le_eq rfl rfl ?_))), by (repeat (first | exact lo_nil | refine lo_eq rfl ?_)), rfl, rfl⟩ ?_
  rintro ⟨p, r⟩ ⟨hp, hI, hred⟩
  dsimp only at hp hI hred
  have hrl := hI.len
  have hin := hI.inf p
  by_cases hpm : p < m
  · have em : m - p = (m - (p + 1)) + 1 := by omega
    rw [em, redR] at hred
    have et : (((p : Nat) : Int).toNat : Int) = (p : Int) := by omega
    by_cases hz : geti r (p : Nat) = 0
    · rw [if_pos hz] at hred
      have hz' : geti r (((p : Nat) : Int).toNat : Nat) = 0 := by rw [et]; exact hz
      repeat' (first | (apply AOps.nil; try simp only [List.nil_append, List.cons_append, List.set_cons_zero, List.set_cons_succ, List.length_cons, List.length_nil, Nat.reduceAdd, AV.sh, AV.sh1, AV.sh0, AO.sh, List.map_cons, List.map_nil, Nat.zero_add, Nat.add_zero, setAll]) | (apply w_move; exact rfl; exact rfl) | (apply w_assign; exact rfl; exact rfl) | apply AWp.seq | apply AWp.region | ((apply AWp.condP; exact rfl) <;> intro h) | apply AWp.block | apply AWp.exit | apply AWp.skip | (apply if_pos'; exact rfl) | omega | ((first | apply w_lss | apply w_eql | apply w_add | apply w_idx | apply w_ld); iterate 3 exact rfl) | (apply w_idxo; exact rfl; exact rfl; (exact .sli rfl); exact rfl) | (apply w_ldo; iterate 4 exact rfl) | (apply inI_of <;> omega))
      exact ⟨(p + 1, r), ⟨by dsimp only; omega, hI.next hz, hred⟩, by dsimp only; omega, ⟨lee rfl (by (repeat (first | exact le_nil | refine le_eq rfl rfl ?_))), by (repeat (first | exact lo_nil | refine lo_eq rfl ?_)), rfl, rfl⟩⟩
    · rw [if_neg hz] at hred
      have hz' : ¬ geti r (((p : Nat) : Int).toNat : Nat) = 0 := by rw [et]; exact hz
      cases hf : fndR L (p : Nat) with
      | none =>
        rw [hf] at hred
        have hinv := inverse_c (geti r (((p : Nat) : Int).toNat : Nat)) (by rw [et]; exact hin)
        rw [show pwF (geti r (((p : Nat) : Int).toNat : Nat)) 55439 = pwF (geti r (p : Nat)) 55439 by rw [et]] at hinv
        have hsb := pwF_in (geti r (p : Nat)) 55439
        generalize hs : pwF (geti r (p : Nat)) 55439 = s at hinv hred hsb
        repeat' (first | (apply AOps.nil; try simp only [List.nil_append, List.cons_append, List.set_cons_zero, List.set_cons_succ, List.length_cons, List.length_nil, Nat.reduceAdd, AV.sh, AV.sh1, AV.sh0, AO.sh, List.map_cons, List.map_nil, Nat.zero_add, Nat.add_zero, setAll]) | (apply w_move; exact rfl; exact rfl) | (apply w_assign; exact rfl; exact rfl) | apply AWp.seq | apply AWp.region | ((apply AWp.condP; exact rfl) <;> intro h) | (apply AWp.condT; exact rfl) | apply AWp.block | apply AWp.exit | apply AWp.skip | (apply if_pos'; exact rfl) | ((first | apply w_lss | apply w_eql | apply w_add | apply w_idx | apply w_ld | apply w_fa | apply w_extv); iterate 3 exact rfl) | (apply w_echmiss (hf); exact rfl; exact rfl; exact rfl; exact rfl; exact rfl) | (apply w_call (hinv); exact rfl; exact rfl; focus ((repeat (first | exact im_nil | refine im_cons rfl (.val _) ?_)); done)) | omega | ((first | apply w_idxs | apply w_lds | apply w_ext); iterate 3 exact rfl) | ((apply w_not); iterate 2 exact rfl) | (apply w_idxo; exact rfl; exact rfl; (exact .sli rfl); exact rfl) | (apply w_ldo; iterate 4 exact rfl) | (apply w_ldb; iterate 5 exact rfl))
        refine AWp.loop (ι := Nat) (fun k => ⟨86, [(1, .own 3), (2, .optr 2 0), (4, .i p), (7, .i s), (8, .i k)]⟩) (fun k => [.keep 1 K, .ob (echOb (some pb) 2 L), .bx 63 [.own 1], .sli 2 (updR r (sclG r s) p k)])
          (fun k => p ≤ k ∧ k ≤ m) (fun k => m - k) p ⟨Nat.le_refl _, by omega⟩ ?_ ?_
        · have e0 := (updR_none r (sclG r s) (Nat.le_refl p)).symm
          exact ⟨lee rfl (by (repeat (first | exact le_nil | refine le_eq rfl rfl ?_))), by (repeat (first | exact lo_nil | refine lo_eq rfl ?_ | refine lo_eq (congrArg (AO.sli _) (e0)) ?_)), rfl, rfl⟩
        rintro k ⟨k0, k1⟩
        have ul := updR_len r (sclG r s) p k
        by_cases hk : k < m
        · have ek : (((k : Nat) : Int).toNat : Int) = (k : Int) := by omega
          have ek2 : ((k : Nat) : Int).toNat = k := by omega
          have e1 : geti (updR r (sclG r s) p k) (((k : Nat) : Int).toNat : Nat) = geti r (k : Nat) := by rw [ek, geti_upd (by omega), if_neg (by omega)]
          have b1 := hI.inf k
          have b2 := mulP b1.1 b1.2 hsb.1 hsb.2
          rw [← e1] at b2
          have b3 := modP (geti (updR r (sclG r s) p k) (((k : Nat) : Int).toNat : Nat) * s)
          have e6 : (updR r (sclG r s) p k).set ((k : Nat) : Int).toNat (geti (updR r (sclG r s) p k) (((k : Nat) : Int).toNat : Nat) * s % 55441) = updR r (sclG r s) p (k + 1) := by
            rw [e1, ek2]; exact updR_set k0 (by omega) rfl
          repeat' (first | (apply AOps.nil; try simp only [List.nil_append, List.cons_append, List.set_cons_zero, List.set_cons_succ, List.length_cons, List.length_nil, Nat.reduceAdd, AV.sh, AV.sh1, AV.sh0, AO.sh, List.map_cons, List.map_nil, Nat.zero_add, Nat.add_zero, setAll]) | (apply w_move; exact rfl; exact rfl) | (apply w_assign; exact rfl; exact rfl) | apply AWp.seq | apply AWp.region | ((apply AWp.condP; exact rfl) <;> intro h) | apply AWp.block | apply AWp.exit | apply AWp.skip | (apply w_len; exact rfl; exact rfl; first | exact .ints _ | exact .intss _ | exact .sli rfl | exact .sls rfl | exact .slr rfl | exact .orow rfl | exact .nil) | omega | ((first | apply w_lss | apply w_add | apply w_mul | apply w_idx | apply w_ld); iterate 3 exact rfl) | (apply w_rem; exact rfl; exact rfl; exact rfl; (focus (omega; done)); (focus (omega; done))) | (apply w_idxo; exact rfl; exact rfl; (exact .sli rfl); exact rfl) | (apply w_ldo; iterate 4 exact rfl) | (apply w_sti; exact rfl; exact rfl; rotate_left 1; exact rfl; rotate_left 2) | (apply inI_of <;> omega))
          exact ⟨k + 1, ⟨by omega, by omega⟩, by omega, ⟨lee rfl (by (repeat (first | exact le_nil | refine le_eq rfl rfl ?_))), by (repeat (first | exact lo_nil | refine lo_eq rfl ?_ | refine lo_eq (congrArg (AO.sli _) (e6)) ?_)), rfl, rfl⟩⟩
        · have ek : k = m := by omega
          subst ek
          repeat' (first | (apply AOps.nil; try simp only [List.nil_append, List.cons_append, List.set_cons_zero, List.set_cons_succ, List.length_cons, List.length_nil, Nat.reduceAdd, AV.sh, AV.sh1, AV.sh0, AO.sh, List.map_cons, List.map_nil, Nat.zero_add, Nat.add_zero, setAll]) | (apply w_move; exact rfl; exact rfl) | apply AWp.seq | apply AWp.region | ((apply AWp.condP; exact rfl) <;> intro h) | apply AWp.block | apply AWp.ret | apply AWp.exit | apply AWp.skip | (apply w_len; exact rfl; exact rfl; first | exact .ints _ | exact .intss _ | exact .sli rfl | exact .sls rfl | exact .slr rfl | exact .orow rfl | exact .nil) | ((first | apply w_lss | apply w_idx | apply w_ld | apply w_fa); iterate 3 exact rfl) | (apply w_echset (hf); exact rfl; exact rfl; exact rfl; exact rfl; exact rfl; exact rfl; exact rfl; simp only [Env.mp, List.map_cons, List.map_nil, List.set_cons_zero, List.set_cons_succ, AV.kill, AV.kill1, AO.kill, AV.rin, AV.rin1, AV.noRow, AV.noRow1, AO.via, reduceIte, Nat.reduceEqDiff, Nat.reduceLT, Env.up, Nat.zero_ne_one, Nat.one_ne_zero, Nat.reduceAdd, List.cons_append, List.nil_append]) | omega | (apply w_ldb; iterate 5 exact rfl))
          refine ⟨1, .unit Try.results45, ?_, rfl⟩
          have : addR L row = L ++ [((p : Int), updR r (sclG r s) p k)] := by
            unfold addR
            rw [hl, ← hred, hrl]
          rw [this]; rfl
      | some k0 =>
        rw [hf] at hred
        obtain ⟨hk0, ek0⟩ := fnd_at hf
        obtain ⟨a1, a2, a3, a4, a5, a6⟩ := hL.at_ k0 hk0
        have hnx := hI.red hL hf hpm
        generalize hs : 55441 - geti r (p : Nat) = s at hred hnx
        have hsb : 1 ≤ s ∧ s ≤ 55441 := by omega
        have hs' : 55441 - geti r (((p : Nat) : Int).toNat : Nat) = s := by rw [et]; exact hs
        repeat' (first | (apply AOps.nil; try simp only [List.nil_append, List.cons_append, List.set_cons_zero, List.set_cons_succ, List.length_cons, List.length_nil, Nat.reduceAdd, AV.sh, AV.sh1, AV.sh0, AO.sh, List.map_cons, List.map_nil, Nat.zero_add, Nat.add_zero, setAll]) | (apply w_move; exact rfl; exact rfl) | (apply w_assign; exact rfl; exact rfl) | apply AWp.seq | apply AWp.region | ((apply AWp.condP; exact rfl) <;> intro h) | (apply AWp.condF; exact rfl) | apply AWp.block | apply AWp.exit | apply AWp.skip | (apply if_pos'; exact rfl) | ((first | apply w_lss | apply w_eql | apply w_add | apply w_sub | apply w_idx | apply w_ld | apply w_fa | apply w_extv); iterate 3 exact rfl) | (apply w_echhit (hf); exact rfl; exact rfl; exact rfl; exact rfl; exact rfl) | omega | ((first | apply w_idxs | apply w_lds | apply w_ext); iterate 3 exact rfl) | ((apply w_not); iterate 2 exact rfl) | (apply w_idxo; exact rfl; exact rfl; (exact .sli rfl); exact rfl) | (apply w_ldo; iterate 4 exact rfl) | (apply w_ldb; iterate 5 exact rfl) | (apply inI_of <;> omega))
        rw [hs']
        refine AWp.loop (ι := Nat) (fun k => ⟨86, [(1, .own 3), (2, .optr 2 0), (5, .orow 1 k0), (9, .i s), (10, .i k), (14, .i row.length), (15, .i p)]⟩) (fun k => [.keep 1 K, .ob (echOb (some pb) 2 L), .bx 63 [.own 1], .sli 2 (updR r (adrG r s (rwAt L k0)) p k)])
          (fun k => p ≤ k ∧ k ≤ m) (fun k => m - k) p ⟨Nat.le_refl _, by omega⟩ ?_ ?_
        · have e0 := (updR_none r (adrG r s (rwAt L k0)) (Nat.le_refl p)).symm
          exact ⟨lee rfl (by (repeat (first | exact le_nil | refine le_eq rfl rfl ?_))), by (repeat (first | exact lo_nil | refine lo_eq rfl ?_ | refine lo_eq (congrArg (AO.sli _) (e0)) ?_)), rfl, rfl⟩
        rintro k ⟨k1, k2⟩
        have ul := updR_len r (adrG r s (rwAt L k0)) p k
        by_cases hk : k < m
        · have ek : (((k : Nat) : Int).toNat : Int) = (k : Int) := by omega
          have ek2 : ((k : Nat) : Int).toNat = k := by omega
          have e1 : geti (updR r (adrG r s (rwAt L k0)) p k) (((k : Nat) : Int).toNat : Nat) = geti r (k : Nat) := by rw [ek, geti_upd (by omega), if_neg (by omega)]
          have b1 := hI.inf k
          have c1 := a2 (((k : Nat) : Int).toNat : Nat)
          have b2 : 0 ≤ s * geti (rwAt L k0) (((k : Nat) : Int).toNat : Nat) ∧ s * geti (rwAt L k0) (((k : Nat) : Int).toNat : Nat) ≤ 3073649041 := by
            refine ⟨Int.mul_nonneg (by omega) c1.1, ?_⟩
            have := Int.mul_le_mul hsb.2 c1.2 c1.1 (by omega : (0 : Int) ≤ 55441)
            omega
          have b3 := modP (geti (updR r (adrG r s (rwAt L k0)) p k) (((k : Nat) : Int).toNat : Nat) + s * geti (rwAt L k0) (((k : Nat) : Int).toNat : Nat))
          have e6 : (updR r (adrG r s (rwAt L k0)) p k).set ((k : Nat) : Int).toNat ((geti (updR r (adrG r s (rwAt L k0)) p k) (((k : Nat) : Int).toNat : Nat) + s * geti (rwAt L k0) (((k : Nat) : Int).toNat : Nat)) % 55441) = updR r (adrG r s (rwAt L k0)) p (k + 1) := by
            rw [e1, ek2]; exact updR_set k1 (by omega) rfl
          rw [e1] at b3
          repeat' (first | (apply AOps.nil; try simp only [List.nil_append, List.cons_append, List.set_cons_zero, List.set_cons_succ, List.length_cons, List.length_nil, Nat.reduceAdd, AV.sh, AV.sh1, AV.sh0, AO.sh, List.map_cons, List.map_nil, Nat.zero_add, Nat.add_zero, setAll]) | (apply w_move; exact rfl; exact rfl) | apply AWp.seq | apply AWp.region | ((apply AWp.condP; exact rfl) <;> intro h) | apply AWp.block | apply AWp.exit | apply AWp.skip | (apply w_len; exact rfl; exact rfl; first | exact .ints _ | exact .intss _ | exact .sli rfl | exact .sls rfl | exact .slr rfl | exact .orow rfl | exact .nil) | ((first | apply w_lss | apply w_add); iterate 3 exact rfl) | omega)
          refine AWp.regionA (by kernel_rfl) (envC := ⟨86, [(1, .own 3), (2, .optr 2 0), (5, .orow 1 k0), (9, .i s), (10, .i k), (14, .i row.length), (15, .i p)]⟩) (osC := [.keep 1 K, .ob (echOb (some pb) 2 L), .bx 63 [.own 1], .sli 2 ((updR r (adrG r s (rwAt L k0)) p k).set ((k : Nat) : Int).toNat ((geti (updR r (adrG r s (rwAt L k0)) p k) (((k : Nat) : Int).toNat : Nat) + s * geti (rwAt L k0) (((k : Nat) : Int).toNat : Nat)) % 55441))]) rfl rfl ?_ ?_
          · rw [← e1] at b3 b1
            repeat' (first | (apply AOps.nil; try simp only [List.nil_append, List.cons_append, List.set_cons_zero, List.set_cons_succ, List.length_cons, List.length_nil, Nat.reduceAdd, AV.sh, AV.sh1, AV.sh0, AO.sh, List.map_cons, List.map_nil, Nat.zero_add, Nat.add_zero, setAll]) | (apply w_move; exact rfl; exact rfl) | ((first | apply w_add | apply w_mul | apply w_idx | apply w_ld); iterate 3 exact rfl) | ((first | apply w_echidx | apply w_echld | apply w_stbi); iterate 4 exact rfl) | omega | (apply w_rem; exact rfl; exact rfl; exact rfl; (focus (omega; done)); (focus (omega; done))) | (apply w_idxo; exact rfl; exact rfl; (exact .sli rfl); exact rfl) | (apply w_ldo; iterate 4 exact rfl) | (apply w_sti; exact rfl; exact rfl; rotate_left 1; exact rfl; rotate_left 2) | apply AllOf.nil | (apply AllOf.cons; exact rfl) | (apply AAny.take; exact rfl; exact rfl; kernel_rfl; kernel_rfl) | (apply AAny.all; exact rfl) | (apply AAny.done; exact rfl) | (apply inI_of <;> omega))
            all_goals (apply Or.inl; refine ⟨lee rfl ?_, ?_, rfl, rfl⟩; (focus ((repeat (first | exact le_nil | refine le_eq rfl rfl ?_)); done)); (focus ((repeat (first | exact lo_nil | refine lo_eq rfl ?_)); done)))
          repeat' (first | (apply AOps.nil; try simp only [List.nil_append, List.cons_append, List.set_cons_zero, List.set_cons_succ, List.length_cons, List.length_nil, Nat.reduceAdd, AV.sh, AV.sh1, AV.sh0, AO.sh, List.map_cons, List.map_nil, Nat.zero_add, Nat.add_zero, setAll]) | (apply w_move; exact rfl; exact rfl) | (apply w_assign; exact rfl; exact rfl) | apply AWp.region | ((apply w_add); iterate 3 exact rfl) | (apply inI_of <;> omega))
          exact ⟨k + 1, ⟨by omega, by omega⟩, by omega, ⟨lee rfl (by (repeat (first | exact le_nil | refine le_eq rfl rfl ?_))), by (repeat (first | exact lo_nil | refine lo_eq rfl ?_ | refine lo_eq (congrArg (AO.sli _) (e6)) ?_)), rfl, rfl⟩⟩
        · have ek : k = m := by omega
          subst ek
          repeat' (first | (apply AOps.nil; try simp only [List.nil_append, List.cons_append, List.set_cons_zero, List.set_cons_succ, List.length_cons, List.length_nil, Nat.reduceAdd, AV.sh, AV.sh1, AV.sh0, AO.sh, List.map_cons, List.map_nil, Nat.zero_add, Nat.add_zero, setAll]) | (apply w_move; exact rfl; exact rfl) | apply AWp.seq | apply AWp.region | ((apply AWp.condP; exact rfl) <;> intro h) | apply AWp.block | apply AWp.exit | apply AWp.skip | (apply w_len; exact rfl; exact rfl; first | exact .ints _ | exact .intss _ | exact .sli rfl | exact .sls rfl | exact .slr rfl | exact .orow rfl | exact .nil) | ((first | apply w_lss | apply w_add); iterate 3 exact rfl) | omega | (apply inI_of <;> omega))
          have e0 : updR r (adrG r s (rwAt L k0)) p k = updR r (adrG r s (rwAt L k0)) p r.length := by rw [hrl]
          exact ⟨(p + 1, updR r (adrG r s (rwAt L k0)) p r.length), ⟨by dsimp only; omega, hnx, hred⟩, by dsimp only; omega, ⟨lee rfl (by (repeat (first | exact le_nil | refine le_eq rfl rfl ?_))), by (repeat (first | exact lo_nil | refine lo_eq rfl ?_ | refine lo_eq (congrArg (AO.sli _) (e0)) ?_)), rfl, rfl⟩⟩
  · have e : p = m := by omega
    subst e
    repeat' (first | (apply AOps.nil; try simp only [List.nil_append, List.cons_append, List.set_cons_zero, List.set_cons_succ, List.length_cons, List.length_nil, Nat.reduceAdd, AV.sh, AV.sh1, AV.sh0, AO.sh, List.map_cons, List.map_nil, Nat.zero_add, Nat.add_zero, setAll]) | (apply w_move; exact rfl; exact rfl) | (apply w_assign; exact rfl; exact rfl) | apply AWp.seq | apply AWp.region | ((apply AWp.condP; exact rfl) <;> intro h) | apply AWp.block | apply AWp.exit | apply AWp.skip | (apply if_pos'; exact rfl) | omega | ((apply w_lss); iterate 3 exact rfl))
    rw [Nat.sub_self, redR] at hred
    refine ⟨1, .unit Try.results45, ?_, rfl⟩
    have : addR L row = L := by unfold addR; rw [hl, ← hred]
    rw [this]; rfl

/-! ### The reference -/
def rowsOf (L : Rws) : List (List Int) := L.map (·.2)
def valsOf (L : Rws) : List Int := L.map (·.1)
theorem rowsOf_len (L : Rws) : (rowsOf L).length = L.length := by simp [rowsOf]
theorem valsOf_len (L : Rws) : (valsOf L).length = L.length := by simp [valsOf]
theorem rowsOf_getD (L : Rws) (i : Nat) : (rowsOf L).getD i [] = rwAt L i := by
  unfold rowsOf rwAt
  rw [List.getD_eq_getElem?_getD, List.getD_eq_getElem?_getD, List.getElem?_map]
  cases L[i]? <;> rfl
/-- Where a number stands, or -1. -/
def idxI (L : Rws) (p : Int) : Int := match fndR L p with | some k => (k : Int) | none => -1
theorem geti_vals {L : Rws} {j : Nat} (hj : j < L.length) : geti (valsOf L) (j : Nat) = (L[j]).1 := by
  unfold geti valsOf
  rw [Int.toNat_natCast, List.getD_eq_getElem?_getD, List.getElem?_map, List.getElem?_eq_getElem hj]
  rfl
theorem fnd_none {L : Rws} {p : Int} (h : ∀ j : Nat, j < L.length → geti (valsOf L) (j : Nat) ≠ p) : fndR L p = none := by
  unfold fndR
  rw [List.findIdx?_eq_none_iff]
  intro x hx
  obtain ⟨j, hj, rfl⟩ := List.getElem_of_mem hx
  have := h j hj
  rw [geti_vals hj] at this
  exact decide_eq_false this
theorem fnd_some {L : Rws} {p : Int} {i : Nat} (hi : i < L.length) (e : geti (valsOf L) (i : Nat) = p) (h : ∀ j : Nat, j < i → geti (valsOf L) (j : Nat) ≠ p) : fndR L p = some i := by
  unfold fndR
  rw [List.findIdx?_eq_some_iff_getElem]
  refine ⟨hi, ?_, fun j hj => ?_⟩
  · rw [geti_vals hi] at e; exact decide_eq_true e
  · have := h j hj
    rw [geti_vals (by omega)] at this
    simpa using this
theorem l01Index_e (L : Rws) (p : Int) (hn : L.length ≤ 1000000) : AFnV Try.prog 102 [.ints (valsOf L), .i p] (.int .i64 (idxI L p)) := by
  have hl := valsOf_len L
  (refine AFnV.start Try.func102 Try.ntmps102 rfl (by kernel_rfl) fun hk => ?_; simp only [Env.start, enumF, List.length_cons, List.length_nil, Nat.reduceAdd, Nat.reduceSub, List.cons_append, List.nil_append])
  repeat' (first | (apply AOps.nil; try simp only [List.nil_append, List.cons_append, List.set_cons_zero, List.set_cons_succ, List.length_cons, List.length_nil, Nat.reduceAdd, AV.sh, AV.sh1, AV.sh0, AO.sh, List.map_cons, List.map_nil, Nat.zero_add, Nat.add_zero, setAll]) | (apply w_assign; exact rfl; exact rfl) | apply AWp.seq | apply AWp.region | apply AWp.block)
  refine AWp.loop (ι := Nat) (fun i => ⟨19, [(0, .ints (valsOf L)), (1, .i p), (5, .i i)]⟩) (fun _ => []) (fun i => i ≤ L.length ∧ ∀ j : Nat, j < i → geti (valsOf L) (j : Nat) ≠ p) (fun i => L.length - i) 0 ⟨by omega, fun j hj => by omega⟩ ⟨lee rfl (by (repeat (first | exact le_nil | refine le_eq rfl rfl ?_))), by (repeat (exact lo_nil)), rfl, rfl⟩ ?_
  rintro i ⟨h0, h1⟩
  by_cases hi : i < L.length
  · by_cases e : geti (valsOf L) (i : Nat) = p
    · have hf := fnd_some hi e h1
      repeat' (first | (apply AOps.nil; try simp only [List.nil_append, List.cons_append, List.set_cons_zero, List.set_cons_succ, List.length_cons, List.length_nil, Nat.reduceAdd, AV.sh, AV.sh1, AV.sh0, AO.sh, List.map_cons, List.map_nil, Nat.zero_add, Nat.add_zero, setAll]) | (apply w_move; exact rfl; exact rfl) | (apply w_assign; exact rfl; exact rfl) | apply AWp.seq | apply AWp.region | ((apply AWp.condP; exact rfl) <;> intro h) | apply AWp.block | apply AWp.ret | apply AWp.exit | apply AWp.skip | (apply w_len; exact rfl; exact rfl; first | exact .ints _ | exact .intss _ | exact .sli rfl | exact .sls rfl | exact .slr rfl | exact .orow rfl | exact .nil) | omega | ((first | apply w_lss | apply w_eql | apply w_idx | apply w_ld); iterate 3 exact rfl))
      exact .int Try.results102 rfl (by unfold idxI; rw [hf])
    · repeat' (first | (apply AOps.nil; try simp only [List.nil_append, List.cons_append, List.set_cons_zero, List.set_cons_succ, List.length_cons, List.length_nil, Nat.reduceAdd, AV.sh, AV.sh1, AV.sh0, AO.sh, List.map_cons, List.map_nil, Nat.zero_add, Nat.add_zero, setAll]) | (apply w_move; exact rfl; exact rfl) | (apply w_assign; exact rfl; exact rfl) | apply AWp.seq | apply AWp.region | ((apply AWp.condP; exact rfl) <;> intro h) | apply AWp.block | apply AWp.ret | apply AWp.exit | apply AWp.skip | (apply w_len; exact rfl; exact rfl; first | exact .ints _ | exact .intss _ | exact .sli rfl | exact .sls rfl | exact .slr rfl | exact .orow rfl | exact .nil) | omega | ((first | apply w_lss | apply w_eql | apply w_add | apply w_idx | apply w_ld); iterate 3 exact rfl) | (apply inI_of <;> omega))
      refine ⟨i + 1, ⟨hi, fun j hj => ?_⟩, by omega, ⟨lee rfl (by (repeat (first | exact le_nil | refine le_eq rfl rfl ?_))), by (repeat (exact lo_nil)), rfl, rfl⟩⟩
      by_cases e2 : j = i
      · subst e2; exact e
      · exact h1 j (by omega)
  · have e : i = L.length := by omega
    subst e
    repeat' (first | (apply AOps.nil; try simp only [List.nil_append, List.cons_append, List.set_cons_zero, List.set_cons_succ, List.length_cons, List.length_nil, Nat.reduceAdd, AV.sh, AV.sh1, AV.sh0, AO.sh, List.map_cons, List.map_nil, Nat.zero_add, Nat.add_zero, setAll]) | (apply w_move; exact rfl; exact rfl) | (apply w_assign; exact rfl; exact rfl) | apply AWp.seq | apply AWp.region | ((apply AWp.condP; exact rfl) <;> intro h) | apply AWp.block | apply AWp.ret | apply AWp.exit | apply AWp.skip | (apply w_len; exact rfl; exact rfl; first | exact .ints _ | exact .intss _ | exact .sli rfl | exact .sls rfl | exact .slr rfl | exact .orow rfl | exact .nil) | omega | ((apply w_lss); iterate 3 exact rfl))
    exact .int Try.results102 rfl (by unfold idxI; rw [fnd_none h1])

end Go.Proofs.Ytifkgmbghcmdeaa
/-
  Parametrisations: the laws' helpers, and whether a value is one. No condition.
-/
namespace Go.Proofs.Ytifkgmbghcmdeaa
open Go Go.RowKit
attribute [local irreducible] AWp AOps ResIs Ret1 QOp LOp COp AFnV AFn Imms LeE LeO
set_option maxHeartbeats 1000000
set_option linter.unusedSimpArgs false
set_option linter.unusedVariables false

end Go.Proofs.Ytifkgmbghcmdeaa
/-
  Parametrisations: orders and divisors. No condition.
-/
namespace Go.Proofs.Ytifkgmbghcmdeaa
open Go Go.RowKit
attribute [local irreducible] AWp AOps ResIs Ret1 QOp LOp COp AFnV AFn Imms LeE LeO
set_option maxHeartbeats 1000000
set_option linter.unusedSimpArgs false
set_option linter.unusedVariables false

end Go.Proofs.Ytifkgmbghcmdeaa
/-
  The greatest common divisor, in the program and in the model. No condition but that both numbers are no greater than 2^62.
-/
namespace Go.Proofs.Ytifkgmbghcmdeaa
open Go Go.RowKit
attribute [local irreducible] AWp AOps ResIs Ret1 QOp LOp COp AFnV AFn Imms LeE LeO
set_option maxHeartbeats 1000000
set_option linter.unusedSimpArgs false
set_option linter.unusedVariables false

end Go.Proofs.Ytifkgmbghcmdeaa
/-
  Parametrisations: the terms, and whether one is primitive. No condition.
-/
namespace Go.Proofs.Ytifkgmbghcmdeaa
open Go Go.RowKit
attribute [local irreducible] AWp AOps ResIs Ret1 QOp LOp COp AFnV AFn Imms LeE LeO
set_option maxHeartbeats 1000000
set_option linter.unusedSimpArgs false
set_option linter.unusedVariables false

/-- The terms up to k, and the divisor that is left. -/
def tm (n : Int) (cs : List Int) : Nat → List Int × Int
  | 0 => ([n], n)
  | k + 1 => if geti cs k = 0 ∨ (k : Int) % (tm n cs k).2 = 0 then tm n cs k else ((tm n cs k).1 ++ [(k : Int)], (Int.gcd (tm n cs k).2 k : Int))

end Go.Proofs.Ytifkgmbghcmdeaa
/-
  Values of parametrisations: what both sides compute. No condition.
-/
namespace Go.Proofs.Ytifkgmbghcmdeaa
open Go Go.RowKit

/-- A list and a code. -/
def IsRC (T : TypeId) (xs : List Int) (e : Int) (r : AV) (os : List AO) : Prop := r = .tup [.own 0, .i e] ∧ os = [.sli T xs]
theorem geti_app (a b : List Int) (i : Nat) : geti (a ++ b) (i : Nat) = if i < a.length then geti a (i : Nat) else geti b ((i - a.length : Nat) : Nat) := by
  unfold geti
  simp only [Int.toNat_natCast, List.getD_eq_getElem?_getD, List.getElem?_append]
  split <;> rfl
/-- One more row keeps the rows in order. -/
theorem rw_add {m : Nat} {L : Rws} (hL : RwOk m L) {row : List Int} (hl : row.length = m) (hr : inF row) (hinv : ∀ q : Int, 1 ≤ q ∧ q ≤ 55440 → q * pwF q 55439 % 55441 = 1) : RwOk m (addR L row) := by
  unfold addR
  cases hx : redR L row.length row 0 with
  | none => exact hL
  | some t =>
    obtain ⟨t1, t2, t3, t4, t5, t6, q, q1, q2, q3⟩ := redR_ok hL row.length 0 row ⟨hl, hr, fun k hk => by omega⟩ (by omega) t hx
    refine ⟨fun i hi => ?_⟩
    simp only [List.length_append, List.length_cons, List.length_nil] at hi
    by_cases e : i < L.length
    · have e1 : (L ++ [t]).getD i (0, []) = L.getD i (0, []) := by
        rw [List.getD_eq_getElem?_getD, List.getElem?_append_left e, ← List.getD_eq_getElem?_getD]
      unfold rwAt
      simp only [e1]
      exact hL.at_ i e
    · have ei : i = L.length := by omega
      have e1 : (L ++ [t]).getD i (0, []) = t := by rw [ei]; simp [List.getD_eq_getElem?_getD]
      unfold rwAt
      simp only [e1]
      exact ⟨t1, t2, t3, t4, by rw [q3]; exact hinv q ⟨q1, q2⟩, t5⟩
/-- The rows have different numbers. -/
def RwNd (L : Rws) : Prop := L.Pairwise fun a b => a.1 ≠ b.1
theorem nd_add {m : Nat} {L : Rws} (hL : RwOk m L) (hn : RwNd L) {row : List Int} (hl : row.length = m) (hr : inF row) : RwNd (addR L row) := by
  unfold addR
  cases hx : redR L row.length row 0 with
  | none => exact hn
  | some t =>
    obtain ⟨t1, t2, t3, t4, t5, t6, _⟩ := redR_ok hL row.length 0 row ⟨hl, hr, fun k hk => by omega⟩ (by omega) t hx
    refine List.pairwise_append.2 ⟨hn, by simp, fun a ha b hb => ?_⟩
    simp at hb; subst hb
    unfold fndR at t6
    rw [List.findIdx?_eq_none_iff] at t6
    simpa using t6 a ha
theorem rw_len {m : Nat} {L : Rws} (hL : RwOk m L) (hn : RwNd L) : L.length ≤ m := by
  have h1 : (L.map fun t => t.1.toNat).Nodup := by
    unfold List.Nodup
    rw [List.pairwise_map]
    refine List.Pairwise.imp_of_mem (fun {x y} hx hy hxy => ?_) hn
    obtain ⟨i, hi, rfl⟩ := List.getElem_of_mem hx
    obtain ⟨j, hj, rfl⟩ := List.getElem_of_mem hy
    have a := hL.at_ i hi
    have b := hL.at_ j hj
    rw [List.getD_eq_getElem?_getD, List.getElem?_eq_getElem hi] at a
    rw [List.getD_eq_getElem?_getD, List.getElem?_eq_getElem hj] at b
    simp only [Option.getD_some] at a b
    omega
  have h2 := (full_le h1 fun x hx => by
    obtain ⟨t, ht, rfl⟩ := List.mem_map.1 hx
    obtain ⟨i, hi, rfl⟩ := List.getElem_of_mem ht
    have a := hL.at_ i hi
    rw [List.getD_eq_getElem?_getD, List.getElem?_eq_getElem hi] at a
    simp only [Option.getD_some] at a
    exact (by omega : (L[i]).1.toNat < m))
  simpa using h2
where
  full_le {l : List Nat} {m : Nat} (h : l.Nodup) (hm : ∀ x ∈ l, x < m) : l.length ≤ m := by
    have hp : ((List.range m).filter fun i => decide (i ∈ l)).Perm l := (List.perm_ext_iff_of_nodup (List.nodup_range.filter _) h).2 fun i => by
      simp only [List.mem_filter, List.mem_range, decide_eq_true_eq]
      exact ⟨fun h => h.2, fun h => ⟨hm i h, h⟩⟩
    have := hp.length_eq
    have h2 := List.length_filter_le (fun i => decide (i ∈ l)) (List.range m)
    simp at h2
    omega

/-! ### The powers, and the rows that come in -/
theorem rw_nil (m : Nat) : RwOk m [] := ⟨fun i hi => by simp at hi⟩
end Go.Proofs.Ytifkgmbghcmdeaa
/-
  Inverses in the field of 55441 elements. No condition.
-/
namespace Go.Proofs.Ytifkgmbghcmdeaa
open Go Go.RowKit
theorem inv_all (q : Int) (h : 1 ≤ q ∧ q ≤ 55440) : q * pwF q 55439 % 55441 = 1 := by
  obtain ⟨a, rfl⟩ : ∃ a : Nat, q = a := ⟨q.toNat, by omega⟩
  have hf := fermat (a := a) (by omega)
  have e1 : (55439 : Int).toNat.succ = 55440 := by decide
  unfold pwF
  rw [mulmod', Int.mul_comm, ← Int.pow_succ, e1]
  generalize 55440 = n at hf ⊢
  rw [← Int.natCast_pow]
  omega
end Go.Proofs.Ytifkgmbghcmdeaa
/-
  Values of parametrisations: the walks. No condition but bounds.
-/
namespace Go.Proofs.Ytifkgmbghcmdeaa
open Go Go.RowKit
attribute [local irreducible] AWp AOps ResIs Ret1 QOp LOp COp AFnV AFn Imms LeE LeO
set_option maxHeartbeats 1000000
set_option linter.unusedSimpArgs false
set_option linter.unusedVariables false

/-- Rows in order with different numbers. -/
structure RwI (m : Nat) (L : Rws) : Prop where
  ok : RwOk m L
  nd : RwNd L
theorem RwI.len {m : Nat} {L : Rws} (h : RwI m L) : L.length ≤ m := rw_len h.ok h.nd
theorem RwI.add {m : Nat} {L : Rws} (h : RwI m L) {row : List Int} (hl : row.length = m) (hr : inF row) : RwI m (addR L row) := ⟨rw_add h.ok hl hr inv_all, nd_add h.ok h.nd hl hr⟩
end Go.Proofs.Ytifkgmbghcmdeaa
/-
  Echelon forms of rows: their spans and first places. No condition.
-/
namespace Go.Proofs.Ytifkgmbghcmdeaa
open Go Go.RowKit

def vec (row : List Int) (i : Nat) : Int := geti row (i : Nat)
def toRw (t : Int × List Int) : Rw := (t.1.toNat, vec t.2)
/-- The vectors of rows. -/
def GR (L : Rws) : (Nat → Int) → Prop := GL (L.map toRw)
theorem echV_of {m : Nat} {L : Rws} (h : RwI m L) : EchV m (L.map toRw) := by
  have key : ∀ t ∈ L, t.2.length = m ∧ inF t.2 ∧ 0 ≤ t.1 ∧ t.1 < m ∧ geti t.2 t.1 = 1 ∧ ∀ k : Nat, (k : Int) < t.1 → geti t.2 (k : Nat) = 0 := fun t ht => by
    obtain ⟨i, hi, rfl⟩ := List.getElem_of_mem ht
    have a := h.ok.at_ i hi
    unfold rwAt at a
    rw [List.getD_eq_getElem?_getD, List.getElem?_eq_getElem hi] at a
    exact a
  refine ⟨fun t ht => ?_, fun t ht => ?_, fun t ht i hi => ?_, ?_⟩
  · obtain ⟨s, hs, rfl⟩ := List.mem_map.1 ht
    have := key s hs
    simp only [toRw]; omega
  · obtain ⟨s, hs, rfl⟩ := List.mem_map.1 ht
    have a := key s hs
    simp only [toRw, vec]
    rw [show ((s.1.toNat : Nat) : Int) = s.1 by omega, a.2.2.2.2.1]; rfl
  · obtain ⟨s, hs, rfl⟩ := List.mem_map.1 ht
    have a := key s hs
    simp only [toRw, vec] at hi ⊢
    rw [a.2.2.2.2.2 i (by omega)]; rfl
  · rw [List.pairwise_map]
    refine List.Pairwise.imp_of_mem (fun {x y} hx hy hxy => ?_) h.nd
    have a := key x hx
    have b := key y hy
    simp only [toRw]; omega
/-- Two families have one span. -/
structure SpanEq (m : Nat) (G H : (Nat → Int) → Prop) : Prop where
  l : ∀ g, G g → Sp m H g
  r : ∀ g, H g → Sp m G g
theorem SpanEq.trans {m : Nat} {G H K : (Nat → Int) → Prop} (a : SpanEq m G H) (b : SpanEq m H K) : SpanEq m G K :=
  ⟨fun g hg => (a.l g hg).trans b.l, fun g hg => (b.r g hg).trans a.r⟩
theorem SpanEq.leads {m : Nat} {G H : (Nat → Int) → Prop} (a : SpanEq m G H) (p : Nat) : Leads m G p ↔ Leads m H p := ⟨leads_mono a.l, leads_mono a.r⟩
theorem SpanEq.or {m : Nat} {G H : (Nat → Int) → Prop} (a : SpanEq m G H) (r : Nat → Int) : SpanEq m (fun g => G g ∨ g = r) (fun g => H g ∨ g = r) :=
  ⟨fun g hg => by
    rcases hg with hg | hg
    · exact (a.l g hg).mono fun _ h => .inl h
    · exact .gen (.inr hg), fun g hg => by
    rcases hg with hg | hg
    · exact (a.r g hg).mono fun _ h => .inl h
    · exact .gen (.inr hg)⟩
/-- What a reduced row is. -/
theorem red_span {m : Nat} {L : Rws} (hL : RwI m L) (row : List Int) : ∀ (n p : Nat) (r : List Int), RdI m p r → p + n = m → (∃ q, Sp m (GR L) q ∧ ∀ i, i < m → vec r i % 55441 = (vec row i + q i) % 55441) →
    match redR L n r p with
    | none => Sp m (GR L) (vec row)
    | some t => ∃ q s s', Sp m (GR L) q ∧ (∀ i, i < m → vec t.2 i % 55441 = s * (vec row i + q i) % 55441) ∧ s * s' % 55441 = 1
  | 0, p, r, h, hp, ⟨q, hq, e⟩ => by
    rw [redR]
    refine (hq.smul (-1)).congr fun i hi => ?_
    have h1 := e i hi
    have h2 : vec r i = 0 := h.zero i (by omega)
    rw [h2] at h1
    omega
  | n + 1, p, r, h, hp, ⟨q, hq, e⟩ => by
    have hl := h.len
    rw [redR]
    by_cases hz : geti r (p : Nat) = 0
    · rw [if_pos hz]
      exact red_span hL row n (p + 1) r (h.next hz) (by omega) ⟨q, hq, e⟩
    · rw [if_neg hz]
      have hin := h.inf (p : Nat)
      cases hf : fndR L (p : Nat) with
      | none =>
        simp only
        refine ⟨q, pwF (geti r (p : Nat)) 55439, geti r (p : Nat), hq, fun i hi => ?_, by rw [Int.mul_comm]; exact inv_all _ (by omega)⟩
        have e1 : vec (updR r (sclG r (pwF (geti r (p : Nat)) 55439)) p r.length) i % 55441 = vec r i * pwF (geti r (p : Nat)) 55439 % 55441 := by
          unfold vec
          rw [geti_upd (by omega)]
          by_cases h2 : p ≤ i
          · rw [if_pos (by omega)]; unfold sclG; rw [Int.emod_emod_of_dvd _ (Int.dvd_refl _)]
          · rw [if_neg (by omega), h.zero i (by omega), Int.zero_mul]
        rw [e1, Int.mul_comm, ← emul, e i hi, emul]
      | some k =>
        simp only
        obtain ⟨hk, ek⟩ := fnd_at hf
        obtain ⟨a1, a2, a3, a4, a5, a6⟩ := hL.ok.at_ k hk
        refine red_span hL row n (p + 1) _ (h.red hL.ok hf (by omega)) (by omega) ⟨fun i => q i + (55441 - geti r (p : Nat)) * vec (rwAt L k) i, hq.comb _ (.gen ⟨toRw (L.getD k (0, [])), ?_, rfl⟩), fun i hi => ?_⟩
        · refine List.mem_map.2 ⟨L.getD k (0, []), ?_, rfl⟩
          rw [List.getD_eq_getElem?_getD, List.getElem?_eq_getElem hk]
          exact List.getElem_mem hk
        · have e1 : vec (updR r (adrG r (55441 - geti r (p : Nat)) (rwAt L k)) p r.length) i % 55441 = (vec r i + (55441 - geti r (p : Nat)) * vec (rwAt L k) i) % 55441 := by
            unfold vec
            rw [geti_upd (by omega)]
            by_cases h2 : p ≤ i
            · rw [if_pos (by omega)]; unfold adrG; rw [Int.emod_emod_of_dvd _ (Int.dvd_refl _)]
            · rw [if_neg (by omega), h.zero i (by omega), a6 i (by omega), Int.mul_zero]; rfl
          rw [e1, Int.add_emod, e i hi, ← Int.add_emod, Int.add_assoc]
theorem add_span {m : Nat} {L : Rws} (hL : RwI m L) {row : List Int} (hl : row.length = m) (hr : inF row) : SpanEq m (GR (addR L row)) (fun g => GR L g ∨ g = vec row) := by
  have h := red_span hL row m 0 row ⟨hl, hr, fun k hk => by omega⟩ (by omega) ⟨fun _ => 0, .zero fun _ _ => rfl, fun i _ => by simp⟩
  unfold addR
  rw [hl]
  cases hx : redR L m row 0 with
  | none =>
    rw [hx] at h
    simp only at h ⊢
    exact ⟨fun g hg => .gen (.inl hg), fun g hg => by
      rcases hg with hg | rfl
      · exact .gen hg
      · exact h⟩
  | some t =>
    rw [hx] at h
    simp only at h ⊢
    obtain ⟨q, s, s', h1, h2, h3⟩ := h
    have := gl_snoc (L := L.map toRw) (p := t.1.toNat) (r := vec t.2) (row := vec row) (n := m) h1 h2 h3
    have e : (L ++ [t]).map toRw = L.map toRw ++ [(t.1.toNat, vec t.2)] := by simp [toRw]
    unfold GR
    rw [e]
    exact ⟨this.1, this.2⟩
theorem fnd_leads {m : Nat} {L : Rws} (h : RwI m L) (p : Nat) : (fndR L (p : Nat)).isSome = true ↔ Leads m (GR L) p := by
  unfold GR
  rw [ech_leads (echV_of h) p]
  constructor
  · intro hs
    obtain ⟨k, hk⟩ := Option.isSome_iff_exists.1 hs
    obtain ⟨h1, h2⟩ := fnd_at hk
    refine ⟨toRw (L.getD k (0, [])), List.mem_map.2 ⟨_, ?_, rfl⟩, by simp only [toRw, h2]; omega⟩
    rw [List.getD_eq_getElem?_getD, List.getElem?_eq_getElem h1]
    exact List.getElem_mem h1
  · rintro ⟨t, ht, e⟩
    obtain ⟨s, hs, rfl⟩ := List.mem_map.1 ht
    unfold fndR
    rw [List.findIdx?_isSome, List.any_eq_true]
    refine ⟨s, hs, decide_eq_true ?_⟩
    obtain ⟨i, hi, rfl⟩ := List.getElem_of_mem hs
    have a := h.ok.at_ i hi
    unfold rwAt at a
    rw [List.getD_eq_getElem?_getD, List.getElem?_eq_getElem hi] at a
    simp only [Option.getD_some] at a
    simp only [toRw] at e
    omega
end Go.Proofs.Ytifkgmbghcmdeaa
/-
  Contracts of the laws' own helpers over lists of lists. No condition but a bound on the sizes.
-/
namespace Go.Proofs.Ytifkgmbghcmdeaa
open Go Go.RowKit
attribute [local irreducible] AWp AOps ResIs Ret1 QOp LOp COp AFnV AFn Imms LeE LeO
set_option maxHeartbeats 1000000
set_option linter.unusedSimpArgs false
set_option linter.unusedVariables false

def szR : List (List Int) → Int → Int
  | [], l => l
  | xs :: r, l => if szI xs l < 0 then -1 else szR r (szI xs l)
def szSS (xss : List (List Int)) (left : Int) : Int := if left - xss.length < 0 then -1 else szR xss (left - xss.length)

theorem szR_ok : ∀ (xss : List (List Int)) (l : Int), 0 ≤ szR xss l → 0 ≤ l → szR xss l ≤ l ∧ ∀ xs ∈ xss, (xs.length : Int) ≤ l
  | [], l, _, _ => ⟨Int.le_refl _, by simp⟩
  | xs :: r, l, h, h0 => by
    simp only [szR] at h ⊢
    by_cases e : szI xs l < 0
    · rw [if_pos e] at h; omega
    · rw [if_neg e] at h ⊢
      have ih := szR_ok r (szI xs l) h (by omega)
      have hx : szI xs l = l - xs.length := by unfold szI at e ⊢; split <;> simp_all
      refine ⟨by omega, fun ys hy => ?_⟩
      rcases List.mem_cons.1 hy with rfl | hy
      · omega
      · have := ih.2 ys hy; omega
theorem szSS_ok {xss : List (List Int)} {left : Int} (h : 0 ≤ szSS xss left) (h0 : 0 ≤ left) : (xss.length : Int) ≤ left ∧ ∀ xs ∈ xss, (xs.length : Int) ≤ left := by
  unfold szSS at h
  split at h
  · omega
  · have := szR_ok xss _ h (by omega)
    exact ⟨by omega, fun xs hx => by have := this.2 xs hx; omega⟩

theorem drop_gets {xss : List (List Int)} {i : Nat} (h : i < xss.length) : xss.drop i = gets xss i :: xss.drop (i + 1) := by
  rw [List.drop_eq_getElem_cons h]; simp [gets, h]

theorem szInt64SS_c (xss : List (List Int)) (left : Int) (h0 : -1 ≤ left) (h1 : left ≤ 1048576) : AFnV Try.prog 56 [.intss xss, .i left] (.int .i64 (szSS xss left)) := by
  (refine AFnV.start Try.func56 Try.ntmps56 rfl (by kernel_rfl) fun hk0 => ?_; simp only [Env.start, enumF, List.length_cons, List.length_nil, Nat.reduceAdd, Nat.reduceSub, List.cons_append, List.nil_append])
  obtain ⟨hk, hl⟩ : ArgOk (.intss xss) := hk0 _ (by simp)
  repeat' (first | (apply AOps.nil; try simp only [List.nil_append, List.cons_append, List.set_cons_zero, List.set_cons_succ, List.length_cons, List.length_nil, Nat.reduceAdd, AV.sh, AV.sh1, AV.sh0, AO.sh, List.map_cons, List.map_nil, Nat.zero_add, Nat.add_zero, setAll]) | (apply w_move; exact rfl; exact rfl) | (apply w_assign; exact rfl; exact rfl) | apply AWp.seq | apply AWp.region | ((apply AWp.condP; exact rfl) <;> intro h) | apply AWp.block | apply AWp.ret | apply AWp.skip | (apply w_len; exact rfl; exact rfl; first | exact .ints _ | exact .intss _ | exact .sli rfl | exact .sls rfl | exact .slr rfl | exact .orow rfl | exact .nil) | ((first | apply w_lss | apply w_sub); iterate 3 exact rfl) | (apply inI_of <;> omega))
  · exact .int Try.results56 rfl (by simp [szSS, h])
  refine AWp.loop (ι := Nat × Int) (fun s => ⟨27, [(0, .intss xss), (1, .i s.2), (5, .i s.1)]⟩) (fun _ => []) (fun s => s.1 ≤ xss.length ∧ 0 ≤ s.2 ∧ s.2 ≤ 1048576 ∧ szR (xss.drop s.1) s.2 = szSS xss left) (fun s => xss.length - s.1) (0, left - xss.length) ⟨by simp, by simp only; omega, by simp only; omega, by simp [szSS, h]⟩ ⟨lee rfl (by (repeat (first | exact le_nil | refine le_eq rfl rfl ?_))), by (repeat (exact lo_nil)), rfl, rfl⟩ ?_
  rintro ⟨i, l⟩ ⟨a0, a1, a2, a3⟩
  simp only at a0 a1 a2 a3
  repeat' (first | (apply AOps.nil; try simp only [List.nil_append, List.cons_append, List.set_cons_zero, List.set_cons_succ, List.length_cons, List.length_nil, Nat.reduceAdd, AV.sh, AV.sh1, AV.sh0, AO.sh, List.map_cons, List.map_nil, Nat.zero_add, Nat.add_zero, setAll]) | (apply w_move; exact rfl; exact rfl) | (apply w_assign; exact rfl; exact rfl) | apply AWp.seq | apply AWp.region | ((apply AWp.condP; exact rfl) <;> intro h) | apply AWp.block | apply AWp.ret | apply AWp.exit | apply AWp.skip | (apply w_len; exact rfl; exact rfl; first | exact .ints _ | exact .intss _ | exact .sli rfl | exact .sls rfl | exact .slr rfl | exact .orow rfl | exact .nil) | (apply w_call (szInt64S_c _ _ (show -1 ≤ l by omega) a2); exact rfl; exact rfl; focus ((repeat (first | exact im_nil | refine im_cons rfl (.val _) ?_ | refine im_cons rfl (.ints _) ?_)); done)) | ((first | apply w_lss | apply w_add | apply w_idx | apply w_ld); iterate 3 exact rfl) | ((first | apply w_idxs | apply w_lds); iterate 3 exact rfl) | (apply inI_of <;> omega) | omega)
  · rw [drop_gets (by omega)] at a3
    exact .int Try.results56 rfl (by rw [← a3]; simp [szR, h])
  · rw [drop_gets (by omega)] at a3
    have e1 : szI (gets xss i) l = l - (gets xss i).length := by unfold szI at h ⊢; split <;> simp_all
    exact ⟨(i + 1, szI (gets xss i) l), ⟨by simp only; omega, by simp only; omega, by simp only; omega, by simp only; rw [← a3]; simp [szR, h]⟩, by simp only; omega, ⟨lee rfl (by (repeat (first | exact le_nil | refine le_eq rfl rfl ?_))), by (repeat (exact lo_nil)), rfl, rfl⟩⟩
  · have e : i = xss.length := by omega
    subst e
    exact .int Try.results56 rfl (by rw [← a3]; simp [szR])

theorem take_set_snocs (xs : List (List Int)) (i : Nat) (h : i < xs.length) : (xs.take i ++ List.replicate (xs.length - i) []).set i (gets xs i) = xs.take (i + 1) ++ List.replicate (xs.length - (i + 1)) [] := by
  rw [List.set_append_right _ _ (by simp; omega), List.length_take, Nat.min_eq_left (by omega), Nat.sub_self, show xs.length - i = (xs.length - (i + 1)) + 1 by omega, List.replicate_succ, List.set_cons_zero, List.take_succ_eq_append_getElem h, show gets xs i = xs[i] by simp [gets, h]]
  simp only [List.append_assoc, List.cons_append, List.nil_append]

/-- The new slice of rows that a function hands back alone. -/
def IsIntss (e e2 : TypeId) (xss : List (List Int)) (r : AV) (os : List AO) : Prop := r = .own 0 ∧ os = [.sls e e2 xss]

theorem toInt64SS_c (xss : List (List Int)) (hb : xss.length ≤ 1048576) (hr : ∀ xs ∈ xss, xs.length ≤ 1048576) : AFn Try.prog 58 [.intss xss] (IsIntss 22 2 xss) := by
  (refine AFn.start Try.func58 Try.ntmps58 rfl (by kernel_rfl) fun hk => ?_; simp only [Env.start, enumF, List.length_cons, List.length_nil, Nat.reduceAdd, Nat.reduceSub, List.cons_append, List.nil_append])
  repeat' (first | (apply AOps.nil; try simp only [List.nil_append, List.cons_append, List.set_cons_zero, List.set_cons_succ, List.length_cons, List.length_nil, Nat.reduceAdd, AV.sh, AV.sh1, AV.sh0, AO.sh, List.map_cons, List.map_nil, Nat.zero_add, Nat.add_zero, setAll]) | (apply w_move; exact rfl; exact rfl) | (apply w_assign; exact rfl; exact rfl) | apply AWp.seq | apply AWp.region | apply AWp.block | (apply w_len; exact rfl; exact rfl; first | exact .ints _ | exact .intss _ | exact .sli rfl | exact .sls rfl | exact .slr rfl | exact .orow rfl | exact .nil) | (apply w_mkr; exact rfl; exact rfl; rotate_left 3; exact rfl; rotate_left 1) | omega)
  refine AWp.loop (ι := Nat) (fun i => ⟨23, [(0, .intss xss), (3, .own 0), (4, .i i)]⟩) (fun i => [.sls 22 2 (xss.take i ++ List.replicate (xss.length - i) [])]) (fun i => i ≤ xss.length) (fun i => xss.length - i) 0 (by omega) ⟨lee rfl (by (repeat (first | exact le_nil | refine le_eq rfl rfl ?_))), lo_eq (by simp) lo_nil, rfl, rfl⟩ ?_
  rintro i h0
  have e1 : (xss.take i ++ List.replicate (xss.length - i) []).length = xss.length := by simp; omega
  have hb2 : (gets xss i).length ≤ 1048576 := by
    by_cases hi : i < xss.length
    · exact hr _ (gets_mem (by omega) (by omega))
    · simp [gets, List.getElem?_eq_none (show xss.length ≤ i by omega)]
  repeat' (first | (apply AOps.nil; try simp only [List.nil_append, List.cons_append, List.set_cons_zero, List.set_cons_succ, List.length_cons, List.length_nil, Nat.reduceAdd, AV.sh, AV.sh1, AV.sh0, AO.sh, List.map_cons, List.map_nil, Nat.zero_add, Nat.add_zero, setAll]) | (apply w_move; exact rfl; exact rfl) | (apply w_assign; exact rfl; exact rfl) | apply AWp.seq | apply AWp.region | ((apply AWp.condP; exact rfl) <;> intro h) | apply AWp.block | apply AWp.ret | apply AWp.exit | apply AWp.skip | (apply w_len; exact rfl; exact rfl; first | exact .ints _ | exact .intss _ | exact .sli rfl | exact .sls rfl | exact .slr rfl | exact .orow rfl | exact .nil) | (apply w_callm (toInt64S_c _ hb2); (focus ((repeat (first | exact im_nil | refine im_cons rfl (.ints _) ?_)); done)); rintro r os0 ⟨rfl, rfl⟩; try simp only [List.nil_append, List.cons_append, List.set_cons_zero, List.set_cons_succ, List.length_cons, List.length_nil, Nat.reduceAdd, AV.sh, AV.sh1, AV.sh0, AO.sh, List.map_cons, List.map_nil, Nat.zero_add, Nat.add_zero, setAll]) | ((first | apply w_lss | apply w_add | apply w_idx | apply w_ld); iterate 3 exact rfl) | ((first | apply w_idxs | apply w_lds); iterate 3 exact rfl) | (apply w_idxo; exact rfl; exact rfl; (exact .sls rfl); exact rfl) | (apply w_strow; exact rfl; exact rfl; rotate_left 1; exact rfl; exact rfl; exact rfl; exact rfl; simp only [Env.mp, List.map_cons, List.map_nil, List.set_cons_zero, List.set_cons_succ, AV.kill, AV.kill1, AO.kill, AV.noRow, AV.noRow1, AO.via, reduceIte, Nat.reduceEqDiff, Nat.reduceLT, Env.up, Nat.zero_ne_one, Nat.one_ne_zero, Nat.reduceAdd, List.cons_append, List.nil_append]; rotate_left 1) | (apply inI_of <;> omega) | omega)
  · have e2 := take_set_snocs xss i (by omega)
    have e3 : (xss.take i ++ List.replicate (xss.length - i) []).set ((i : Int)).toNat (gets xss i) = xss.take (i + 1) ++ List.replicate (xss.length - (i + 1)) [] := e2
    exact ⟨i + 1, by omega, by omega, ⟨lee rfl (by (repeat (first | exact le_nil | refine le_eq rfl rfl ?_))), by (repeat (first | exact lo_nil | refine lo_eq (congrArg (AO.sls _ _) (e3)) ?_)), rfl, rfl⟩⟩
  · have e : i = xss.length := by omega
    subst e
    exact ⟨_, _, _, .v1 Try.results58 rfl, .sls rfl, rfl, by simp⟩

theorem eqInt64SS_c (xss yss : List (List Int)) : AFnV Try.prog 61 [.intss xss, .intss yss] (.bool (decide (xss = yss))) := by
  (refine AFnV.start Try.func61 Try.ntmps61 rfl (by kernel_rfl) fun hk0 => ?_; simp only [Env.start, enumF, List.length_cons, List.length_nil, Nat.reduceAdd, Nat.reduceSub, List.cons_append, List.nil_append])
  obtain ⟨hk, hl⟩ : ArgOk (.intss xss) := hk0 _ (by simp)
  repeat' (first | (apply AOps.nil; try simp only [List.nil_append, List.cons_append, List.set_cons_zero, List.set_cons_succ, List.length_cons, List.length_nil, Nat.reduceAdd, AV.sh, AV.sh1, AV.sh0, AO.sh, List.map_cons, List.map_nil, Nat.zero_add, Nat.add_zero, setAll]) | (apply w_move; exact rfl; exact rfl) | (apply w_assign; exact rfl; exact rfl) | apply AWp.seq | apply AWp.region | ((apply AWp.condP; exact rfl) <;> intro h) | apply AWp.block | apply AWp.ret | apply AWp.skip | (apply w_len; exact rfl; exact rfl; first | exact .ints _ | exact .intss _ | exact .sli rfl | exact .sls rfl | exact .slr rfl | exact .orow rfl | exact .nil) | ((apply w_neq); iterate 3 exact rfl))
  · exact .bool Try.results61 rfl (by simp; intro e; subst e; simp at h)
  refine AWp.loop (ι := Nat) (fun i => ⟨27, [(0, .intss xss), (1, .intss yss), (5, .i i)]⟩) (fun _ => []) (fun i => i ≤ xss.length ∧ xss.take i = yss.take i) (fun i => xss.length - i) 0 ⟨by omega, by simp⟩ ⟨lee rfl (by (repeat (first | exact le_nil | refine le_eq rfl rfl ?_))), by (repeat (exact lo_nil)), rfl, rfl⟩ ?_
  rintro i ⟨h0, h1⟩
  have hlen : xss.length = yss.length := by omega
  repeat' (first | (apply AOps.nil; try simp only [List.nil_append, List.cons_append, List.set_cons_zero, List.set_cons_succ, List.length_cons, List.length_nil, Nat.reduceAdd, AV.sh, AV.sh1, AV.sh0, AO.sh, List.map_cons, List.map_nil, Nat.zero_add, Nat.add_zero, setAll]) | (apply w_move; exact rfl; exact rfl) | (apply w_assign; exact rfl; exact rfl) | apply AWp.seq | apply AWp.region | ((apply AWp.condP; exact rfl) <;> intro h) | ((apply AWp.condN; exact rfl) <;> intro h) | apply AWp.block | apply AWp.ret | apply AWp.exit | apply AWp.skip | (apply AWp.regionQ; kernel_rfl; kernel_rfl) | (apply w_len; exact rfl; exact rfl; first | exact .ints _ | exact .intss _ | exact .sli rfl | exact .sls rfl | exact .slr rfl | exact .orow rfl | exact .nil) | (apply w_call (eqInt64S_c _ _); exact rfl; exact rfl; focus ((repeat (first | exact im_nil | refine im_cons rfl (.ints _) ?_)); done)) | ((first | apply w_lss | apply w_add | apply w_idx | apply w_ld); iterate 3 exact rfl) | ((first | apply w_idxs | apply w_lds); iterate 3 exact rfl) | ((apply w_not); iterate 2 exact rfl) | (apply inI_of <;> omega) | omega)
  · refine .bool Try.results61 rfl ?_
    have : ¬ xss = yss := fun e => h (by rw [e])
    simp [this]
  · refine ⟨i + 1, ⟨by omega, ?_⟩, by omega, ⟨lee rfl (by (repeat (first | exact le_nil | refine le_eq rfl rfl ?_))), by (repeat (exact lo_nil)), rfl, rfl⟩⟩
    have a1 : i < xss.length := by omega
    have a2 : i < yss.length := by omega
    have a3 : xss[i] = yss[i] := by simpa [gets, a1, a2] using h
    rw [List.take_succ_eq_append_getElem a1, List.take_succ_eq_append_getElem a2, h1, a3]
  · have e : i = xss.length := by omega
    subst e
    rw [List.take_length, hlen, List.take_length] at h1
    exact .bool Try.results61 rfl (by simp [h1])

end Go.Proofs.Ytifkgmbghcmdeaa
/-
  Supports: whether a list is one, and its values. No condition.
-/
namespace Go.Proofs.Ytifkgmbghcmdeaa
open Go Go.RowKit
attribute [local irreducible] AWp AOps ResIs Ret1 QOp LOp COp AFnV AFn Imms LeE LeO
set_option maxHeartbeats 1000000
set_option linter.unusedSimpArgs false
set_option linter.unusedVariables false

/-- The i-th row of a support. -/
def SR (xss : List (List Int)) (i : Nat) : Prop :=
  (gets xss i).length = 2 ∧ (0 ≤ geti (gets xss i) 0 ∧ geti (gets xss i) 0 ≤ 60) ∧ (0 ≤ geti (gets xss i) 1 ∧ geti (gets xss i) 1 ≤ 60)
def IsSup (xss : List (List Int)) : Prop := (1 ≤ xss.length ∧ xss.length ≤ 200) ∧ ∀ j, j < xss.length → SR xss j
noncomputable instance (xss : List (List Int)) : Decidable (IsSup xss) := Classical.propDecidable _
theorem within2 {xs : List Int} {a b : Int} (hl : xs.length = 2) : withinL xs a b = decide ((a ≤ geti xs 0 ∧ geti xs 0 ≤ b) ∧ (a ≤ geti xs 1 ∧ geti xs 1 ≤ b)) := by
  match xs, hl with
  | [x, y], _ => simp [withinL, geti]

/-! ### Values -/
end Go.Proofs.Ytifkgmbghcmdeaa
/-
  Polynomials: the laws' helpers, whether a value is one, and its order. No condition.
-/
namespace Go.Proofs.Ytifkgmbghcmdeaa
open Go Go.RowKit
attribute [local irreducible] AWp AOps ResIs Ret1 QOp LOp COp AFnV AFn Imms LeE LeO
set_option maxHeartbeats 1000000
set_option linter.unusedSimpArgs false
set_option linter.unusedVariables false

theorem szR_cases : ∀ (xss : List (List Int)) (l : Int), 0 ≤ l → szR xss l = -1 ∨ 0 ≤ szR xss l
  | [], l, h => .inr h
  | xs :: r, l, h => by
    simp only [szR]
    by_cases e : szI xs l < 0
    · rw [if_pos e]; exact .inl rfl
    · rw [if_neg e]; exact szR_cases r _ (by omega)
theorem szSS_cases (xss : List (List Int)) (left : Int) : szSS xss left = -1 ∨ 0 ≤ szSS xss left := by
  unfold szSS
  split
  · exact .inl rfl
  · exact szR_cases _ _ (by omega)

theorem szPoly_c (xss : List (List Int)) (left : Int) (h0 : -1 ≤ left) (h1 : left ≤ 1048576) : AFnV Try.prog 26 [.agg [.intss xss], .i left] (.int .i64 (szSS xss left)) := by
  (refine AFnV.start Try.func26 Try.ntmps26 rfl (by kernel_rfl) fun hk => ?_; simp only [Env.start, enumF, List.length_cons, List.length_nil, Nat.reduceAdd, Nat.reduceSub, List.cons_append, List.nil_append])
  repeat' (first | (apply AOps.nil; try simp only [List.nil_append, List.cons_append, List.set_cons_zero, List.set_cons_succ, List.length_cons, List.length_nil, Nat.reduceAdd, AV.sh, AV.sh1, AV.sh0, AO.sh, List.map_cons, List.map_nil, Nat.zero_add, Nat.add_zero, setAll]) | (apply w_move; exact rfl; exact rfl) | (apply w_assign; exact rfl; exact rfl) | apply AWp.seq | apply AWp.region | ((apply AWp.condP; exact rfl) <;> intro h) | apply AWp.ret | apply AWp.skip | (apply w_call (szInt64SS_c _ _ h0 h1); exact rfl; exact rfl; focus ((repeat (first | exact im_nil | refine im_cons rfl (.val _) ?_ | refine im_cons rfl (.intss _) ?_)); done)) | ((first | apply w_lss | apply w_ld | apply w_fa); iterate 3 exact rfl) | ((apply w_boxa); iterate 2 exact rfl) | (apply w_ldb; iterate 5 exact rfl))
  · refine .int Try.results26 rfl ?_
    have e : szSS xss left = -1 ∨ 0 ≤ szSS xss left := szSS_cases xss left
    omega
  · exact .int Try.results26 rfl rfl

/-- A new polynomial. -/
def IsPol (xss : List (List Int)) (r : AV) (os : List AO) : Prop := r = .agg [.own 0] ∧ os = [.sls 22 2 xss]

theorem toPoly_c (xss : List (List Int)) (hb : xss.length ≤ 1048576) (hr : ∀ xs ∈ xss, xs.length ≤ 1048576) : AFn Try.prog 28 [.agg [.intss xss]] (IsPol xss) := by
  (refine AFn.start Try.func28 Try.ntmps28 rfl (by kernel_rfl) fun hk => ?_; simp only [Env.start, enumF, List.length_cons, List.length_nil, Nat.reduceAdd, Nat.reduceSub, List.cons_append, List.nil_append])
  repeat' (first | (apply AOps.nil; try simp only [List.nil_append, List.cons_append, List.set_cons_zero, List.set_cons_succ, List.length_cons, List.length_nil, Nat.reduceAdd, AV.sh, AV.sh1, AV.sh0, AO.sh, List.map_cons, List.map_nil, Nat.zero_add, Nat.add_zero, setAll]) | apply AWp.seq | apply AWp.region | apply AWp.ret | (apply w_callm (toInt64SS_c _ hb hr); (focus ((repeat (first | exact im_nil | refine im_cons rfl (.intss _) ?_)); done)); rintro r os0 ⟨rfl, rfl⟩; try simp only [List.nil_append, List.cons_append, List.set_cons_zero, List.set_cons_succ, List.length_cons, List.length_nil, Nat.reduceAdd, AV.sh, AV.sh1, AV.sh0, AO.sh, List.map_cons, List.map_nil, Nat.zero_add, Nat.add_zero, setAll]) | ((first | apply w_ld | apply w_fa); iterate 3 exact rfl) | ((apply w_boxa); iterate 2 exact rfl) | (apply w_ldb; iterate 5 exact rfl) | (apply w_ldst; iterate 5 exact rfl) | (apply w_alst; iterate 2 exact rfl) | (apply w_stst; iterate 5 exact rfl) | (apply w_stbo; exact rfl; exact rfl; exact rfl; exact rfl; exact rfl; exact True.intro))
  exact ⟨_, _, _, .c1 Try.results28 rfl rfl rfl, .agg1 (.sls rfl), rfl, rfl⟩

theorem eqPoly_c (xss yss : List (List Int)) : AFnV Try.prog 30 [.agg [.intss xss], .agg [.intss yss]] (.bool (decide (xss = yss))) := by
  (refine AFnV.start Try.func30 Try.ntmps30 rfl (by kernel_rfl) fun hk => ?_; simp only [Env.start, enumF, List.length_cons, List.length_nil, Nat.reduceAdd, Nat.reduceSub, List.cons_append, List.nil_append])
  repeat' (first | (apply AOps.nil; try simp only [List.nil_append, List.cons_append, List.set_cons_zero, List.set_cons_succ, List.length_cons, List.length_nil, Nat.reduceAdd, AV.sh, AV.sh1, AV.sh0, AO.sh, List.map_cons, List.map_nil, Nat.zero_add, Nat.add_zero, setAll]) | (apply w_assign; exact rfl; exact rfl) | apply AWp.seq | apply AWp.region | ((apply AWp.condN; exact rfl) <;> intro h) | apply AWp.ret | apply AWp.skip | (apply w_call (eqInt64SS_c _ _); exact rfl; exact rfl; focus ((repeat (first | exact im_nil | refine im_cons rfl (.intss _) ?_)); done)) | ((first | apply w_ld | apply w_fa); iterate 3 exact rfl) | ((first | apply w_not | apply w_boxa); iterate 2 exact rfl) | (apply w_ldb; iterate 5 exact rfl))
  · exact .bool Try.results30 rfl (by simp_all)
  · exact .bool Try.results30 rfl (by simp_all)
theorem eqPoly_t (xss : List (List Int)) : AFnV Try.prog 30 [.agg [.intss xss], .agg [.intss xss]] (.bool true) := by
  have := eqPoly_c xss xss
  simpa using this

/-- The order of terms. -/
def Bef (x y : List Int) : Prop := geti x 0 + geti x 1 < geti y 0 + geti y 1 ∨ (geti x 0 + geti x 1 = geti y 0 + geti y 1 ∧ geti x 0 < geti y 0)

theorem l17Before_c (i j a b : Int) (hi : 0 ≤ i ∧ i ≤ 60) (hj : 0 ≤ j ∧ j ≤ 60) (ha : 0 ≤ a ∧ a ≤ 60) (hb : 0 ≤ b ∧ b ≤ 60) :
    AFnV Try.prog 85 [.i i, .i j, .i a, .i b] (.bool (decide (i + j < a + b ∨ (i + j = a + b ∧ i < a)))) := by
  (refine AFnV.start Try.func85 Try.ntmps85 rfl (by kernel_rfl) fun hk => ?_; simp only [Env.start, enumF, List.length_cons, List.length_nil, Nat.reduceAdd, Nat.reduceSub, List.cons_append, List.nil_append])
  repeat' (first | (apply AOps.nil; try simp only [List.nil_append, List.cons_append, List.set_cons_zero, List.set_cons_succ, List.length_cons, List.length_nil, Nat.reduceAdd, AV.sh, AV.sh1, AV.sh0, AO.sh, List.map_cons, List.map_nil, Nat.zero_add, Nat.add_zero, setAll]) | (apply w_move; exact rfl; exact rfl) | (apply w_assign; exact rfl; exact rfl) | apply AWp.seq | apply AWp.region | ((apply AWp.condP; exact rfl) <;> intro h) | apply AWp.ret | apply AWp.skip | ((first | apply w_lss | apply w_neq | apply w_add); iterate 3 exact rfl) | (apply inI_of <;> omega))
  all_goals refine .bool Try.results85 rfl ?_
  all_goals rw [Bool.eq_iff_iff]
  all_goals simp
  all_goals omega

def cmpI (a b : Int) : Int := if a < b then -1 else if b < a then 1 else 0

theorem compared_c (a b : Int) : AFnV Try.prog 110 [.i a, .i b] (.int .i64 (cmpI a b)) := by
  (refine AFnV.start Try.func110 Try.ntmps110 rfl (by kernel_rfl) fun hk => ?_; simp only [Env.start, enumF, List.length_cons, List.length_nil, Nat.reduceAdd, Nat.reduceSub, List.cons_append, List.nil_append])
  repeat' (first | (apply AOps.nil; try simp only [List.nil_append, List.cons_append, List.set_cons_zero, List.set_cons_succ, List.length_cons, List.length_nil, Nat.reduceAdd, AV.sh, AV.sh1, AV.sh0, AO.sh, List.map_cons, List.map_nil, Nat.zero_add, Nat.add_zero, setAll]) | (apply w_move; exact rfl; exact rfl) | (apply w_assign; exact rfl; exact rfl) | apply AWp.seq | apply AWp.region | ((apply AWp.condP; exact rfl) <;> intro h) | apply AWp.block | apply AWp.ret | apply AWp.skip | ((first | apply w_lss | apply w_gtr); iterate 3 exact rfl))
  all_goals exact .int Try.results110 rfl (by unfold cmpI; split <;> (try split) <;> omega)

def cmpT (x y : List Int) : Int := if cmpI (geti x 0 + geti x 1) (geti y 0 + geti y 1) ≠ 0 then cmpI (geti x 0 + geti x 1) (geti y 0 + geti y 1) else cmpI (geti x 0) (geti y 0)
theorem cmpI_in (a b : Int) : -1 ≤ cmpI a b ∧ cmpI a b ≤ 1 := by unfold cmpI; split <;> (try split) <;> omega
theorem cmpT_bef (x y : List Int) : 0 ≤ cmpT x y ↔ ¬ Bef x y := by
  unfold cmpT Bef cmpI
  (repeat' split) <;> omega

theorem compareTerms_c (x y : List Int) (hx : x.length = 3) (hy : y.length = 3) (hx0 : 0 ≤ geti x 0 ∧ geti x 0 ≤ 60) (hx1 : 0 ≤ geti x 1 ∧ geti x 1 ≤ 60) (hy0 : 0 ≤ geti y 0 ∧ geti y 0 ≤ 60) (hy1 : 0 ≤ geti y 1 ∧ geti y 1 ≤ 60) :
    AFnV Try.prog 89 [.ints x, .ints y] (.int .i64 (cmpT x y)) := by
  have e1 := cmpI_in (geti x 0 + geti x 1) (geti y 0 + geti y 1)
  have e2 := cmpI_in (geti x 0) (geti y 0)
  (refine AFnV.start Try.func89 Try.ntmps89 rfl (by kernel_rfl) fun hk => ?_; simp only [Env.start, enumF, List.length_cons, List.length_nil, Nat.reduceAdd, Nat.reduceSub, List.cons_append, List.nil_append])
  repeat' (first | (apply AOps.nil; try simp only [List.nil_append, List.cons_append, List.set_cons_zero, List.set_cons_succ, List.length_cons, List.length_nil, Nat.reduceAdd, AV.sh, AV.sh1, AV.sh0, AO.sh, List.map_cons, List.map_nil, Nat.zero_add, Nat.add_zero, setAll]) | (apply w_move; exact rfl; exact rfl) | (apply w_assign; exact rfl; exact rfl) | apply AWp.seq | apply AWp.region | ((apply AWp.condP; exact rfl) <;> intro h) | apply AWp.ret | apply AWp.skip | (apply AWp.regionQ; kernel_rfl; kernel_rfl) | (apply w_call (compared_c _ _); exact rfl; exact rfl; focus ((repeat (first | exact im_nil | refine im_cons rfl (.val _) ?_)); done)) | ((first | apply w_neq | apply w_add | apply w_idx | apply w_ld); iterate 3 exact rfl) | (apply inI_of <;> omega) | omega)
  all_goals exact .int Try.results89 rfl (by unfold cmpT; split <;> (try omega) <;> (try rfl) <;> simp_all)

/-- The i-th term of a polynomial. -/
def PR (xss : List (List Int)) (i : Nat) : Prop :=
  (gets xss i).length = 3 ∧ (0 ≤ geti (gets xss i) 0 ∧ geti (gets xss i) 0 ≤ 60) ∧ (0 ≤ geti (gets xss i) 1 ∧ geti (gets xss i) 1 ≤ 60) ∧ (1 ≤ geti (gets xss i) 2 ∧ geti (gets xss i) 2 ≤ 55440) ∧
    (0 < i → Bef (gets xss ((i : Int) - 1)) (gets xss i))
def IsPo (xss : List (List Int)) : Prop := xss.length ≤ 200 ∧ ∀ j, j < xss.length → PR xss j
noncomputable instance (xss : List (List Int)) : Decidable (IsPo xss) := Classical.propDecidable _
noncomputable def isPo (xss : List (List Int)) : Bool := decide (IsPo xss)

theorem isPo_false {xss : List (List Int)} {i : Nat} (hi : i < xss.length) (h : ¬ PR xss i) : false = isPo xss := (decide_eq_false fun hz => h (hz.2 i hi)).symm
theorem isPo_long {xss : List (List Int)} (h : ¬ xss.length ≤ 200) : false = isPo xss := (decide_eq_false fun hz => h hz.1).symm
theorem isPo_all {xss : List (List Int)} (h : ∀ j, j < xss.length → PR xss j) : isPo xss = decide (xss.length ≤ 200) := by
  unfold isPo
  by_cases h2 : xss.length ≤ 200
  · rw [decide_eq_true ⟨h2, h⟩, decide_eq_true h2]
  · rw [decide_eq_false (fun hz => h2 hz.1), decide_eq_false h2]
theorem isPo_of {xss : List (List Int)} (h : isPo xss = true) : xss.length ≤ 200 ∧ ∀ j, j < xss.length → PR xss j := of_decide_eq_true (p := IsPo xss) h

theorem within3_c (xs : List Int) (hl : xs.length = 3) : AFnV Try.prog 80 [.ints (xs.take (Int.toNat 2)), .i 0, .i 60] (.bool (decide ((0 ≤ geti xs 0 ∧ geti xs 0 ≤ 60) ∧ (0 ≤ geti xs 1 ∧ geti xs 1 ≤ 60)))) := by
  have := within_c (xs.take (Int.toNat 2)) 0 60
  rw [within2 (by simp; omega)] at this
  have e0 : geti (xs.take (Int.toNat 2)) 0 = geti xs 0 := by match xs, hl with | [x, y, z], _ => rfl
  have e1 : geti (xs.take (Int.toNat 2)) 1 = geti xs 1 := by match xs, hl with | [x, y, z], _ => rfl
  rw [e0, e1] at this
  exact this

theorem l17Is_c (xss : List (List Int)) : AFnV Try.prog 47 [.agg [.intss xss]] (.bool (isPo xss)) := by
  (refine AFnV.start Try.func47 Try.ntmps47 rfl (by kernel_rfl) fun hk0 => ?_; simp only [Env.start, enumF, List.length_cons, List.length_nil, Nat.reduceAdd, Nat.reduceSub, List.cons_append, List.nil_append])
  have hk := hk0 _ (List.mem_cons_self ..)
  obtain ⟨hk, hl⟩ := hk (.intss xss) (by simp)
  repeat' (first | (apply AOps.nil; try simp only [List.nil_append, List.cons_append, List.set_cons_zero, List.set_cons_succ, List.length_cons, List.length_nil, Nat.reduceAdd, AV.sh, AV.sh1, AV.sh0, AO.sh, List.map_cons, List.map_nil, Nat.zero_add, Nat.add_zero, setAll]) | (apply w_assign; exact rfl; exact rfl) | apply AWp.seq | apply AWp.region | apply AWp.block | ((apply w_boxa); iterate 2 exact rfl))
  refine AWp.loop (ι := Nat) (fun i => ⟨73, [(0, .agg [.intss xss]), (1, .optr 0 0), (3, .i i)]⟩) (fun _ => [.bx 50 [.intss xss]]) (fun i => i ≤ xss.length ∧ ∀ j, j < i → PR xss j) (fun i => xss.length - i) 0 ⟨by omega, fun j hj => by omega⟩ ⟨lee rfl (by (repeat (first | exact le_nil | refine le_eq rfl rfl ?_))), by (repeat (first | exact lo_nil | refine lo_eq rfl ?_)), rfl, rfl⟩ ?_
  rintro i ⟨h0, h1⟩
  have hprev : 0 < i → (gets xss ((i : Int) - 1)).length = 3 ∧ (0 ≤ geti (gets xss ((i : Int) - 1)) 0 ∧ geti (gets xss ((i : Int) - 1)) 0 ≤ 60) ∧ (0 ≤ geti (gets xss ((i : Int) - 1)) 1 ∧ geti (gets xss ((i : Int) - 1)) 1 ≤ 60) := by
    intro h
    have := h1 (i - 1) (by omega)
    unfold PR at this
    rw [show ((i : Int) - 1) = ((i - 1 : Nat) : Int) by omega]
    exact ⟨this.1, this.2.1, this.2.2.1⟩
  by_cases hi0 : 0 < i
  · obtain ⟨p1, p2, p3⟩ := hprev hi0
    by_cases hz : (gets xss i).length = 3 ∧ (0 ≤ geti (gets xss i) 0 ∧ geti (gets xss i) 0 ≤ 60) ∧ (0 ≤ geti (gets xss i) 1 ∧ geti (gets xss i) 1 ≤ 60) ∧ (1 ≤ geti (gets xss i) 2 ∧ geti (gets xss i) 2 ≤ 55440)
    · have hz' := hz
      obtain ⟨z0, z1, z2, z3⟩ := hz'
      repeat' (first | (apply AOps.nil; try simp only [List.nil_append, List.cons_append, List.set_cons_zero, List.set_cons_succ, List.length_cons, List.length_nil, Nat.reduceAdd, AV.sh, AV.sh1, AV.sh0, AO.sh, List.map_cons, List.map_nil, Nat.zero_add, Nat.add_zero, setAll]) | ((apply AOps.splitP; exact rfl; exact rfl) <;> intro h) | ((apply AOps.splitN; exact rfl; exact rfl) <;> intro h) | (apply w_move; exact rfl; exact rfl) | (apply w_assign; exact rfl; exact rfl) | apply AWp.seq | apply AWp.region | ((apply AWp.condP; exact rfl) <;> intro h) | ((apply AWp.condN; exact rfl) <;> intro h) | (apply AWp.condT; exact rfl) | (apply AWp.condF; exact rfl) | apply AWp.block | apply AWp.ret | apply AWp.exit | apply AWp.skip | (apply AWp.regionQ; kernel_rfl; kernel_rfl) | (apply w_skip; exact rfl) | (apply w_pickT; exact rfl; exact rfl; exact rfl) | (apply w_pickF; exact rfl; exact rfl; exact rfl) | (apply w_len; exact rfl; exact rfl; first | exact .ints _ | exact .intss _ | exact .sli rfl | exact .sls rfl | exact .slr rfl | exact .orow rfl | exact .nil) | (apply w_call (l01In_c _ _ _); exact rfl; exact rfl; focus ((repeat (first | exact im_nil | refine im_cons rfl (.val _) ?_)); done)) | (apply w_call (l17Before_c _ _ _ _ p2 p3 z1 z2); exact rfl; exact rfl; focus ((repeat (first | exact im_nil | refine im_cons rfl (.val _) ?_)); done)) | ((first | apply w_lss | apply w_leq | apply w_gtr | apply w_neq | apply w_add | apply w_sub | apply w_idx | apply w_ld | apply w_fa); iterate 3 exact rfl) | ((first | apply w_idxs | apply w_lds); iterate 3 exact rfl) | ((apply w_not); iterate 2 exact rfl) | (apply w_ldb; iterate 5 exact rfl) | (apply inI_of <;> omega) | omega)
      all_goals first
        | exact .bool Try.results47 rfl (isPo_false (i := i) (by omega) (fun hz => by unfold PR Bef at hz; omega))
        | (refine ⟨i + 1, ⟨by omega, fun j hj => ?_⟩, by omega, ⟨lee rfl (by (repeat (first | exact le_nil | refine le_eq rfl rfl ?_))), by (repeat (first | exact lo_nil | refine lo_eq rfl ?_)), rfl, rfl⟩⟩
           by_cases e : j = i
           · subst e
             unfold PR Bef
             omega
           · exact h1 j (by omega))
        | (have e : i = xss.length := by omega
           subst e
           exact .bool Try.results47 rfl (by rw [isPo_all h1]; simp; try omega))
    · repeat' (first | (apply AOps.nil; try simp only [List.nil_append, List.cons_append, List.set_cons_zero, List.set_cons_succ, List.length_cons, List.length_nil, Nat.reduceAdd, AV.sh, AV.sh1, AV.sh0, AO.sh, List.map_cons, List.map_nil, Nat.zero_add, Nat.add_zero, setAll]) | ((apply AOps.splitP; exact rfl; exact rfl) <;> intro h) | ((apply AOps.splitN; exact rfl; exact rfl) <;> intro h) | (apply w_move; exact rfl; exact rfl) | (apply w_assign; exact rfl; exact rfl) | apply AWp.seq | apply AWp.region | ((apply AWp.condP; exact rfl) <;> intro h) | ((apply AWp.condN; exact rfl) <;> intro h) | (apply AWp.condT; exact rfl) | apply AWp.block | apply AWp.ret | apply AWp.exit | apply AWp.skip | (apply AWp.regionQ; kernel_rfl; kernel_rfl) | (apply w_skip; exact rfl) | (apply w_pickT; exact rfl; exact rfl; exact rfl) | (apply w_pickF; exact rfl; exact rfl; exact rfl) | (apply w_len; exact rfl; exact rfl; first | exact .ints _ | exact .intss _ | exact .sli rfl | exact .sls rfl | exact .slr rfl | exact .orow rfl | exact .nil) | (apply w_call (l01In_c _ _ _); exact rfl; exact rfl; focus ((repeat (first | exact im_nil | refine im_cons rfl (.val _) ?_)); done)) | omega | ((first | apply w_lss | apply w_leq | apply w_neq | apply w_idx | apply w_ld | apply w_fa); iterate 3 exact rfl) | ((first | apply w_idxs | apply w_lds); iterate 3 exact rfl) | ((apply w_not); iterate 2 exact rfl) | (apply w_ldb; iterate 5 exact rfl))
      all_goals first
        | exact .bool Try.results47 rfl (isPo_false (i := i) (by omega) (fun hz => by unfold PR Bef at hz; omega))
        | (have e : i = xss.length := by omega
           subst e
           exact .bool Try.results47 rfl (by rw [isPo_all h1]; simp; try omega))
  · obtain rfl : i = 0 := by omega
    simp only [Int.natCast_zero] at *
    repeat' (first | (apply AOps.nil; try simp only [List.nil_append, List.cons_append, List.set_cons_zero, List.set_cons_succ, List.length_cons, List.length_nil, Nat.reduceAdd, AV.sh, AV.sh1, AV.sh0, AO.sh, List.map_cons, List.map_nil, Nat.zero_add, Nat.add_zero, setAll]) | ((apply AOps.splitP; exact rfl; exact rfl) <;> intro h) | ((apply AOps.splitN; exact rfl; exact rfl) <;> intro h) | (apply w_move; exact rfl; exact rfl) | (apply w_assign; exact rfl; exact rfl) | apply AWp.seq | apply AWp.region | ((apply AWp.condP; exact rfl) <;> intro h) | ((apply AWp.condN; exact rfl) <;> intro h) | (apply AWp.condT; exact rfl) | (apply AWp.condF; exact rfl) | apply AWp.block | apply AWp.ret | apply AWp.exit | apply AWp.skip | (apply AWp.regionQ; kernel_rfl; kernel_rfl) | (apply w_skip; exact rfl) | (apply w_pickT; exact rfl; exact rfl; exact rfl) | (apply w_pickF; exact rfl; exact rfl; exact rfl) | (apply w_len; exact rfl; exact rfl; first | exact .ints _ | exact .intss _ | exact .sli rfl | exact .sls rfl | exact .slr rfl | exact .orow rfl | exact .nil) | (apply w_call (l01In_c _ _ _); exact rfl; exact rfl; focus ((repeat (first | exact im_nil | refine im_cons rfl (.val _) ?_)); done)) | omega | ((first | apply w_lss | apply w_leq | apply w_gtr | apply w_neq | apply w_add | apply w_idx | apply w_ld | apply w_fa); iterate 3 exact rfl) | ((first | apply w_idxs | apply w_lds); iterate 3 exact rfl) | ((apply w_not); iterate 2 exact rfl) | (apply w_ldb; iterate 5 exact rfl) | (apply inI_of <;> omega))
    all_goals first
      | exact .bool Try.results47 rfl (isPo_false (i := 0) (by omega) (fun hz => by unfold PR Bef at hz; simp only [Int.natCast_zero] at hz; omega))
      | (refine ⟨0 + 1, ⟨by omega, fun j hj => ?_⟩, by omega, ⟨lee rfl (by (repeat (first | exact le_nil | refine le_eq rfl rfl ?_))), by (repeat (first | exact lo_nil | refine lo_eq rfl ?_)), rfl, rfl⟩⟩
         obtain rfl : j = 0 := by omega
         unfold PR
         simp only [Int.natCast_zero]
         omega)
      | (exact .bool Try.results47 rfl (by rw [isPo_all fun j hj => by omega]; simp; try omega))

theorem implIsPoly_c (xss : List (List Int)) : AFnV Try.prog 59 [.agg [.intss xss]] (.bool (isPo xss)) := by
  (refine AFnV.start Try.func59 Try.ntmps59 rfl (by kernel_rfl) fun hk0 => ?_; simp only [Env.start, enumF, List.length_cons, List.length_nil, Nat.reduceAdd, Nat.reduceSub, List.cons_append, List.nil_append])
  have hk := hk0 _ (List.mem_cons_self ..)
  obtain ⟨hk, hl⟩ := hk (.intss xss) (by simp)
  repeat' (first | (apply AOps.nil; try simp only [List.nil_append, List.cons_append, List.set_cons_zero, List.set_cons_succ, List.length_cons, List.length_nil, Nat.reduceAdd, AV.sh, AV.sh1, AV.sh0, AO.sh, List.map_cons, List.map_nil, Nat.zero_add, Nat.add_zero, setAll]) | (apply w_move; exact rfl; exact rfl) | (apply w_assign; exact rfl; exact rfl) | apply AWp.seq | apply AWp.region | ((apply AWp.condP; exact rfl) <;> intro h) | apply AWp.block | apply AWp.ret | apply AWp.skip | (apply w_len; exact rfl; exact rfl; first | exact .ints _ | exact .intss _ | exact .sli rfl | exact .sls rfl | exact .slr rfl | exact .orow rfl | exact .nil) | ((first | apply w_gtr | apply w_ld | apply w_fa); iterate 3 exact rfl) | ((apply w_boxa); iterate 2 exact rfl) | (apply w_ldb; iterate 5 exact rfl))
  · exact .bool Try.results59 rfl (isPo_long (by omega))
  refine AWp.loop (ι := Nat) (fun i => ⟨47, [(0, .agg [.intss xss]), (1, .optr 0 0), (10, .intss xss), (11, .i xss.length), (12, .i i)]⟩) (fun _ => [.bx 50 [.intss xss]]) (fun i => i ≤ xss.length ∧ ∀ j, j < i → PR xss j) (fun i => xss.length - i) 0 ⟨by omega, fun j hj => by omega⟩ ⟨lee rfl (by (repeat (first | exact le_nil | refine le_eq rfl rfl ?_))), by (repeat (first | exact lo_nil | refine lo_eq rfl ?_)), rfl, rfl⟩ ?_
  rintro i ⟨h0, h1⟩
  by_cases hi : i < xss.length
  · by_cases hz : (gets xss i).length = 3
    · by_cases hi0 : 0 < i
      · have hp := h1 (i - 1) (by omega)
        unfold PR at hp
        rw [show ((i - 1 : Nat) : Int) = ((i : Int) - 1) by omega] at hp
        obtain ⟨q0, q1, q2, q3, _⟩ := hp
        by_cases hr : (0 ≤ geti (gets xss i) 0 ∧ geti (gets xss i) 0 ≤ 60) ∧ (0 ≤ geti (gets xss i) 1 ∧ geti (gets xss i) 1 ≤ 60)
        · obtain ⟨r1, r2⟩ := hr
          have hb := cmpT_bef (gets xss ((i : Int) - 1)) (gets xss i)
          repeat' (first | (apply AOps.nil; try simp only [List.nil_append, List.cons_append, List.set_cons_zero, List.set_cons_succ, List.length_cons, List.length_nil, Nat.reduceAdd, AV.sh, AV.sh1, AV.sh0, AO.sh, List.map_cons, List.map_nil, Nat.zero_add, Nat.add_zero, setAll]) | ((apply AOps.splitP; exact rfl; exact rfl) <;> intro h) | ((apply AOps.splitN; exact rfl; exact rfl) <;> intro h) | (apply w_move; exact rfl; exact rfl) | (apply w_assign; exact rfl; exact rfl) | apply AWp.seq | apply AWp.region | ((apply AWp.condP; exact rfl) <;> intro h) | ((apply AWp.condN; exact rfl) <;> intro h) | (apply AWp.condT; exact rfl) | (apply AWp.condF; exact rfl) | apply AWp.block | apply AWp.ret | apply AWp.exit | apply AWp.skip | (apply w_skip; exact rfl) | (apply w_pickT; exact rfl; exact rfl; exact rfl) | (apply w_pickF; exact rfl; exact rfl; exact rfl) | (apply w_len; exact rfl; exact rfl; first | exact .ints _ | exact .intss _ | exact .sli rfl | exact .sls rfl | exact .slr rfl | exact .orow rfl | exact .nil) | (apply w_call (within3_c _ hz); exact rfl; exact rfl; focus ((repeat (first | exact im_nil | refine im_cons rfl (.val _) ?_ | refine im_cons rfl (.ints _) ?_)); done)) | (apply w_call (inRange_c _ _ _); exact rfl; exact rfl; focus ((repeat (first | exact im_nil | refine im_cons rfl (.val _) ?_)); done)) | (apply w_call (compareTerms_c _ _ q0 hz q1 q2 r1 r2); exact rfl; exact rfl; focus ((repeat (first | exact im_nil | refine im_cons rfl (.ints _) ?_)); done)) | ((first | apply w_lss | apply w_gtr | apply w_geq | apply w_neq | apply w_add | apply w_sub | apply w_idx | apply w_ld | apply w_fa | apply w_slhi); iterate 3 exact rfl) | ((first | apply w_idxs | apply w_lds); iterate 3 exact rfl) | ((apply w_not); iterate 2 exact rfl) | (apply w_ldb; iterate 5 exact rfl) | (apply inI_of <;> omega) | omega)
          all_goals first
            | (refine .bool Try.results59 rfl (isPo_false (i := i) hi ?_)
               intro hz
               unfold PR at hz
               first
                 | omega
                 | exact absurd (hz.2.2.2.2 hi0) (hb.1 (by assumption)))
            | (refine ⟨i + 1, ⟨by omega, fun j hj => ?_⟩, by omega, ⟨lee rfl (by (repeat (first | exact le_nil | refine le_eq rfl rfl ?_))), by (repeat (first | exact lo_nil | refine lo_eq rfl ?_)), rfl, rfl⟩⟩
               by_cases e : j = i
               · subst e
                 refine ⟨hz, r1, r2, by omega, fun _ => ?_⟩
                 exact Classical.byContradiction fun hn => by have := hb.2 hn; omega
               · exact h1 j (by omega))
        · repeat' (first | (apply AOps.nil; try simp only [List.nil_append, List.cons_append, List.set_cons_zero, List.set_cons_succ, List.length_cons, List.length_nil, Nat.reduceAdd, AV.sh, AV.sh1, AV.sh0, AO.sh, List.map_cons, List.map_nil, Nat.zero_add, Nat.add_zero, setAll]) | ((apply AOps.splitP; exact rfl; exact rfl) <;> intro h) | ((apply AOps.splitN; exact rfl; exact rfl) <;> intro h) | (apply w_move; exact rfl; exact rfl) | (apply w_assign; exact rfl; exact rfl) | apply AWp.seq | apply AWp.region | ((apply AWp.condP; exact rfl) <;> intro h) | (apply AWp.condT; exact rfl) | apply AWp.block | apply AWp.ret | apply AWp.exit | apply AWp.skip | (apply w_skip; exact rfl) | (apply w_pickT; exact rfl; exact rfl; exact rfl) | (apply w_pickF; exact rfl; exact rfl; exact rfl) | (apply w_len; exact rfl; exact rfl; first | exact .ints _ | exact .intss _ | exact .sli rfl | exact .sls rfl | exact .slr rfl | exact .orow rfl | exact .nil) | (apply w_call (within3_c _ hz); exact rfl; exact rfl; focus ((repeat (first | exact im_nil | refine im_cons rfl (.val _) ?_ | refine im_cons rfl (.ints _) ?_)); done)) | omega | ((first | apply w_lss | apply w_neq | apply w_idx | apply w_ld | apply w_slhi); iterate 3 exact rfl) | ((first | apply w_idxs | apply w_lds); iterate 3 exact rfl) | ((apply w_not); iterate 2 exact rfl))
          all_goals refine .bool Try.results59 rfl (isPo_false (i := i) hi ?_)
          all_goals intro hz
          all_goals unfold PR at hz
          all_goals omega
      · obtain rfl : i = 0 := by omega
        simp only [Int.natCast_zero] at *
        repeat' (first | (apply AOps.nil; try simp only [List.nil_append, List.cons_append, List.set_cons_zero, List.set_cons_succ, List.length_cons, List.length_nil, Nat.reduceAdd, AV.sh, AV.sh1, AV.sh0, AO.sh, List.map_cons, List.map_nil, Nat.zero_add, Nat.add_zero, setAll]) | ((apply AOps.splitP; exact rfl; exact rfl) <;> intro h) | ((apply AOps.splitN; exact rfl; exact rfl) <;> intro h) | (apply w_move; exact rfl; exact rfl) | (apply w_assign; exact rfl; exact rfl) | apply AWp.seq | apply AWp.region | ((apply AWp.condP; exact rfl) <;> intro h) | ((apply AWp.condN; exact rfl) <;> intro h) | (apply AWp.condT; exact rfl) | (apply AWp.condF; exact rfl) | apply AWp.block | apply AWp.ret | apply AWp.exit | apply AWp.skip | (apply w_skip; exact rfl) | (apply w_pickT; exact rfl; exact rfl; exact rfl) | (apply w_pickF; exact rfl; exact rfl; exact rfl) | (apply w_len; exact rfl; exact rfl; first | exact .ints _ | exact .intss _ | exact .sli rfl | exact .sls rfl | exact .slr rfl | exact .orow rfl | exact .nil) | (apply w_call (within3_c _ hz); exact rfl; exact rfl; focus ((repeat (first | exact im_nil | refine im_cons rfl (.val _) ?_ | refine im_cons rfl (.ints _) ?_)); done)) | (apply w_call (inRange_c _ _ _); exact rfl; exact rfl; focus ((repeat (first | exact im_nil | refine im_cons rfl (.val _) ?_)); done)) | omega | ((first | apply w_lss | apply w_gtr | apply w_neq | apply w_add | apply w_idx | apply w_ld | apply w_slhi); iterate 3 exact rfl) | ((first | apply w_idxs | apply w_lds); iterate 3 exact rfl) | ((apply w_not); iterate 2 exact rfl) | (apply inI_of <;> omega))
        all_goals first
          | (refine .bool Try.results59 rfl (isPo_false (i := 0) hi ?_)
             intro hz
             unfold PR at hz
             simp only [Int.natCast_zero] at hz
             omega)
          | (refine ⟨0 + 1, ⟨by omega, fun j hj => ?_⟩, by omega, ⟨lee rfl (by (repeat (first | exact le_nil | refine le_eq rfl rfl ?_))), by (repeat (first | exact lo_nil | refine lo_eq rfl ?_)), rfl, rfl⟩⟩
             obtain rfl : j = 0 := by omega
             unfold PR
             simp only [Int.natCast_zero]
             omega)
    · repeat' (first | (apply AOps.nil; try simp only [List.nil_append, List.cons_append, List.set_cons_zero, List.set_cons_succ, List.length_cons, List.length_nil, Nat.reduceAdd, AV.sh, AV.sh1, AV.sh0, AO.sh, List.map_cons, List.map_nil, Nat.zero_add, Nat.add_zero, setAll]) | ((apply AOps.splitP; exact rfl; exact rfl) <;> intro h) | (apply w_move; exact rfl; exact rfl) | (apply w_assign; exact rfl; exact rfl) | apply AWp.seq | apply AWp.region | ((apply AWp.condP; exact rfl) <;> intro h) | (apply AWp.condT; exact rfl) | apply AWp.block | apply AWp.ret | apply AWp.exit | apply AWp.skip | (apply w_skip; exact rfl) | (apply w_pickT; exact rfl; exact rfl; exact rfl) | (apply w_len; exact rfl; exact rfl; first | exact .ints _ | exact .intss _ | exact .sli rfl | exact .sls rfl | exact .slr rfl | exact .orow rfl | exact .nil) | omega | ((first | apply w_lss | apply w_neq | apply w_idx | apply w_ld); iterate 3 exact rfl) | ((first | apply w_idxs | apply w_lds); iterate 3 exact rfl))
      all_goals refine .bool Try.results59 rfl (isPo_false (i := i) hi ?_)
      all_goals intro hz
      all_goals unfold PR at hz
      all_goals omega
  · repeat' (first | (apply AOps.nil; try simp only [List.nil_append, List.cons_append, List.set_cons_zero, List.set_cons_succ, List.length_cons, List.length_nil, Nat.reduceAdd, AV.sh, AV.sh1, AV.sh0, AO.sh, List.map_cons, List.map_nil, Nat.zero_add, Nat.add_zero, setAll]) | (apply w_move; exact rfl; exact rfl) | (apply w_assign; exact rfl; exact rfl) | apply AWp.seq | apply AWp.region | ((apply AWp.condP; exact rfl) <;> intro h) | apply AWp.block | apply AWp.ret | apply AWp.exit | apply AWp.skip | omega | ((apply w_lss); iterate 3 exact rfl))
    have e : i = xss.length := by omega
    subst e
    refine .bool Try.results59 rfl ?_
    rw [isPo_all h1, eq_comm]
    simp
    omega

/-! ### Orders -/
end Go.Proofs.Ytifkgmbghcmdeaa
/-
  Local algebras: the rows of products, and the counts. No condition.
-/
namespace Go.Proofs.Ytifkgmbghcmdeaa
open Go Go.RowKit

def triN : Nat → Nat
  | 0 => 0
  | n + 1 => triN n + n + 1
theorem triN_mono {a b : Nat} (h : a ≤ b) : triN a ≤ triN b := by
  induction h with
  | refl => exact Nat.le_refl _
  | step _ ih => rw [triN]; omega
theorem triN_two : ∀ n : Nat, n * (n + 1) = 2 * triN n
  | 0 => rfl
  | n + 1 => by
    have h := triN_two n
    rw [triN]
    have e : (n + 1) * (n + 1 + 1) = n * (n + 1) + 2 * (n + 1) := by rw [Nat.succ_mul n, Nat.mul_succ n]; omega
    omega
theorem triN_int (x : Int) (h : 0 ≤ x) : x * (x + 1) = 2 * (triN x.toNat : Int) := by
  obtain ⟨n, rfl⟩ : ∃ n : Nat, x = n := ⟨x.toNat, by omega⟩
  have := triN_two n
  rw [Int.toNat_natCast]
  have e : ((n : Nat) : Int) * (((n : Nat) : Int) + 1) = ((n * (n + 1) : Nat) : Int) := by rw [Int.natCast_mul]; rfl
  rw [e, this]; omega
/-- The place of a monomial. -/
def plN (i j : Nat) : Nat := triN (i + j) + i
theorem plN_lt {i j M : Nat} (h : i + j ≤ M) : plN i j < triN (M + 1) := by
  have h1 := triN_mono (show i + j + 1 ≤ M + 1 by omega)
  rw [triN] at h1
  unfold plN; omega
theorem plN_ge {i j M : Nat} (h : M < i + j) : triN (M + 1) ≤ plN i j := by
  have h1 := triN_mono (show M + 1 ≤ i + j by omega)
  unfold plN; omega
/-- The row of a product of a polynomial and a monomial, up to the degree M; the first k terms. -/
def prR (f : List (List Int)) (a b M : Nat) : Nat → List Int
  | 0 => List.replicate (triN (M + 1)) 0
  | k + 1 => if geti (gets f (k : Nat)) 0 + geti (gets f (k : Nat)) 1 + a + b ≤ M then (prR f a b M k).set (plN (geti (gets f (k : Nat)) 0 + a).toNat (geti (gets f (k : Nat)) 1 + b).toNat) (geti (gets f (k : Nat)) 2) else prR f a b M k
theorem prR_len (f : List (List Int)) (a b M : Nat) : ∀ k, (prR f a b M k).length = triN (M + 1)
  | 0 => by simp [prR]
  | k + 1 => by rw [prR]; split <;> simp [prR_len f a b M k]
/-- The terms of a polynomial are in range. -/
def PoR (f : List (List Int)) : Prop := ∀ k : Nat, k < f.length → (gets f (k : Nat)).length = 3 ∧ (0 ≤ geti (gets f (k : Nat)) 0 ∧ geti (gets f (k : Nat)) 0 ≤ 60) ∧ (0 ≤ geti (gets f (k : Nat)) 1 ∧ geti (gets f (k : Nat)) 1 ≤ 60) ∧ (1 ≤ geti (gets f (k : Nat)) 2 ∧ geti (gets f (k : Nat)) 2 ≤ 55440)
theorem poR_of {f : List (List Int)} (h : isPo f = true) : PoR f := fun k hk => by
  obtain ⟨h1, h2, h3, h4, _⟩ := (isPo_of h).2 k hk
  exact ⟨h1, h2, h3, h4⟩
theorem prR_in {f : List (List Int)} (hf : PoR f) (a b M : Nat) : ∀ k, k ≤ f.length → inF (prR f a b M k)
  | 0, _ => inF_rep _
  | k + 1, hk => by
    have ih := prR_in hf a b M k (by omega)
    rw [prR]; split
    · intro i
      rw [geti_set]; split
      · have := hf k (by omega); omega
      · exact ih i
    · exact ih
/-- The product as a vector. -/
def pv (f : List (List Int)) (a b : Nat) : Nat → Nat → Int
  | 0, _ => 0
  | k + 1, i => if plN (geti (gets f (k : Nat)) 0 + a).toNat (geti (gets f (k : Nat)) 1 + b).toNat = i then geti (gets f (k : Nat)) 2 else pv f a b k i
theorem prR_pv {f : List (List Int)} (hf : PoR f) (a b M : Nat) : ∀ k, k ≤ f.length → ∀ i, i < triN (M + 1) → vec (prR f a b M k) i = pv f a b k i
  | 0, _, i, hi => by
    unfold vec; rw [prR, pv]; unfold geti
    rw [List.getD_eq_getElem?_getD, List.getElem?_replicate]; split <;> rfl
  | k + 1, hk, i, hi => by
    have ih := prR_pv hf a b M k (by omega) i hi
    obtain ⟨_, h0, h1, _⟩ := hf k (by omega)
    rw [prR, pv]
    by_cases hle : geti (gets f (k : Nat)) 0 + geti (gets f (k : Nat)) 1 + a + b ≤ M
    · rw [if_pos hle]
      have hlt := plN_lt (i := (geti (gets f (k : Nat)) 0 + a).toNat) (j := (geti (gets f (k : Nat)) 1 + b).toNat) (M := M) (by omega)
      unfold vec
      rw [geti_set, Int.toNat_natCast, prR_len]
      by_cases e : plN (geti (gets f (k : Nat)) 0 + a).toNat (geti (gets f (k : Nat)) 1 + b).toNat = i
      · rw [if_pos ⟨e, by omega⟩, if_pos e]
      · rw [if_neg (fun h => e h.1), if_neg e]; exact ih
    · rw [if_neg hle]
      have hge := plN_ge (i := (geti (gets f (k : Nat)) 0 + a).toNat) (j := (geti (gets f (k : Nat)) 1 + b).toNat) (M := M) (by omega)
      rw [if_neg (by omega)]; exact ih
/-- What is of too great a degree is nothing. -/
theorem pv_high {f : List (List Int)} {a b M : Nat} : ∀ k, (∀ j : Nat, j < k → 0 ≤ geti (gets f (j : Nat)) 0 ∧ 0 ≤ geti (gets f (j : Nat)) 1 ∧ (M : Int) < geti (gets f (j : Nat)) 0 + geti (gets f (j : Nat)) 1 + a + b) → ∀ i, i < triN (M + 1) → pv f a b k i = 0
  | 0, _, i, _ => rfl
  | k + 1, h, i, hi => by
    rw [pv]
    have h1 := h k (by omega)
    have hge := plN_ge (i := (geti (gets f (k : Nat)) 0 + a).toNat) (j := (geti (gets f (k : Nat)) 1 + b).toNat) (M := M) (by omega)
    rw [if_neg (by omega)]
    exact pv_high k (fun j hj => h j (by omega)) i hi

/-! ### The rows come in -/
def cnB (f : List (List Int)) (M a : Nat) (L : Rws) : Nat → Rws
  | 0 => L
  | b + 1 => addR (cnB f M a L b) (prR f a b M f.length)
def cnA (f : List (List Int)) (M C : Nat) (L : Rws) : Nat → Rws
  | 0 => L
  | a + 1 => cnB f M a (cnA f M C L a) (C - a)
def cnF (fs : List (List (List Int))) (M : Nat) (rc : List (List Int) → Nat) : Nat → Rws
  | 0 => []
  | n + 1 => cnA (fs.getD n []) M (rc (fs.getD n [])) (cnF fs M rc n) (rc (fs.getD n []))
theorem cnB_ok {f : List (List Int)} (hf : PoR f) (M a : Nat) {L : Rws} (hL : RwI (triN (M + 1)) L) : ∀ b, RwI (triN (M + 1)) (cnB f M a L b)
  | 0 => hL
  | b + 1 => (cnB_ok hf M a hL b).add (prR_len _ _ _ _ _) (prR_in hf _ _ _ _ (Nat.le_refl _))
theorem cnA_ok {f : List (List Int)} (hf : PoR f) (M C : Nat) {L : Rws} (hL : RwI (triN (M + 1)) L) : ∀ a, RwI (triN (M + 1)) (cnA f M C L a)
  | 0 => hL
  | a + 1 => cnB_ok hf M a (cnA_ok hf M C hL a) _
theorem cnF_ok {fs : List (List (List Int))} (hf : ∀ n : Nat, n < fs.length → PoR (fs.getD n [])) (M : Nat) (rc : List (List Int) → Nat) : ∀ n, n ≤ fs.length → RwI (triN (M + 1)) (cnF fs M rc n)
  | 0, _ => ⟨rw_nil _, List.Pairwise.nil⟩
  | n + 1, h => cnA_ok (hf n (by omega)) M _ (cnF_ok hf M rc n (by omega)) _
theorem cnB_span {f : List (List Int)} (hf : PoR f) (M a : Nat) {L : Rws} (hL : RwI (triN (M + 1)) L) {G : (Nat → Int) → Prop} (h : SpanEq (triN (M + 1)) (GR L) G) : ∀ n, SpanEq (triN (M + 1)) (GR (cnB f M a L n)) (fun g => G g ∨ ∃ b, b < n ∧ g = vec (prR f a b M f.length))
  | 0 => h.trans ⟨fun g hg => .gen (.inl hg), fun g hg => by
      rcases hg with hg | ⟨b, hb, _⟩
      · exact .gen hg
      · omega⟩
  | n + 1 => by
    have ih := cnB_span hf M a hL h n
    refine (add_span (cnB_ok hf M a hL n) (prR_len _ _ _ _ _) (prR_in hf _ _ _ _ (Nat.le_refl _))).trans ((ih.or _).trans ⟨fun g hg => .gen ?_, fun g hg => .gen ?_⟩)
    · rcases hg with (hg | ⟨b, hb, e⟩) | e
      · exact .inl hg
      · exact .inr ⟨b, by omega, e⟩
      · exact .inr ⟨n, by omega, e⟩
    · rcases hg with hg | ⟨b, hb, e⟩
      · exact .inl (.inl hg)
      · by_cases eb : b = n
        · subst eb; exact .inr e
        · exact .inl (.inr ⟨b, by omega, e⟩)
theorem cnA_span {f : List (List Int)} (hf : PoR f) (M C : Nat) {L : Rws} (hL : RwI (triN (M + 1)) L) {G : (Nat → Int) → Prop} (h : SpanEq (triN (M + 1)) (GR L) G) : ∀ n, SpanEq (triN (M + 1)) (GR (cnA f M C L n)) (fun g => G g ∨ ∃ a b, a < n ∧ b < C - a ∧ g = vec (prR f a b M f.length))
  | 0 => h.trans ⟨fun g hg => .gen (.inl hg), fun g hg => by
      rcases hg with hg | ⟨a, b, hb, _⟩
      · exact .gen hg
      · omega⟩
  | n + 1 => by
    have ih := cnA_span hf M C hL h n
    refine (cnB_span hf M n (cnA_ok hf M C hL n) ih (C - n)).trans ⟨fun g hg => .gen ?_, fun g hg => .gen ?_⟩
    · rcases hg with (hg | ⟨a, b, ha, hb, e⟩) | ⟨b, hb, e⟩
      · exact .inl hg
      · exact .inr ⟨a, b, by omega, hb, e⟩
      · exact .inr ⟨n, b, by omega, hb, e⟩
    · rcases hg with hg | ⟨a, b, ha, hb, e⟩
      · exact .inl (.inl hg)
      · by_cases ea : a = n
        · subst ea; exact .inr ⟨b, hb, e⟩
        · exact .inl (.inr ⟨a, b, by omega, hb, e⟩)
theorem cnF_span {fs : List (List (List Int))} (hf : ∀ n : Nat, n < fs.length → PoR (fs.getD n [])) (M : Nat) (rc : List (List Int) → Nat) : ∀ n, n ≤ fs.length → SpanEq (triN (M + 1)) (GR (cnF fs M rc n)) (fun g => ∃ k a b, k < n ∧ a < rc (fs.getD k []) ∧ b < rc (fs.getD k []) - a ∧ g = vec (prR (fs.getD k []) a b M (fs.getD k []).length))
  | 0, _ => ⟨fun g ⟨t, ht, _⟩ => (by cases ht), fun g ⟨k, a, b, hk, _⟩ => by omega⟩
  | n + 1, h => by
    have ih := cnF_span hf M rc n (by omega)
    refine (cnA_span (hf n (by omega)) M _ (cnF_ok hf M rc n (by omega)) ih _).trans ⟨fun g hg => .gen ?_, fun g hg => .gen ?_⟩
    · rcases hg with ⟨k, a, b, hk, r⟩ | ⟨a, b, r⟩
      · exact ⟨k, a, b, by omega, r⟩
      · exact ⟨n, a, b, by omega, r⟩
    · obtain ⟨k, a, b, hk, r⟩ := hg
      by_cases ek : k = n
      · subst ek; exact .inr ⟨a, b, r⟩
      · exact .inl ⟨k, a, b, by omega, r⟩

/-! ### The counts do not see the bound, nor the order of the polynomials -/
/-- How many factors the program takes: by the order of the polynomial. -/
def rcI (M : Nat) (f : List (List Int)) : Nat := if f.length = 0 then 0 else ((M : Int) - geti (gets f 0) 0 - geti (gets f 0) 1 + 1).toNat
/-- All products. -/
def GA (fs : List (List (List Int))) (g : Nat → Int) : Prop := ∃ f ∈ fs, ∃ a b : Nat, a + b ≤ 17 ∧ g = pv f a b f.length
/-- Polynomials: in range, the least degree first. -/
structure PoO (f : List (List Int)) : Prop where
  r : PoR f
  o : ∀ k : Nat, k < f.length → geti (gets f 0) 0 + geti (gets f 0) 1 ≤ geti (gets f (k : Nat)) 0 + geti (gets f (k : Nat)) 1
theorem getD_mem {α : Type} {l : List α} {d : α} {n : Nat} (h : n < l.length) : l.getD n d ∈ l := by
  rw [List.getD_eq_getElem?_getD, List.getElem?_eq_getElem h]
  exact List.getElem_mem h
theorem sp_of_eq {m : Nat} {G : (Nat → Int) → Prop} {v w : Nat → Int} (h : Sp m G v) (e : ∀ i, i < m → w i = v i) : Sp m G w := h.congr fun i hi => by rw [e i hi]
theorem span_I {fs : List (List (List Int))} (hf : ∀ f ∈ fs, PoO f) {M : Nat} (hM : M ≤ 17) : SpanEq (triN (M + 1)) (GR (cnF fs M (rcI M) fs.length)) (GA fs) := by
  refine (cnF_span (fun n hn => (hf _ (getD_mem hn)).r) M (rcI M) fs.length (Nat.le_refl _)).trans ⟨?_, ?_⟩
  · rintro g ⟨k, a, b, hk, ha, hb, rfl⟩
    have hm : fs.getD k [] ∈ fs := getD_mem hk
    generalize fs.getD k [] = f at hm ha hb
    have hp := hf f hm
    have hab : a + b ≤ 17 := by
      unfold rcI at ha hb
      split at ha
      · omega
      · rename_i h0
        rw [if_neg h0] at hb
        have := hp.r 0 (by omega)
        simp only [show ((0 : Nat) : Int) = 0 from rfl] at this
        omega
    exact sp_of_eq (.gen ⟨f, hm, a, b, hab, rfl⟩) fun i hi => prR_pv hp.r a b M f.length (Nat.le_refl _) i hi
  · rintro g ⟨f, hm, a, b, hab, rfl⟩
    have hp := hf f hm
    obtain ⟨k, hk, e⟩ := List.getElem_of_mem hm
    have ek : fs.getD k [] = f := by rw [List.getD_eq_getElem?_getD, List.getElem?_eq_getElem hk]; exact e
    by_cases hin : a < rcI M f ∧ b < rcI M f - a
    · exact sp_of_eq (.gen ⟨k, a, b, hk, by rw [ek]; exact hin.1, by rw [ek]; exact hin.2, rfl⟩) fun i hi => by rw [ek]; exact (prR_pv hp.r a b M f.length (Nat.le_refl _) i hi).symm
    · refine .zero fun i hi => ?_
      have : pv f a b f.length i = 0 := pv_high (M := M) f.length (fun j hj => ?_) i hi
      · rw [this]; rfl
      · have h1 := hp.r j hj
        have h2 := hp.o j hj
        unfold rcI at hin
        rw [if_neg (by omega)] at hin
        omega
theorem span_S {fs : List (List (List Int))} (hf : ∀ f ∈ fs, PoO f) : SpanEq (triN 18) (GR (cnF fs 17 (fun _ => 18) fs.length)) (GA fs) := by
  refine (cnF_span (fun n hn => (hf _ (getD_mem hn)).r) 17 (fun _ => 18) fs.length (Nat.le_refl _)).trans ⟨?_, ?_⟩
  · rintro g ⟨k, a, b, hk, ha, hb, rfl⟩
    have hm : fs.getD k [] ∈ fs := getD_mem hk
    generalize fs.getD k [] = f at hm
    exact sp_of_eq (.gen ⟨f, hm, a, b, by omega, rfl⟩) fun i hi => prR_pv (hf f hm).r a b 17 f.length (Nat.le_refl _) i hi
  · rintro g ⟨f, hm, a, b, hab, rfl⟩
    obtain ⟨k, hk, e⟩ := List.getElem_of_mem hm
    have ek : fs.getD k [] = f := by rw [List.getD_eq_getElem?_getD, List.getElem?_eq_getElem hk]; exact e
    exact sp_of_eq (.gen ⟨k, a, b, hk, by omega, by omega, rfl⟩) fun i hi => by rw [ek]; exact (prR_pv (hf f hm).r a b 17 f.length (Nat.le_refl _) i hi).symm
open Classical in
/-- Is a place the first one of a vector of the ideal? -/
noncomputable def isLd (fs : List (List (List Int))) (p : Nat) : Bool := decide (Leads (triN 18) (GA fs) p)
theorem isLd_iff (fs : List (List (List Int))) (p : Nat) : isLd fs p = true ↔ Leads (triN 18) (GA fs) p := by unfold isLd; simp
theorem ld_I {fs : List (List (List Int))} (hf : ∀ f ∈ fs, PoO f) {M : Nat} (hM : M ≤ 17) {p : Nat} (hp : p < triN (M + 1)) : (fndR (cnF fs M (rcI M) fs.length) (p : Nat)).isSome = isLd fs p := by
  have h1 := fnd_leads (cnF_ok (fun n hn => (hf _ (getD_mem hn)).r) M (rcI M) fs.length (Nat.le_refl _)) p
  have h2 := (span_I hf hM).leads p
  have h3 := leads_cut (G := GA fs) (n := triN 18) (triN_mono (by omega)) hp
  rw [Bool.eq_iff_iff, h1, h2, ← h3, isLd_iff]
theorem ld_S {fs : List (List (List Int))} (hf : ∀ f ∈ fs, PoO f) (p : Nat) : (fndR (cnF fs 17 (fun _ => 18) fs.length) (p : Nat)).isSome = isLd fs p := by
  have h1 := fnd_leads (cnF_ok (fun n hn => (hf _ (getD_mem hn)).r) 17 (fun _ => 18) fs.length (Nat.le_refl _)) p
  have h2 := (span_S hf).leads p
  rw [Bool.eq_iff_iff, h1, h2, isLd_iff]
/-- How many places of the degree d, of the first n, are taken. -/
def tkN (P : Nat → Bool) (d : Nat) : Nat → Nat
  | 0 => 0
  | n + 1 => tkN P d n + (if P (triN d + n) then 1 else 0)
theorem tkN_le (P : Nat → Bool) (d : Nat) : ∀ n, tkN P d n ≤ n
  | 0 => Nat.le_refl _
  | n + 1 => by have := tkN_le P d n; rw [tkN]; split <;> omega
theorem tkN_congr {P Q : Nat → Bool} (d : Nat) : ∀ n, (∀ j, j < n → P (triN d + j) = Q (triN d + j)) → tkN P d n = tkN Q d n
  | 0, _ => rfl
  | n + 1, h => by rw [tkN, tkN, tkN_congr d n fun j hj => h j (by omega), h n (by omega)]
/-- The count of the degree d. -/
def hcN (P : Nat → Bool) (d : Nat) : Nat := d + 1 - tkN P d (d + 1)
/-- How many of the first n numbers of rows lie in the degree d. -/
def pkN (L : Rws) (d : Nat) : Nat → Nat
  | 0 => 0
  | n + 1 => pkN L d n + (if (triN d : Int) ≤ geti (valsOf L) (n : Nat) ∧ geti (valsOf L) (n : Nat) ≤ (triN (d + 1) : Int) - 1 then 1 else 0)
theorem pkN_le (L : Rws) (d : Nat) : ∀ n, pkN L d n ≤ n
  | 0 => Nat.le_refl _
  | n + 1 => by have := pkN_le L d n; rw [pkN]; split <;> omega
theorem tkN_filter (P : Nat → Bool) (d : Nat) : ∀ n, tkN P d n = (((List.range n).map fun j => triN d + j).filter P).length
  | 0 => rfl
  | n + 1 => by
    rw [tkN, tkN_filter P d n, List.range_succ, List.map_append, List.filter_append, List.length_append]
    simp only [List.map_cons, List.map_nil, List.filter_cons, List.filter_nil]
    split <;> simp
theorem pkN_filter (L : Rws) (d : Nat) : ∀ n, n ≤ L.length → pkN L d n = ((L.take n).filter fun t => decide ((triN d : Int) ≤ t.1 ∧ t.1 ≤ (triN (d + 1) : Int) - 1)).length
  | 0, _ => rfl
  | n + 1, h => by
    rw [pkN, pkN_filter L d n (by omega), List.take_succ_eq_append_getElem (by omega), List.filter_append, List.length_append, geti_vals (by omega)]
    simp only [List.filter_cons, List.filter_nil, decide_eq_true_eq]
    split <;> simp
theorem pk_tk {m : Nat} {L : Rws} (h : RwI m L) (d : Nat) : pkN L d L.length = tkN (fun p => (fndR L (p : Nat)).isSome) d (d + 1) := by
  rw [pkN_filter L d L.length (Nat.le_refl _), List.take_length, tkN_filter]
  have key : ∀ t ∈ L, 0 ≤ t.1 := fun t ht => by
    obtain ⟨i, hi, rfl⟩ := List.getElem_of_mem ht
    have a := h.ok.at_ i hi
    rw [List.getD_eq_getElem?_getD, List.getElem?_eq_getElem hi] at a
    exact a.2.2.1
  have hp : (((L.filter fun t => decide ((triN d : Int) ≤ t.1 ∧ t.1 ≤ (triN (d + 1) : Int) - 1)).map fun t => t.1.toNat)).Perm (((List.range (d + 1)).map fun j => triN d + j).filter fun p => (fndR L (p : Nat)).isSome) := by
    refine (List.perm_ext_iff_of_nodup ?_ ?_).2 fun p => ?_
    · unfold List.Nodup
      rw [List.pairwise_map]
      refine List.Pairwise.imp_of_mem (fun {x y} hx hy hxy => ?_) (h.nd.filter _)
      have a := key x (List.mem_filter.1 hx).1
      have b := key y (List.mem_filter.1 hy).1
      omega
    · unfold List.Nodup
      refine List.Pairwise.filter _ ?_
      rw [List.pairwise_map]
      exact List.nodup_range.imp fun hxy e => hxy (by omega)
    · have e1 : triN (d + 1) = triN d + d + 1 := rfl
      simp only [List.mem_map, List.mem_filter, decide_eq_true_eq, List.mem_range]
      constructor
      · rintro ⟨t, ⟨ht, h1, h2⟩, rfl⟩
        refine ⟨⟨t.1.toNat - triN d, by omega, by omega⟩, ?_⟩
        unfold fndR
        rw [List.findIdx?_isSome, List.any_eq_true]
        exact ⟨t, ht, decide_eq_true (by have := key t ht; omega)⟩
      · rintro ⟨⟨j, hj, rfl⟩, hs⟩
        obtain ⟨k, hk⟩ := Option.isSome_iff_exists.1 hs
        obtain ⟨h1, h2⟩ := fnd_at hk
        exact ⟨L.getD k (0, []), ⟨getD_mem h1, by omega, by omega⟩, by omega⟩
  have := hp.length_eq
  simpa using this
end Go.Proofs.Ytifkgmbghcmdeaa
/-
  Lists of polynomials (structs of one slice): their parts, own lists of polynomials; parts of own slices handed back. No condition.
-/
namespace Go.Proofs.Ytifkgmbghcmdeaa
open Go Go.RowKit
section
variable {P : Program} {wl : Bool} {env : Env} {os : List AO} {d : Option Tmp} {ty : TypeId} {pos : String} {af : Array Edge} {g : Option (Nat × Bool)}

theorem q_faps {t : TypeId} [ht : TField P t 0 0] {x : Operand} {f : List (List Int)} (hx : AV.ev env x = .ro (polRo f)) :
    QOp P wl ⟨d, .fieldAddr t x 0, ty, pos, af, g⟩ env os (.ro (polRo f)) :=
  .of_run fun _ w gs tm hr => by
    obtain ⟨b, off, u, hv, hok, hc, hf⟩ := ro_at hr hx
    refine ⟨.pointer (some ⟨b, off, none⟩), .ro ⟨b, off, u, rfl, hok, hc, hf⟩, fun w' _ => ?_⟩
    obtain ⟨fs, fd, ii, h1, h2, h3, h4, h5, _⟩ := ht.fld
    simp [execOp, hv, Instr.fieldAt, run_underlying h1, h2, Instr.sureAddr, fieldPlace, sizeOf, typeInfo, h4, h5, h3, add_none]
theorem q_ldpt {t : TypeId} [ht : TCell P t] {x : Operand} {f : List (List Int)} (hx : AV.ev env x = .ro (polRo f)) :
    QOp P false ⟨d, .load t x, ty, pos, af, g⟩ env os (.intss f) :=
  .of_runb fun _ w gs tm hr => by
    obtain ⟨b, off, u, hv, hok, hc, hf⟩ := ro_at hr hx
    refine ⟨u, .intss hf, fun w' hw' => ?_⟩
    have hcell := below_cell hw' hc
    simp only [execOp, hv, Sem.run_bind, run_load_cell hcell, Result.andThen_ok, Sem.run_pure]

theorem one_of {w : World} {ok : Nat → Prop} {gs : List Gh} {u : Value} {a : AV} (h : RV w ok gs u (.agg [a])) : ∃ s, u = .agg #[s] ∧ RV w ok gs s a ∧ s.oneCell' = true := by
  cases h with
  | @agg vs _ a1 a2 a3 =>
    match vs, a1 with
    | [s], _ => exact ⟨s, rfl, by simpa using a3 0, a2 s (by simp)⟩
/-! ### Read as a list of polynomials -/
/-- The element 'a' reads as the polynomial 'f'; the handles behind it. -/
inductive PlE (os : List AO) : AV → List (List Int) → List Nat → Prop
  | intss (f : List (List Int)) : PlE os (.intss f) f []
  | nil : PlE os (.val (.slice none 0 0)) [] []
  | sls {h : Nat} {e e2 : TypeId} {f : List (List Int)} : os[h]? = some (.sls e e2 f) → PlE os (.own h) f [h]
theorem PlE.at {base : Nat} {w : World} {gs : List Gh} {ok : Nat → Prop} {a : AV} {f : List (List Int)} {hs : List Nat} (he : PlE os a f hs) (hro : ∀ (h : Nat) g o, gs[h]? = some g → os[h]? = some o → RO base w (okOf gs os) gs g o)
    (hok : ∀ h, h ∈ hs → ∀ g o, gs[h]? = some g → os[h]? = some o → o ≠ .dead → ∀ b, b ∈ g.bl → ok b) (kp : Keeps (okOf gs os) ok w w) {u : Value} (hu : RV w (okOf gs os) gs u a) : IntssAt w ok u f := by
  cases he with
  | intss => cases hu with | intss h => exact h.mono kp
  | nil => cases hu; exact IntssAt.nil
  | @sls h e e2 _ h1 =>
    cases hu with
    | own hg =>
      obtain ⟨vs, bs, mb, a1, a2, a3, a4, a5, a6, a7, a8⟩ := hro _ _ _ hg h1
      have hb := hok h (by simp) _ _ hg h1 (by simp)
      refine ⟨vs, RowAt.of_owns' a1 fun b hbb => hb b ?_, a2, fun i u hu => ⟨RowAt.of_owns' (a5 i u hu).1 fun b hbb => hb b ?_, (a5 i u hu).2.1⟩⟩
      · rw [a7]
        rcases a6 with ⟨h6, _⟩ | ⟨h6, h6'⟩
        · rw [h6] at hbb; cases hbb
        · rw [h6] at hbb; cases hbb; simp [h6']
      · have hi := (List.getElem?_eq_some_iff.1 hu).1
        rw [a7]
        refine List.mem_append.2 (.inr (List.mem_flatten.2 ⟨bs.getD i [], ?_, by rw [← (a5 i u hu).2.2, hbb]; simp⟩))
        rw [List.getD_eq_getElem?_getD, List.getElem?_eq_getElem (by omega)]
        simp
def PlL (os : List AO) : List AV → List (List (List Int)) → List Nat → Prop
  | [], [], hs => hs = []
  | a :: avs, f :: fs, hs => ∃ h1 h2, PlE os a f h1 ∧ PlL os avs fs h2 ∧ hs = h1 ++ h2
  | _, _, _ => False
theorem PlL.get : ∀ {avs : List AV} {fs : List (List (List Int))} {hs : List Nat}, PlL os avs fs hs → avs.length = fs.length ∧ ∀ (i : Nat) a, avs[i]? = some a → ∃ h1, PlE os a (fs.getD i []) h1 ∧ ∀ h, h ∈ h1 → h ∈ hs
  | [], [], hs, _ => ⟨rfl, fun i a h => by simp at h⟩
  | a :: avs, f :: fs, hs, ⟨h1, h2, p1, p2, e⟩ => by
    have ih := PlL.get p2
    refine ⟨by simp [ih.1], fun i x hx => ?_⟩
    match i with
    | 0 =>
      simp at hx; subst hx
      exact ⟨h1, by simpa using p1, fun h hh => by rw [e]; simp [hh]⟩
    | i + 1 =>
      obtain ⟨h3, q1, q2⟩ := ih.2 i x (by simpa using hx)
      exact ⟨h3, by simpa using q1, fun h hh => by rw [e]; simp [q2 h hh]⟩
  | [], _ :: _, _, h => h.elim
  | _ :: _, [], _, h => h.elim
/-! ### Parts of own slices -/
theorem Ret1.osub {h off len : Nat} {e : TypeId} {xs : List Int} (hs : os[h]? = some (.sli e xs)) : Ret1 os (.osub h off len) (.osub 0 off len) [.sli e xs] := fun base w gs env tm hr u hu => by
  cases hu with
  | osub hg hp hc hm =>
    exact ⟨[_], .one (hr.ho _ _ _ hg hs) fun b hb => hr.hn _ _ _ hg hs (by simp) b hb, .osub rfl hp hc hm⟩
theorem q_slice3 {t e : TypeId} [ht : TSlice P t e] [he : TCell P e] {x y z : Operand} {h : Nat} {e' : TypeId} {xs : List Int} {n : Int} (hx : AV.ev env x = .own h) (hs : os[h]? = some (.sli e' xs)) (hy : AV.ev env y = .i n) (hz : AV.ev env z = .i n) (h0 : 0 ≤ n) (h1 : n ≤ xs.length) :
    QOp P wl ⟨d, .slice t x none (some y) (some z), ty, pos, af, g⟩ env os (.osub h 0 n.toNat) :=
  .of_run fun _ w gs tm hr => by
    have hh := hr.ev x
    rw [hx] at hh
    generalize hv : Act.eval ⟨tm, []⟩ x = v at hh
    cases hh with
    | @own _ gh hg =>
      obtain ⟨a1, a2, a3⟩ := hr.ho _ _ _ hg hs
      obtain ⟨a, cap, ev, hc, hm, ha⟩ := sliced_own a1 a3
      have e1 := elem_of (P := P) ht.und
      refine ⟨sliced a 0 n.toNat n.toNat 1, ?_, fun w' _ => ?_⟩
      · refine RV.osub hg (fun hp => ?_) (by omega) (by omega)
        rw [if_neg (by omega), ha (by omega)]
        simp [add_none]
      · have hrun := run_slice_hm (P := P) w' t a xs.length cap (by rw [e1]; exact ht.und) .i64 .i64 n n h0 (Int.le_refl _) (by omega)
        rw [e1, run_size] at hrun
        have hat := run_sliceAt_slice (P := P) w' t (.slice a xs.length cap) none (some (.int .i64 n)) (some (.int .i64 n)) (by rw [e1]; exact ht.und)
        simp only [execOp, hv, ev, hr.evv hy, hr.evv hz, Option.map_none, Option.map_some, Sem.run_bind, hat, hrun, Result.andThen_ok, Sem.run_pure]

end
section
variable {P : Program} {env : Env} {os : List AO} {d : Tmp} {ty : TypeId} {pos : String} {af : Array Edge} {g : Option (Nat × Bool)} {l rest : List Oper} {K : APost} {q : Md}
theorem w_faps {t : TypeId} [TField P t 0 0] {x : Operand} {f : List (List Int)} (hw : wantedA l env ⟨some d, .fieldAddr t x 0, ty, pos, af, g⟩ = some true) (hx : evo env x = some (.ro (polRo f)))
    (h' : AOps P q l rest K (env.up d (.ro (polRo f))) os) : AOps P q l (⟨some d, .fieldAddr t x 0, ty, pos, af, g⟩ :: rest) K env os := AOps.qo hw (q_faps (ev_of hx)) h'
theorem w_ldpt {t : TypeId} [TCell P t] {x : Operand} {f : List (List Int)} (hw : wantedA l env ⟨some d, .load t x, ty, pos, af, g⟩ = some true) (hq : q.wl = false) (hx : evo env x = some (.ro (polRo f)))
    (h' : AOps P q l rest K (env.up d (.intss f)) os) : AOps P q l (⟨some d, .load t x, ty, pos, af, g⟩ :: rest) K env os := AOps.qo hw (by rw [hq]; exact q_ldpt (ev_of hx)) h'
theorem w_slice3 {t e : TypeId} [TSlice P t e] [TCell P e] {x y z : Operand} {h : Nat} {e' : TypeId} {xs : List Int} {n : Int} (hw : wantedA l env ⟨some d, .slice t x none (some y) (some z), ty, pos, af, g⟩ = some true) (hx : evo env x = some (.own h)) (hs : os[h]? = some (.sli e' xs)) (hy : evo env y = some (.i n)) (hz : evo env z = some (.i n)) (h0 : 0 ≤ n) (h1 : n ≤ xs.length)
    (h' : AOps P q l rest K (env.up d (.osub h 0 n.toNat)) os) : AOps P q l (⟨some d, .slice t x none (some y) (some z), ty, pos, af, g⟩ :: rest) K env os := AOps.qo hw (q_slice3 (ev_of hx) hs (ev_of hy) (ev_of hz) h0 h1) h'
end
end Go.Proofs.Ytifkgmbghcmdeaa
/-
  Local algebras: how the reference reduces a row; places. No condition but bounds.
-/
namespace Go.Proofs.Ytifkgmbghcmdeaa
open Go Go.RowKit
attribute [local irreducible] AWp AOps ResIs Ret1 QOp LOp COp AFnV AFn Imms LeE LeO
set_option maxHeartbeats 1000000
set_option linter.unusedSimpArgs false
set_option linter.unusedVariables false

theorem l17Inverse_c (z : Int) (hz : 0 ≤ z ∧ z ≤ 55440) : AFnV Try.prog 93 [.i z] (.int .i64 (pwF z 55439)) := by
  (refine AFnV.start Try.func93 Try.ntmps93 rfl (by kernel_rfl) fun hk => ?_; simp only [Env.start, enumF, List.length_cons, List.length_nil, Nat.reduceAdd, Nat.reduceSub, List.cons_append, List.nil_append])
  repeat' (first | (apply AOps.nil; try simp only [List.nil_append, List.cons_append, List.set_cons_zero, List.set_cons_succ, List.length_cons, List.length_nil, Nat.reduceAdd, AV.sh, AV.sh1, AV.sh0, AO.sh, List.map_cons, List.map_nil, Nat.zero_add, Nat.add_zero, setAll]) | (apply w_assign; exact rfl; exact rfl) | apply AWp.seq | apply AWp.region | apply AWp.block)
  refine AWp.loop (ι := Int × Int × Int) (fun s => ⟨21, [(0, .i s.1), (4, .i s.2.1), (3, .i s.2.2)]⟩) (fun _ => []) (fun s => (0 ≤ s.1 ∧ s.1 ≤ 55440) ∧ (0 ≤ s.2.1 ∧ s.2.1 ≤ 4611686018427387904) ∧ (0 ≤ s.2.2 ∧ s.2.2 ≤ 55440) ∧ s.2.2 * s.1 ^ s.2.1.toNat % 55441 = pwF z 55439) (fun s => s.2.1.toNat) (z, 55439, 1) ⟨hz, by simp, by simp, by unfold pwF; dsimp only; rw [Int.one_mul]⟩ ⟨lee rfl (by (repeat (first | exact le_nil | refine le_eq rfl rfl ?_))), by (repeat (exact lo_nil)), rfl, rfl⟩ ?_
  rintro ⟨x, k, o⟩ ⟨h0, h1, h2, h3⟩
  simp only at h0 h1 h2 h3
  have b1 := mulB h2.1 h2.2 h0.1 h0.2
  have b2 := mulB h0.1 h0.2 h0.1 h0.2
  have b3 := modF (o * x)
  have b4 := modF (x * x)
  repeat' (first | (apply AOps.nil; try simp only [List.nil_append, List.cons_append, List.set_cons_zero, List.set_cons_succ, List.length_cons, List.length_nil, Nat.reduceAdd, AV.sh, AV.sh1, AV.sh0, AO.sh, List.map_cons, List.map_nil, Nat.zero_add, Nat.add_zero, setAll]) | (apply w_move; exact rfl; exact rfl) | (apply w_assign; exact rfl; exact rfl) | apply AWp.seq | apply AWp.region | ((apply AWp.condP; exact rfl) <;> intro h) | apply AWp.block | apply AWp.ret | apply AWp.exit | apply AWp.skip | ((first | apply w_gtr | apply w_eql | apply w_mul); iterate 3 exact rfl) | (apply w_rem; exact rfl; exact rfl; exact rfl; (focus (omega; done)); (focus (omega; done))) | (apply w_quo; exact rfl; exact rfl; exact rfl; (focus (omega; done)); (focus (omega; done))) | (apply inI_of <;> omega))
  · exact ⟨(x * x % 55441, k / 2, o * x % 55441), ⟨b4, by simp only; omega, b3, by simp only; rw [pw_odd (by omega) (by omega), h3]⟩, by simp only; omega, ⟨lee rfl (by (repeat (first | exact le_nil | refine le_eq rfl rfl ?_))), by (repeat (exact lo_nil)), rfl, rfl⟩⟩
  · exact ⟨(x * x % 55441, k / 2, o), ⟨b4, by simp only; omega, h2, by simp only; rw [pw_even (by omega) (by omega), h3]⟩, by simp only; omega, ⟨lee rfl (by (repeat (first | exact le_nil | refine le_eq rfl rfl ?_))), by (repeat (exact lo_nil)), rfl, rfl⟩⟩
  · have e : k = 0 := by omega
    subst e
    exact .int Try.results93 rfl (by rw [← h3]; simp; omega)

/-- The place of a monomial. -/
def plI (x y : Int) : Int := ((plN x.toNat y.toNat : Nat) : Int)
theorem plI_eq {x y : Int} (hx : 0 ≤ x ∧ x ≤ 1000) (hy : 0 ≤ y ∧ y ≤ 1000) : (x + y) * (x + y + 1) = 2 * (triN (x + y).toNat : Int) ∧ plI x y = (triN (x + y).toNat : Int) + x ∧ (triN (x + y).toNat : Int) ≤ 2001000 := by
  have h := triN_int (x + y) (by omega)
  refine ⟨h, ?_, ?_⟩
  · unfold plI plN
    rw [show x.toNat + y.toNat = (x + y).toNat by omega]
    omega
  · have h1 := triN_mono (show (x + y).toNat ≤ 2000 by omega)
    have h2 := triN_two 2000
    omega
theorem column_c (x y : Int) (hx : 0 ≤ x ∧ x ≤ 1000) (hy : 0 ≤ y ∧ y ≤ 1000) : AFnV Try.prog 107 [.i x, .i y] (.int .i64 (plI x y)) := by
  obtain ⟨h1, h2, h3⟩ := plI_eq hx hy
  (refine AFnV.start Try.func107 Try.ntmps107 rfl (by kernel_rfl) fun hk => ?_; simp only [Env.start, enumF, List.length_cons, List.length_nil, Nat.reduceAdd, Nat.reduceSub, List.cons_append, List.nil_append])
  repeat' (first | (apply AOps.nil; try simp only [List.nil_append, List.cons_append, List.set_cons_zero, List.set_cons_succ, List.length_cons, List.length_nil, Nat.reduceAdd, AV.sh, AV.sh1, AV.sh0, AO.sh, List.map_cons, List.map_nil, Nat.zero_add, Nat.add_zero, setAll]) | (apply w_move; exact rfl; exact rfl) | (apply w_assign; exact rfl; exact rfl) | apply AWp.seq | apply AWp.region | apply AWp.ret | ((first | apply w_add | apply w_mul); iterate 3 exact rfl) | (apply w_quo; exact rfl; exact rfl; exact rfl; (focus (omega; done)); (focus (omega; done))) | (apply inI_of <;> omega))
  all_goals exact .int Try.results107 rfl (by omega)
theorem l17Place_c (x y : Int) (hx : 0 ≤ x ∧ x ≤ 1000) (hy : 0 ≤ y ∧ y ≤ 1000) : AFnV Try.prog 105 [.i x, .i y] (.int .i64 (plI x y)) := by
  obtain ⟨h1, h2, h3⟩ := plI_eq hx hy
  (refine AFnV.start Try.func105 Try.ntmps105 rfl (by kernel_rfl) fun hk => ?_; simp only [Env.start, enumF, List.length_cons, List.length_nil, Nat.reduceAdd, Nat.reduceSub, List.cons_append, List.nil_append])
  repeat' (first | (apply AOps.nil; try simp only [List.nil_append, List.cons_append, List.set_cons_zero, List.set_cons_succ, List.length_cons, List.length_nil, Nat.reduceAdd, AV.sh, AV.sh1, AV.sh0, AO.sh, List.map_cons, List.map_nil, Nat.zero_add, Nat.add_zero, setAll]) | (apply w_move; exact rfl; exact rfl) | (apply w_assign; exact rfl; exact rfl) | apply AWp.seq | apply AWp.region | apply AWp.ret | ((first | apply w_add | apply w_mul); iterate 3 exact rfl) | (apply w_quo; exact rfl; exact rfl; exact rfl; (focus (omega; done)); (focus (omega; done))) | (apply inI_of <;> omega))
  all_goals exact .int Try.results105 rfl (by omega)

set_option maxHeartbeats 8000000 in
theorem l17Reduce_c (m : Nat) (L : Rws) (hL : RwOk m L) (hn : L.length ≤ 10000) (row : List Int) (hl : row.length = m) (hm : 1 ≤ m ∧ m ≤ 10000) (hr : inF row) :
    AFnC Try.prog 106 [.own 0, .own 1, .own 2] [.sls 22 2 (rowsOf L), .sli 2 (valsOf L), .sli 2 row]
      (fun r os => r = .tup [.own 0, .own 1] ∧ os = [.sls 22 2 (rowsOf (addR L row)), .sli 2 (valsOf (addR L row))]) := by
  have hvl := valsOf_len L
  have hrwl := rowsOf_len L
  (refine AFnC.start Try.func106 Try.ntmps106 rfl (by kernel_rfl) fun K => ?_; simp only [Env.start, enumF, List.map_cons, List.map_nil, AV.sh, List.length_cons, List.length_nil, Nat.reduceAdd, Nat.reduceSub, List.cons_append, List.nil_append])
  repeat' (first | (apply AOps.nil; try simp only [List.nil_append, List.cons_append, List.set_cons_zero, List.set_cons_succ, List.length_cons, List.length_nil, Nat.reduceAdd, AV.sh, AV.sh1, AV.sh0, AO.sh, List.map_cons, List.map_nil, Nat.zero_add, Nat.add_zero, setAll]) | (apply w_assign; exact rfl; exact rfl) | apply AWp.seq | apply AWp.region | apply AWp.block)
  refine AWp.loop (ι := Nat × List Int) (fun x => ⟨94, [(0, .own 1), (1, .own 2), (2, .own 3), (8, .i x.1)]⟩) (fun x => [.keep 1 K, .sls 22 2 (rowsOf L), .sli 2 (valsOf L), .sli 2 x.2])
    (fun x => x.1 ≤ m ∧ RdI m x.1 x.2 ∧ redR L (m - x.1) x.2 x.1 = redR L m row 0) (fun x => m - x.1) (0, row) ⟨Nat.zero_le _, ⟨hl, hr, fun k hk => by omega⟩, rfl⟩ ⟨lee rfl (by (repeat (first | exact le_nil | refine le_eq rfl rfl ?_))), by (repeat (first | exact lo_nil | refine lo_eq rfl ?_)), rfl, rfl⟩ ?_
  rintro ⟨p, r⟩ ⟨hp, hI, hred⟩
  dsimp only at hp hI hred
  have hrl := hI.len
  have hin := hI.inf p
  have hix := l01Index_e L (p : Nat) (by omega)
  by_cases hpm : p < m
  · have em : m - p = (m - (p + 1)) + 1 := by omega
    rw [em, redR] at hred
    have et : (((p : Nat) : Int).toNat : Int) = (p : Int) := by omega
    by_cases hz : geti r (p : Nat) = 0
    · rw [if_pos hz] at hred
      have hz' : geti r (((p : Nat) : Int).toNat : Nat) = 0 := by rw [et]; exact hz
      repeat' (first | (apply AOps.nil; try simp only [List.nil_append, List.cons_append, List.set_cons_zero, List.set_cons_succ, List.length_cons, List.length_nil, Nat.reduceAdd, AV.sh, AV.sh1, AV.sh0, AO.sh, List.map_cons, List.map_nil, Nat.zero_add, Nat.add_zero, setAll]) | (apply w_move; exact rfl; exact rfl) | (apply w_assign; exact rfl; exact rfl) | apply AWp.seq | apply AWp.region | ((apply AWp.condP; exact rfl) <;> intro h) | apply AWp.block | apply AWp.ret | apply AWp.exit | apply AWp.skip | (apply w_len; exact rfl; exact rfl; first | exact .ints _ | exact .intss _ | exact .sli rfl | exact .sls rfl | exact .slr rfl | exact .orow rfl | exact .nil) | omega | ((first | apply w_lss | apply w_eql | apply w_add | apply w_idx | apply w_ld); iterate 3 exact rfl) | (apply w_idxo; exact rfl; exact rfl; (exact .sli rfl); exact rfl) | (apply w_ldo; iterate 4 exact rfl) | (apply inI_of <;> omega))
      exact ⟨(p + 1, r), ⟨by dsimp only; omega, hI.next hz, hred⟩, by dsimp only; omega, ⟨lee rfl (by (repeat (first | exact le_nil | refine le_eq rfl rfl ?_))), by (repeat (first | exact lo_nil | refine lo_eq rfl ?_)), rfl, rfl⟩⟩
    · rw [if_neg hz] at hred
      have hz' : ¬ geti r (((p : Nat) : Int).toNat : Nat) = 0 := by rw [et]; exact hz
      unfold idxI at hix
      cases hf : fndR L (p : Nat) with
      | none =>
        rw [hf] at hred hix
        dsimp only at hix
        have hinv := l17Inverse_c (geti r (((p : Nat) : Int).toNat : Nat)) (by rw [et]; exact hin)
        rw [show pwF (geti r (((p : Nat) : Int).toNat : Nat)) 55439 = pwF (geti r (p : Nat)) 55439 by rw [et]] at hinv
        have hsb := pwF_in (geti r (p : Nat)) 55439
        generalize hs : pwF (geti r (p : Nat)) 55439 = s at hinv hred hsb
        repeat' (first | (apply AOps.nil; try simp only [List.nil_append, List.cons_append, List.set_cons_zero, List.set_cons_succ, List.length_cons, List.length_nil, Nat.reduceAdd, AV.sh, AV.sh1, AV.sh0, AO.sh, List.map_cons, List.map_nil, Nat.zero_add, Nat.add_zero, setAll]) | (apply w_move; exact rfl; exact rfl) | (apply w_assign; exact rfl; exact rfl) | apply AWp.seq | apply AWp.region | ((apply AWp.condP; exact rfl) <;> intro h) | apply AWp.block | apply AWp.ret | apply AWp.exit | apply AWp.skip | (apply w_len; exact rfl; exact rfl; first | exact .ints _ | exact .intss _ | exact .sli rfl | exact .sls rfl | exact .slr rfl | exact .orow rfl | exact .nil) | (apply w_call (hix); exact rfl; exact rfl; focus ((repeat (first | exact im_nil | refine im_cons rfl (.val _) ?_ | refine im_cons rfl (.sli rfl) ?_)); done)) | (apply w_call (hinv); exact rfl; exact rfl; focus ((repeat (first | exact im_nil | refine im_cons rfl (.val _) ?_)); done)) | omega | ((first | apply w_lss | apply w_eql | apply w_idx | apply w_ld); iterate 3 exact rfl) | (apply w_idxo; exact rfl; exact rfl; (exact .sli rfl); exact rfl) | (apply w_ldo; iterate 4 exact rfl))
        refine AWp.loop (ι := Nat) (fun k => ⟨94, [(0, .own 1), (1, .own 2), (2, .own 3), (8, .i p), (10, .i s), (11, .i k)]⟩) (fun k => [.keep 1 K, .sls 22 2 (rowsOf L), .sli 2 (valsOf L), .sli 2 (updR r (sclG r s) p k)])
          (fun k => p ≤ k ∧ k ≤ m) (fun k => m - k) p ⟨Nat.le_refl _, by omega⟩ ?_ ?_
        · have e0 := (updR_none r (sclG r s) (Nat.le_refl p)).symm
          exact ⟨lee rfl (by (repeat (first | exact le_nil | refine le_eq rfl rfl ?_))), by (repeat (first | exact lo_nil | refine lo_eq rfl ?_ | refine lo_eq (congrArg (AO.sli _) (e0)) ?_)), rfl, rfl⟩
        rintro k ⟨k1', k1⟩
        have ul := updR_len r (sclG r s) p k
        by_cases hk : k < m
        · have ek : (((k : Nat) : Int).toNat : Int) = (k : Int) := by omega
          have ek2 : ((k : Nat) : Int).toNat = k := by omega
          have e1 : geti (updR r (sclG r s) p k) (((k : Nat) : Int).toNat : Nat) = geti r (k : Nat) := by rw [ek, geti_upd (by omega), if_neg (by omega)]
          have b1 := hI.inf k
          have b2 := mulP b1.1 b1.2 hsb.1 hsb.2
          rw [← e1] at b2
          have b3 := modP (geti (updR r (sclG r s) p k) (((k : Nat) : Int).toNat : Nat) * s)
          have e6 : (updR r (sclG r s) p k).set ((k : Nat) : Int).toNat (geti (updR r (sclG r s) p k) (((k : Nat) : Int).toNat : Nat) * s % 55441) = updR r (sclG r s) p (k + 1) := by
            rw [e1, ek2]; exact updR_set k1' (by omega) rfl
          repeat' (first | (apply AOps.nil; try simp only [List.nil_append, List.cons_append, List.set_cons_zero, List.set_cons_succ, List.length_cons, List.length_nil, Nat.reduceAdd, AV.sh, AV.sh1, AV.sh0, AO.sh, List.map_cons, List.map_nil, Nat.zero_add, Nat.add_zero, setAll]) | (apply w_move; exact rfl; exact rfl) | (apply w_assign; exact rfl; exact rfl) | apply AWp.seq | apply AWp.region | ((apply AWp.condP; exact rfl) <;> intro h) | apply AWp.block | apply AWp.exit | apply AWp.skip | (apply w_len; exact rfl; exact rfl; first | exact .ints _ | exact .intss _ | exact .sli rfl | exact .sls rfl | exact .slr rfl | exact .orow rfl | exact .nil) | omega | ((first | apply w_lss | apply w_add | apply w_mul | apply w_idx | apply w_ld); iterate 3 exact rfl) | (apply w_rem; exact rfl; exact rfl; exact rfl; (focus (omega; done)); (focus (omega; done))) | (apply w_idxo; exact rfl; exact rfl; (exact .sli rfl); exact rfl) | (apply w_ldo; iterate 4 exact rfl) | (apply w_sti; exact rfl; exact rfl; rotate_left 1; exact rfl; rotate_left 2) | (apply inI_of <;> omega))
          exact ⟨k + 1, ⟨by omega, by omega⟩, by omega, ⟨lee rfl (by (repeat (first | exact le_nil | refine le_eq rfl rfl ?_))), by (repeat (first | exact lo_nil | refine lo_eq rfl ?_ | refine lo_eq (congrArg (AO.sli _) (e6)) ?_)), rfl, rfl⟩⟩
        · have ek : k = m := by omega
          subst ek
          repeat' (first | (apply AOps.nil; try simp only [List.nil_append, List.cons_append, List.set_cons_zero, List.set_cons_succ, List.length_cons, List.length_nil, Nat.reduceAdd, AV.sh, AV.sh1, AV.sh0, AO.sh, List.map_cons, List.map_nil, Nat.zero_add, Nat.add_zero, setAll]) | (apply w_move; exact rfl; exact rfl) | (apply w_assign; exact rfl; exact rfl) | apply AWp.seq | apply AWp.region | ((apply AWp.condP; exact rfl) <;> intro h) | apply AWp.block | apply AWp.ret | apply AWp.exit | apply AWp.skip | (apply w_len; exact rfl; exact rfl; first | exact .ints _ | exact .intss _ | exact .sli rfl | exact .sls rfl | exact .slr rfl | exact .orow rfl | exact .nil) | ((first | apply w_bsr1 | apply w_lss | apply w_idx); iterate 3 exact rfl) | (apply w_appr; exact rfl; exact rfl; exact rfl; exact rfl; exact rfl; exact rfl; exact rfl; rotate_left 1; simp only [Env.mp, List.map_cons, List.map_nil, List.set_cons_zero, List.set_cons_succ, AV.kill, AV.kill1, AO.kill, AV.rin, AV.rin1, AV.noRow, AV.noRow1, AO.via, reduceIte, Nat.reduceEqDiff, Nat.reduceLT, Env.up, Nat.zero_ne_one, Nat.one_ne_zero, Nat.reduceAdd, List.cons_append, List.nil_append]; rotate_left 1) | omega | ((apply w_bs1); iterate 2 exact rfl) | (apply w_app; exact rfl; exact rfl; exact rfl; exact rfl; (exact .sli rfl); rotate_left 1; simp only [Env.mp, List.map_cons, List.map_nil, List.set_cons_zero, List.set_cons_succ, AV.kill, AV.kill1, AO.kill, AV.noRow, AV.noRow1, AO.via, reduceIte, Nat.reduceEqDiff, Nat.reduceLT, Env.up, Nat.zero_ne_one, Nat.one_ne_zero, Nat.reduceAdd, List.cons_append, List.nil_append]; rotate_left 1) | (apply inI_of <;> omega) | (simp <;> omega))
          have ea : addR L row = L ++ [((p : Int), updR r (sclG r s) p k)] := by
            unfold addR
            rw [hl, ← hred]
            simp only
            rw [hrl]
          refine ⟨⟨94, [(6, .own 1), (7, .own 2)]⟩, [.sls 22 2 (rowsOf L ++ [updR r (sclG r s) p k]), .sli 2 (valsOf L ++ [(p : Int)])], .tup [.own 0, .own 1], .or ?_, .a2 Try.results106 rfl rfl, by simp [AV.fl, AV.fl1, AV.fl0], ⟨rfl, ?_⟩, by simp [AO.plain]⟩
          · (apply Or.inl; refine ⟨lee rfl ?_, ?_, rfl, rfl⟩; (focus ((repeat (first | exact le_nil | refine le_eq rfl rfl ?_)); done)); (focus ((repeat (first | exact lo_nil | refine lo_eq rfl ?_)); done)))
          · rw [ea]; simp [rowsOf, valsOf]
      | some k0 =>
        rw [hf] at hred hix
        dsimp only at hix
        obtain ⟨hk0, ek0⟩ := fnd_at hf
        obtain ⟨a1, a2, a3, a4, a5, a6⟩ := hL.at_ k0 hk0
        have hnx := hI.red hL hf hpm
        have rg := rowsOf_getD L k0
        generalize hs : 55441 - geti r (p : Nat) = s at hred hnx
        have hsb : 1 ≤ s ∧ s ≤ 55441 := by omega
        have hs' : 55441 - geti r (((p : Nat) : Int).toNat : Nat) = s := by rw [et]; exact hs
        repeat' (first | (apply AOps.nil; try simp only [List.nil_append, List.cons_append, List.set_cons_zero, List.set_cons_succ, List.length_cons, List.length_nil, Nat.reduceAdd, AV.sh, AV.sh1, AV.sh0, AO.sh, List.map_cons, List.map_nil, Nat.zero_add, Nat.add_zero, setAll]) | (apply w_move; exact rfl; exact rfl) | (apply w_assign; exact rfl; exact rfl) | apply AWp.seq | apply AWp.region | ((apply AWp.condP; exact rfl) <;> intro h) | apply AWp.block | apply AWp.ret | apply AWp.exit | apply AWp.skip | (apply AWp.regionQ; kernel_rfl; kernel_rfl) | (apply w_len; exact rfl; exact rfl; first | exact .ints _ | exact .intss _ | exact .sli rfl | exact .sls rfl | exact .slr rfl | exact .orow rfl | exact .nil) | (apply w_call (hix); exact rfl; exact rfl; focus ((repeat (first | exact im_nil | refine im_cons rfl (.val _) ?_ | refine im_cons rfl (.sli rfl) ?_)); done)) | omega | ((first | apply w_lss | apply w_eql | apply w_sub | apply w_idx | apply w_ld); iterate 3 exact rfl) | (apply w_idxo; exact rfl; exact rfl; (first | exact .sli rfl | exact .sls rfl); exact rfl) | (apply w_ldo; iterate 4 exact rfl) | (apply w_ldls; iterate 4 exact rfl) | (apply inI_of <;> omega))
        rw [hs']
        refine AWp.loop (ι := Nat) (fun k => ⟨94, [(0, .own 1), (1, .own 2), (2, .own 3), (8, .i p), (12, .i s), (13, .orow 1 k0), (14, .i k)]⟩) (fun k => [.keep 1 K, .sls 22 2 (rowsOf L), .sli 2 (valsOf L), .sli 2 (updR r (adrG r s (rwAt L k0)) p k)])
          (fun k => p ≤ k ∧ k ≤ m) (fun k => m - k) p ⟨Nat.le_refl _, by omega⟩ ?_ ?_
        · have e0 := (updR_none r (adrG r s (rwAt L k0)) (Nat.le_refl p)).symm
          exact ⟨lee rfl (by (repeat (first | exact le_nil | refine le_eq rfl rfl ?_))), by (repeat (first | exact lo_nil | refine lo_eq rfl ?_ | refine lo_eq (congrArg (AO.sli _) (e0)) ?_)), rfl, rfl⟩
        rintro k ⟨k1', k1⟩
        have ul := updR_len r (adrG r s (rwAt L k0)) p k
        by_cases hk : k < m
        · have ek : (((k : Nat) : Int).toNat : Int) = (k : Int) := by omega
          have ek2 : ((k : Nat) : Int).toNat = k := by omega
          have e1 : geti (updR r (adrG r s (rwAt L k0)) p k) (((k : Nat) : Int).toNat : Nat) = geti r (k : Nat) := by rw [ek, geti_upd (by omega), if_neg (by omega)]
          have b1 := hI.inf k
          have c1 := a2 (((k : Nat) : Int).toNat : Nat)
          have gl : ((rowsOf L).getD k0 []).length = m := by rw [rg]; exact a1
          rw [← rg] at c1
          have b2 : 0 ≤ s * geti ((rowsOf L).getD k0 []) (((k : Nat) : Int).toNat : Nat) ∧ s * geti ((rowsOf L).getD k0 []) (((k : Nat) : Int).toNat : Nat) ≤ 3073649041 := by
            refine ⟨Int.mul_nonneg (by omega) c1.1, ?_⟩
            have := Int.mul_le_mul hsb.2 c1.2 c1.1 (by omega : (0 : Int) ≤ 55441)
            omega
          have b3 := modP (geti (updR r (adrG r s (rwAt L k0)) p k) (((k : Nat) : Int).toNat : Nat) + s * geti ((rowsOf L).getD k0 []) (((k : Nat) : Int).toNat : Nat))
          have e6 : (updR r (adrG r s (rwAt L k0)) p k).set ((k : Nat) : Int).toNat ((geti (updR r (adrG r s (rwAt L k0)) p k) (((k : Nat) : Int).toNat : Nat) + s * geti ((rowsOf L).getD k0 []) (((k : Nat) : Int).toNat : Nat)) % 55441) = updR r (adrG r s (rwAt L k0)) p (k + 1) := by
            rw [e1, ek2, rg]; exact updR_set k1' (by omega) rfl
          repeat' (first | (apply AOps.nil; try simp only [List.nil_append, List.cons_append, List.set_cons_zero, List.set_cons_succ, List.length_cons, List.length_nil, Nat.reduceAdd, AV.sh, AV.sh1, AV.sh0, AO.sh, List.map_cons, List.map_nil, Nat.zero_add, Nat.add_zero, setAll]) | (apply w_move; exact rfl; exact rfl) | apply AWp.seq | apply AWp.region | ((apply AWp.condP; exact rfl) <;> intro h) | apply AWp.block | apply AWp.exit | apply AWp.skip | (apply w_len; exact rfl; exact rfl; first | exact .ints _ | exact .intss _ | exact .sli rfl | exact .sls rfl | exact .slr rfl | exact .orow rfl | exact .nil) | omega | ((apply w_lss); iterate 3 exact rfl))
          refine AWp.regionA (by kernel_rfl) (envC := ⟨94, [(0, .own 1), (1, .own 2), (2, .own 3), (8, .i p), (12, .i s), (13, .orow 1 k0), (14, .i k)]⟩) (osC := [.keep 1 K, .sls 22 2 (rowsOf L), .sli 2 (valsOf L), .sli 2 ((updR r (adrG r s (rwAt L k0)) p k).set ((k : Nat) : Int).toNat ((geti (updR r (adrG r s (rwAt L k0)) p k) (((k : Nat) : Int).toNat : Nat) + s * geti ((rowsOf L).getD k0 []) (((k : Nat) : Int).toNat : Nat)) % 55441))]) rfl rfl ?_ ?_
          · rw [← e1] at b1
            repeat' (first | (apply AOps.nil; try simp only [List.nil_append, List.cons_append, List.set_cons_zero, List.set_cons_succ, List.length_cons, List.length_nil, Nat.reduceAdd, AV.sh, AV.sh1, AV.sh0, AO.sh, List.map_cons, List.map_nil, Nat.zero_add, Nat.add_zero, setAll]) | (apply w_move; exact rfl; exact rfl) | omega | ((first | apply w_add | apply w_mul | apply w_idx | apply w_ld); iterate 3 exact rfl) | (apply w_rem; exact rfl; exact rfl; exact rfl; (focus (omega; done)); (focus (omega; done))) | (apply w_idxo; exact rfl; exact rfl; (exact .sli rfl); exact rfl) | ((first | apply w_idxr | apply w_ldr); iterate 4 exact rfl) | (apply w_ldo; iterate 4 exact rfl) | (apply w_ldrp; iterate 4 exact rfl) | (apply w_sti; exact rfl; exact rfl; rotate_left 1; exact rfl; rotate_left 2) | apply AllOf.nil | (apply AllOf.cons; exact rfl) | (apply AAny.take; exact rfl; exact rfl; kernel_rfl; kernel_rfl) | (apply AAny.all; exact rfl) | (apply AAny.done; exact rfl) | (apply inI_of <;> omega))
            all_goals (apply Or.inl; refine ⟨lee rfl ?_, ?_, rfl, rfl⟩; (focus ((repeat (first | exact le_nil | refine le_eq rfl rfl ?_)); done)); (focus ((repeat (first | exact lo_nil | refine lo_eq rfl ?_)); done)))
          repeat' (first | (apply AOps.nil; try simp only [List.nil_append, List.cons_append, List.set_cons_zero, List.set_cons_succ, List.length_cons, List.length_nil, Nat.reduceAdd, AV.sh, AV.sh1, AV.sh0, AO.sh, List.map_cons, List.map_nil, Nat.zero_add, Nat.add_zero, setAll]) | (apply w_move; exact rfl; exact rfl) | (apply w_assign; exact rfl; exact rfl) | apply AWp.region | ((apply w_add); iterate 3 exact rfl) | (apply inI_of <;> omega))
          exact ⟨k + 1, ⟨by omega, by omega⟩, by omega, ⟨lee rfl (by (repeat (first | exact le_nil | refine le_eq rfl rfl ?_))), by (repeat (first | exact lo_nil | refine lo_eq rfl ?_ | refine lo_eq (congrArg (AO.sli _) (e6)) ?_)), rfl, rfl⟩⟩
        · have ek : k = m := by omega
          subst ek
          repeat' (first | (apply AOps.nil; try simp only [List.nil_append, List.cons_append, List.set_cons_zero, List.set_cons_succ, List.length_cons, List.length_nil, Nat.reduceAdd, AV.sh, AV.sh1, AV.sh0, AO.sh, List.map_cons, List.map_nil, Nat.zero_add, Nat.add_zero, setAll]) | (apply w_move; exact rfl; exact rfl) | (apply w_assign; exact rfl; exact rfl) | apply AWp.seq | apply AWp.region | ((apply AWp.condP; exact rfl) <;> intro h) | apply AWp.block | apply AWp.exit | apply AWp.skip | (apply w_len; exact rfl; exact rfl; first | exact .ints _ | exact .intss _ | exact .sli rfl | exact .sls rfl | exact .slr rfl | exact .orow rfl | exact .nil) | omega | ((first | apply w_lss | apply w_add); iterate 3 exact rfl) | (apply inI_of <;> omega))
          have e0 : updR r (adrG r s (rwAt L k0)) p k = updR r (adrG r s (rwAt L k0)) p r.length := by rw [hrl]
          exact ⟨(p + 1, updR r (adrG r s (rwAt L k0)) p r.length), ⟨by dsimp only; omega, hnx, hred⟩, by dsimp only; omega, ⟨lee rfl (by (repeat (first | exact le_nil | refine le_eq rfl rfl ?_))), by (repeat (first | exact lo_nil | refine lo_eq rfl ?_ | refine lo_eq (congrArg (AO.sli _) (e0)) ?_)), rfl, rfl⟩⟩
  · have e : p = m := by omega
    subst e
    repeat' (first | (apply AOps.nil; try simp only [List.nil_append, List.cons_append, List.set_cons_zero, List.set_cons_succ, List.length_cons, List.length_nil, Nat.reduceAdd, AV.sh, AV.sh1, AV.sh0, AO.sh, List.map_cons, List.map_nil, Nat.zero_add, Nat.add_zero, setAll]) | (apply w_move; exact rfl; exact rfl) | (apply w_assign; exact rfl; exact rfl) | apply AWp.seq | apply AWp.region | ((apply AWp.condP; exact rfl) <;> intro h) | apply AWp.block | apply AWp.ret | apply AWp.exit | apply AWp.skip | (apply w_len; exact rfl; exact rfl; first | exact .ints _ | exact .intss _ | exact .sli rfl | exact .sls rfl | exact .slr rfl | exact .orow rfl | exact .nil) | omega | ((apply w_lss); iterate 3 exact rfl))
    rw [Nat.sub_self, redR] at hred
    have ea : addR L row = L := by unfold addR; rw [hl, ← hred]
    refine ⟨⟨94, [(6, .own 1), (7, .own 2)]⟩, [.sls 22 2 (rowsOf L), .sli 2 (valsOf L)], .tup [.own 0, .own 1], .or ?_, .a2 Try.results106 rfl rfl, by simp [AV.fl, AV.fl1, AV.fl0], ⟨rfl, by rw [ea]⟩, by simp [AO.plain]⟩
    (apply Or.inl; refine ⟨lee rfl ?_, ?_, rfl, rfl⟩; (focus ((repeat (first | exact le_nil | refine le_eq rfl rfl ?_)); done)); (focus ((repeat (first | exact lo_nil | refine lo_eq rfl ?_)); done)))
end Go.Proofs.Ytifkgmbghcmdeaa
