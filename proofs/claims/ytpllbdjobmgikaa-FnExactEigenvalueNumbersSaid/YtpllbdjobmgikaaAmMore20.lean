/-
  Own slices of structs of one slice of rows: all of it own memory. No condition.
-/
import Derived.Test.YtpllbdjobmgikaaAmMore19
import Derived.Test.YtpllbdjobmgikaaAmMore3
namespace Go.Proofs.Ytpllbdjobmgikaa
open Go Go.RowKit
set_option linter.unusedVariables false
set_option linter.unusedSimpArgs false

abbrev Pls := List (List (List Int))
/-- The part 'p' reads as the rows 'f'. -/
def PartP (e1 e2 : TypeId) (f : List (List Int)) (base : Nat) (w : World) (p : Gh) : Prop := RO base w (fun _ => True) [] p (.sls e1 e2 f)
theorem PartP.ro {e1 e2 : TypeId} {f : List (List Int)} {base : Nat} {w : World} {p : Gh} (h : PartP e1 e2 f base w p) {ok : Nat → Prop} {gs : List Gh} : RO base w ok gs p (.sls e1 e2 f) := AO.plain.ro (o := .sls e1 e2 f) trivial h
theorem PartP.of {e1 e2 : TypeId} {f : List (List Int)} {base : Nat} {w : World} {p : Gh} {ok : Nat → Prop} {gs : List Gh} (h : RO base w ok gs p (.sls e1 e2 f)) : PartP e1 e2 f base w p := AO.plain.ro (o := .sls e1 e2 f) trivial h
theorem PartP.up {e1 e2 : TypeId} {f : List (List Int)} {base : Nat} {w w' : World} {p : Gh} (hb : ∀ b, b ∈ p.bl → w'.heap[b]? = w.heap[b]?) (h : PartP e1 e2 f base w p) : PartP e1 e2 f base w' p :=
  PartP.of (RO.mono (ok := fun _ => False) (ok' := fun _ => False) (gs := []) (gs' := []) (fun b hb _ => hb.elim) (fun h g e => e) (fun _ => hb) h.ro)
theorem owns_lower {w : World} {base base' : Nat} {e : TypeId} {v : Value} {n : Nat} {vs : List Value} (hl : base' ≤ base) (h : w.ownsRow base e 1 v n vs) : w.ownsRow base' e 1 v n vs := by
  refine ⟨h.1, h.2.imp id ?_⟩
  rintro ⟨g, cap, cur, e1, e2, r⟩
  exact ⟨g, cap, cur, e1, Nat.le_trans hl e2, r⟩
theorem PartP.lower {e1 e2 : TypeId} {f : List (List Int)} {base base' : Nat} {w : World} {p : Gh} (hl : base' ≤ base) (h : PartP e1 e2 f base w p) : PartP e1 e2 f base' w p := by
  obtain ⟨vs, bs, mb, a1, a2, a3, a4, a5, r⟩ := h
  exact ⟨vs, bs, mb, owns_lower hl a1, a2, a3, a4, fun i u hu => ⟨owns_lower hl (a5 i u hu).1, (a5 i u hu).2⟩, r⟩
theorem PartP.nodup {e1 e2 : TypeId} {f : List (List Int)} {base : Nat} {w : World} {p : Gh} (h : PartP e1 e2 f base w p) : p.bl.Nodup := by
  obtain ⟨vs, bs, mb, _, _, _, _, _, _, _, h8⟩ := h; exact h8
theorem PartP.one {e1 e2 : TypeId} {f : List (List Int)} {base : Nat} {w : World} {p : Gh} (h : PartP e1 e2 f base w p) : p.v.oneCell' = true ∧ p.v.cells = #[p.v] := by
  obtain ⟨vs, bs, mb, h1, _⟩ := h
  obtain ⟨a, cap, e1⟩ := ownsRow_slice h1
  rw [e1]; exact ⟨rfl, rfl⟩
theorem PartP.reads {e1 e2 : TypeId} {f : List (List Int)} {base : Nat} {w : World} {p : Gh} (h : PartP e1 e2 f base w p) {ok : Nat → Prop} (hb : ∀ b, b ∈ p.bl → ok b) : IntssAt w ok p.v f := by
  obtain ⟨vs, bs, mb, a1, a2, a3, a4, a5, a6, a7, a8⟩ := h
  refine ⟨vs, RowAt.of_owns' a1 fun b hbb => hb b ?_, a2, fun i u hu => ⟨RowAt.of_owns' (a5 i u hu).1 fun b hbb => hb b ?_, (a5 i u hu).2.1⟩⟩
  · rw [a7]
    rcases a6 with ⟨h6, _⟩ | ⟨h6, h6'⟩
    · rw [h6] at hbb; cases hbb
    · rw [h6] at hbb; cases hbb; simp [h6']
  · have hi := (List.getElem?_eq_some_iff.1 hu).1
    rw [a7]
    refine List.mem_append.2 (.inr (List.mem_flatten.2 ⟨bs.getD i [], ?_, by rw [← (a5 i u hu).2.2, hbb]; simp⟩))
    rw [List.getD_eq_getElem?_getD, List.getElem?_eq_getElem (by omega)]
    simp

def PlsP (e e1 e2 : TypeId) (F : Pls) (base : Nat) (w : World) (g : Gh) : Prop :=
  ∃ (ps : List Gh) (mb : List Nat), w.ownsRow base e 1 g.v ps.length (ps.map (·.v)) ∧ ps.length = F.length ∧ g.rows = ps.map (·.v) ∧ (∀ (i : Nat) p, ps[i]? = some p → PartP e1 e2 (F.getD i []) base w p) ∧
    ((g.v.ownBlock = none ∧ mb = []) ∨ (g.v.ownBlock = some g.b ∧ mb = [g.b])) ∧ g.bl = mb ++ (ps.map (·.bl)).flatten ∧ g.bl.Nodup
theorem part_sub {ps : List Gh} {mb l : List Nat} (hl : l = mb ++ (ps.map (·.bl)).flatten) {i : Nat} {p : Gh} (hp : ps[i]? = some p) {b : Nat} (hb : b ∈ p.bl) : b ∈ l := by
  rw [hl]
  exact List.mem_append.2 (.inr (List.mem_flatten.2 ⟨p.bl, List.mem_map.2 ⟨p, List.mem_of_getElem? hp, rfl⟩, hb⟩))
theorem main_sub {g : Gh} {mb l : List Nat} {x : List Nat} (hl : l = mb ++ x) (h : (g.v.ownBlock = none ∧ mb = []) ∨ (g.v.ownBlock = some g.b ∧ mb = [g.b])) {b : Nat} (hb : g.v.ownBlock = some b) : b ∈ l := by
  rw [hl]
  rcases h with ⟨h6, _⟩ | ⟨h6, h6'⟩
  · rw [h6] at hb; cases hb
  · rw [h6] at hb; cases hb; simp [h6']
def plsOb (e e1 e2 : TypeId) (F : Pls) : Ob where
  p := PlsP e e1 e2 F
  up {base w w' g} hb h := by
    obtain ⟨ps, mb, a1, a2, a3, a4, a5, a6, a7⟩ := h
    exact ⟨ps, mb, ownsRow_of_block a1 fun c hc => hb c (main_sub a6 a5 hc), a2, a3, fun i p hp => (a4 i p hp).up fun b hbb => hb b (part_sub a6 hp hbb), a5, a6, a7⟩
  lower hl h := by
    obtain ⟨ps, mb, a1, a2, a3, a4, a5, a6, a7⟩ := h
    exact ⟨ps, mb, owns_lower hl a1, a2, a3, fun i p hp => (a4 i p hp).lower hl, a5, a6, a7⟩
  one h := by
    obtain ⟨ps, mb, a1, _⟩ := h
    obtain ⟨a, cap, e1⟩ := ownsRow_slice a1
    rw [e1]; exact ⟨rfl, rfl⟩

theorem run_store1 {P : Program} {t : TypeId} {zs : List Value} [ht : TStruct P t 1 zs] {a : Addr} {u s : Value} {w : World} (hc : w.cell? a = some u) (hf : w.frozen? a = false) (h1 : s.oneCell' = true) :
    (Instr.storeAt t (.pointer (some a)) (.agg #[s])).run P w = .ok () (w.setCell a s) := by
  obtain ⟨ii, hi, hs, _⟩ := ht.info
  have hst := run_store P w a s .plain h1
  simp only [hc, hf] at hst
  simp only [Instr.storeAt, Instr.sureAddr, storeVar, sizeOf, typeInfo, hi, hs, Value.cells, storeCells, Sem.run_bind, Sem.run_pure, Result.andThen_ok, run_program, Addr.add_zero', Sem.run_ite]
  simp [hst]

section
variable {P : Program} {wl : Bool} {env : Env} {os : List AO} {d : Option Tmp} {ty : TypeId} {pos : String} {af : Array Edge} {g : Option (Nat × Bool)}

theorem reads_pls {m : Nat} {e e1 e2 : TypeId} {F : Pls} (hm : os[m]? = some (.ob (plsOb e e1 e2 F))) : Reads os [m] (.own m) (polsRo F) := by
  intro base w gs ok hro hok kp v hv
  cases hv with
  | @own _ gm hg =>
    obtain ⟨ps, mb, a1, a2, a3, a4, a5, a6, a7⟩ := hro _ _ _ hg hm
    have hb := hok m (by simp) _ _ hg hm (by simp)
    refine ⟨ps.map (·.v), by simpa using RowAt.of_owns' a1 fun b hbb => hb b (main_sub a6 a5 hbb), by simpa using a2, fun i u hu => ?_⟩
    rw [List.getElem?_map] at hu
    cases hp : ps[i]? with
    | none => rw [hp] at hu; cases hu
    | some p =>
      rw [hp] at hu
      cases hu
      exact (a4 i p hp).reads fun b hbb => hb b (part_sub a6 hp hbb)

theorem l_make_pls {t e : TypeId} {bytes : Nat} [ht : TSlice P t e] [he : TElem P e (.agg #[.slice none 0 0]) bytes] (e1 e2 : TypeId) {x y : Operand} {n : Int} (hx : AV.ev env x = .i n) (hy : AV.ev env y = .i n) (h0 : 0 ≤ n) (hb : (bytes : Int) * n ≤ 281474976710656) (hm : n ≤ 9223372036854775807) :
    LOp P ⟨d, .makeSlice t x y, ty, pos, af, g⟩ env os (.own os.length) env (os ++ [.ob (plsOb e e1 e2 (List.replicate n.toNat []))]) := by
  refine l_new fun base w gs tm hr => ?_
  obtain ⟨ii, hi, hs, hz, hby⟩ := he.info
  obtain ⟨m, rfl⟩ := Int.eq_ofNat_of_zero_le h0
  have hb' : ii.bytes * m ≤ 281474976710656 := by
    have : ((bytes * m : Nat) : Int) ≤ 281474976710656 := by rw [Int.natCast_mul]; exact hb
    rw [hby]; omega
  obtain ⟨w', h1, h2, h3⟩ := run_make_full (P := P) w base t e ii _ 1 ht.und hi hz hs .i64 .i64 m hb' (by simp [maxLen]; omega) hr.hb
  have hbel : Below w.heap.size w w' := (Below.refl _ _).grown h3 (Nat.le_refl _) (fun k hk => by cases hk)
  have hlt := h2.lt w.heap.size rfl
  rw [show (Value.agg #[.slice none 0 0]).cells = #[.slice none 0 0] from by simp [Value.cells], toList_madeCells_one] at h2
  let p0 : Gh := ⟨.slice none 0 0, 0, [], []⟩
  have em : (List.replicate m p0).map (·.v) = List.replicate m (.slice none 0 0) := by simp [p0]
  have ebl : ((List.replicate m p0).map (·.bl)).flatten = [] := by simp [p0]
  refine ⟨w', ⟨.slice (some ⟨w.heap.size, 0, none⟩) m m, w.heap.size, [w.heap.size], List.replicate m (.slice none 0 0)⟩, by simp only [execOp, hr.evv hx, hr.evv hy, Sem.run_bind, h1, Result.andThen_ok, Sem.run_pure], hbel,
    fun b hb => by simp at hb; omega, fun ok gs' => ⟨List.replicate m p0, [w.heap.size], by rw [em]; simpa using h2, by simp, em.symm, fun i p hp => ?_, .inr ⟨rfl, rfl⟩, by rw [ebl]; rfl, by simp⟩⟩
  have hp' : p = p0 := List.eq_of_mem_replicate (List.mem_of_getElem? hp)
  have e0 : (List.replicate m ([] : List (List Int))).getD i [] = [] := by simp [List.getD_eq_getElem?_getD, List.getElem?_replicate]; split <;> rfl
  subst hp'
  rw [Int.toNat_natCast, e0]
  exact ⟨[], [], [], World.ownsRow_nil _ _ _ _, rfl, rfl, rfl, fun i u hu => by simp at hu, .inl ⟨rfl, rfl⟩, rfl, by simp [p0]⟩

theorem q_idxpl {t e : TypeId} {zs : List Value} [ht : TSlice P t e] [he : TStruct P e 1 zs] {x y : Operand} {h : Nat} {e' e1 e2 : TypeId} {F : Pls} {i : Int} (hx : AV.ev env x = .own h) (hs : os[h]? = some (.ob (plsOb e' e1 e2 F))) (hy : AV.ev env y = .i i) (h0 : 0 ≤ i) (h1 : i < F.length) :
    QOp P wl ⟨d, .indexAddr t x y, ty, pos, af, g⟩ env os (.optr h i.toNat) :=
  .of_run fun _ w gs tm hr => by
    have hh := hr.ev x
    rw [hx] at hh
    generalize hv : Act.eval ⟨tm, []⟩ x = v at hh
    cases hh with
    | @own _ gh hg =>
      obtain ⟨ps, mb, a1, a2, a3, a4, a5, a6, a7⟩ := hr.ho _ _ _ hg hs
      obtain ⟨b, cap, ev, eo, _⟩ := own_slice a1 (i := i.toNat) (by rw [List.length_map]; omega)
      have eb : gh.b = b := by
        rcases a5 with ⟨c1, _⟩ | ⟨c1, c2⟩
        · rw [c1] at eo; cases eo
        · rw [c1] at eo; exact Option.some.inj eo
      obtain ⟨ie, hi, hs1, _⟩ := he.info
      have hrun := fun w' => run_idx (P := P) ht.und hi hs1 ⟨b, 0, none⟩ ps.length cap i h0 (by omega) w'
      refine ⟨_, .optr hg, fun w' _ => ?_⟩
      simp only [execOp, hv, ev, hr.evv hy, Sem.run_bind, hrun, add_none, Nat.zero_add, Result.andThen_ok, Sem.run_pure, eb]
theorem q_lenpl {t e : TypeId} [ht : TSlice P t e] {x : Operand} {h : Nat} {e' e1 e2 : TypeId} {F : Pls} (hx : AV.ev env x = .own h) (hs : os[h]? = some (.ob (plsOb e' e1 e2 F))) :
    QOp P wl ⟨d, .call { callee := .builtin .len, args := #[x], argTypes := #[t] }, ty, pos, af, g⟩ env os (.i F.length) :=
  .of_run fun _ w gs tm hr => by
    have hh := hr.ev x
    rw [hx] at hh
    generalize hv : Act.eval ⟨tm, []⟩ x = v at hh
    cases hh with
    | @own _ gh hg =>
      obtain ⟨ps, mb, a1, a2, _⟩ := hr.ho _ _ _ hg hs
      obtain ⟨a, cap, ev⟩ := ownsRow_slice a1
      refine ⟨_, .val _, fun w' _ => ?_⟩
      simp [execOp, resolve, invoke, builtin, hv, ev, Builtin.len_, run_underlying ht.und, goInt, a2]
theorem q_fapl {t : TypeId} [ht : TField P t 0 0] {x : Operand} {h i : Nat} {e' e1 e2 : TypeId} {F : Pls} (hx : AV.ev env x = .optr h i) (hs : os[h]? = some (.ob (plsOb e' e1 e2 F))) :
    QOp P wl ⟨d, .fieldAddr t x 0, ty, pos, af, g⟩ env os (.optr h i) :=
  .of_run fun _ w gs tm hr => by
    have hh := hr.ev x
    rw [hx] at hh
    generalize hv : Act.eval ⟨tm, []⟩ x = v at hh
    cases hh with
    | @optr _ _ gh hg =>
      obtain ⟨fs, fd, ii, h1, h2, h3, h4, h5, _⟩ := ht.fld
      refine ⟨_, .optr hg, fun w' _ => ?_⟩
      simp [execOp, hv, Instr.fieldAt, run_underlying h1, h2, Instr.sureAddr, fieldPlace, sizeOf, typeInfo, h4, h5, h3, add_none]
theorem q_ldpl {t : TypeId} [ht : TCell P t] {x : Operand} {h i : Nat} {e' e1 e2 : TypeId} {F : Pls} (hx : AV.ev env x = .optr h i) (hs : os[h]? = some (.ob (plsOb e' e1 e2 F))) (hi : i < F.length) :
    QOp P false ⟨d, .load t x, ty, pos, af, g⟩ env os (.orow h i) :=
  .of_runb fun base w gs tm hr => by
    have hh := hr.ev x
    rw [hx] at hh
    generalize hv : Act.eval ⟨tm, []⟩ x = v at hh
    cases hh with
    | @optr _ _ gh hg =>
      obtain ⟨ps, mb, a1, a2, a3, a4, a5, a6, a7⟩ := hr.ho _ _ _ hg hs
      have hip : i < ps.length := by omega
      obtain ⟨b, cap, ev, eo, e3, _⟩ := own_slice a1 (i := i) (by rw [List.length_map]; exact hip)
      have eb : gh.b = b := by
        rcases a5 with ⟨c1, _⟩ | ⟨c1, c2⟩
        · rw [c1] at eo; cases eo
        · rw [c1] at eo; exact Option.some.inj eo
      have hcell : w.cell? ⟨gh.b, i, none⟩ = some ps[i].v := by rw [eb, e3]; simp [hip]
      refine ⟨ps[i].v, .orow hg (by rw [a3]; simp [hip]), fun w' hw' => ?_⟩
      have hcell' := below_cell hw' hcell
      simp only [execOp, hv, Sem.run_bind, run_load_cell hcell', Result.andThen_ok, Sem.run_pure]

theorem getD_put {α : Type} (l : List α) (i j : Nat) (x d : α) (hi : i < l.length) : (l.set i x).getD j d = if j = i then x else l.getD j d := by
  simp only [List.getD_eq_getElem?_getD, List.getElem?_set]
  by_cases e : i = j
  · subst e; simp [hi]
  · have e' : ¬ j = i := fun h => e h.symm
    simp [e, e']
theorem pt_bls {ps : List Gh} {i : Nat} (gk : Gh) : (ps.set i gk).map (·.bl) = (ps.map (·.bl)).set i gk.bl := by rw [List.map_set]
set_option maxHeartbeats 1000000 in
/-- A struct goes into a cell: its slice of rows, an own object, goes with it. -/
theorem l_store_pl {t : TypeId} {zs : List Value} [ht : TStruct P t 1 zs] {x y : Operand} {h i k : Nat} {e e1 e2 e3 e4 : TypeId} {F : Pls} {f : List (List Int)} (hx : AV.ev env x = .optr h i) (hs : os[h]? = some (.ob (plsOb e e1 e2 F))) (hi : i < F.length) (hy : AV.ev env y = .agg [.own k])
    (hk : os[k]? = some (.sls e3 e4 f)) (he : e3 = e1 ∧ e4 = e2) (hhk : (h == k) = false) :
    LOp P ⟨d, .store t x y, ty, pos, af, g⟩ env os .any (env.mp (AV.noRow h)) (((os.map (AO.via (AV.noRow h) h)).set h (.ob (plsOb e e1 e2 (F.set i f)))).set k .dead) := by
  obtain ⟨rfl, rfl⟩ := he
  have hne : h ≠ k := by simpa using hhk
  intro base w gs tm hr
  have hxv := hr.ev x
  have hyv := hr.ev y
  rw [hx] at hxv
  rw [hy] at hyv
  generalize hv : Act.eval ⟨tm, []⟩ x = v at hxv
  generalize hu : Act.eval ⟨tm, []⟩ y = u at hyv
  obtain ⟨s, rfl, hsv, hone⟩ := one_of hyv
  cases hxv with
  | @optr _ _ gh hg =>
  cases hsv with
  | @own _ gk hgk =>
    obtain ⟨ps, mb, a1, a2, a3, a4, a5, a6, a7⟩ := hr.ho _ _ _ hg hs
    have hpk : PartP e3 e4 f base w gk := PartP.of (hr.ho _ _ _ hgk hk)
    have hip : i < ps.length := by omega
    obtain ⟨b, cap, e1', eo, e3', e4'⟩ := own_slice a1 (i := i) (by rw [List.length_map]; exact hip)
    have emb : mb = [gh.b] ∧ gh.v.ownBlock = some gh.b := by
      rcases a5 with ⟨c1, _⟩ | ⟨c1, c2⟩
      · rw [c1] at eo; cases eo
      · exact ⟨c2, c1⟩
    have eb : gh.b = b := by rw [emb.2] at eo; exact Option.some.inj eo
    have hcell : w.cell? ⟨gh.b, i, none⟩ = some ps[i].v := by rw [eb, e3']; simp [hip]
    have a1' := a1
    rw [e1'] at a1'
    have hst := a1'.stored i gk.v
    have hother : ∀ c, c < w.heap.size → c ∉ gh.bl → (w.setCell ⟨b, i, none⟩ gk.v).heap[c]? = w.heap[c]? := fun c hc hcb => hst.2.block c hc (fun e' => hcb (by rw [a6, emb.1, eb]; simp [Option.some.inj e']))
    have hgb : gh.b ∈ gh.bl := by rw [a6, emb.1]; simp
    have hdis : ∀ c, c ∈ gk.bl → c ∉ gh.bl := hr.hd k h gk gh _ _ (fun e => hne e.symm) hgk hg hk hs (by simp) (by simp)
    have hap : ∀ c, c ≠ gh.b → (w.setCell ⟨b, i, none⟩ gk.v).heap[c]? = w.heap[c]? := fun c hc => heap_setCell_other w ⟨b, i, none⟩ c gk.v (fun e' => hc (by rw [eb]; exact e'))
    have hib : i < (ps.map (·.bl)).length := by rw [List.length_map]; exact hip
    let g' : Gh := ⟨gh.v, gh.b, mb ++ ((ps.set i gk).map (·.bl)).flatten, (ps.set i gk).map (·.v)⟩
    have hhg : h < gs.length := (List.getElem?_eq_some_iff.1 hg).1
    have sv : SameV h gs (gs.set h g') := by
      refine ⟨fun j z hj hz => ?_, fun z hz => ⟨g', by simp [hhg], ?_⟩⟩
      · rw [List.getElem?_set, if_neg (fun e => hj e.symm)]; exact hz
      · rw [hg] at hz; cases hz; exact ⟨rfl, rfl⟩
    refine ⟨undef, w.setCell ⟨b, i, none⟩ gk.v, gs.set h g', .inr ⟨?_, rfl⟩, hr.absorb hg hs trivial hgk hk trivial hne g' _ (AV.noRow h) rfl hother hst.2.size ?_ (fun kp hv => hv.noRow kp sv) ?_, .any _, ?_⟩
    · have := run_store1 (P := P) (t := t) (a := ⟨gh.b, i, none⟩) hcell (by rw [eb]; exact e4') (s := gk.v) hone
      rw [eb] at this hv
      simp only [execOp, hv, hu, Sem.run_bind, this, Result.andThen_ok, Sem.run_pure]
    · intro c hc
      have hc' : c ∈ mb ∨ c ∈ ((ps.map (·.bl)).set i gk.bl).flatten := by rw [← pt_bls gk]; exact List.mem_append.1 hc
      have key : c ∈ gh.bl ∨ c ∈ gk.bl := by
        rcases hc' with hc' | hc'
        · left; rw [a6]; exact List.mem_append.2 (.inl hc')
        · rw [flatten_set _ hib] at hc'
          rcases List.mem_append.1 hc' with hc' | hc'
          · left; rw [a6, flatten_at hib]; simp [hc']
          · rcases List.mem_append.1 hc' with hc' | hc'
            · right; exact hc'
            · left; rw [a6, flatten_at hib]; simp [hc']
      refine ⟨?_, ?_⟩
      · rcases key with key | key
        · exact .inl key
        · exact .inr (.inl key)
      · rcases key with key | key
        · have := (hr.hn _ _ _ hg hs (by simp) c key).2
          exact Nat.lt_of_lt_of_le this hst.2.size
        · have := (hr.hn _ _ _ hgk hk (by simp) c key).2
          exact Nat.lt_of_lt_of_le this hst.2.size
    · intro kp
      refine ⟨ps.set i gk, mb, ?_, by simp [a2], rfl, fun j p hj => ?_, .inr ⟨emb.2, emb.1⟩, rfl, ?_⟩
      · have hst1 := hst.1
        rw [List.length_set, List.map_set, e1']
        simpa using hst1
      · rw [List.getElem?_set] at hj
        rw [getD_put _ _ _ _ _ hi]
        split at hj
        · subst_vars
          cases hj
          simp only [if_true]
          exact hpk.up fun c hc => hap c fun e => hdis c hc (by rw [e]; exact hgb)
        · rename_i hij
          have hij' : ¬ j = i := fun e => hij e.symm
          simp only [hij', if_false]
          refine (a4 j p hj).up fun c hc => hap c fun e => ?_
          have hcm : c ∈ (ps.map (·.bl)).flatten := List.mem_flatten.2 ⟨p.bl, List.mem_map.2 ⟨p, List.mem_of_getElem? hj, rfl⟩, hc⟩
          rw [a6, emb.1] at a7
          have := (List.nodup_cons.1 a7).1
          rw [← e] at this
          exact this hcm
      · show (mb ++ ((ps.set i gk).map (·.bl)).flatten).Nodup
        rw [pt_bls gk, flatten_set _ hib]
        rw [a6, flatten_at hib] at a7
        refine nodup_swap a7 hpk.nodup fun c hc => ?_
        have := hdis c hc
        rwa [a6, flatten_at hib] at this
    · have hbb : base ≤ b := by rw [← eb]; exact (hr.hn _ _ _ hg hs (by simp) gh.b hgb).1
      exact (Below.refl _ _).setCell (p := ⟨b, i, none⟩) hbb _
end
section
variable {P : Program} {env : Env} {os : List AO} {d : Tmp} {ty : TypeId} {pos : String} {af : Array Edge} {g : Option (Nat × Bool)} {l rest : List Oper} {K : APost} {q : Md}
set_option maxHeartbeats 1000000 in
/-- A part is handed to a function that writes to it. -/
theorem w_callpl {f : FuncId} {ats : Array TypeId} {v0 : Value} {h i : Nat} {e e1 e2 : TypeId} {F : Pls} {Q : Value → List AO → Prop} {x y : Operand} (hx : evo env x = some (.orow h i)) (hs : os[h]? = some (.ob (plsOb e e1 e2 F))) (hy : evo env y = some (.val v0))
    (hc : AFnU P f [.own 0, .val v0] [.sls e1 e2 (F.getD i [])] Q)
    (hQ : ∀ v os', Q v os' → ∃ f', os' = [.sls e1 e2 f'])
    (h' : ∀ v f', Q v [.sls e1 e2 f'] → AOps P .seq l rest K (env.up d (.val v)) (os.set h (.ob (plsOb e e1 e2 (F.set i f'))))) :
    AOps P .seq l (⟨some d, .call { callee := .value (.func f), args := #[x, y], argTypes := ats }, ty, pos, af, none⟩ :: rest) K env os := by
  refine AOps.ca (Q := fun r en o => ∃ v f', Q v [.sls e1 e2 f'] ∧ r = .val v ∧ en = env ∧ o = os.set h (.ob (plsOb e e1 e2 (F.set i f')))) ?_ fun r en o ⟨v, f', h0, h1, h2, h3⟩ => by subst h1; subst h2; subst h3; exact h' v f' h0
  intro base w gs tm hr
  have hev := hr.ev x
  rw [ev_of hx] at hev
  generalize hv : Act.eval ⟨tm, []⟩ x = u at hev
  cases hev with
  | @orow _ _ gh _ hg hrow =>
    obtain ⟨ps, mb, a1, a2, a3, a4, a5, a6, a7⟩ := hr.ho _ _ _ hg hs
    rw [a3, List.getElem?_map] at hrow
    cases hp : ps[i]? with
    | none => rw [hp] at hrow; cases hrow
    | some gr =>
    rw [hp] at hrow
    have hrow : gr.v = u := by simpa using hrow
    subst hrow
    have hpr := a4 i gr hp
    have hip : i < ps.length := (List.getElem?_eq_some_iff.1 hp).1
    have sub : ∀ b, b ∈ gr.bl → b ∈ gh.bl := fun b hb => part_sub a6 hp hb
    have one : ∀ {k : Nat} {g : Gh}, [gr][k]? = some g → k = 0 ∧ g = gr := by
      intro k g hk
      have := (List.getElem?_eq_some_iff.1 hk).1
      simp at this
      subst this
      simp at hk
      exact ⟨rfl, hk.symm⟩
    have hO : Objs base w [gr] [.sls e1 e2 (F.getD i [])] := by
      refine ⟨rfl, fun o ho => by simp at ho; subst ho; trivial, ?_, ?_, ?_⟩
      · intro k g o hk ho
        obtain ⟨rfl, rfl⟩ := one hk
        simp at ho
        subst ho
        exact hpr.ro
      · intro k m g g' hkm hk hm
        obtain ⟨rfl, _⟩ := one hk
        obtain ⟨rfl, _⟩ := one hm
        exact absurd rfl hkm
      · intro k g hk b hb
        obtain ⟨_, rfl⟩ := one hk
        exact hr.hn _ _ _ hg hs (by simp) b (sub b hb)
    have hlt : h < os.length := (List.getElem?_eq_some_iff.1 hs).1
    have hgl : h < gs.length := by rw [hr.hl]; exact hlt
    refine ⟨f, _, run_call hc.1 [x, y] ats _ rfl w, (hc.2 base w [gr] _ hr.hb hO (by simp) fun k => ?_).mono ?_⟩
    · match k with
      | 0 =>
        have : RV w (okOf [gr] [.sls e1 e2 (F.getD i [])]) [gr] gr.v (.own 0) := RV.own (g := gr) (by simp)
        simpa [hv] using this
      | 1 =>
        have hyv := hr.evv (ev_of hy)
        have : RV w (okOf [gr] [.sls e1 e2 (F.getD i [])]) [gr] (Act.eval ⟨tm, []⟩ y) (.val v0) := by rw [hyv]; exact .val _
        simpa using this
      | k + 2 => exact .any _
    · rintro en w' ⟨v, os', rfl, hq, hO', hbel, hw⟩
      obtain ⟨f', rfl⟩ := hQ v os' hq
      have hnew := hO'.ho 0 gr (.sls e1 e2 f') (by simp) (by simp)
      have hunch : ∀ c, c < w.heap.size → c ∉ gr.bl → w'.heap[c]? = w.heap[c]? := fun c hc hn => hw c hc fun k g hk => by
        obtain ⟨_, rfl⟩ := one hk
        exact hn
      have hother : ∀ c, c < w.heap.size → c ∉ gh.bl → w'.heap[c]? = w.heap[c]? := fun c hc hn => hunch c hc fun h1 => hn (sub c h1)
      have a7' : (mb ++ (ps.map (·.bl)).flatten).Nodup := by rw [← a6]; exact a7
      have inbl : ∀ c, c ∈ gh.bl → c < w.heap.size := fun c hc => (hr.hn _ _ _ hg hs (by simp) c hc).2
      refine ⟨v, .val v, env, _, gs, rfl, ⟨v, f', hq, rfl, rfl, rfl⟩, hr.upd hg hs trivial _ trivial hother hbel.size (fun _ => ?_), .val v, hbel⟩
      refine ⟨ps, mb, ?_, by simp [a2], a3, fun j p hj => ?_, a5, a6, a7⟩
      · refine ownsRow_of_block a1 fun c hc => ?_
        have hcm : c ∈ mb := by
          rcases a5 with ⟨c1, _⟩ | ⟨c1, c2⟩
          · rw [c1] at hc; cases hc
          · rw [c1] at hc; cases hc; rw [c2]; simp
        have hcg : c ∈ gh.bl := by rw [a6]; exact List.mem_append.2 (.inl hcm)
        refine hunch c (inbl c hcg) fun h1 => (List.nodup_append.1 a7').2.2 c hcm c (List.mem_flatten.2 ⟨gr.bl, List.mem_map.2 ⟨gr, List.mem_of_getElem? hp, rfl⟩, h1⟩) rfl
      · rw [getD_put _ _ _ _ _ (by omega)]
        split
        · subst_vars
          rw [hp] at hj
          cases hj
          exact PartP.of hnew
        · rename_i hji
          refine (a4 j p hj).up fun c hc => hunch c (inbl c (part_sub a6 hj hc)) fun h1 => ?_
          have hjl := (List.getElem?_eq_some_iff.1 hj).1
          refine flatten_disj (bs := ps.map (·.bl)) (List.nodup_append.1 a7').2.1 (i := i) (j := j) (fun e => hji e.symm) (c := c) ?_ ?_
          · rw [List.getD_eq_getElem?_getD, List.getElem?_map, hp]; exact h1
          · rw [List.getD_eq_getElem?_getD, List.getElem?_map, hj]; exact hc
theorem w_callpl1 {f : FuncId} {ats : Array TypeId} {v0 v1 : Value} {h i : Nat} {e e1 e2 : TypeId} {F : Pls} {f1 : List (List Int)} {x y : Operand} (hc : AFnU P f [.own 0, .val v0] [.sls e1 e2 (F.getD i [])] (fun v os' => v = v1 ∧ os' = [.sls e1 e2 f1])) (hx : evo env x = some (.orow h i)) (hs : os[h]? = some (.ob (plsOb e e1 e2 F))) (hy : evo env y = some (.val v0))
    (h' : AOps P .seq l rest K (env.up d (.val v1)) (os.set h (.ob (plsOb e e1 e2 (F.set i f1))))) :
    AOps P .seq l (⟨some d, .call { callee := .value (.func f), args := #[x, y], argTypes := ats }, ty, pos, af, none⟩ :: rest) K env os := by
  refine w_callpl hx hs hy hc (fun v os' ⟨_, h2⟩ => ⟨f1, h2⟩) fun v f' ⟨h1, h2⟩ => ?_
  cases h1
  cases h2
  exact h'
theorem w_mkpl {t e : TypeId} {bytes : Nat} [TSlice P t e] [TElem P e (.agg #[.slice none 0 0]) bytes] (e1 e2 : TypeId) {x y : Operand} {n : Int} {m : Nat} (hx : evo env x = some (.i n)) (hy : evo env y = some (.i n)) (h0 : 0 ≤ n) (hb : (bytes : Int) * n ≤ 281474976710656) (h63 : n ≤ 9223372036854775807) (hm : os.length = m)
    (h' : AOps P .seq l rest K (env.up d (.own m)) (os ++ [.ob (plsOb e e1 e2 (List.replicate n.toNat []))])) : AOps P .seq l (⟨some d, .makeSlice t x y, ty, pos, af, none⟩ :: rest) K env os := AOps.lo (hm ▸ l_make_pls e1 e2 (ev_of hx) (ev_of hy) h0 hb h63) h'
theorem w_idxpl {t e : TypeId} {zs : List Value} [TSlice P t e] [TStruct P e 1 zs] {x y : Operand} {h : Nat} {e' e1 e2 : TypeId} {F : Pls} {i : Int} (hw : wantedA l env ⟨some d, .indexAddr t x y, ty, pos, af, g⟩ = some true) (hx : evo env x = some (.own h)) (hs : os[h]? = some (.ob (plsOb e' e1 e2 F))) (hy : evo env y = some (.i i)) (h0 : 0 ≤ i) (h1 : i < F.length)
    (h' : AOps P q l rest K (env.up d (.optr h i.toNat)) os) : AOps P q l (⟨some d, .indexAddr t x y, ty, pos, af, g⟩ :: rest) K env os := AOps.qo hw (q_idxpl (ev_of hx) hs (ev_of hy) h0 h1) h'
theorem w_lenpl {t e : TypeId} [TSlice P t e] {x : Operand} {h : Nat} {e' e1 e2 : TypeId} {F : Pls} (hw : wantedA l env ⟨some d, .call { callee := .builtin .len, args := #[x], argTypes := #[t] }, ty, pos, af, g⟩ = some true) (hx : evo env x = some (.own h)) (hs : os[h]? = some (.ob (plsOb e' e1 e2 F)))
    (h' : AOps P q l rest K (env.up d (.i F.length)) os) : AOps P q l (⟨some d, .call { callee := .builtin .len, args := #[x], argTypes := #[t] }, ty, pos, af, g⟩ :: rest) K env os := AOps.qo hw (q_lenpl (ev_of hx) hs) h'
theorem w_fapl {t : TypeId} [TField P t 0 0] {x : Operand} {h i : Nat} {e' e1 e2 : TypeId} {F : Pls} (hw : wantedA l env ⟨some d, .fieldAddr t x 0, ty, pos, af, g⟩ = some true) (hx : evo env x = some (.optr h i)) (hs : os[h]? = some (.ob (plsOb e' e1 e2 F)))
    (h' : AOps P q l rest K (env.up d (.optr h i)) os) : AOps P q l (⟨some d, .fieldAddr t x 0, ty, pos, af, g⟩ :: rest) K env os := AOps.qo hw (q_fapl (ev_of hx) hs) h'
theorem w_ldpl {t : TypeId} [TCell P t] {x : Operand} {h i : Nat} {e' e1 e2 : TypeId} {F : Pls} (hw : wantedA l env ⟨some d, .load t x, ty, pos, af, g⟩ = some true) (hq : q.wl = false) (hx : evo env x = some (.optr h i)) (hs : os[h]? = some (.ob (plsOb e' e1 e2 F))) (hi : i < F.length)
    (h' : AOps P q l rest K (env.up d (.orow h i)) os) : AOps P q l (⟨some d, .load t x, ty, pos, af, g⟩ :: rest) K env os := AOps.qo hw (by rw [hq]; exact q_ldpl (ev_of hx) hs hi) h'
theorem w_stpl {t : TypeId} {zs : List Value} [TStruct P t 1 zs] {x y : Operand} {h i k : Nat} {e e1 e2 e3 e4 : TypeId} {F : Pls} {f : List (List Int)} (hx : evo env x = some (.optr h i)) (hs : os[h]? = some (.ob (plsOb e e1 e2 F))) (hy : evo env y = some (.agg [.own k])) (hk : os[k]? = some (.sls e3 e4 f)) (he : e3 = e1 ∧ e4 = e2) (hhk : (h == k) = false)
    (hi : i < F.length) (h' : AOps P .seq l rest K (env.mp (AV.noRow h)) (((os.map (AO.via (AV.noRow h) h)).set h (.ob (plsOb e e1 e2 (F.set i f)))).set k .dead)) :
    AOps P .seq l (⟨none, .store t x y, ty, pos, af, none⟩ :: rest) K env os := AOps.so (l_store_pl (ev_of hx) hs hi (ev_of hy) hk he hhk) h'
end
end Go.Proofs.Ytpllbdjobmgikaa
