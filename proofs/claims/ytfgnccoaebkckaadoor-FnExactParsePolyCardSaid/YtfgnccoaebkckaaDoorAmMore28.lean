/-
  Own slices of truth values; own rows that are only read from here on. No condition.
-/
import Derived.Test.YtfgnccoaebkckaaDoorAmMore11
import Derived.Test.YtfgnccoaebkckaaDoorAmMore10
import Derived.Test.YtfgnccoaebkckaaDoorAmMut
namespace Go.Proofs.YtfgnccoaebkckaaDoor
open Go Go.RowKit

/-- Cells that are truth values. -/
def bL (bs : List Bool) : List AV := bs.map AV.b
theorem bL_len (bs : List Bool) : (bL bs).length = bs.length := List.length_map _
theorem bL_set (bs : List Bool) (i : Nat) (b : Bool) : bL (bs.set i b) = (bL bs).set i (.b b) := by unfold bL; rw [List.map_set]
theorem bL_kill (h : Nat) (bs : List Bool) : (bL bs).map (AV.kill h) = bL bs := by unfold bL; rw [List.map_map]; rfl
theorem bL_lim (n : Nat) (bs : List Bool) : (bL bs).map (AV.lim n) = bL bs := by unfold bL; rw [List.map_map]; rfl
theorem bL_ren (s : List Nat) (bs : List Bool) : (bL bs).map (AV.ren s) = bL bs := by unfold bL; rw [List.map_map]; rfl
theorem bL_rin (k p j : Nat) (bs : List Bool) : (bL bs).map (AV.rin k p j) = bL bs := by unfold bL; rw [List.map_map]; rfl
theorem bL_get {bs : List Bool} {i : Nat} (h : i < bs.length) : (bL bs)[i]? = some (.b (bs.getD i false)) := by
  unfold bL; rw [List.getElem?_map, List.getD_eq_getElem?_getD, List.getElem?_eq_getElem h]; rfl

section
variable {P : Program} {env : Env} {os : List AO} {d : Option Tmp} {ty : TypeId} {pos : String} {af : Array Edge} {g : Option (Nat × Bool)}
theorem l_make_bool {t e : TypeId} {bytes : Nat} [ht : TSlice P t e] [he : TElem P e (.bool false) bytes] {x y : Operand} {n : Int} (hx : AV.ev env x = .i n) (hy : AV.ev env y = .i n) (h0 : 0 ≤ n) (hb : (bytes : Int) * n ≤ 281474976710656) (hm : n ≤ 9223372036854775807) :
    LOp P ⟨d, .makeSlice t x y, ty, pos, af, g⟩ env os (.own os.length) env (os ++ [.slr e (bL (List.replicate n.toNat false))]) := by
  refine l_new fun base w gs tm hr => ?_
  obtain ⟨ii, hi, hs, hz, hby⟩ := he.info
  obtain ⟨m, rfl⟩ := Int.eq_ofNat_of_zero_le h0
  have hb' : ii.bytes * m ≤ 281474976710656 := by
    have : ((bytes * m : Nat) : Int) ≤ 281474976710656 := by rw [Int.natCast_mul]; exact hb
    rw [hby]; omega
  obtain ⟨w', h1, h2, h3⟩ := run_make_full (P := P) w base t e ii _ 1 ht.und hi hz hs .i64 .i64 m hb' (by simp [maxLen]; omega) hr.hb
  have hbel : Below w.heap.size w w' := (Below.refl _ _).grown h3 (Nat.le_refl _) (fun k hk => by cases hk)
  have hlt := h2.lt w.heap.size rfl
  refine ⟨w', ⟨.slice (some ⟨w.heap.size, 0, none⟩) m m, w.heap.size, [w.heap.size], []⟩, by simp only [execOp, hr.evv hx, hr.evv hy, Sem.run_bind, h1, Result.andThen_ok, Sem.run_pure], hbel,
    fun b hb => by simp at hb; omega, fun ok gs' => ⟨List.replicate m (.bool false), ?_, by simp [bL_len], fun i => ?_, .inr ⟨rfl, rfl⟩⟩⟩
  · rw [show (Value.bool false).cells = #[.bool false] from rfl, toList_madeCells_one] at h2
    simpa using h2
  · rw [Int.toNat_natCast]
    by_cases hi : i < m
    · have e1 : (List.replicate m (Value.bool false)).getD i undef = .bool false := by simp [List.getD_eq_getElem?_getD, hi]
      have e2 : (bL (List.replicate m false)).getD i .any = .b false := by
        rw [List.getD_eq_getElem?_getD, bL_get (by simpa using hi)]; simp [List.getD_eq_getElem?_getD, hi]
      rw [e1, e2]; exact .val _
    · have e2 : (bL (List.replicate m false)).getD i .any = .any := by
        rw [List.getD_eq_getElem?_getD, List.getElem?_eq_none (by rw [bL_len]; simp; omega)]; rfl
      rw [e2]; exact .any _

/-- A truth value goes into its place. -/
theorem l_store_bool {t : TypeId} [ht : TCell P t] {x y : Operand} {h i : Nat} {e : TypeId} {bs : List Bool} {b : Bool} (hx : AV.ev env x = .optr h i) (hs : os[h]? = some (.slr e (bL bs))) (hi : i < bs.length) (hy : AV.ev env y = .b b) :
    LOp P ⟨d, .store t x y, ty, pos, af, g⟩ env os .any env (os.set h (.slr e (bL (bs.set i b)))) := by
  intro base w gs tm hr
  have hh := hr.ev x
  rw [hx] at hh
  generalize hv : Act.eval ⟨tm, []⟩ x = v at hh
  cases hh with
  | @optr _ _ gh hg =>
    obtain ⟨vs, a1, a2, a3, a4⟩ := hr.ho _ _ _ hg hs
    rw [bL_len] at a2
    obtain ⟨bk, cap, e1, e2, e3, e4⟩ := own_slice a1 (i := i) (by omega)
    have eb := a4.eq e2
    rw [e1] at a1
    have hst := a1.stored i (.bool b)
    have hcell : w.cell? ⟨gh.b, i, none⟩ = some (vs[i]'(by omega)) := by rw [eb, e3]; exact List.getElem?_eq_getElem (by omega)
    have hbl : gh.bl = [gh.b] := by
      rcases a4 with ⟨h1, _⟩ | ⟨_, h2⟩
      · rw [h1] at e2; cases e2
      · exact h2
    have hother : ∀ c, c < w.heap.size → c ∉ gh.bl → (w.setCell ⟨bk, i, none⟩ (.bool b)).heap[c]? = w.heap[c]? := fun c hc hcb => hst.2.block c hc (fun e' => hcb (by rw [hbl, eb]; simpa using e'))
    refine ⟨undef, w.setCell ⟨bk, i, none⟩ (.bool b), gs, .inr ⟨?_, rfl⟩, hr.upd hg hs trivial _ trivial hother hst.2.size fun kp => ?_, .any _, ?_⟩
    · have := run_store_cell (P := P) (t := t) (a := ⟨gh.b, i, none⟩) hcell (by rw [eb]; exact e4) (v := .bool b) rfl rfl
      rw [eb] at this hv
      simp only [execOp, hv, hr.evv hy, Sem.run_bind, this, Result.andThen_ok, Sem.run_pure]
    · refine ⟨vs.set i (.bool b), ?_, by rw [bL_len]; simpa using a2, fun j => ?_, a4⟩
      · rw [e1, List.length_set]
        exact hst.1
      · by_cases hj : i = j
        · subst hj
          have q1 : (vs.set i (.bool b)).getD i undef = .bool b := by rw [List.getD_eq_getElem?_getD, List.getElem?_set, if_pos rfl, if_pos (by omega)]; rfl
          have q2 : (bL (bs.set i b)).getD i .any = .b b := by
            rw [List.getD_eq_getElem?_getD, bL_get (by simpa using hi), List.getD_eq_getElem?_getD, List.getElem?_set, if_pos rfl, if_pos hi]; rfl
          rw [q1, q2]; exact .val _
        · have q1 : (vs.set i (.bool b)).getD j undef = vs.getD j undef := by rw [List.getD_eq_getElem?_getD, List.getElem?_set, if_neg hj, List.getD_eq_getElem?_getD]
          have q2 : (bL (bs.set i b)).getD j .any = (bL bs).getD j .any := by rw [bL_set, List.getD_eq_getElem?_getD, List.getElem?_set, if_neg hj, List.getD_eq_getElem?_getD]
          rw [q1, q2]
          exact (a3 j).mono kp (fun _ _ h => h)
    · have hbb : base ≤ bk := by rw [← eb]; exact (hr.hn _ _ _ hg hs (by simp) gh.b (by simp [hbl])).1
      exact (Below.refl _ _).setCell (p := ⟨bk, i, none⟩) hbb _
end

section
variable {P : Program} {env : Env} {os : List AO} {d : Tmp} {ty : TypeId} {pos : String} {af : Array Edge} {g : Option (Nat × Bool)} {l rest : List Oper} {K : APost} {q : Md}
theorem w_mkb {t e : TypeId} {bytes : Nat} [TSlice P t e] [TElem P e (.bool false) bytes] {x y : Operand} {n : Int} {m : Nat} (hx : evo env x = some (.i n)) (hy : evo env y = some (.i n)) (h0 : 0 ≤ n) (hb : (bytes : Int) * n ≤ 281474976710656) (h63 : n ≤ 9223372036854775807) (hm : os.length = m)
    (h' : AOps P .seq l rest K (env.up d (.own m)) (os ++ [.slr e (bL (List.replicate n.toNat false))])) : AOps P .seq l (⟨some d, .makeSlice t x y, ty, pos, af, none⟩ :: rest) K env os := AOps.lo (hm ▸ l_make_bool (ev_of hx) (ev_of hy) h0 hb h63) h'
theorem w_stb {t : TypeId} [TCell P t] {x y : Operand} {h i : Nat} {e : TypeId} {bs : List Bool} {b : Bool} (hx : evo env x = some (.optr h i)) (hs : os[h]? = some (.slr e (bL bs))) (hi : i < bs.length) (hy : evo env y = some (.b b))
    (h' : AOps P .seq l rest K env (os.set h (.slr e (bL (bs.set i b))))) : AOps P .seq l (⟨none, .store t x y, ty, pos, af, none⟩ :: rest) K env os := AOps.so (l_store_bool (ev_of hx) hs hi (ev_of hy)) h'
theorem w_ldbl {t : TypeId} [TCell P t] {x : Operand} {h i : Nat} {e : TypeId} {bs : List Bool} (hw : wantedA l env ⟨some d, .load t x, ty, pos, af, g⟩ = some true) (hq : q.wl = false) (hx : evo env x = some (.optr h i)) (hs : os[h]? = some (.slr e (bL bs))) (hi : i < bs.length)
    (h' : AOps P q l rest K (env.up d (.b (bs.getD i false))) os) : AOps P q l (⟨some d, .load t x, ty, pos, af, g⟩ :: rest) K env os := AOps.qo hw (by rw [hq]; exact q_load_slr (ev_of hx) hs (bL_get hi)) h'
theorem w_idxb {t e : TypeId} [TSlice P t e] [TCell P e] {x y : Operand} {h : Nat} {e' : TypeId} {bs : List Bool} {i : Int} (hw : wantedA l env ⟨some d, .indexAddr t x y, ty, pos, af, g⟩ = some true) (hx : evo env x = some (.own h)) (hs : os[h]? = some (.slr e' (bL bs))) (hy : evo env y = some (.i i)) (h0 : 0 ≤ i) (h1 : i < bs.length)
    (h' : AOps P q l rest K (env.up d (.optr h i.toNat)) os) : AOps P q l (⟨some d, .indexAddr t x y, ty, pos, af, g⟩ :: rest) K env os := w_idxo hw hx (.slr hs) hy h0 (by rw [bL_len]; exact h1) h'
theorem w_lenb {t e0 : TypeId} [TSlice P t e0] {x : Operand} {h : Nat} {e : TypeId} {bs : List Bool} (hw : wantedA l env ⟨some d, .call { callee := .builtin .len, args := #[x], argTypes := #[t] }, ty, pos, af, g⟩ = some true) (hx : evo env x = some (.own h)) (hs : os[h]? = some (.slr e (bL bs)))
    (h' : AOps P q l rest K (env.up d (.i bs.length)) os) : AOps P q l (⟨some d, .call { callee := .builtin .len, args := #[x], argTypes := #[t] }, ty, pos, af, g⟩ :: rest) K env os :=
  w_len hw hx (.slr hs) (by rw [bL_len]; exact h')
end

/-! ### Rows that are only read from here on -/
def AV.frz1 (k : Nat) (xss : List (List Int)) : AV → AV
  | .own h => if h = k then .intss xss else .own h
  | .optr h i => if h = k then .any else .optr h i
  | .osub h a b => if h = k then .any else .osub h a b
  | .orow h i => if h = k then .ints (xss.getD i []) else .orow h i
  | .orptr h i j => if h = k then .any else .orptr h i j
  | .agg _ => .any
  | .tup _ => .any
  | a => a
def AV.frz (k : Nat) (xss : List (List Int)) : AV → AV
  | .own h => if h = k then .intss xss else .own h
  | .optr h i => if h = k then .any else .optr h i
  | .osub h a b => if h = k then .any else .osub h a b
  | .orow h i => if h = k then .ints (xss.getD i []) else .orow h i
  | .orptr h i j => if h = k then .any else .orptr h i j
  | .agg l => .agg (l.map (AV.frz1 k xss))
  | .tup l => .tup (l.map (AV.frz1 k xss))
  | a => a
theorem bL_frz (k : Nat) (xss : List (List Int)) (bs : List Bool) : (bL bs).map (AV.frz k xss) = bL bs := by unfold bL; rw [List.map_map]; rfl
def AO.frz (k : Nat) (xss : List (List Int)) : AO → AO
  | .bx T avs => .bx T (avs.map (AV.frz k xss))
  | .slr e avs => .slr e (avs.map (AV.frz k xss))
  | o => o
theorem AO.frz_dead {k : Nat} {xss : List (List Int)} {o : AO} : o.frz k xss = .dead ↔ o = .dead := by cases o <;> simp [AO.frz]
theorem AO.frz_live {k : Nat} {xss : List (List Int)} {o : AO} : (o.frz k xss).live ↔ o.live := by cases o <;> exact Iff.rfl
/-- Own rows read as rows. -/
theorem sls_at {base : Nat} {w : World} {ok ok' : Nat → Prop} {gs : List Gh} {g : Gh} {e e2 : TypeId} {xss : List (List Int)} (h : RO base w ok gs g (.sls e e2 xss)) (hb : ∀ b, b ∈ g.bl → ok' b) :
    IntssAt w ok' g.v xss ∧ ∀ (i : Nat) u, g.rows[i]? = some u → IntsAt w ok' u (xss.getD i []) := by
  obtain ⟨vs, bs, mb, a1, a2, a3, a4, a5, a6, a7, a8⟩ := h
  have hrow : ∀ (i : Nat) u, vs[i]? = some u → IntsAt w ok' u (xss.getD i []) := by
    intro i u hu
    obtain ⟨r1, r2, r3⟩ := a5 i u hu
    refine ⟨RowAt.of_owns' (by rw [← List.length_map (f := Value.int .i64)] at r1; exact r1) fun b hbk => hb b ?_, r2⟩
    rw [a7]
    refine List.mem_append.2 (.inr (List.mem_flatten.2 ⟨bs.getD i [], ?_, ?_⟩))
    · have hi := (List.getElem?_eq_some_iff.1 hu).1
      rw [List.getD_eq_getElem?_getD, List.getElem?_eq_getElem (by omega)]
      exact List.getElem_mem _
    · rw [← r3, hbk]; simp
  refine ⟨⟨vs, RowAt.of_owns' a1 fun b hbk => hb b ?_, a2, hrow⟩, fun i u hu => hrow i u (by rw [← a4]; exact hu)⟩
  rw [a7]
  refine List.mem_append.2 (.inl ?_)
  rcases a6 with ⟨s1, _⟩ | ⟨s1, s2⟩
  · rw [s1] at hbk; cases hbk
  · rw [s1] at hbk; cases hbk; rw [s2]; simp

section
variable {w : World} {ok ok' : Nat → Prop} {gs : List Gh} {k : Nat} {xss : List (List Int)}
/-- What the frozen rows look like to their readers. -/
def FrzAt (w : World) (ok' : Nat → Prop) (gs : List Gh) (k : Nat) (xss : List (List Int)) : Prop := ∀ g, gs[k]? = some g → IntssAt w ok' g.v xss ∧ ∀ (i : Nat) u, g.rows[i]? = some u → IntsAt w ok' u (xss.getD i [])
theorem RV.frz1 (kp : Keeps ok ok' w w) (hf : FrzAt w ok' gs k xss) {v : Value} {a : AV} (hv : RV w ok gs v a) : RV w ok' gs v (a.frz1 k xss) := by
  cases hv with
  | any v => exact .any v
  | val v => exact .val v
  | ints h => exact .ints (h.mono kp)
  | intss h => exact .intss (h.mono kp)
  | @ro v r h => exact .ro (r.up kp h)
  | iptr h h1 h2 => exact .iptr (h.mono kp) h1 h2
  | iiptr h h1 h2 => exact .iiptr (h.mono kp) h1 h2
  | own h1 =>
    simp only [AV.frz1]; split
    · subst_vars; exact .intss (hf _ h1).1
    · exact .own h1
  | optr h1 =>
    simp only [AV.frz1]; split
    · exact .any _
    · exact .optr h1
  | osub h1 h2 h3 h4 =>
    simp only [AV.frz1]; split
    · exact .any _
    · exact .osub h1 h2 h3 h4
  | orow h1 h2 =>
    simp only [AV.frz1]; split
    · subst_vars; exact .ints ((hf _ h1).2 _ _ h2)
    · exact .orow h1 h2
  | orptr h1 h2 =>
    simp only [AV.frz1]; split
    · exact .any _
    · exact .orptr h1 h2
  | agg _ _ _ => exact .any _
  | tup _ _ => exact .any _
theorem getD_map_frz1 (l : List AV) (i : Nat) : (l.map (AV.frz1 k xss)).getD i .any = (l.getD i .any).frz1 k xss := getD_map_f _ rfl l i
theorem getD_map_frz (l : List AV) (i : Nat) : (l.map (AV.frz k xss)).getD i .any = (l.getD i .any).frz k xss := getD_map_f _ rfl l i
theorem RV.frz (kp : Keeps ok ok' w w) (hf : FrzAt w ok' gs k xss) {v : Value} {a : AV} (hv : RV w ok gs v a) : RV w ok' gs v (a.frz k xss) := by
  cases hv with
  | any v => exact .any v
  | val v => exact .val v
  | ints h => exact .ints (h.mono kp)
  | intss h => exact .intss (h.mono kp)
  | @ro v r h => exact .ro (r.up kp h)
  | iptr h h1 h2 => exact .iptr (h.mono kp) h1 h2
  | iiptr h h1 h2 => exact .iiptr (h.mono kp) h1 h2
  | own h1 =>
    simp only [AV.frz]; split
    · subst_vars; exact .intss (hf _ h1).1
    · exact .own h1
  | optr h1 =>
    simp only [AV.frz]; split
    · exact .any _
    · exact .optr h1
  | osub h1 h2 h3 h4 =>
    simp only [AV.frz]; split
    · exact .any _
    · exact .osub h1 h2 h3 h4
  | orow h1 h2 =>
    simp only [AV.frz]; split
    · subst_vars; exact .ints ((hf _ h1).2 _ _ h2)
    · exact .orow h1 h2
  | orptr h1 h2 =>
    simp only [AV.frz]; split
    · exact .any _
    · exact .orptr h1 h2
  | agg h1 h3 h2 => exact .agg (by simpa using h1) h3 fun i => by rw [getD_map_frz1]; exact (h2 i).frz1 kp hf
  | tup h1 h2 => exact .tup (by simpa using h1) fun i => by rw [getD_map_frz1]; exact (h2 i).frz1 kp hf
end
theorem Rel.freeze {base : Nat} {w : World} {gs : List Gh} {env : Env} {os : List AO} {tm : Array Value} (h : Rel base w gs env os tm) {k : Nat} {e e2 : TypeId} {xss : List (List Int)} (hs : os[k]? = some (.sls e e2 xss)) :
    Rel base w gs (env.mp (AV.frz k xss)) ((os.map (AO.frz k xss)).set k .dead) tm := by
  have hk : k < os.length := (List.getElem?_eq_some_iff.1 hs).1
  have oset : ∀ {i : Nat} {x : AO}, ((os.map (AO.frz k xss)).set k .dead)[i]? = some x → (i = k ∧ x = .dead) ∨ (i ≠ k ∧ ∃ y, os[i]? = some y ∧ x = y.frz k xss) := by
    intro i x hx
    rw [List.getElem?_set] at hx
    by_cases e : k = i
    · subst e
      rw [if_pos rfl, if_pos (by simpa using hk)] at hx
      cases hx; exact .inl ⟨rfl, rfl⟩
    · rw [if_neg e, List.getElem?_map] at hx
      cases hy : os[i]? with
      | none => rw [hy] at hx; cases hx
      | some y => rw [hy] at hx; cases hx; exact .inr ⟨fun e' => e e'.symm, y, rfl, rfl⟩
  have kp : Keeps (okOf gs os) (okOf gs ((os.map (AO.frz k xss)).set k .dead)) w w := by
    intro b hb _
    refine ⟨fun i x o' hx ho' hl => ?_, rfl⟩
    rcases oset ho' with ⟨_, rfl⟩ | ⟨_, y, hy, rfl⟩
    · exact hl.elim
    · exact hb i x y hx hy (AO.frz_live.1 hl)
  have hf : FrzAt w (okOf gs ((os.map (AO.frz k xss)).set k .dead)) gs k xss := by
    intro g hg
    refine sls_at (h.ho k g _ hg hs) fun b hb i x o' hx ho' hl hm => ?_
    rcases oset ho' with ⟨_, rfl⟩ | ⟨hik, y, hy, rfl⟩
    · exact hl.elim
    · exact h.hd k i g x _ _ (fun e => hik e.symm) hg hx hs hy (by simp) (AO.frz_live.1 hl).ne b hb hm
  refine ⟨h.hb, by simpa using h.hl, h.hs, fun i => ?_, ?_, ?_, ?_⟩
  · rw [Env.lk_mp _ rfl]
    exact (h.he i).frz kp hf
  · intro i g o' hg ho'
    rcases oset ho' with ⟨_, rfl⟩ | ⟨_, y, hy, rfl⟩
    · trivial
    · have hro := h.ho i g y hg hy
      cases y with
      | dead => trivial
      | sli e xs => exact hro
      | sls e e2 xs => exact hro
      | ob q => exact hro
      | keep n K => exact hro
      | slr e avs =>
        obtain ⟨vs, a1, a2, a3, a4⟩ := hro
        exact ⟨vs, a1, by simpa using a2, fun j => by rw [getD_map_frz]; exact (a3 j).frz kp hf, a4⟩
      | bx T avs =>
        obtain ⟨cs, c1, c2, c3, c4, c5, c6, c7⟩ := hro
        exact ⟨cs, c1, c2, c3, c4, by simpa using c5, c6, fun j => by rw [getD_map_frz]; exact (c7 j).frz kp hf⟩
  · intro i j g1 g2 o1 o2 hij hg1 hg2 ho1 ho2 hn1 hn2
    rcases oset ho1 with ⟨_, rfl⟩ | ⟨_, y, hy, rfl⟩
    · exact absurd rfl hn1
    · rcases oset ho2 with ⟨_, rfl⟩ | ⟨_, z, hz, rfl⟩
      · exact absurd rfl hn2
      · exact h.hd i j g1 g2 y z hij hg1 hg2 hy hz (fun e => hn1 (AO.frz_dead.2 e)) (fun e => hn2 (AO.frz_dead.2 e))
  · intro i g o' hg ho' hn
    rcases oset ho' with ⟨_, rfl⟩ | ⟨_, y, hy, rfl⟩
    · exact absurd rfl hn
    · exact h.hn i g y hg hy fun e => hn (AO.frz_dead.2 e)
theorem Turns.freeze {env : Env} {os : List AO} {k : Nat} {e e2 : TypeId} {xss : List (List Int)} (hs : os[k]? = some (.sls e e2 xss)) : Turns env os (env.mp (AV.frz k xss)) ((os.map (AO.frz k xss)).set k .dead) :=
  fun _ _ gs _ h => ⟨gs, h.freeze hs⟩
theorem handed0 {os : List AO} : Handed os [] [] := ⟨List.nodup_nil, fun _ _ hk => (by cases hk), rfl, fun _ ho => (by cases ho)⟩
end Go.Proofs.YtfgnccoaebkckaaDoor
