/-
  Lists of polynomials (structs of one slice): their parts, own lists of polynomials; parts of own slices handed back. No condition.
-/
import Derived.Test.YtpllbdjobmgikaaAmMore13
namespace Go.Proofs.Ytpllbdjobmgikaa
open Go Go.RowKit
section
variable {P : Program} {wl : Bool} {env : Env} {os : List AO} {d : Option Tmp} {ty : TypeId} {pos : String} {af : Array Edge} {g : Option (Nat × Bool)}

theorem q_faps {t : TypeId} [ht : TField P t 0 0] {x : Operand} {f : List (List Int)} (hx : AV.ev env x = .ro (polRo f)) :
    QOp P wl ⟨d, .fieldAddr t x 0, ty, pos, af, g⟩ env os (.ro (polRo f)) :=
  .of_run fun _ w gs tm hr => by
    obtain ⟨b, off, u, hv, hok, hc, hf⟩ := ro_at hr hx
    refine ⟨.pointer (some ⟨b, off, none⟩), .ro ⟨b, off, u, rfl, hok, hc, hf⟩, fun w' _ => ?_⟩
    obtain ⟨fs, fd, ii, h1, h2, h3, h4, h5, _⟩ := ht.fld
    simp [execOp, hv, Instr.fieldAt, run_underlying h1, h2, Instr.sureAddr, fieldPlace, sizeOf, typeInfo, h4, h5, h3, add_none]
theorem q_ldpt {t : TypeId} [ht : TCell P t] {x : Operand} {f : List (List Int)} (hx : AV.ev env x = .ro (polRo f)) :
    QOp P false ⟨d, .load t x, ty, pos, af, g⟩ env os (.intss f) :=
  .of_runb fun _ w gs tm hr => by
    obtain ⟨b, off, u, hv, hok, hc, hf⟩ := ro_at hr hx
    refine ⟨u, .intss hf, fun w' hw' => ?_⟩
    have hcell := below_cell hw' hc
    simp only [execOp, hv, Sem.run_bind, run_load_cell hcell, Result.andThen_ok, Sem.run_pure]

/-- A new own slice of whatever cells. -/
theorem l_slrnew {o : Oper} {e : TypeId} {avs : List AV} (hl : avs.length ≤ maxLen)
    (hrun : ∀ base w gs tm, Rel base w gs env os tm → ∃ vs : List Value, vs.length = avs.length ∧ (∀ i : Nat, RV w (okOf gs os) gs (vs.getD i undef) (avs.getD i .any)) ∧
      (execOp (Act.eval ⟨tm, []⟩) o).run P w = .ok (.value (.slice (some ⟨w.heap.size, 0, none⟩) avs.length avs.length)) (w.alloc (.cells vs.toArray e))) :
    LOp P o env os (.own os.length) env (os ++ [.slr e avs]) := by
  intro base w gs tm hr
  obtain ⟨vs, h1, h2, h3⟩ := hrun base w gs tm hr
  have hbel := below_alloc w (.cells vs.toArray e)
  have hno : AO.slr e avs ≠ .dead → ∀ b, b ∈ [w.heap.size] → w.heap.size ≤ b ∧ b < (w.alloc (.cells vs.toArray e)).heap.size := fun _ b hb => by simp at hb; simp [hb]
  let gn : Gh := ⟨.slice (some ⟨w.heap.size, 0, none⟩) avs.length avs.length, w.heap.size, [w.heap.size], []⟩
  have kp := keeps_new (g := gn) (o := .slr e avs) hr.hl hbel hno
  have hgs : ∀ (i : Nat) g', gs[i]? = some g' → (gs ++ [gn])[i]? = some g' := fun i g' e => by
    rw [List.getElem?_append_left (List.getElem?_eq_some_iff.1 e).1]; exact e
  refine ⟨_, _, gs ++ [gn], .inl h3, hr.new hbel _ _ hno ?_, ?_, hbel.mono hr.hb⟩
  · refine ⟨vs, ⟨by simp, .inr ⟨w.heap.size, vs.length, vs.toArray, by rw [h1], hr.hb, heap_alloc_new w _, Nat.le_refl _, by omega, by simp, by simp⟩⟩, h1, fun i => (h2 i).mono kp hgs, .inr ⟨rfl, rfl⟩⟩
  · have := RV.own (w := w.alloc (.cells vs.toArray e)) (ok := okOf (gs ++ [gn]) (os ++ [.slr e avs])) (len_new (gs := gs) (g := gn))
    rw [hr.hl] at this
    exact this
theorem one_of {w : World} {ok : Nat → Prop} {gs : List Gh} {u : Value} {a : AV} (h : RV w ok gs u (.agg [a])) : ∃ s, u = .agg #[s] ∧ RV w ok gs s a ∧ s.oneCell' = true := by
  cases h with
  | @agg vs _ a1 a2 a3 =>
    match vs, a1 with
    | [s], _ => exact ⟨s, rfl, by simpa using a3 0, a2 s (by simp)⟩
theorem l_bspl1 {t e : TypeId} {zs : List Value} [ht : TSlice P t e] [he : TStruct P e 1 zs] {x : Operand} {a : AV} (hx : AV.ev env x = .agg [a]) :
    LOp P ⟨d, .buildSlice t 1 #[(0, x)], ty, pos, af, g⟩ env os (.own os.length) env (os ++ [.slr e [a]]) :=
  l_slrnew (by simp [maxLen]) fun base w gs tm hr => by
    have h1 := hr.ev x
    rw [hx] at h1
    obtain ⟨s1, e1, r1, o1⟩ := one_of h1
    obtain ⟨ii, hi, hs, hz, hl⟩ := he.info
    obtain ⟨z, rfl⟩ : ∃ z, zs = [z] := by
      match zs, hl with
      | [z], _ => exact ⟨z, rfl⟩
    refine ⟨[s1], rfl, rv_list rfl fun i hi => ?_, ?_⟩
    · match i, hi with
      | 0, _ => exact r1
    · simp [execOp, Instr.buildSlice, run_underlying ht.und, sizeOf, typeInfo, zeroValue, hi, hs, hz, Instr.fill, newRow, e1, Value.cells, ar1]
theorem l_bspl2 {t e : TypeId} {zs : List Value} [ht : TSlice P t e] [he : TStruct P e 1 zs] {x y : Operand} {a b : AV} (hx : AV.ev env x = .agg [a]) (hy : AV.ev env y = .agg [b]) :
    LOp P ⟨d, .buildSlice t 2 #[(0, x), (1, y)], ty, pos, af, g⟩ env os (.own os.length) env (os ++ [.slr e [a, b]]) :=
  l_slrnew (by simp [maxLen]) fun base w gs tm hr => by
    have h1 := hr.ev x
    have h2 := hr.ev y
    rw [hx] at h1
    rw [hy] at h2
    obtain ⟨s1, e1, r1, o1⟩ := one_of h1
    obtain ⟨s2, e2, r2, o2⟩ := one_of h2
    obtain ⟨ii, hi, hs, hz, hl⟩ := he.info
    obtain ⟨z, rfl⟩ : ∃ z, zs = [z] := by
      match zs, hl with
      | [z], _ => exact ⟨z, rfl⟩
    refine ⟨[s1, s2], rfl, rv_list rfl fun i hi => ?_, ?_⟩
    · match i, hi with
      | 0, _ => exact r1
      | 1, _ => exact r2
    · simp [execOp, Instr.buildSlice, run_underlying ht.und, sizeOf, typeInfo, zeroValue, hi, hs, hz, Instr.fill, newRow, e1, e2, Value.cells, ar2]
theorem ar3' : Array.range 3 = #[0, 1, 2] := by apply Array.ext'; simp [List.range_succ]
theorem l_bspl3 {t e : TypeId} {zs : List Value} [ht : TSlice P t e] [he : TStruct P e 1 zs] {x y z : Operand} {a b c : AV} (hx : AV.ev env x = .agg [a]) (hy : AV.ev env y = .agg [b]) (hz0 : AV.ev env z = .agg [c]) :
    LOp P ⟨d, .buildSlice t 3 #[(0, x), (1, y), (2, z)], ty, pos, af, g⟩ env os (.own os.length) env (os ++ [.slr e [a, b, c]]) :=
  l_slrnew (by simp [maxLen]) fun base w gs tm hr => by
    have h1 := hr.ev x
    have h2 := hr.ev y
    have h3 := hr.ev z
    rw [hx] at h1
    rw [hy] at h2
    rw [hz0] at h3
    obtain ⟨s1, e1, r1, o1⟩ := one_of h1
    obtain ⟨s2, e2, r2, o2⟩ := one_of h2
    obtain ⟨s3, e3, r3, o3⟩ := one_of h3
    obtain ⟨ii, hi, hs, hz, hl⟩ := he.info
    obtain ⟨z, rfl⟩ : ∃ z, zs = [z] := by
      match zs, hl with
      | [z], _ => exact ⟨z, rfl⟩
    refine ⟨[s1, s2, s3], rfl, rv_list rfl fun i hi => ?_, ?_⟩
    · match i, hi with
      | 0, _ => exact r1
      | 1, _ => exact r2
      | 2, _ => exact r3
    · simp [execOp, Instr.buildSlice, run_underlying ht.und, sizeOf, typeInfo, zeroValue, hi, hs, hz, Instr.fill, newRow, e1, e2, e3, Value.cells, ar3']
/-- One polynomial is appended. -/
theorem src_one {y : Operand} {q : Nat} {e : TypeId} {a : AV} (hy : AV.ev env y = .own q) (hs : os[q]? = some (.slr e [a])) (ho : OneC env os a) : Src env os y [a] := by
  intro base w gs tm hr
  have hyv := hr.ev y
  rw [hy] at hyv
  generalize hv : Act.eval ⟨tm, []⟩ y = v at hyv
  cases hyv with
  | @own _ gh hg =>
    obtain ⟨vs, a1, a2, a3, a4⟩ := hr.ho _ _ _ hg hs
    match vs, a2 with
    | [u], _ =>
      have hu := a3 0
      simp only [List.getD_cons_zero] at hu
      obtain ⟨b, cap, e1, e2, e3, _⟩ := own_slice a1 (i := 0) (by simp)
      refine ⟨some ⟨b, 0, none⟩, cap, [u], e1, rfl, fun _ => ⟨⟨b, 0, none⟩, rfl, fun j u' hj => ?_⟩, fun u' hu' => ?_, a3⟩
      · have hj0 : j = 0 := by have := (List.getElem?_eq_some_iff.1 hj).1; simp at this; exact this
        subst hj0
        rw [add_none]
        rw [e3]; exact hj
      · simp at hu'; subst hu'
        exact (ho base w gs tm hr _ hu).1

/-! ### Read as a list of polynomials -/
/-- The element 'a' reads as the polynomial 'f'; the handles behind it. -/
inductive PlE (os : List AO) : AV → List (List Int) → List Nat → Prop
  | intss (f : List (List Int)) : PlE os (.intss f) f []
  | nil : PlE os (.val (.slice none 0 0)) [] []
  | sls {h : Nat} {e e2 : TypeId} {f : List (List Int)} : os[h]? = some (.sls e e2 f) → PlE os (.own h) f [h]
theorem PlE.at {base : Nat} {w : World} {gs : List Gh} {ok : Nat → Prop} {a : AV} {f : List (List Int)} {hs : List Nat} (he : PlE os a f hs) (hro : ∀ (h : Nat) g o, gs[h]? = some g → os[h]? = some o → RO base w (okOf gs os) gs g o)
    (hok : ∀ h, h ∈ hs → ∀ g o, gs[h]? = some g → os[h]? = some o → o ≠ .dead → ∀ b, b ∈ g.bl → ok b) (kp : Keeps (okOf gs os) ok w w) {u : Value} (hu : RV w (okOf gs os) gs u a) : IntssAt w ok u f := by
  cases he with
  | intss => cases hu with | intss h => exact h.mono kp
  | nil => cases hu; exact IntssAt.nil
  | @sls h e e2 _ h1 =>
    cases hu with
    | own hg =>
      obtain ⟨vs, bs, mb, a1, a2, a3, a4, a5, a6, a7, a8⟩ := hro _ _ _ hg h1
      have hb := hok h (by simp) _ _ hg h1 (by simp)
      refine ⟨vs, RowAt.of_owns' a1 fun b hbb => hb b ?_, a2, fun i u hu => ⟨RowAt.of_owns' (a5 i u hu).1 fun b hbb => hb b ?_, (a5 i u hu).2.1⟩⟩
      · rw [a7]
        rcases a6 with ⟨h6, _⟩ | ⟨h6, h6'⟩
        · rw [h6] at hbb; cases hbb
        · rw [h6] at hbb; cases hbb; simp [h6']
      · have hi := (List.getElem?_eq_some_iff.1 hu).1
        rw [a7]
        refine List.mem_append.2 (.inr (List.mem_flatten.2 ⟨bs.getD i [], ?_, by rw [← (a5 i u hu).2.2, hbb]; simp⟩))
        rw [List.getD_eq_getElem?_getD, List.getElem?_eq_getElem (by omega)]
        simp
def PlL (os : List AO) : List AV → List (List (List Int)) → List Nat → Prop
  | [], [], hs => hs = []
  | a :: avs, f :: fs, hs => ∃ h1 h2, PlE os a f h1 ∧ PlL os avs fs h2 ∧ hs = h1 ++ h2
  | _, _, _ => False
theorem pll_nil : PlL os [] [] [] := rfl
theorem pll_cons {a : AV} {avs : List AV} {f : List (List Int)} {fs : List (List (List Int))} {h1 hs : List Nat} (p1 : PlE os a f h1) (p2 : PlL os avs fs hs) : PlL os (a :: avs) (f :: fs) (h1 ++ hs) := ⟨h1, hs, p1, p2, rfl⟩
theorem PlL.get : ∀ {avs : List AV} {fs : List (List (List Int))} {hs : List Nat}, PlL os avs fs hs → avs.length = fs.length ∧ ∀ (i : Nat) a, avs[i]? = some a → ∃ h1, PlE os a (fs.getD i []) h1 ∧ ∀ h, h ∈ h1 → h ∈ hs
  | [], [], hs, _ => ⟨rfl, fun i a h => by simp at h⟩
  | a :: avs, f :: fs, hs, ⟨h1, h2, p1, p2, e⟩ => by
    have ih := PlL.get p2
    refine ⟨by simp [ih.1], fun i x hx => ?_⟩
    match i with
    | 0 =>
      simp at hx; subst hx
      exact ⟨h1, by simpa using p1, fun h hh => by rw [e]; simp [hh]⟩
    | i + 1 =>
      obtain ⟨h3, q1, q2⟩ := ih.2 i x (by simpa using hx)
      exact ⟨h3, by simpa using q1, fun h hh => by rw [e]; simp [q2 h hh]⟩
  | [], _ :: _, _, h => h.elim
  | _ :: _, [], _, h => h.elim
theorem reads_pll {m : Nat} {e : TypeId} {avs : List AV} {fs : List (List (List Int))} {hs : List Nat} (hm : os[m]? = some (.slr e avs)) (hl : PlL os avs fs hs) : Reads os (m :: hs) (.own m) (polsRo fs) := by
  intro base w gs ok hro hok kp v hv
  cases hv with
  | @own _ gm hg =>
    obtain ⟨vs, a1, a2, a3, a4⟩ := hro _ _ _ hg hm
    have hb := hok m (by simp) _ _ hg hm (by simp)
    have hg2 := hl.get
    refine ⟨vs, RowAt.of_owns' a1 fun b hbb => hb b (a4.mem hbb), by rw [a2]; exact hg2.1, fun i u hu => ?_⟩
    have hi := (List.getElem?_eq_some_iff.1 hu).1
    have h3 := a3 i
    rw [List.getD_eq_getElem?_getD, hu, List.getD_eq_getElem?_getD, List.getElem?_eq_getElem (show i < avs.length by omega)] at h3
    obtain ⟨h1, q1, q2⟩ := hg2.2 i avs[i] (List.getElem?_eq_getElem (by omega))
    exact q1.at hro (fun h hh => hok h (List.mem_cons_of_mem _ (q2 h hh))) kp h3

/-! ### Parts of own slices -/
theorem Ret1.osub {h off len : Nat} {e : TypeId} {xs : List Int} (hs : os[h]? = some (.sli e xs)) : Ret1 os (.osub h off len) (.osub 0 off len) [.sli e xs] := fun base w gs env tm hr u hu => by
  cases hu with
  | osub hg hp hc hm =>
    exact ⟨[_], .one (hr.ho _ _ _ hg hs) fun b hb => hr.hn _ _ _ hg hs (by simp) b hb, .osub rfl hp hc hm⟩
theorem q_slice3 {t e : TypeId} [ht : TSlice P t e] [he : TCell P e] {x y z : Operand} {h : Nat} {e' : TypeId} {xs : List Int} {n : Int} (hx : AV.ev env x = .own h) (hs : os[h]? = some (.sli e' xs)) (hy : AV.ev env y = .i n) (hz : AV.ev env z = .i n) (h0 : 0 ≤ n) (h1 : n ≤ xs.length) :
    QOp P wl ⟨d, .slice t x none (some y) (some z), ty, pos, af, g⟩ env os (.osub h 0 n.toNat) :=
  .of_run fun _ w gs tm hr => by
    have hh := hr.ev x
    rw [hx] at hh
    generalize hv : Act.eval ⟨tm, []⟩ x = v at hh
    cases hh with
    | @own _ gh hg =>
      obtain ⟨a1, a2, a3⟩ := hr.ho _ _ _ hg hs
      obtain ⟨a, cap, ev, hc, hm, ha⟩ := sliced_own a1 a3
      have e1 := elem_of (P := P) ht.und
      refine ⟨sliced a 0 n.toNat n.toNat 1, ?_, fun w' _ => ?_⟩
      · refine RV.osub hg (fun hp => ?_) (by omega) (by omega)
        rw [if_neg (by omega), ha (by omega)]
        simp [add_none]
      · have hrun := run_slice_hm (P := P) w' t a xs.length cap (by rw [e1]; exact ht.und) .i64 .i64 n n h0 (Int.le_refl _) (by omega)
        rw [e1, run_size] at hrun
        have hat := run_sliceAt_slice (P := P) w' t (.slice a xs.length cap) none (some (.int .i64 n)) (some (.int .i64 n)) (by rw [e1]; exact ht.und)
        simp only [execOp, hv, ev, hr.evv hy, hr.evv hz, Option.map_none, Option.map_some, Sem.run_bind, hat, hrun, Result.andThen_ok, Sem.run_pure]

end
section
variable {P : Program} {env : Env} {os : List AO} {d : Tmp} {ty : TypeId} {pos : String} {af : Array Edge} {g : Option (Nat × Bool)} {l rest : List Oper} {K : APost} {q : Md}
theorem w_faps {t : TypeId} [TField P t 0 0] {x : Operand} {f : List (List Int)} (hw : wantedA l env ⟨some d, .fieldAddr t x 0, ty, pos, af, g⟩ = some true) (hx : evo env x = some (.ro (polRo f)))
    (h' : AOps P q l rest K (env.up d (.ro (polRo f))) os) : AOps P q l (⟨some d, .fieldAddr t x 0, ty, pos, af, g⟩ :: rest) K env os := AOps.qo hw (q_faps (ev_of hx)) h'
theorem w_ldpt {t : TypeId} [TCell P t] {x : Operand} {f : List (List Int)} (hw : wantedA l env ⟨some d, .load t x, ty, pos, af, g⟩ = some true) (hq : q.wl = false) (hx : evo env x = some (.ro (polRo f)))
    (h' : AOps P q l rest K (env.up d (.intss f)) os) : AOps P q l (⟨some d, .load t x, ty, pos, af, g⟩ :: rest) K env os := AOps.qo hw (by rw [hq]; exact q_ldpt (ev_of hx)) h'
theorem w_slice3 {t e : TypeId} [TSlice P t e] [TCell P e] {x y z : Operand} {h : Nat} {e' : TypeId} {xs : List Int} {n : Int} (hw : wantedA l env ⟨some d, .slice t x none (some y) (some z), ty, pos, af, g⟩ = some true) (hx : evo env x = some (.own h)) (hs : os[h]? = some (.sli e' xs)) (hy : evo env y = some (.i n)) (hz : evo env z = some (.i n)) (h0 : 0 ≤ n) (h1 : n ≤ xs.length)
    (h' : AOps P q l rest K (env.up d (.osub h 0 n.toNat)) os) : AOps P q l (⟨some d, .slice t x none (some y) (some z), ty, pos, af, g⟩ :: rest) K env os := AOps.qo hw (q_slice3 (ev_of hx) hs (ev_of hy) (ev_of hz) h0 h1) h'
theorem w_bspl1 {t e : TypeId} {zs : List Value} [TSlice P t e] [TStruct P e 1 zs] {x : Operand} {a : AV} {m : Nat} (hx : evo env x = some (.agg [a])) (hm : os.length = m)
    (h' : AOps P .seq l rest K (env.up d (.own m)) (os ++ [.slr e [a]])) : AOps P .seq l (⟨some d, .buildSlice t 1 #[(0, x)], ty, pos, af, none⟩ :: rest) K env os := by
  subst hm; exact AOps.lo (l_bspl1 (ev_of hx)) h'
theorem w_bspl2 {t e : TypeId} {zs : List Value} [TSlice P t e] [TStruct P e 1 zs] {x y : Operand} {a b : AV} {m : Nat} (hx : evo env x = some (.agg [a])) (hy : evo env y = some (.agg [b])) (hm : os.length = m)
    (h' : AOps P .seq l rest K (env.up d (.own m)) (os ++ [.slr e [a, b]])) : AOps P .seq l (⟨some d, .buildSlice t 2 #[(0, x), (1, y)], ty, pos, af, none⟩ :: rest) K env os := by
  subst hm; exact AOps.lo (l_bspl2 (ev_of hx) (ev_of hy)) h'
theorem w_bspl3 {t e : TypeId} {zs : List Value} [TSlice P t e] [TStruct P e 1 zs] {x y z : Operand} {a b c : AV} {m : Nat} (hx : evo env x = some (.agg [a])) (hy : evo env y = some (.agg [b])) (hz : evo env z = some (.agg [c])) (hm : os.length = m)
    (h' : AOps P .seq l rest K (env.up d (.own m)) (os ++ [.slr e [a, b, c]])) : AOps P .seq l (⟨some d, .buildSlice t 3 #[(0, x), (1, y), (2, z)], ty, pos, af, none⟩ :: rest) K env os := by
  subst hm; exact AOps.lo (l_bspl3 (ev_of hx) (ev_of hy) (ev_of hz)) h'
theorem w_apppl {t e : TypeId} {bytes : Nat} {z : Value} [TSlice P t e] [TElem P e (.agg #[z]) bytes] {x y : Operand} {p h : Nat} {e' e1 : TypeId} {avs : List AV} {a : AV}
    (hx : evo env x = some (.own p)) (hs : os[p]? = some (.slr e' avs)) (hee : e' = e) (hy : evo env y = some (.own h)) (hh : os[h]? = some (.slr e1 [a])) (hone : OneC env os a) (hb : (avs.length + 1) * bytes ≤ 140737488355328) (hk : avs.map (AV.kill p) = avs) (hk2 : [a].map (AV.kill p) = [a]) (hzc : (Value.agg #[z]).cells.size = 1)
    (h' : AOps P .seq l rest K (Env.up (env.mp (AV.kill p)) d (.own p)) ((os.map (AO.kill p)).set p (.slr e (avs ++ [a])))) :
    AOps P .seq l (⟨some d, .call { callee := .builtin .append, args := #[x, y], argTypes := #[t, t] }, ty, pos, af, none⟩ :: rest) K env os := AOps.lo (l_append_src (ev_of hx) hs hee (src_one (ev_of hy) hh hone) hb hk hk2 hzc) h'
end
end Go.Proofs.Ytpllbdjobmgikaa
