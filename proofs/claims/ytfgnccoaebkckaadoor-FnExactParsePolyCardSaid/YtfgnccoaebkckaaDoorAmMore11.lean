/-
  Own slices of rows put together: parts of own slices of rows, appends of them; a cell of a row is written; functions that are handed an own slice of rows and hand one back in its place. No condition.
-/
import Derived.Test.YtfgnccoaebkckaaDoorAmMore10
namespace Go.Proofs.YtfgnccoaebkckaaDoor
open Go Go.RowKit

section
variable {P : Program} {env : Env} {os : List AO} {d : Option Tmp} {ty : TypeId} {pos : String} {af : Array Edge} {g : Option (Nat × Bool)} {wl : Bool}

theorem sls_slice {base : Nat} {w : World} {ok : Nat → Prop} {gs : List Gh} {gh : Gh} {e e2 : TypeId} {xss : List (List Int)} (h : RO base w ok gs gh (.sls e e2 xss)) : ∃ a cap, gh.v = .slice a xss.length cap ∧ xss.length ≤ cap ∧ cap ≤ maxLen ∧
    (0 < xss.length → a = some ⟨gh.b, 0, none⟩) ∧ gh.rows.length = xss.length ∧ (∀ (i : Nat) u, gh.rows[i]? = some u → w.cell? ⟨gh.b, i, none⟩ = some u ∧ ∃ ua n c, u = .slice ua n c) := by
  obtain ⟨vs, bs, mb, a1, a2, a3, a4, a5, a6, a7, a8⟩ := h
  obtain ⟨a, cap, q1, q2, q3, q4⟩ := RowAt.of_owns a1
  rw [a2] at q1 q2 q4
  have hblk : ∀ b off, a = some ⟨b, off, none⟩ → 0 < xss.length → b = gh.b ∧ off = 0 := by
    intro b off ha hp
    obtain ⟨b', cap', r1, r2, _, _⟩ := own_slice a1 (i := 0) (by omega)
    rw [q1, ha] at r1
    simp only [Value.slice.injEq, Option.some.injEq, Addr.mk.injEq, and_true] at r1
    obtain ⟨⟨rfl, rfl⟩, _⟩ := r1
    rcases a6 with ⟨s1, _⟩ | ⟨s1, _⟩
    · rw [s1] at r2; cases r2
    · rw [s1] at r2; cases r2; exact ⟨rfl, rfl⟩
  refine ⟨a, cap, q1, q2, q3, fun hp => ?_, by rw [a4, a2], fun i u hu => ?_⟩
  · obtain ⟨b, off, r1, _, _⟩ := q4 hp
    obtain ⟨rfl, rfl⟩ := hblk b off r1 hp
    exact r1
  · rw [a4] at hu
    have hi := (List.getElem?_eq_some_iff.1 hu).1
    obtain ⟨b, off, r1, _, r3⟩ := q4 (by omega)
    obtain ⟨rfl, rfl⟩ := hblk b off r1 (by omega)
    have := r3 i u hu
    rw [Nat.zero_add] at this
    obtain ⟨ua, uc, eu⟩ := ownsRow_slice (a5 i u hu).1
    exact ⟨this, ua, _, uc, eu⟩

theorem q_sls_hi {t e : TypeId} [ht : TSlice P t e] [he : TCell P e] {x y : Operand} {h : Nat} {e' e2 : TypeId} {xss : List (List Int)} {n : Int} (hx : AV.ev env x = .own h) (hs : os[h]? = some (.sls e' e2 xss)) (hy : AV.ev env y = .i n) (h0 : 0 ≤ n) (h1 : n ≤ xss.length) :
    QOp P wl ⟨d, .slice t x none (some y) none, ty, pos, af, g⟩ env os (.osub h 0 n.toNat) :=
  .of_run fun _ w gs tm hr => by
    have hh := hr.ev x
    rw [hx] at hh
    generalize hv : Act.eval ⟨tm, []⟩ x = v at hh
    cases hh with
    | @own _ gh hg =>
      obtain ⟨a, cap, ev, hc, hm, ha, _⟩ := sls_slice (hr.ho _ _ _ hg hs)
      have e1 := elem_of (P := P) ht.und
      refine ⟨sliced a 0 n.toNat cap 1, ?_, fun w' _ => ?_⟩
      · refine RV.osub hg (fun hp => ?_) (by omega) (by omega)
        rw [if_neg (by omega), ha (by omega)]
        simp [add_none]
      · have hrun := run_slice_h (P := P) w' t a xss.length cap (by rw [e1]; exact ht.und) .i64 n h0 (by omega)
        rw [e1, run_size] at hrun
        have hat := run_sliceAt_slice (P := P) w' t (.slice a xss.length cap) none (some (.int .i64 n)) none (by rw [e1]; exact ht.und)
        simp only [execOp, hv, ev, hr.evv hy, Option.map_none, Option.map_some, Sem.run_bind, hat, hrun, Result.andThen_ok, Sem.run_pure]

theorem q_sls_lo {t e : TypeId} [ht : TSlice P t e] [he : TCell P e] {x y : Operand} {h : Nat} {e' e2 : TypeId} {xss : List (List Int)} {n : Int} (hx : AV.ev env x = .own h) (hs : os[h]? = some (.sls e' e2 xss)) (hy : AV.ev env y = .i n) (h0 : 0 ≤ n) (h1 : n ≤ xss.length) :
    QOp P wl ⟨d, .slice t x (some y) none none, ty, pos, af, g⟩ env os (.osub h n.toNat (xss.length - n.toNat)) :=
  .of_run fun _ w gs tm hr => by
    have hh := hr.ev x
    rw [hx] at hh
    generalize hv : Act.eval ⟨tm, []⟩ x = v at hh
    cases hh with
    | @own _ gh hg =>
      obtain ⟨a, cap, ev, hc, hm, ha, _⟩ := sls_slice (hr.ho _ _ _ hg hs)
      have e1 := elem_of (P := P) ht.und
      refine ⟨sliced a n.toNat xss.length cap 1, ?_, fun w' _ => ?_⟩
      · refine RV.osub hg (fun hp => ?_) (by omega) (by omega)
        rw [if_neg (by omega), ha (by omega)]
        simp [add_none]
      · have hrun := run_slice_l (P := P) w' t a xss.length cap (by rw [e1]; exact ht.und) .i64 n h0 h1
        rw [e1, run_size] at hrun
        have hat := run_sliceAt_slice (P := P) w' t (.slice a xss.length cap) (some (.int .i64 n)) none none (by rw [e1]; exact ht.und)
        simp only [execOp, hv, ev, hr.evv hy, Option.map_none, Option.map_some, Sem.run_bind, hat, hrun, Result.andThen_ok, Sem.run_pure]

/-! ### Sources of appends -/
/-- The slice value v reads as cells of these abstract values. -/
def SrcAt (w : World) (ok : Nat → Prop) (gs : List Gh) (v : Value) (new : List AV) : Prop :=
  ∃ (pa : Option Addr) (cap : Nat) (news : List Value), v = .slice pa new.length cap ∧ news.length = new.length ∧ (0 < new.length → ∃ a, pa = some a ∧ ∀ (j : Nat) u, news[j]? = some u → w.cell? (a.add j) = some u) ∧ (∀ u ∈ news, u.oneCell' = true) ∧
    ∀ i : Nat, RV w ok gs (news.getD i undef) (new.getD i .any)
def Src (env : Env) (os : List AO) (y : Operand) (new : List AV) : Prop := ∀ base w gs tm, Rel base w gs env os tm → SrcAt w (okOf gs os) gs (Act.eval ⟨tm, []⟩ y) new

theorem range_get (off len j : Nat) (k : Nat) : ((List.range' off len).map (AV.orow k)).getD j .any = if j < len then .orow k (off + j) else .any := by
  simp only [List.getD_eq_getElem?_getD, List.getElem?_map]
  by_cases h : j < len
  · rw [if_pos h, List.getElem?_range' (by omega)]; simp
  · rw [if_neg h, List.getElem?_eq_none (by simp; omega)]; rfl

theorem src_sub {y : Operand} {h off len : Nat} {e e2 : TypeId} {xss : List (List Int)} (hy : AV.ev env y = .osub h off len) (hs : os[h]? = some (.sls e e2 xss)) (hle : off + len ≤ xss.length) : Src env os y ((List.range' off len).map (AV.orow h)) := by
  intro base w gs tm hr
  have hyv := hr.ev y
  rw [hy] at hyv
  generalize hv : Act.eval ⟨tm, []⟩ y = v at hyv
  cases hyv with
  | @osub _ _ _ cap p gh hg hp hc hm =>
    obtain ⟨_, _, _, _, _, _, q5, q6⟩ := sls_slice (hr.ho _ _ _ hg hs)
    refine ⟨p, cap, (gh.rows.drop off).take len, by simp, by simp; omega, fun h0 => ?_, fun u hu => ?_, fun i => ?_⟩
    · simp at h0
      refine ⟨_, hp h0, fun j u hj => ?_⟩
      rw [List.getElem?_take] at hj
      split at hj
      · rw [List.getElem?_drop] at hj
        rw [add_none]
        exact (q6 _ _ hj).1
      · cases hj
    · obtain ⟨j, hj⟩ := List.getElem?_of_mem (List.mem_of_mem_drop (List.mem_of_mem_take hu))
      obtain ⟨_, ua, n, c, rfl⟩ := q6 _ _ hj
      rfl
    · rw [range_get]
      by_cases hi : i < len
      · rw [if_pos hi]
        have hlt : off + i < gh.rows.length := by omega
        have e1 : ((gh.rows.drop off).take len).getD i undef = gh.rows[off + i] := by
          rw [List.getD_eq_getElem?_getD, List.getElem?_take, if_pos hi, List.getElem?_drop, List.getElem?_eq_getElem hlt]; rfl
        rw [e1]
        exact .orow hg (List.getElem?_eq_getElem hlt)
      · rw [if_neg hi]; exact .any _

/-- Cells that hold rows. -/
def RowsOk (os : List AO) (avs : List AV) : Prop := ∀ a ∈ avs, (∃ k i e e2 xss, a = .orow k i ∧ os[k]? = some (AO.sls e e2 xss)) ∨ ∃ k e ys, a = .own k ∧ os[k]? = some (AO.sli e ys)
theorem rowsOk_nil {os : List AO} : RowsOk os [] := fun a h => by cases h
theorem rowsOk_cons {os : List AO} {k : Nat} {e : TypeId} {ys : List Int} {avs : List AV} (hk : os[k]? = some (.sli e ys)) (h : RowsOk os avs) : RowsOk os (.own k :: avs) := fun a ha => by
  rcases List.mem_cons.1 ha with rfl | ha
  · exact .inr ⟨k, e, ys, rfl, hk⟩
  · exact h a ha
theorem rowsOk_map {os : List AO} {k : Nat} {e e2 : TypeId} {xss : List (List Int)} {l : List Nat} (hk : os[k]? = some (.sls e e2 xss)) : RowsOk os (l.map (AV.orow k)) := fun a ha => by
  obtain ⟨i, _, rfl⟩ := List.mem_map.1 ha
  exact .inl ⟨k, i, e, e2, xss, rfl, hk⟩
theorem rowsOk_app {os : List AO} {a b : List AV} (ha : RowsOk os a) (hb : RowsOk os b) : RowsOk os (a ++ b) := fun x hx => by
  rcases List.mem_append.1 hx with hx | hx
  · exact ha x hx
  · exact hb x hx

theorem rows_one {base : Nat} {w : World} {gs : List Gh} {tm : Array Value} (hr : Rel base w gs env os tm) {avs : List AV} (h : RowsOk os avs) {i : Nat} {u : Value} {a : AV} (ha : avs[i]? = some a) (hu : RV w (okOf gs os) gs u a) : u.oneCell' = true := by
  rcases h a (List.mem_of_getElem? ha) with ⟨k, j, e, e2, xss, rfl, hk⟩ | ⟨k, e, ys, rfl, hk⟩
  · cases hu with
    | orow hg hrow =>
      obtain ⟨_, _, _, _, _, _, _, q6⟩ := sls_slice (hr.ho _ _ _ hg hk)
      obtain ⟨_, ua, n, c, rfl⟩ := q6 _ _ hrow
      rfl
  · cases hu with
    | own hg =>
      obtain ⟨a1, _⟩ := hr.ho _ _ _ hg hk
      obtain ⟨ua, uc, eu⟩ := ownsRow_slice a1
      rw [eu]; rfl

theorem src_slr {y : Operand} {q : Nat} {e : TypeId} {avs : List AV} (hy : AV.ev env y = .own q) (hs : os[q]? = some (.slr e avs)) (hok : RowsOk os avs) : Src env os y avs := by
  intro base w gs tm hr
  have hyv := hr.ev y
  rw [hy] at hyv
  generalize hv : Act.eval ⟨tm, []⟩ y = v at hyv
  cases hyv with
  | @own _ gh hg =>
    obtain ⟨vs, a1, a2, a3, a4⟩ := hr.ho _ _ _ hg hs
    obtain ⟨a, cap, q1, q2, q3, q4⟩ := RowAt.of_owns a1
    rw [a2] at q1 q2 q4
    refine ⟨a, cap, vs, q1, a2, fun h0 => ?_, fun u hu => ?_, a3⟩
    · obtain ⟨b, off, r1, _, r3⟩ := q4 h0
      exact ⟨_, r1, fun j u hj => by rw [add_none]; exact r3 j u hj⟩
    · obtain ⟨j, hj⟩ := List.getElem?_of_mem hu
      have hjl := (List.getElem?_eq_some_iff.1 hj).1
      have := a3 j
      rw [List.getD_eq_getElem?_getD, hj, List.getD_eq_getElem?_getD, List.getElem?_eq_getElem (by omega)] at this
      exact rows_one hr hok (List.getElem?_eq_getElem (by omega)) this

set_option maxHeartbeats 1000000 in
theorem l_append_src {t e : TypeId} {bytes : Nat} {z0 : Value} [ht : TSlice P t e] [he : TElem P e z0 bytes] {x y : Operand} {h : Nat} {e' : TypeId} {avs new : List AV} (hx : AV.ev env x = .own h) (hs : os[h]? = some (.slr e' avs)) (hee : e' = e)
    (hy : Src env os y new) (hb : (avs.length + new.length) * bytes ≤ 140737488355328) (hk1 : avs.map (AV.kill h) = avs) (hk2 : new.map (AV.kill h) = new) (hzc : z0.cells.size = 1 := by rfl) :
    LOp P ⟨d, .call { callee := .builtin .append, args := #[x, y], argTypes := #[t, t] }, ty, pos, af, g⟩ env os (.own h) (env.mp (AV.kill h)) ((os.map (AO.kill h)).set h (.slr e (avs ++ new))) := by
  subst hee
  intro base w gs tm hr
  have hxv := hr.ev x
  rw [hx] at hxv
  obtain ⟨pa, cap, news, hu, hnl, hcells, hone, hrvn⟩ := hy base w gs tm hr
  generalize hv : Act.eval ⟨tm, []⟩ x = v at hxv
  cases hxv with
  | @own _ gh hg =>
    obtain ⟨vs, a1, a2, a3, a4⟩ := hr.ho _ _ _ hg hs
    obtain ⟨ii, hi, hsz, hz, hby⟩ := he.info
    have hbase : base ≤ w.heap.size := hr.hb
    have key : ∃ v' w', (Builtin.append_ #[t, t] ty #[gh.v, .slice pa new.length cap]).run P w = .ok v' w' ∧ w'.ownsRow base e' 1 v' (vs.length + new.length) (vs ++ news) ∧ w.grownBy w' gh.v.ownBlock ∧
        (v'.ownBlock = gh.v.ownBlock ∨ v'.ownBlock = some w.heap.size) := by
      by_cases h0 : new.length = 0
      · have e0 : news = [] := List.length_eq_zero_iff.1 (by omega)
        rw [h0, e0]
        exact ⟨gh.v, w, run_append_none ht.und hi a1 pa cap, by simpa using a1, ⟨rfl, rfl, rfl, Nat.le_refl _, fun _ _ _ => rfl⟩, .inl rfl⟩
      · obtain ⟨a, rfl, hc⟩ := hcells (by omega)
        have h64 : vs.length + new.length ≤ maxLen := by
          have hb0 := he.pos
          have : avs.length + new.length ≤ (avs.length + new.length) * bytes := Nat.le_mul_of_pos_right _ hb0
          simp only [maxLen]; omega
        obtain ⟨v', w', r1, r2, r3, _, r5⟩ := run_append_own_at (P := P) w base t ty e' ii _ 1 bytes ht.und hi hz hsz hby hzc (by omega) gh.v vs.length vs a1 a new.length cap news (by omega) hc hone h64 (by rw [a2]; exact hb) hbase
        exact ⟨v', w', r1, r2, r3, r5⟩
    obtain ⟨v', w', r1, r2, r3, r5⟩ := key
    have hgb : ∀ b, b ∉ gh.bl → some b ≠ gh.v.ownBlock := fun b hb e => hb (a4.mem e.symm)
    let g' : Gh := ⟨v', v'.ownBlock.getD 0, v'.ownBlock.toList, gh.rows⟩
    have hgb' : GB g' := by
      show (v'.ownBlock = none ∧ v'.ownBlock.toList = []) ∨ (v'.ownBlock = some (v'.ownBlock.getD 0) ∧ v'.ownBlock.toList = [v'.ownBlock.getD 0])
      cases v'.ownBlock with
      | none => exact .inl ⟨rfl, rfl⟩
      | some b => exact .inr ⟨rfl, rfl⟩
    have hlt : ∀ b, v'.ownBlock = some b → b < w'.heap.size := by
      intro b hb
      rcases r2.2 with ⟨e1, _⟩ | ⟨gg, cc, cur, e1, _, hgg, _⟩
      · rw [e1] at hb; cases hb
      · rw [e1] at hb; cases hb; exact (Array.getElem?_eq_some_iff.1 hgg).1
    refine ⟨v', w', gs.set h g', .inl ?_, hr.turn hg hs trivial g' (.slr e' (avs ++ new)) (fun b hb hn => r3.block b hb (hgb b hn)) r3.size ?_ (fun i v hv => hv) ?_, ?_, ?_⟩
    · simp only [execOp, resolve, invoke, builtin, Sem.run_bind, Sem.run_pure, Result.andThen_ok, List.map_toArray, List.map_cons, List.map_nil, hv, hu, r1]
    · intro b hb
      have hb' : v'.ownBlock = some b := by
        have hb2 : b ∈ v'.ownBlock.toList := hb
        cases hvb : v'.ownBlock with
        | none => rw [hvb] at hb2; simp at hb2
        | some c => rw [hvb] at hb2; simp at hb2; rw [hb2]
      refine ⟨?_, hlt b hb'⟩
      rcases r5 with r5 | r5
      · left; rw [hb'] at r5; exact a4.mem r5.symm
      · right; rw [hb'] at r5; cases r5; exact Nat.le_refl _
    · intro kp tn
      refine ⟨vs ++ news, by rw [List.length_append, hnl]; exact r2, by simp [a2, hnl], fun j => ?_, hgb'⟩
      by_cases hj : j < vs.length
      · have e1 : (vs ++ news).getD j undef = vs.getD j undef := by simp only [List.getD_eq_getElem?_getD]; rw [List.getElem?_append_left hj]
        have e2 : (avs ++ new).getD j .any = (avs.getD j .any).kill h := by
          rw [← getD_map_kill, hk1]
          simp only [List.getD_eq_getElem?_getD]; rw [List.getElem?_append_left (by omega)]
        rw [e1, e2]
        exact (a3 j).kill kp tn
      · have e1 : (vs ++ news).getD j undef = news.getD (j - vs.length) undef := by simp only [List.getD_eq_getElem?_getD]; rw [List.getElem?_append_right (by omega)]
        have e2 : (avs ++ new).getD j .any = (new.getD (j - vs.length) .any).kill h := by
          rw [← getD_map_kill, hk2]
          simp only [List.getD_eq_getElem?_getD]; rw [List.getElem?_append_right (by omega), a2]
        rw [e1, e2]
        exact (hrvn _).kill kp tn
    · have hk : h < gs.length := (List.getElem?_eq_some_iff.1 hg).1
      exact RV.own (g := g') (by simp [hk])
    · refine ⟨r3.os, r3.tape, r3.output, r3.size, fun b hb => r3.block b (by have := hr.hb; omega) (hgb b fun hm => ?_)⟩
      have := (hr.hn _ _ _ hg hs (by simp) b hm).1
      omega

/-- A literal slice of one own row, as an own slice. -/
theorem l_bslr1 {t e : TypeId} {bytes : Nat} [ht : TSlice P t e] [he : TElem P e (.slice none 0 0) bytes] {x : Operand} {k : Nat} {e3 : TypeId} {ys : List Int} (hx : AV.ev env x = .own k) (hk : os[k]? = some (.sli e3 ys)) :
    LOp P ⟨d, .buildSlice t 1 #[(0, x)], ty, pos, af, g⟩ env os (.own os.length) env (os ++ [.slr e [.own k]]) := by
  intro base w gs tm hr
  have hxv := hr.ev x
  rw [hx] at hxv
  generalize hv : Act.eval ⟨tm, []⟩ x = v at hxv
  cases hxv with
  | @own _ gk hgk =>
    obtain ⟨b1, b2, b3⟩ := hr.ho _ _ _ hgk hk
    obtain ⟨ua, uc, eu⟩ := ownsRow_slice b1
    obtain ⟨ii, hi, hs, hz, hby⟩ := he.info
    have hbel := below_alloc w (.cells [gk.v].toArray e)
    have hlt : w.heap.size < (w.alloc (.cells [gk.v].toArray e)).heap.size := by simp
    have hno : AO.slr e [.own k] ≠ .dead → ∀ b, b ∈ [w.heap.size] → w.heap.size ≤ b ∧ b < (w.alloc (.cells [gk.v].toArray e)).heap.size := fun _ b hb => by simp at hb; omega
    let gn : Gh := ⟨.slice (some ⟨w.heap.size, 0, none⟩) 1 1, w.heap.size, [w.heap.size], []⟩
    have hgs : ∀ (i : Nat) g', gs[i]? = some g' → (gs ++ [gn])[i]? = some g' := fun i g' e => by
      rw [List.getElem?_append_left (List.getElem?_eq_some_iff.1 e).1]; exact e
    refine ⟨.slice (some ⟨w.heap.size, 0, none⟩) 1 1, _, gs ++ [gn], .inl ?_, hr.new hbel _ _ hno ?_, ?_, hbel.mono hr.hb⟩
    · simp [execOp, Instr.buildSlice, run_underlying ht.und, sizeOf, typeInfo, zeroValue, hi, hs, hz, Instr.fill, newRow, hv, eu, Value.cells, ar1]
    · refine ⟨[gk.v], ⟨rfl, .inr ⟨w.heap.size, 1, _, rfl, hr.hb, heap_alloc_new w _, Nat.le_refl _, by simp [maxLen], by simp, by simp⟩⟩, rfl, fun i => ?_, .inr ⟨rfl, rfl⟩⟩
      match i with
      | 0 => exact .own (hgs _ _ hgk)
      | i + 1 => exact .any _
    · have := RV.own (w := w.alloc (.cells [gk.v].toArray e)) (ok := okOf (gs ++ [gn]) (os ++ [.slr e [.own k]])) (len_new (gs := gs) (g := gn))
      rw [hr.hl] at this
      exact this

theorem l_bslr0 {t e : TypeId} {bytes : Nat} [ht : TSlice P t e] [he : TElem P e (.slice none 0 0) bytes] : LOp P ⟨d, .buildSlice t 0 #[], ty, pos, af, g⟩ env os (.own os.length) env (os ++ [.slr e []]) := l_bsx0 0


/-- A cell of a row is written. -/
theorem l_store_orptr {t : TypeId} [ht : TCell P t] {x y : Operand} {h i j : Nat} {e e2 : TypeId} {xss : List (List Int)} {n : Int} (hx : AV.ev env x = .orptr h i j) (hs : os[h]? = some (.sls e e2 xss)) (hi : i < xss.length) (hj : j < (xss.getD i []).length) (hy : AV.ev env y = .i n) (hn : inI n) :
    LOp P ⟨d, .store t x y, ty, pos, af, g⟩ env os .any env (os.set h (.sls e e2 (xss.set i ((xss.getD i []).set j n)))) := by
  intro base w gs tm hr
  have hh := hr.ev x
  rw [hx] at hh
  generalize hv : Act.eval ⟨tm, []⟩ x = v at hh
  cases hh with
  | @orptr _ _ _ blk m c gh hg hrow =>
    obtain ⟨vs, bs, mb, a1, a2, a3, a4, a5, a6, a7, a8⟩ := hr.ho _ _ _ hg hs
    rw [a4] at hrow
    obtain ⟨r1, r2, r3⟩ := a5 _ _ hrow
    have hib : i < bs.length := by omega
    obtain ⟨b, cap, e1, e2', e3', e4⟩ := own_slice r1 (i := j) (by simpa using hj)
    simp only [Value.slice.injEq, Option.some.injEq, Addr.mk.injEq, and_true] at e1
    obtain ⟨rfl, em, rfl⟩ := e1
    have hst := r1
    rw [em] at hst
    have hst := hst.stored j (.int .i64 n)
    have hbi : blk ∈ bs.getD i [] := by rw [← r3]; simp [Value.ownBlock]
    have hbf : blk ∈ bs.flatten := List.mem_flatten.2 ⟨bs.getD i [], by rw [List.getD_eq_getElem?_getD, List.getElem?_eq_getElem hib]; simp, hbi⟩
    have hbg : blk ∈ gh.bl := by rw [a7]; exact List.mem_append.2 (.inr hbf)
    have hap : ∀ c, c ≠ blk → (w.setCell ⟨blk, j, none⟩ (.int .i64 n)).heap[c]? = w.heap[c]? := fun c hc => heap_setCell_other w ⟨blk, j, none⟩ c _ (fun e' => hc e')
    rw [a7] at a8
    obtain ⟨nm, nf, nd⟩ := List.nodup_append.1 a8
    have hcell : w.cell? ⟨blk, j, none⟩ = some (.int .i64 ((xss.getD i []).getD j 0)) := by rw [e3']; generalize xss.getD i [] = row at hj ⊢; simp [hj]
    refine ⟨undef, w.setCell ⟨blk, j, none⟩ (.int .i64 n), gs, .inr ⟨?_, rfl⟩, hr.upd hg hs trivial _ trivial (fun c hc hcb => hap c (fun e' => hcb (by rw [e']; exact hbg))) hst.2.size fun _ => ?_, .any _, ?_⟩
    · have := run_store_cell (P := P) (t := t) (a := ⟨blk, j, none⟩) hcell e4 (v := .int .i64 n) rfl rfl
      simp only [execOp, hv, hr.evv hy, Sem.run_bind, this, Result.andThen_ok, Sem.run_pure]
    · refine ⟨vs, bs, mb, ownsRow_of_block a1 fun c hc => hap c fun e' => ?_, by simpa using a2, by simpa using a3, a4, fun k u hu => ?_, a6, a7, by rw [a7]; exact a8⟩
      · subst e'
        rcases a6 with ⟨c1, _⟩ | ⟨c1, c2⟩
        · rw [c1] at hc; cases hc
        · rw [c1] at hc; cases hc
          exact nd _ (by rw [c2]; simp) _ hbf rfl
      · obtain ⟨q1, q2, q3⟩ := a5 k u hu
        have hk := (List.getElem?_eq_some_iff.1 hu).1
        by_cases hki : k = i
        · subst hki
          rw [hrow] at hu
          cases hu
          have eg : (xss.set k ((xss.getD k []).set j n)).getD k [] = (xss.getD k []).set j n := by
            rw [List.getD_eq_getElem?_getD, List.getElem?_set_self hi]; rfl
          rw [eg]
          refine ⟨?_, fun z hz => ?_, q3⟩
          · rw [em, List.length_set, List.map_set]
            exact hst.1
          · rcases List.mem_or_eq_of_mem_set hz with h1 | rfl
            · exact q2 z h1
            · exact hn
        · have eg : (xss.set i ((xss.getD i []).set j n)).getD k [] = xss.getD k [] := by
            rw [List.getD_eq_getElem?_getD, List.getElem?_set, if_neg (fun e' => hki e'.symm), List.getD_eq_getElem?_getD]
          rw [eg]
          refine ⟨ownsRow_of_block q1 fun c hc => hap c fun e' => ?_, q2, q3⟩
          subst e'
          have hc2 : c ∈ bs.getD k [] := by rw [← q3, hc]; simp
          have hkb : k < bs.length := by omega
          have hpw := (List.pairwise_flatten.1 nf).2
          rw [List.pairwise_iff_getElem] at hpw
          rw [List.getD_eq_getElem?_getD, List.getElem?_eq_getElem hkb] at hc2
          rw [List.getD_eq_getElem?_getD, List.getElem?_eq_getElem hib] at hbi
          simp only [Option.getD_some] at hc2 hbi
          rcases Nat.lt_or_gt_of_ne hki with hlt | hgt
          · exact hpw k i hkb hib hlt c hc2 c hbi rfl
          · exact hpw i k hib hkb hgt c hbi c hc2 rfl
    · have hbb : base ≤ blk := (hr.hn _ _ _ hg hs (by simp) blk hbg).1
      exact (Below.refl _ _).setCell (p := ⟨blk, j, none⟩) hbb _
end

/-! ### Functions that hand back an own slice of rows in the place of the one that they were handed -/
/-- The function is handed the own slice of rows 'xss' (handle 0) and hands back one made of its memory and new memory. All else is as it was. -/
def AFnT (P : Program) (f : FuncId) (args : List AV) (T T2 : TypeId) (xss : List (List Int)) (Q : List (List Int) → Prop) : Prop :=
  HasBody P f ∧ ∀ base w g vs, base ≤ w.heap.size → Objs base w [g] [.sls T T2 xss] → vs.size = args.length → (∀ i : Nat, RV w (okOf [g] [.sls T T2 xss]) [g] (vs.getD i undef) (args.getD i .any)) →
    Calls P f vs w fun e w' => ∃ g' xss', e = .returned g'.v ∧ Q xss' ∧ RO base w' (fun _ => True) [g'] g' (.sls T T2 xss') ∧ (∀ b, b ∈ g'.bl → (b ∈ g.bl ∨ w.heap.size ≤ b) ∧ b < w'.heap.size) ∧ Below base w w' ∧ ∀ b, b < w.heap.size → b ∉ g.bl → w'.heap[b]? = w.heap[b]?

theorem AFnT.of {P : Program} {f : FuncId} {fn : Func} {c : Code} {args args' : List AV} {T T2 : TypeId} {xss : List (List Int)} {Q : List (List Int) → Prop} {n : Nat} (hf : P.funcs[f]? = some fn) (hb : fn.body = some c) (hnm : (fn.name == "runtime.NumGoroutine") = false) (hn : fn.ntmps - args.length = n) (ha : args' = args.map (AV.sh 1))
    (h : ∀ K, AWp P c (fun _ _ => False) (fun _ _ _ => False) (fun env os => ∃ env2 os2 k xss', Turns env os env2 os2 ∧ ResIs P fn env2 os2 (.own k) ∧ os2[k]? = some (.sls T T2 xss') ∧ Q xss' ∧ os2[0]? = some (.keep 1 K)) (Env.start args' n) [.keep 1 K, .sls T T2 xss]) :
    AFnT P f args T T2 xss Q := by
  refine ⟨⟨fn, c, hf, hnm, hb⟩, fun base w g vs hbase hO hsz hvs => calls_of_wp hf hb ?_⟩
  rw [show fn.ntmps - vs.size = n by rw [hsz]; exact hn]
  let bl : List Nat := (List.range w.heap.size).filter fun b => decide (base ≤ b) && !g.bl.contains b
  let gk : Gh := ⟨undef, 0, bl, []⟩
  let K : Kp := ⟨fun b => w.heap[b]?, [gk]⟩
  have hbl : ∀ b, b ∈ bl ↔ b < w.heap.size ∧ base ≤ b ∧ b ∉ g.bl := by
    intro b
    simp only [bl, List.mem_filter, List.mem_range, Bool.and_eq_true, decide_eq_true_eq, Bool.not_eq_true', List.contains_eq_mem, decide_eq_false_iff_not]
  have gg : ∀ {i : Nat} {x : Gh}, [gk, g][i]? = some x → (i = 0 ∧ x = gk) ∨ (i = 1 ∧ x = g) := by
    intro i x hx
    match i with
    | 0 => simp at hx; exact .inl ⟨rfl, hx.symm⟩
    | 1 => simp at hx; exact .inr ⟨rfl, hx.symm⟩
    | i + 2 => simp at hx
  have go : ∀ {i : Nat} {x : AO}, [AO.keep 1 K, AO.sls T T2 xss][i]? = some x → (i = 0 ∧ x = .keep 1 K) ∨ (i = 1 ∧ x = .sls T T2 xss) := by
    intro i x hx
    match i with
    | 0 => simp at hx; exact .inl ⟨rfl, hx.symm⟩
    | 1 => simp at hx; exact .inr ⟨rfl, hx.symm⟩
    | i + 2 => simp at hx
  have hkeep : Keeps (okOf [g] [.sls T T2 xss]) (okOf [gk, g] [.keep 1 K, .sls T T2 xss]) w w := by
    intro b hbk _
    refine ⟨fun i x y hx hy hny hm => ?_, rfl⟩
    rcases gg hx with ⟨rfl, rfl⟩ | ⟨rfl, rfl⟩
    · rcases go hy with ⟨_, rfl⟩ | ⟨h0, _⟩
      · exact hny.elim
      · omega
    · rcases go hy with ⟨h0, _⟩ | ⟨_, rfl⟩
      · omega
      · exact hbk 0 _ _ rfl rfl hny hm
  have hro0 := hO.ho 0 g _ rfl rfl
  have hn0 := hO.hn 0 g rfl
  have hrel : Rel base w [gk, g] (Env.start args' n) [.keep 1 K, .sls T T2 xss] (vs ++ Array.replicate n undef) := by
    refine ⟨hbase, rfl, by simp [Env.start, hsz, ha], fun i => start_rv args' n vs (fun i => ?_) i, ?_, ?_, ?_⟩
    · rw [ha, getD_map_any _ rfl]
      have := (hvs i).sh (gs0 := [gk]) hkeep
      exact this
    · intro i x y hx hy
      rcases gg hx with ⟨rfl, rfl⟩ | ⟨rfl, rfl⟩
      · rcases go hy with ⟨_, rfl⟩ | ⟨h0, _⟩
        · exact ⟨fun b _ => rfl, rfl, fun i x h => by
            match i with
            | 0 => exact h
            | i + 1 => simp [K] at h⟩
        · omega
      · rcases go hy with ⟨h0, _⟩ | ⟨_, rfl⟩
        · omega
        · exact AO.plain.ro trivial hro0
    · intro i j g1 g2 o1 o2 hij hg1 hg2 ho1 ho2 _ _ b hb1 hb2
      rcases gg hg1 with ⟨rfl, rfl⟩ | ⟨rfl, rfl⟩
      · rcases gg hg2 with ⟨rfl, rfl⟩ | ⟨rfl, rfl⟩
        · exact hij rfl
        · exact ((hbl b).1 hb1).2.2 hb2
      · rcases gg hg2 with ⟨rfl, rfl⟩ | ⟨rfl, rfl⟩
        · exact ((hbl b).1 hb2).2.2 hb1
        · exact hij rfl
    · intro i x y hx hy _ b hb
      rcases gg hx with ⟨rfl, rfl⟩ | ⟨rfl, rfl⟩
      · exact ⟨((hbl b).1 hb).2.1, ((hbl b).1 hb).1⟩
      · exact hn0 b hb
  refine wp_mono (h K base w w _ _ hrel (Below.refl _ _)) ?_
  intro e a w' hq
  cases e with
  | normal => obtain ⟨_, _, _, _, _, _, hx⟩ := hq; exact hx.elim
  | exit j => obtain ⟨_, _, _, _, _, _, hx⟩ := hq; exact hx.elim
  | ret =>
    obtain ⟨env, os1, gs1, hr1, hd, hbel, env2, os2, k, xss', ht, hres, hok, hQ, hkp⟩ := hq
    obtain ⟨gs2, hr⟩ := ht base w' gs1 _ hr1
    obtain ⟨v, hu, hv⟩ := hres _ _ _ _ hr
    cases hv with
    | @own _ g' hg' =>
      have hlt0 : 0 < gs2.length := by rw [hr.hl]; exact (List.getElem?_eq_some_iff.1 hkp).1
      obtain ⟨g0, hg0⟩ : ∃ g0, gs2[0]? = some g0 := ⟨_, List.getElem?_eq_getElem hlt0⟩
      obtain ⟨r1, r2, r3⟩ := hr.ho _ _ _ hg0 hkp
      have egk : g0 = gk := by
        have := r3 0 gk rfl
        rw [hg0] at this
        exact Option.some.inj this
      subst egk
      have hk0 : k ≠ 0 := fun e => by subst e; rw [hkp] at hok; cases hok
      refine ⟨hd, g'.v, hu, g', xss', rfl, hQ, AO.plain.ro trivial (hr.ho _ _ _ hg' hok), fun b hb => ?_, hbel, fun b hb hnot => ?_⟩
      · have hbn := hr.hn _ _ _ hg' hok (by simp) b hb
        refine ⟨?_, hbn.2⟩
        by_cases hbw : b < w.heap.size
        · left
          apply Classical.byContradiction
          intro hnb
          exact hr.hd k 0 g' _ _ _ hk0 hg' hg0 hok hkp (by simp) (by simp) b hb ((hbl b).2 ⟨hbw, hbn.1, hnb⟩)
        · right; omega
      · rcases Nat.lt_or_ge b base with h6 | h6
        · exact hbel.block b h6
        · exact r1 b ((hbl b).2 ⟨hb, h6, hnot⟩)
  | goto l => exact (hq : False).elim
  | panic ch => exact (hq : False).elim
  | outgrown => exact (hq : False).elim
theorem AFnT.start {P : Program} {f : FuncId} {fn : Func} {nt : Nat} {args : List AV} {T T2 : TypeId} {xss : List (List Int)} {Q : List (List Int) → Prop} (hf : P.funcs[f]? = some fn) (hnt : fn.ntmps = nt) {c : Code} (hb : fn.body = some c) (hnm : (fn.name == "runtime.NumGoroutine") = false)
    (h : ∀ K, AWp P c (fun _ _ => False) (fun _ _ _ => False) (fun env os => ∃ env2 os2 k xss', Turns env os env2 os2 ∧ ResIs P fn env2 os2 (.own k) ∧ os2[k]? = some (.sls T T2 xss') ∧ Q xss' ∧ os2[0]? = some (.keep 1 K)) (Env.start (args.map (AV.sh 1)) (nt - args.length)) [.keep 1 K, .sls T T2 xss]) :
    AFnT P f args T T2 xss Q := AFnT.of hf hb hnm (by rw [hnt]) rfl h

/-- All that hangs on handle 'h' is forgotten. -/
def AV.lose1 (h : Nat) : AV → AV
  | .own k => if k = h then .any else .own k
  | .optr k i => if k = h then .any else .optr k i
  | .osub k a b => if k = h then .any else .osub k a b
  | .orow k i => if k = h then .any else .orow k i
  | .orptr k i j => if k = h then .any else .orptr k i j
  | .agg _ => .any
  | .tup _ => .any
  | a => a
def AV.lose (h : Nat) : AV → AV
  | .own k => if k = h then .any else .own k
  | .optr k i => if k = h then .any else .optr k i
  | .osub k a b => if k = h then .any else .osub k a b
  | .orow k i => if k = h then .any else .orow k i
  | .orptr k i j => if k = h then .any else .orptr k i j
  | .agg l => .agg (l.map (AV.lose1 h))
  | .tup l => .tup (l.map (AV.lose1 h))
  | a => a
section
variable {w w' : World} {ok ok' : Nat → Prop} {gs : List Gh} {h : Nat} {g' : Gh}
theorem getD_map_lose1 (l : List AV) (i : Nat) : (l.map (AV.lose1 h)).getD i .any = (l.getD i .any).lose1 h := by
  simp only [List.getD_eq_getElem?_getD, List.getElem?_map]
  cases l[i]? <;> rfl
theorem RV.lose1 (k : Keeps ok ok' w w') {v : Value} {a : AV} (hv : RV w ok gs v a) : RV w' ok' (gs.set h g') v (a.lose1 h) := by
  have hg : ∀ {j : Nat} {x : Gh}, j ≠ h → gs[j]? = some x → (gs.set h g')[j]? = some x := fun hj hx => by
    rw [List.getElem?_set, if_neg (fun e => hj e.symm)]; exact hx
  cases hv with
  | any v => exact .any v
  | val v => exact .val v
  | ints h => exact .ints (h.mono k)
  | intss h => exact .intss (h.mono k)
  | @ro v r h => exact .ro (r.up k h)
  | iptr h h1 h2 => exact .iptr (h.mono k) h1 h2
  | iiptr h h1 h2 => exact .iiptr (h.mono k) h1 h2
  | own h1 =>
    simp only [AV.lose1]; split
    · exact .any _
    · exact .own (hg ‹_› h1)
  | optr h1 =>
    simp only [AV.lose1]; split
    · exact .any _
    · exact .optr (hg ‹_› h1)
  | osub h1 h2 h3 h4 =>
    simp only [AV.lose1]; split
    · exact .any _
    · exact .osub (hg ‹_› h1) h2 h3 h4
  | orow h1 h2 =>
    simp only [AV.lose1]; split
    · exact .any _
    · exact .orow (hg ‹_› h1) h2
  | orptr h1 h2 =>
    simp only [AV.lose1]; split
    · exact .any _
    · exact .orptr (hg ‹_› h1) h2
  | agg _ _ _ => exact .any _
  | tup _ _ => exact .any _
theorem RV.lose (k : Keeps ok ok' w w') {v : Value} {a : AV} (hv : RV w ok gs v a) : RV w' ok' (gs.set h g') v (a.lose h) := by
  have hg : ∀ {j : Nat} {x : Gh}, j ≠ h → gs[j]? = some x → (gs.set h g')[j]? = some x := fun hj hx => by
    rw [List.getElem?_set, if_neg (fun e => hj e.symm)]; exact hx
  cases hv with
  | any v => exact .any v
  | val v => exact .val v
  | ints h => exact .ints (h.mono k)
  | intss h => exact .intss (h.mono k)
  | @ro v r h => exact .ro (r.up k h)
  | iptr h h1 h2 => exact .iptr (h.mono k) h1 h2
  | iiptr h h1 h2 => exact .iiptr (h.mono k) h1 h2
  | own h1 =>
    simp only [AV.lose]; split
    · exact .any _
    · exact .own (hg ‹_› h1)
  | optr h1 =>
    simp only [AV.lose]; split
    · exact .any _
    · exact .optr (hg ‹_› h1)
  | osub h1 h2 h3 h4 =>
    simp only [AV.lose]; split
    · exact .any _
    · exact .osub (hg ‹_› h1) h2 h3 h4
  | orow h1 h2 =>
    simp only [AV.lose]; split
    · exact .any _
    · exact .orow (hg ‹_› h1) h2
  | orptr h1 h2 =>
    simp only [AV.lose]; split
    · exact .any _
    · exact .orptr (hg ‹_› h1) h2
  | agg h1 h3 h2 => exact .agg (by simpa using h1) h3 fun i => by rw [getD_map_lose1]; exact (h2 i).lose1 k
  | tup h1 h2 => exact .tup (by simpa using h1) fun i => by rw [getD_map_lose1]; exact (h2 i).lose1 k
end

section
variable {P : Program} {env : Env} {os : List AO} {d : Option Tmp} {ty : TypeId} {pos : String} {af : Array Edge} {g : Option (Nat × Bool)}
theorem c_callt {f : FuncId} {args : List AV} {T T2 : TypeId} {xss : List (List Int)} {Q : List (List Int) → Prop} (hc : AFnT P f args T T2 xss Q) {xs : List Operand} {ats : Array TypeId} {h : Nat} (hs : os[h]? = some (.sls T T2 xss)) (hi : ImmUs os [h] (xs.map (AV.ev env)) args) :
    COp P ⟨d, .call { callee := .value (.func f), args := xs.toArray, argTypes := ats }, ty, pos, af, g⟩ env os (fun r e o => ∃ xss', Q xss' ∧ r = .own h ∧ e = env.mp (AV.lose h) ∧ o = (((os ++ [AO.sli T2 []]).map (AO.via (AV.lose h) h)).set h (.sls T T2 xss')).set os.length .dead) := by
  intro base w gs tm hr
  have hh : Handed os [h] [.sls T T2 xss] := handed1 hs True.intro
  have hg := hi.get
  have hlt := hh.lt h (by simp)
  have hgl : h < gs.length := by rw [hr.hl]; exact hlt
  obtain ⟨gh, hgh⟩ : ∃ x, gs[h]? = some x := ⟨_, List.getElem?_eq_getElem hgl⟩
  have esel : selG gs [h] = [gh] := by simp [selG, hgh]
  have hobj := hr.objs hh
  rw [esel] at hobj
  refine ⟨f, _, run_call hc.1 xs ats _ rfl w, (hc.2 base w gh _ hr.hb hobj (by simpa using hg.1) fun i => ?_).mono ?_⟩
  · have h1 := hg.2 i
    have e1 : (xs.map (AV.ev env)).getD i .any = match xs[i]? with | some x => AV.ev env x | none => .any := by
      simp only [List.getD_eq_getElem?_getD, List.getElem?_map]; cases xs[i]? <;> rfl
    have e2 : (xs.map (Act.eval ⟨tm, []⟩)).toArray.getD i undef = match xs[i]? with | some x => Act.eval ⟨tm, []⟩ x | none => undef := by
      simp only [Array.getD_eq_getD_getElem?, List.getElem?_toArray, List.getElem?_map]; cases xs[i]? <;> rfl
    rw [e1] at h1
    rw [e2, ← esel]
    cases hx : xs[i]? with
    | some x => rw [hx] at h1; exact h1.rv hr hh (hr.ev x)
    | none => rw [hx] at h1; exact h1.rv hr hh (.any _)
  · rintro e w' ⟨g', xss', rfl, hq, hro, hbl, hbel, hfr⟩
    let gd : Gh := ⟨.slice none 0 0, 0, [], []⟩
    have hr1 : Rel base w (gs ++ [gd]) env (os ++ [.sli T2 []]) tm := hr.new (Below.refl _ _) (.sli T2 []) gd (fun _ b hb => by simp [gd] at hb) ⟨World.ownsRow_nil w base T2 1, fun x hx => by simp at hx, .inl ⟨rfl, rfl⟩⟩
    have hg1 : (gs ++ [gd])[h]? = some gh := by rw [List.getElem?_append_left hgl]; exact hgh
    have hs1 : (os ++ [AO.sli T2 []])[h]? = some (.sls T T2 xss) := by rw [List.getElem?_append_left hlt]; exact hs
    have hgd : (gs ++ [gd])[os.length]? = some gd := by rw [← hr.hl]; simp
    have hod : (os ++ [AO.sli T2 []])[os.length]? = some (.sli T2 []) := by simp
    refine ⟨g'.v, .own h, _, _, (gs ++ [gd]).set h g', rfl, ⟨xss', hq, rfl, rfl, rfl⟩, hr1.absorb hg1 hs1 trivial hgd hod trivial (by omega) g' _ (AV.lose h) rfl hfr hbel.size ?_ (fun kp hv => hv.lose kp) (fun _ => AO.plain.ro trivial hro), .own (by rw [List.getElem?_set_self (by rw [List.length_append]; omega)]), hbel⟩
    intro b hb
    have := hbl b hb
    refine ⟨?_, this.2⟩
    rcases this.1 with h1 | h1
    · exact .inl h1
    · exact .inr (.inr h1)
end

section
variable {P : Program} {env : Env} {os : List AO} {d : Tmp} {ty : TypeId} {pos : String} {af : Array Edge} {g : Option (Nat × Bool)} {l rest : List Oper} {K : APost} {q : Md}
theorem w_callt {f : FuncId} {args : List AV} {T T2 : TypeId} {xss : List (List Int)} {Q : List (List Int) → Prop} {xs : List Operand} {ats : Array TypeId} (h : Nat) {m : Nat} (hc : AFnT P f args T T2 xss Q) (hs : os[h]? = some (.sls T T2 xss)) (hm : os.length = m) (hi : ImmUs os [h] (xs.map (AV.ev env)) args)
    (h' : ∀ xss', Q xss' → AOps P .seq l rest K (Env.up (env.mp (AV.lose h)) d (.own h)) ((((os ++ [AO.sli T2 []]).map (AO.via (AV.lose h) h)).set h (.sls T T2 xss')).set m .dead)) :
    AOps P .seq l (⟨some d, .call { callee := .value (.func f), args := xs.toArray, argTypes := ats }, ty, pos, af, none⟩ :: rest) K env os :=
  AOps.ca (c_callt hc hs hi) fun r e o ⟨xss', h1, h2, h3, h4⟩ => by subst h2; subst h3; subst h4; subst hm; exact h' xss' h1
theorem w_slshi {t e : TypeId} [TSlice P t e] [TCell P e] {x y : Operand} {h : Nat} {e' e2 : TypeId} {xss : List (List Int)} {n : Int} (hw : wantedA l env ⟨some d, .slice t x none (some y) none, ty, pos, af, g⟩ = some true) (hx : evo env x = some (.own h)) (hs : os[h]? = some (.sls e' e2 xss)) (hy : evo env y = some (.i n)) (h0 : 0 ≤ n) (h1 : n ≤ xss.length)
    (h' : AOps P q l rest K (env.up d (.osub h 0 n.toNat)) os) : AOps P q l (⟨some d, .slice t x none (some y) none, ty, pos, af, g⟩ :: rest) K env os := AOps.qo hw (q_sls_hi (ev_of hx) hs (ev_of hy) h0 h1) h'
theorem w_slslo {t e : TypeId} [TSlice P t e] [TCell P e] {x y : Operand} {h : Nat} {e' e2 : TypeId} {xss : List (List Int)} {n : Int} (hw : wantedA l env ⟨some d, .slice t x (some y) none none, ty, pos, af, g⟩ = some true) (hx : evo env x = some (.own h)) (hs : os[h]? = some (.sls e' e2 xss)) (hy : evo env y = some (.i n)) (h0 : 0 ≤ n) (h1 : n ≤ xss.length)
    (h' : AOps P q l rest K (env.up d (.osub h n.toNat (xss.length - n.toNat))) os) : AOps P q l (⟨some d, .slice t x (some y) none none, ty, pos, af, g⟩ :: rest) K env os := AOps.qo hw (q_sls_lo (ev_of hx) hs (ev_of hy) h0 h1) h'
theorem w_bslr0 {t e : TypeId} {bytes : Nat} [TSlice P t e] [TElem P e (.slice none 0 0) bytes] {m : Nat} (hm : os.length = m) (h' : AOps P .seq l rest K (env.up d (.own m)) (os ++ [.slr e []])) :
    AOps P .seq l (⟨some d, .buildSlice t 0 #[], ty, pos, af, none⟩ :: rest) K env os := AOps.lo (hm ▸ l_bslr0) h'
theorem w_bslr1 {t e : TypeId} {bytes : Nat} [TSlice P t e] [TElem P e (.slice none 0 0) bytes] {x : Operand} {k m : Nat} {e3 : TypeId} {ys : List Int} (hx : evo env x = some (.own k)) (hk : os[k]? = some (.sli e3 ys)) (hm : os.length = m)
    (h' : AOps P .seq l rest K (env.up d (.own m)) (os ++ [.slr e [.own k]])) : AOps P .seq l (⟨some d, .buildSlice t 1 #[(0, x)], ty, pos, af, none⟩ :: rest) K env os := AOps.lo (hm ▸ l_bslr1 (ev_of hx) hk) h'
theorem w_appsub {t e : TypeId} {bytes : Nat} [TSlice P t e] [TElem P e (.slice none 0 0) bytes] {x y : Operand} {p h off len : Nat} {e' e1 e2 : TypeId} {xss : List (List Int)} {avs : List AV}
    (hx : evo env x = some (.own p)) (hs : os[p]? = some (.slr e' avs)) (hee : e' = e) (hy : evo env y = some (.osub h off len)) (hh : os[h]? = some (.sls e1 e2 xss)) (hle : off + len ≤ xss.length) (hb : (avs.length + len) * bytes ≤ 140737488355328) (hk : avs.map (AV.kill p) = avs)
    (h' : AOps P .seq l rest K (Env.up (env.mp (AV.kill p)) d (.own p)) ((os.map (AO.kill p)).set p (.slr e (avs ++ (List.range' off len).map (AV.orow h))))) :
    AOps P .seq l (⟨some d, .call { callee := .builtin .append, args := #[x, y], argTypes := #[t, t] }, ty, pos, af, none⟩ :: rest) K env os := AOps.lo (l_append_src (ev_of hx) hs hee (src_sub (ev_of hy) hh hle) (by simpa using hb) hk (map_orow_kill p h _)) h'
theorem w_appslr {t e : TypeId} {bytes : Nat} [TSlice P t e] [TElem P e (.slice none 0 0) bytes] {x y : Operand} {p h : Nat} {e' e1 : TypeId} {avs avs2 : List AV}
    (hx : evo env x = some (.own p)) (hs : os[p]? = some (.slr e' avs)) (hee : e' = e) (hy : evo env y = some (.own h)) (hh : os[h]? = some (.slr e1 avs2)) (hok : RowsOk os avs2) (hb : (avs.length + avs2.length) * bytes ≤ 140737488355328) (hk : avs.map (AV.kill p) = avs) (hk2 : avs2.map (AV.kill p) = avs2)
    (h' : AOps P .seq l rest K (Env.up (env.mp (AV.kill p)) d (.own p)) ((os.map (AO.kill p)).set p (.slr e (avs ++ avs2)))) :
    AOps P .seq l (⟨some d, .call { callee := .builtin .append, args := #[x, y], argTypes := #[t, t] }, ty, pos, af, none⟩ :: rest) K env os := AOps.lo (l_append_src (ev_of hx) hs hee (src_slr (ev_of hy) hh hok) hb hk hk2) h'
theorem w_storp {t : TypeId} [TCell P t] {x y : Operand} {h i j : Nat} {e e2 : TypeId} {xss : List (List Int)} {n : Int} (hx : evo env x = some (.orptr h i j)) (hs : os[h]? = some (.sls e e2 xss)) (hi : i < xss.length) (hj : j < (xss.getD i []).length) (hy : evo env y = some (.i n)) (hn : inI n)
    (h' : AOps P .seq l rest K env (os.set h (.sls e e2 (xss.set i ((xss.getD i []).set j n))))) : AOps P .seq l (⟨none, .store t x y, ty, pos, af, none⟩ :: rest) K env os := AOps.so (l_store_orptr (ev_of hx) hs hi hj (ev_of hy) hn) h'
theorem w_bs3 {t e : TypeId} {bytes : Nat} [TSlice P t e] [TElem P e (.int .i64 0) bytes] {x y z : Operand} {a b c : Int} {m : Nat} (hx : evo env x = some (.i a)) (hy : evo env y = some (.i b)) (hz : evo env z = some (.i c)) (hm : os.length = m) (ha : inI a) (hb : inI b) (hc : inI c)
    (h' : AOps P .seq l rest K (env.up d (.own m)) (os ++ [.sli e [a, b, c]])) : AOps P .seq l (⟨some d, .buildSlice t 3 #[(0, x), (1, y), (2, z)], ty, pos, af, none⟩ :: rest) K env os := AOps.lo (hm ▸ l_bs3 (ev_of hx) (ev_of hy) (ev_of hz) ha hb hc) h'
end
end Go.Proofs.YtfgnccoaebkckaaDoor
