/-
  Parts of the proof, one behind the other: contracts of functions and plain laws. No condition.
-/
import Derived.Maps.RangeRun
import Derived.ChangeKeysEq
import GoSem.Instr.MapUpdate
import GoSem.Instr.MakeMap
import Derived.OrdersHeld
import Derived.Test.YtpllbdjobmgikaaPt3ZetaOfBranch
/-
  Own slices of rows put together: parts of own slices of rows, appends of them; a cell of a row is written; functions that are handed an own slice of rows and hand one back in its place. No condition.
-/
namespace Go.Proofs.Ytpllbdjobmgikaa
open Go Go.RowKit

section
variable {P : Program} {env : Env} {os : List AO} {d : Option Tmp} {ty : TypeId} {pos : String} {af : Array Edge} {g : Option (Nat × Bool)} {wl : Bool}

theorem sls_slice {base : Nat} {w : World} {ok : Nat → Prop} {gs : List Gh} {gh : Gh} {e e2 : TypeId} {xss : List (List Int)} (h : RO base w ok gs gh (.sls e e2 xss)) : ∃ a cap, gh.v = .slice a xss.length cap ∧ xss.length ≤ cap ∧ cap ≤ maxLen ∧
    (0 < xss.length → a = some ⟨gh.b, 0, none⟩) ∧ gh.rows.length = xss.length ∧ (∀ (i : Nat) u, gh.rows[i]? = some u → w.cell? ⟨gh.b, i, none⟩ = some u ∧ ∃ ua n c, u = .slice ua n c) := by
  obtain ⟨vs, bs, mb, a1, a2, a3, a4, a5, a6, a7, a8⟩ := h
  obtain ⟨a, cap, q1, q2, q3, q4⟩ := RowAt.of_owns a1
  rw [a2] at q1 q2 q4
  have hblk : ∀ b off, a = some ⟨b, off, none⟩ → 0 < xss.length → b = gh.b ∧ off = 0 := by
    intro b off ha hp
    obtain ⟨b', cap', r1, r2, _, _⟩ := own_slice a1 (i := 0) (by omega)
    rw [q1, ha] at r1
    simp only [Value.slice.injEq, Option.some.injEq, Addr.mk.injEq, and_true] at r1
    obtain ⟨⟨rfl, rfl⟩, _⟩ := r1
    rcases a6 with ⟨s1, _⟩ | ⟨s1, _⟩
    · rw [s1] at r2; cases r2
    · rw [s1] at r2; cases r2; exact ⟨rfl, rfl⟩
  refine ⟨a, cap, q1, q2, q3, fun hp => ?_, by rw [a4, a2], fun i u hu => ?_⟩
  · obtain ⟨b, off, r1, _, _⟩ := q4 hp
    obtain ⟨rfl, rfl⟩ := hblk b off r1 hp
    exact r1
  · rw [a4] at hu
    have hi := (List.getElem?_eq_some_iff.1 hu).1
    obtain ⟨b, off, r1, _, r3⟩ := q4 (by omega)
    obtain ⟨rfl, rfl⟩ := hblk b off r1 (by omega)
    have := r3 i u hu
    rw [Nat.zero_add] at this
    obtain ⟨ua, uc, eu⟩ := ownsRow_slice (a5 i u hu).1
    exact ⟨this, ua, _, uc, eu⟩

theorem q_sls_hi {t e : TypeId} [ht : TSlice P t e] [he : TCell P e] {x y : Operand} {h : Nat} {e' e2 : TypeId} {xss : List (List Int)} {n : Int} (hx : AV.ev env x = .own h) (hs : os[h]? = some (.sls e' e2 xss)) (hy : AV.ev env y = .i n) (h0 : 0 ≤ n) (h1 : n ≤ xss.length) :
    QOp P wl ⟨d, .slice t x none (some y) none, ty, pos, af, g⟩ env os (.osub h 0 n.toNat) :=
  .of_run fun _ w gs tm hr => by
    have hh := hr.ev x
    rw [hx] at hh
    generalize hv : Act.eval ⟨tm, []⟩ x = v at hh
    cases hh with
    | @own _ gh hg =>
      obtain ⟨a, cap, ev, hc, hm, ha, _⟩ := sls_slice (hr.ho _ _ _ hg hs)
      have e1 := elem_of (P := P) ht.und
      refine ⟨sliced a 0 n.toNat cap 1, ?_, fun w' _ => ?_⟩
      · refine RV.osub hg (fun hp => ?_) (by omega) (by omega)
        rw [if_neg (by omega), ha (by omega)]
        simp [add_none]
      · have hrun := run_slice_h (P := P) w' t a xss.length cap (by rw [e1]; exact ht.und) .i64 n h0 (by omega)
        rw [e1, run_size] at hrun
        have hat := run_sliceAt_slice (P := P) w' t (.slice a xss.length cap) none (some (.int .i64 n)) none (by rw [e1]; exact ht.und)
        simp only [execOp, hv, ev, hr.evv hy, Option.map_none, Option.map_some, Sem.run_bind, hat, hrun, Result.andThen_ok, Sem.run_pure]

theorem q_sls_lo {t e : TypeId} [ht : TSlice P t e] [he : TCell P e] {x y : Operand} {h : Nat} {e' e2 : TypeId} {xss : List (List Int)} {n : Int} (hx : AV.ev env x = .own h) (hs : os[h]? = some (.sls e' e2 xss)) (hy : AV.ev env y = .i n) (h0 : 0 ≤ n) (h1 : n ≤ xss.length) :
    QOp P wl ⟨d, .slice t x (some y) none none, ty, pos, af, g⟩ env os (.osub h n.toNat (xss.length - n.toNat)) :=
  .of_run fun _ w gs tm hr => by
    have hh := hr.ev x
    rw [hx] at hh
    generalize hv : Act.eval ⟨tm, []⟩ x = v at hh
    cases hh with
    | @own _ gh hg =>
      obtain ⟨a, cap, ev, hc, hm, ha, _⟩ := sls_slice (hr.ho _ _ _ hg hs)
      have e1 := elem_of (P := P) ht.und
      refine ⟨sliced a n.toNat xss.length cap 1, ?_, fun w' _ => ?_⟩
      · refine RV.osub hg (fun hp => ?_) (by omega) (by omega)
        rw [if_neg (by omega), ha (by omega)]
        simp [add_none]
      · have hrun := run_slice_l (P := P) w' t a xss.length cap (by rw [e1]; exact ht.und) .i64 n h0 h1
        rw [e1, run_size] at hrun
        have hat := run_sliceAt_slice (P := P) w' t (.slice a xss.length cap) (some (.int .i64 n)) none none (by rw [e1]; exact ht.und)
        simp only [execOp, hv, ev, hr.evv hy, Option.map_none, Option.map_some, Sem.run_bind, hat, hrun, Result.andThen_ok, Sem.run_pure]

/-! ### Sources of appends -/
/-- The slice value v reads as cells of these abstract values. -/
def SrcAt (w : World) (ok : Nat → Prop) (gs : List Gh) (v : Value) (new : List AV) : Prop :=
  ∃ (pa : Option Addr) (cap : Nat) (news : List Value), v = .slice pa new.length cap ∧ news.length = new.length ∧ (0 < new.length → ∃ a, pa = some a ∧ ∀ (j : Nat) u, news[j]? = some u → w.cell? (a.add j) = some u) ∧ (∀ u ∈ news, u.oneCell' = true) ∧
    ∀ i : Nat, RV w ok gs (news.getD i undef) (new.getD i .any)
def Src (env : Env) (os : List AO) (y : Operand) (new : List AV) : Prop := ∀ base w gs tm, Rel base w gs env os tm → SrcAt w (okOf gs os) gs (Act.eval ⟨tm, []⟩ y) new

theorem range_get (off len j : Nat) (k : Nat) : ((List.range' off len).map (AV.orow k)).getD j .any = if j < len then .orow k (off + j) else .any := by
  simp only [List.getD_eq_getElem?_getD, List.getElem?_map]
  by_cases h : j < len
  · rw [if_pos h, List.getElem?_range' (by omega)]; simp
  · rw [if_neg h, List.getElem?_eq_none (by simp; omega)]; rfl

theorem src_sub {y : Operand} {h off len : Nat} {e e2 : TypeId} {xss : List (List Int)} (hy : AV.ev env y = .osub h off len) (hs : os[h]? = some (.sls e e2 xss)) (hle : off + len ≤ xss.length) : Src env os y ((List.range' off len).map (AV.orow h)) := by
  intro base w gs tm hr
  have hyv := hr.ev y
  rw [hy] at hyv
  generalize hv : Act.eval ⟨tm, []⟩ y = v at hyv
  cases hyv with
  | @osub _ _ _ cap p gh hg hp hc hm =>
    obtain ⟨_, _, _, _, _, _, q5, q6⟩ := sls_slice (hr.ho _ _ _ hg hs)
    refine ⟨p, cap, (gh.rows.drop off).take len, by simp, by simp; omega, fun h0 => ?_, fun u hu => ?_, fun i => ?_⟩
    · simp at h0
      refine ⟨_, hp h0, fun j u hj => ?_⟩
      rw [List.getElem?_take] at hj
      split at hj
      · rw [List.getElem?_drop] at hj
        rw [add_none]
        exact (q6 _ _ hj).1
      · cases hj
    · obtain ⟨j, hj⟩ := List.getElem?_of_mem (List.mem_of_mem_drop (List.mem_of_mem_take hu))
      obtain ⟨_, ua, n, c, rfl⟩ := q6 _ _ hj
      rfl
    · rw [range_get]
      by_cases hi : i < len
      · rw [if_pos hi]
        have hlt : off + i < gh.rows.length := by omega
        have e1 : ((gh.rows.drop off).take len).getD i undef = gh.rows[off + i] := by
          rw [List.getD_eq_getElem?_getD, List.getElem?_take, if_pos hi, List.getElem?_drop, List.getElem?_eq_getElem hlt]; rfl
        rw [e1]
        exact .orow hg (List.getElem?_eq_getElem hlt)
      · rw [if_neg hi]; exact .any _

/-- Cells that hold rows. -/
def RowsOk (os : List AO) (avs : List AV) : Prop := ∀ a ∈ avs, (∃ k i e e2 xss, a = .orow k i ∧ os[k]? = some (AO.sls e e2 xss)) ∨ ∃ k e ys, a = .own k ∧ os[k]? = some (AO.sli e ys)
theorem rowsOk_nil {os : List AO} : RowsOk os [] := fun a h => by cases h
theorem rowsOk_cons {os : List AO} {k : Nat} {e : TypeId} {ys : List Int} {avs : List AV} (hk : os[k]? = some (.sli e ys)) (h : RowsOk os avs) : RowsOk os (.own k :: avs) := fun a ha => by
  rcases List.mem_cons.1 ha with rfl | ha
  · exact .inr ⟨k, e, ys, rfl, hk⟩
  · exact h a ha
theorem rowsOk_map {os : List AO} {k : Nat} {e e2 : TypeId} {xss : List (List Int)} {l : List Nat} (hk : os[k]? = some (.sls e e2 xss)) : RowsOk os (l.map (AV.orow k)) := fun a ha => by
  obtain ⟨i, _, rfl⟩ := List.mem_map.1 ha
  exact .inl ⟨k, i, e, e2, xss, rfl, hk⟩
theorem rowsOk_app {os : List AO} {a b : List AV} (ha : RowsOk os a) (hb : RowsOk os b) : RowsOk os (a ++ b) := fun x hx => by
  rcases List.mem_append.1 hx with hx | hx
  · exact ha x hx
  · exact hb x hx

theorem rows_one {base : Nat} {w : World} {gs : List Gh} {tm : Array Value} (hr : Rel base w gs env os tm) {avs : List AV} (h : RowsOk os avs) {i : Nat} {u : Value} {a : AV} (ha : avs[i]? = some a) (hu : RV w (okOf gs os) gs u a) : u.oneCell' = true := by
  rcases h a (List.mem_of_getElem? ha) with ⟨k, j, e, e2, xss, rfl, hk⟩ | ⟨k, e, ys, rfl, hk⟩
  · cases hu with
    | orow hg hrow =>
      obtain ⟨_, _, _, _, _, _, _, q6⟩ := sls_slice (hr.ho _ _ _ hg hk)
      obtain ⟨_, ua, n, c, rfl⟩ := q6 _ _ hrow
      rfl
  · cases hu with
    | own hg =>
      obtain ⟨a1, _⟩ := hr.ho _ _ _ hg hk
      obtain ⟨ua, uc, eu⟩ := ownsRow_slice a1
      rw [eu]; rfl

theorem src_slr {y : Operand} {q : Nat} {e : TypeId} {avs : List AV} (hy : AV.ev env y = .own q) (hs : os[q]? = some (.slr e avs)) (hok : RowsOk os avs) : Src env os y avs := by
  intro base w gs tm hr
  have hyv := hr.ev y
  rw [hy] at hyv
  generalize hv : Act.eval ⟨tm, []⟩ y = v at hyv
  cases hyv with
  | @own _ gh hg =>
    obtain ⟨vs, a1, a2, a3, a4⟩ := hr.ho _ _ _ hg hs
    obtain ⟨a, cap, q1, q2, q3, q4⟩ := RowAt.of_owns a1
    rw [a2] at q1 q2 q4
    refine ⟨a, cap, vs, q1, a2, fun h0 => ?_, fun u hu => ?_, a3⟩
    · obtain ⟨b, off, r1, _, r3⟩ := q4 h0
      exact ⟨_, r1, fun j u hj => by rw [add_none]; exact r3 j u hj⟩
    · obtain ⟨j, hj⟩ := List.getElem?_of_mem hu
      have hjl := (List.getElem?_eq_some_iff.1 hj).1
      have := a3 j
      rw [List.getD_eq_getElem?_getD, hj, List.getD_eq_getElem?_getD, List.getElem?_eq_getElem (by omega)] at this
      exact rows_one hr hok (List.getElem?_eq_getElem (by omega)) this

set_option maxHeartbeats 1000000 in
theorem l_append_src {t e : TypeId} {bytes : Nat} {z0 : Value} [ht : TSlice P t e] [he : TElem P e z0 bytes] {x y : Operand} {h : Nat} {e' : TypeId} {avs new : List AV} (hx : AV.ev env x = .own h) (hs : os[h]? = some (.slr e' avs)) (hee : e' = e)
    (hy : Src env os y new) (hb : (avs.length + new.length) * bytes ≤ 140737488355328) (hk1 : avs.map (AV.kill h) = avs) (hk2 : new.map (AV.kill h) = new) (hzc : z0.cells.size = 1 := by rfl) :
    LOp P ⟨d, .call { callee := .builtin .append, args := #[x, y], argTypes := #[t, t] }, ty, pos, af, g⟩ env os (.own h) (env.mp (AV.kill h)) ((os.map (AO.kill h)).set h (.slr e (avs ++ new))) := by
  subst hee
  intro base w gs tm hr
  have hxv := hr.ev x
  rw [hx] at hxv
  obtain ⟨pa, cap, news, hu, hnl, hcells, hone, hrvn⟩ := hy base w gs tm hr
  generalize hv : Act.eval ⟨tm, []⟩ x = v at hxv
  cases hxv with
  | @own _ gh hg =>
    obtain ⟨vs, a1, a2, a3, a4⟩ := hr.ho _ _ _ hg hs
    obtain ⟨ii, hi, hsz, hz, hby⟩ := he.info
    have hbase : base ≤ w.heap.size := hr.hb
    have key : ∃ v' w', (Builtin.append_ #[t, t] ty #[gh.v, .slice pa new.length cap]).run P w = .ok v' w' ∧ w'.ownsRow base e' 1 v' (vs.length + new.length) (vs ++ news) ∧ w.grownBy w' gh.v.ownBlock ∧
        (v'.ownBlock = gh.v.ownBlock ∨ v'.ownBlock = some w.heap.size) := by
      by_cases h0 : new.length = 0
      · have e0 : news = [] := List.length_eq_zero_iff.1 (by omega)
        rw [h0, e0]
        exact ⟨gh.v, w, run_append_none ht.und hi a1 pa cap, by simpa using a1, ⟨rfl, rfl, rfl, Nat.le_refl _, fun _ _ _ => rfl⟩, .inl rfl⟩
      · obtain ⟨a, rfl, hc⟩ := hcells (by omega)
        have h64 : vs.length + new.length ≤ maxLen := by
          have hb0 := he.pos
          have : avs.length + new.length ≤ (avs.length + new.length) * bytes := Nat.le_mul_of_pos_right _ hb0
          simp only [maxLen]; omega
        obtain ⟨v', w', r1, r2, r3, _, r5⟩ := run_append_own_at (P := P) w base t ty e' ii _ 1 bytes ht.und hi hz hsz hby hzc (by omega) gh.v vs.length vs a1 a new.length cap news (by omega) hc hone h64 (by rw [a2]; exact hb) hbase
        exact ⟨v', w', r1, r2, r3, r5⟩
    obtain ⟨v', w', r1, r2, r3, r5⟩ := key
    have hgb : ∀ b, b ∉ gh.bl → some b ≠ gh.v.ownBlock := fun b hb e => hb (a4.mem e.symm)
    let g' : Gh := ⟨v', v'.ownBlock.getD 0, v'.ownBlock.toList, gh.rows⟩
    have hgb' : GB g' := by
      show (v'.ownBlock = none ∧ v'.ownBlock.toList = []) ∨ (v'.ownBlock = some (v'.ownBlock.getD 0) ∧ v'.ownBlock.toList = [v'.ownBlock.getD 0])
      cases v'.ownBlock with
      | none => exact .inl ⟨rfl, rfl⟩
      | some b => exact .inr ⟨rfl, rfl⟩
    have hlt : ∀ b, v'.ownBlock = some b → b < w'.heap.size := by
      intro b hb
      rcases r2.2 with ⟨e1, _⟩ | ⟨gg, cc, cur, e1, _, hgg, _⟩
      · rw [e1] at hb; cases hb
      · rw [e1] at hb; cases hb; exact (Array.getElem?_eq_some_iff.1 hgg).1
    refine ⟨v', w', gs.set h g', .inl ?_, hr.turn hg hs trivial g' (.slr e' (avs ++ new)) (fun b hb hn => r3.block b hb (hgb b hn)) r3.size ?_ (fun i v hv => hv) ?_, ?_, ?_⟩
    · simp only [execOp, resolve, invoke, builtin, Sem.run_bind, Sem.run_pure, Result.andThen_ok, List.map_toArray, List.map_cons, List.map_nil, hv, hu, r1]
    · intro b hb
      have hb' : v'.ownBlock = some b := by
        have hb2 : b ∈ v'.ownBlock.toList := hb
        cases hvb : v'.ownBlock with
        | none => rw [hvb] at hb2; simp at hb2
        | some c => rw [hvb] at hb2; simp at hb2; rw [hb2]
      refine ⟨?_, hlt b hb'⟩
      rcases r5 with r5 | r5
      · left; rw [hb'] at r5; exact a4.mem r5.symm
      · right; rw [hb'] at r5; cases r5; exact Nat.le_refl _
    · intro kp tn
      refine ⟨vs ++ news, by rw [List.length_append, hnl]; exact r2, by simp [a2, hnl], fun j => ?_, hgb'⟩
      by_cases hj : j < vs.length
      · have e1 : (vs ++ news).getD j undef = vs.getD j undef := by simp only [List.getD_eq_getElem?_getD]; rw [List.getElem?_append_left hj]
        have e2 : (avs ++ new).getD j .any = (avs.getD j .any).kill h := by
          rw [← getD_map_kill, hk1]
          simp only [List.getD_eq_getElem?_getD]; rw [List.getElem?_append_left (by omega)]
        rw [e1, e2]
        exact (a3 j).kill kp tn
      · have e1 : (vs ++ news).getD j undef = news.getD (j - vs.length) undef := by simp only [List.getD_eq_getElem?_getD]; rw [List.getElem?_append_right (by omega)]
        have e2 : (avs ++ new).getD j .any = (new.getD (j - vs.length) .any).kill h := by
          rw [← getD_map_kill, hk2]
          simp only [List.getD_eq_getElem?_getD]; rw [List.getElem?_append_right (by omega), a2]
        rw [e1, e2]
        exact (hrvn _).kill kp tn
    · have hk : h < gs.length := (List.getElem?_eq_some_iff.1 hg).1
      exact RV.own (g := g') (by simp [hk])
    · refine ⟨r3.os, r3.tape, r3.output, r3.size, fun b hb => r3.block b (by have := hr.hb; omega) (hgb b fun hm => ?_)⟩
      have := (hr.hn _ _ _ hg hs (by simp) b hm).1
      omega

/-- A literal slice of one own row, as an own slice. -/
theorem l_bslr1 {t e : TypeId} {bytes : Nat} [ht : TSlice P t e] [he : TElem P e (.slice none 0 0) bytes] {x : Operand} {k : Nat} {e3 : TypeId} {ys : List Int} (hx : AV.ev env x = .own k) (hk : os[k]? = some (.sli e3 ys)) :
    LOp P ⟨d, .buildSlice t 1 #[(0, x)], ty, pos, af, g⟩ env os (.own os.length) env (os ++ [.slr e [.own k]]) := by
  intro base w gs tm hr
  have hxv := hr.ev x
  rw [hx] at hxv
  generalize hv : Act.eval ⟨tm, []⟩ x = v at hxv
  cases hxv with
  | @own _ gk hgk =>
    obtain ⟨b1, b2, b3⟩ := hr.ho _ _ _ hgk hk
    obtain ⟨ua, uc, eu⟩ := ownsRow_slice b1
    obtain ⟨ii, hi, hs, hz, hby⟩ := he.info
    have hbel := below_alloc w (.cells [gk.v].toArray e)
    have hlt : w.heap.size < (w.alloc (.cells [gk.v].toArray e)).heap.size := by simp
    have hno : AO.slr e [.own k] ≠ .dead → ∀ b, b ∈ [w.heap.size] → w.heap.size ≤ b ∧ b < (w.alloc (.cells [gk.v].toArray e)).heap.size := fun _ b hb => by simp at hb; omega
    let gn : Gh := ⟨.slice (some ⟨w.heap.size, 0, none⟩) 1 1, w.heap.size, [w.heap.size], []⟩
    have hgs : ∀ (i : Nat) g', gs[i]? = some g' → (gs ++ [gn])[i]? = some g' := fun i g' e => by
      rw [List.getElem?_append_left (List.getElem?_eq_some_iff.1 e).1]; exact e
    refine ⟨.slice (some ⟨w.heap.size, 0, none⟩) 1 1, _, gs ++ [gn], .inl ?_, hr.new hbel _ _ hno ?_, ?_, hbel.mono hr.hb⟩
    · simp [execOp, Instr.buildSlice, run_underlying ht.und, sizeOf, typeInfo, zeroValue, hi, hs, hz, Instr.fill, newRow, hv, eu, Value.cells, ar1]
    · refine ⟨[gk.v], ⟨rfl, .inr ⟨w.heap.size, 1, _, rfl, hr.hb, heap_alloc_new w _, Nat.le_refl _, by simp [maxLen], by simp, by simp⟩⟩, rfl, fun i => ?_, .inr ⟨rfl, rfl⟩⟩
      match i with
      | 0 => exact .own (hgs _ _ hgk)
      | i + 1 => exact .any _
    · have := RV.own (w := w.alloc (.cells [gk.v].toArray e)) (ok := okOf (gs ++ [gn]) (os ++ [.slr e [.own k]])) (len_new (gs := gs) (g := gn))
      rw [hr.hl] at this
      exact this

theorem l_bslr0 {t e : TypeId} {bytes : Nat} [ht : TSlice P t e] [he : TElem P e (.slice none 0 0) bytes] : LOp P ⟨d, .buildSlice t 0 #[], ty, pos, af, g⟩ env os (.own os.length) env (os ++ [.slr e []]) := l_bsx0 0


/-- A cell of a row is written. -/
theorem l_store_orptr {t : TypeId} [ht : TCell P t] {x y : Operand} {h i j : Nat} {e e2 : TypeId} {xss : List (List Int)} {n : Int} (hx : AV.ev env x = .orptr h i j) (hs : os[h]? = some (.sls e e2 xss)) (hi : i < xss.length) (hj : j < (xss.getD i []).length) (hy : AV.ev env y = .i n) (hn : inI n) :
    LOp P ⟨d, .store t x y, ty, pos, af, g⟩ env os .any env (os.set h (.sls e e2 (xss.set i ((xss.getD i []).set j n)))) := by
  intro base w gs tm hr
  have hh := hr.ev x
  rw [hx] at hh
  generalize hv : Act.eval ⟨tm, []⟩ x = v at hh
  cases hh with
  | @orptr _ _ _ blk m c gh hg hrow =>
    obtain ⟨vs, bs, mb, a1, a2, a3, a4, a5, a6, a7, a8⟩ := hr.ho _ _ _ hg hs
    rw [a4] at hrow
    obtain ⟨r1, r2, r3⟩ := a5 _ _ hrow
    have hib : i < bs.length := by omega
    obtain ⟨b, cap, e1, e2', e3', e4⟩ := own_slice r1 (i := j) (by simpa using hj)
    simp only [Value.slice.injEq, Option.some.injEq, Addr.mk.injEq, and_true] at e1
    obtain ⟨rfl, em, rfl⟩ := e1
    have hst := r1
    rw [em] at hst
    have hst := hst.stored j (.int .i64 n)
    have hbi : blk ∈ bs.getD i [] := by rw [← r3]; simp [Value.ownBlock]
    have hbf : blk ∈ bs.flatten := List.mem_flatten.2 ⟨bs.getD i [], by rw [List.getD_eq_getElem?_getD, List.getElem?_eq_getElem hib]; simp, hbi⟩
    have hbg : blk ∈ gh.bl := by rw [a7]; exact List.mem_append.2 (.inr hbf)
    have hap : ∀ c, c ≠ blk → (w.setCell ⟨blk, j, none⟩ (.int .i64 n)).heap[c]? = w.heap[c]? := fun c hc => heap_setCell_other w ⟨blk, j, none⟩ c _ (fun e' => hc e')
    rw [a7] at a8
    obtain ⟨nm, nf, nd⟩ := List.nodup_append.1 a8
    have hcell : w.cell? ⟨blk, j, none⟩ = some (.int .i64 ((xss.getD i []).getD j 0)) := by rw [e3']; generalize xss.getD i [] = row at hj ⊢; simp [hj]
    refine ⟨undef, w.setCell ⟨blk, j, none⟩ (.int .i64 n), gs, .inr ⟨?_, rfl⟩, hr.upd hg hs trivial _ trivial (fun c hc hcb => hap c (fun e' => hcb (by rw [e']; exact hbg))) hst.2.size fun _ => ?_, .any _, ?_⟩
    · have := run_store_cell (P := P) (t := t) (a := ⟨blk, j, none⟩) hcell e4 (v := .int .i64 n) rfl rfl
      simp only [execOp, hv, hr.evv hy, Sem.run_bind, this, Result.andThen_ok, Sem.run_pure]
    · refine ⟨vs, bs, mb, ownsRow_of_block a1 fun c hc => hap c fun e' => ?_, by simpa using a2, by simpa using a3, a4, fun k u hu => ?_, a6, a7, by rw [a7]; exact a8⟩
      · subst e'
        rcases a6 with ⟨c1, _⟩ | ⟨c1, c2⟩
        · rw [c1] at hc; cases hc
        · rw [c1] at hc; cases hc
          exact nd _ (by rw [c2]; simp) _ hbf rfl
      · obtain ⟨q1, q2, q3⟩ := a5 k u hu
        have hk := (List.getElem?_eq_some_iff.1 hu).1
        by_cases hki : k = i
        · subst hki
          rw [hrow] at hu
          cases hu
          have eg : (xss.set k ((xss.getD k []).set j n)).getD k [] = (xss.getD k []).set j n := by
            rw [List.getD_eq_getElem?_getD, List.getElem?_set_self hi]; rfl
          rw [eg]
          refine ⟨?_, fun z hz => ?_, q3⟩
          · rw [em, List.length_set, List.map_set]
            exact hst.1
          · rcases List.mem_or_eq_of_mem_set hz with h1 | rfl
            · exact q2 z h1
            · exact hn
        · have eg : (xss.set i ((xss.getD i []).set j n)).getD k [] = xss.getD k [] := by
            rw [List.getD_eq_getElem?_getD, List.getElem?_set, if_neg (fun e' => hki e'.symm), List.getD_eq_getElem?_getD]
          rw [eg]
          refine ⟨ownsRow_of_block q1 fun c hc => hap c fun e' => ?_, q2, q3⟩
          subst e'
          have hc2 : c ∈ bs.getD k [] := by rw [← q3, hc]; simp
          have hkb : k < bs.length := by omega
          have hpw := (List.pairwise_flatten.1 nf).2
          rw [List.pairwise_iff_getElem] at hpw
          rw [List.getD_eq_getElem?_getD, List.getElem?_eq_getElem hkb] at hc2
          rw [List.getD_eq_getElem?_getD, List.getElem?_eq_getElem hib] at hbi
          simp only [Option.getD_some] at hc2 hbi
          rcases Nat.lt_or_gt_of_ne hki with hlt | hgt
          · exact hpw k i hkb hib hlt c hc2 c hbi rfl
          · exact hpw i k hib hkb hgt c hbi c hc2 rfl
    · have hbb : base ≤ blk := (hr.hn _ _ _ hg hs (by simp) blk hbg).1
      exact (Below.refl _ _).setCell (p := ⟨blk, j, none⟩) hbb _
end

/-! ### Functions that hand back an own slice of rows in the place of the one that they were handed -/
/-- The function is handed the own slice of rows 'xss' (handle 0) and hands back one made of its memory and new memory. All else is as it was. -/
def AFnT (P : Program) (f : FuncId) (args : List AV) (T T2 : TypeId) (xss : List (List Int)) (Q : List (List Int) → Prop) : Prop :=
  HasBody P f ∧ ∀ base w g vs, base ≤ w.heap.size → Objs base w [g] [.sls T T2 xss] → vs.size = args.length → (∀ i : Nat, RV w (okOf [g] [.sls T T2 xss]) [g] (vs.getD i undef) (args.getD i .any)) →
    Calls P f vs w fun e w' => ∃ g' xss', e = .returned g'.v ∧ Q xss' ∧ RO base w' (fun _ => True) [g'] g' (.sls T T2 xss') ∧ (∀ b, b ∈ g'.bl → (b ∈ g.bl ∨ w.heap.size ≤ b) ∧ b < w'.heap.size) ∧ Below base w w' ∧ ∀ b, b < w.heap.size → b ∉ g.bl → w'.heap[b]? = w.heap[b]?

theorem AFnT.of {P : Program} {f : FuncId} {fn : Func} {c : Code} {args args' : List AV} {T T2 : TypeId} {xss : List (List Int)} {Q : List (List Int) → Prop} {n : Nat} (hf : P.funcs[f]? = some fn) (hb : fn.body = some c) (hnm : (fn.name == "runtime.NumGoroutine") = false) (hn : fn.ntmps - args.length = n) (ha : args' = args.map (AV.sh 1))
    (h : ∀ K, AWp P c (fun _ _ => False) (fun _ _ _ => False) (fun env os => ∃ env2 os2 k xss', Turns env os env2 os2 ∧ ResIs P fn env2 os2 (.own k) ∧ os2[k]? = some (.sls T T2 xss') ∧ Q xss' ∧ os2[0]? = some (.keep 1 K)) (Env.start args' n) [.keep 1 K, .sls T T2 xss]) :
    AFnT P f args T T2 xss Q := by
  refine ⟨⟨fn, c, hf, hnm, hb⟩, fun base w g vs hbase hO hsz hvs => calls_of_wp hf hb ?_⟩
  rw [show fn.ntmps - vs.size = n by rw [hsz]; exact hn]
  let bl : List Nat := (List.range w.heap.size).filter fun b => decide (base ≤ b) && !g.bl.contains b
  let gk : Gh := ⟨undef, 0, bl, []⟩
  let K : Kp := ⟨fun b => w.heap[b]?, [gk]⟩
  have hbl : ∀ b, b ∈ bl ↔ b < w.heap.size ∧ base ≤ b ∧ b ∉ g.bl := by
    intro b
    simp only [bl, List.mem_filter, List.mem_range, Bool.and_eq_true, decide_eq_true_eq, Bool.not_eq_true', List.contains_eq_mem, decide_eq_false_iff_not]
  have gg : ∀ {i : Nat} {x : Gh}, [gk, g][i]? = some x → (i = 0 ∧ x = gk) ∨ (i = 1 ∧ x = g) := by
    intro i x hx
    match i with
    | 0 => simp at hx; exact .inl ⟨rfl, hx.symm⟩
    | 1 => simp at hx; exact .inr ⟨rfl, hx.symm⟩
    | i + 2 => simp at hx
  have go : ∀ {i : Nat} {x : AO}, [AO.keep 1 K, AO.sls T T2 xss][i]? = some x → (i = 0 ∧ x = .keep 1 K) ∨ (i = 1 ∧ x = .sls T T2 xss) := by
    intro i x hx
    match i with
    | 0 => simp at hx; exact .inl ⟨rfl, hx.symm⟩
    | 1 => simp at hx; exact .inr ⟨rfl, hx.symm⟩
    | i + 2 => simp at hx
  have hkeep : Keeps (okOf [g] [.sls T T2 xss]) (okOf [gk, g] [.keep 1 K, .sls T T2 xss]) w w := by
    intro b hbk _
    refine ⟨fun i x y hx hy hny hm => ?_, rfl⟩
    rcases gg hx with ⟨rfl, rfl⟩ | ⟨rfl, rfl⟩
    · rcases go hy with ⟨_, rfl⟩ | ⟨h0, _⟩
      · exact hny.elim
      · omega
    · rcases go hy with ⟨h0, _⟩ | ⟨_, rfl⟩
      · omega
      · exact hbk 0 _ _ rfl rfl hny hm
  have hro0 := hO.ho 0 g _ rfl rfl
  have hn0 := hO.hn 0 g rfl
  have hrel : Rel base w [gk, g] (Env.start args' n) [.keep 1 K, .sls T T2 xss] (vs ++ Array.replicate n undef) := by
    refine ⟨hbase, rfl, by simp [Env.start, hsz, ha], fun i => start_rv args' n vs (fun i => ?_) i, ?_, ?_, ?_⟩
    · rw [ha, getD_map_any _ rfl]
      have := (hvs i).sh (gs0 := [gk]) hkeep
      exact this
    · intro i x y hx hy
      rcases gg hx with ⟨rfl, rfl⟩ | ⟨rfl, rfl⟩
      · rcases go hy with ⟨_, rfl⟩ | ⟨h0, _⟩
        · exact ⟨fun b _ => rfl, rfl, fun i x h => by
            match i with
            | 0 => exact h
            | i + 1 => simp [K] at h⟩
        · omega
      · rcases go hy with ⟨h0, _⟩ | ⟨_, rfl⟩
        · omega
        · exact AO.plain.ro trivial hro0
    · intro i j g1 g2 o1 o2 hij hg1 hg2 ho1 ho2 _ _ b hb1 hb2
      rcases gg hg1 with ⟨rfl, rfl⟩ | ⟨rfl, rfl⟩
      · rcases gg hg2 with ⟨rfl, rfl⟩ | ⟨rfl, rfl⟩
        · exact hij rfl
        · exact ((hbl b).1 hb1).2.2 hb2
      · rcases gg hg2 with ⟨rfl, rfl⟩ | ⟨rfl, rfl⟩
        · exact ((hbl b).1 hb2).2.2 hb1
        · exact hij rfl
    · intro i x y hx hy _ b hb
      rcases gg hx with ⟨rfl, rfl⟩ | ⟨rfl, rfl⟩
      · exact ⟨((hbl b).1 hb).2.1, ((hbl b).1 hb).1⟩
      · exact hn0 b hb
  refine wp_mono (h K base w w _ _ hrel (Below.refl _ _)) ?_
  intro e a w' hq
  cases e with
  | normal => obtain ⟨_, _, _, _, _, _, hx⟩ := hq; exact hx.elim
  | exit j => obtain ⟨_, _, _, _, _, _, hx⟩ := hq; exact hx.elim
  | ret =>
    obtain ⟨env, os1, gs1, hr1, hd, hbel, env2, os2, k, xss', ht, hres, hok, hQ, hkp⟩ := hq
    obtain ⟨gs2, hr⟩ := ht base w' gs1 _ hr1
    obtain ⟨v, hu, hv⟩ := hres _ _ _ _ hr
    cases hv with
    | @own _ g' hg' =>
      have hlt0 : 0 < gs2.length := by rw [hr.hl]; exact (List.getElem?_eq_some_iff.1 hkp).1
      obtain ⟨g0, hg0⟩ : ∃ g0, gs2[0]? = some g0 := ⟨_, List.getElem?_eq_getElem hlt0⟩
      obtain ⟨r1, r2, r3⟩ := hr.ho _ _ _ hg0 hkp
      have egk : g0 = gk := by
        have := r3 0 gk rfl
        rw [hg0] at this
        exact Option.some.inj this
      subst egk
      have hk0 : k ≠ 0 := fun e => by subst e; rw [hkp] at hok; cases hok
      refine ⟨hd, g'.v, hu, g', xss', rfl, hQ, AO.plain.ro trivial (hr.ho _ _ _ hg' hok), fun b hb => ?_, hbel, fun b hb hnot => ?_⟩
      · have hbn := hr.hn _ _ _ hg' hok (by simp) b hb
        refine ⟨?_, hbn.2⟩
        by_cases hbw : b < w.heap.size
        · left
          apply Classical.byContradiction
          intro hnb
          exact hr.hd k 0 g' _ _ _ hk0 hg' hg0 hok hkp (by simp) (by simp) b hb ((hbl b).2 ⟨hbw, hbn.1, hnb⟩)
        · right; omega
      · rcases Nat.lt_or_ge b base with h6 | h6
        · exact hbel.block b h6
        · exact r1 b ((hbl b).2 ⟨hb, h6, hnot⟩)
  | goto l => exact (hq : False).elim
  | panic ch => exact (hq : False).elim
  | outgrown => exact (hq : False).elim
theorem AFnT.start {P : Program} {f : FuncId} {fn : Func} {nt : Nat} {args : List AV} {T T2 : TypeId} {xss : List (List Int)} {Q : List (List Int) → Prop} (hf : P.funcs[f]? = some fn) (hnt : fn.ntmps = nt) {c : Code} (hb : fn.body = some c) (hnm : (fn.name == "runtime.NumGoroutine") = false)
    (h : ∀ K, AWp P c (fun _ _ => False) (fun _ _ _ => False) (fun env os => ∃ env2 os2 k xss', Turns env os env2 os2 ∧ ResIs P fn env2 os2 (.own k) ∧ os2[k]? = some (.sls T T2 xss') ∧ Q xss' ∧ os2[0]? = some (.keep 1 K)) (Env.start (args.map (AV.sh 1)) (nt - args.length)) [.keep 1 K, .sls T T2 xss]) :
    AFnT P f args T T2 xss Q := AFnT.of hf hb hnm (by rw [hnt]) rfl h

/-- All that hangs on handle 'h' is forgotten. -/
def AV.lose1 (h : Nat) : AV → AV
  | .own k => if k = h then .any else .own k
  | .optr k i => if k = h then .any else .optr k i
  | .osub k a b => if k = h then .any else .osub k a b
  | .orow k i => if k = h then .any else .orow k i
  | .orptr k i j => if k = h then .any else .orptr k i j
  | .agg _ => .any
  | .tup _ => .any
  | a => a
def AV.lose (h : Nat) : AV → AV
  | .own k => if k = h then .any else .own k
  | .optr k i => if k = h then .any else .optr k i
  | .osub k a b => if k = h then .any else .osub k a b
  | .orow k i => if k = h then .any else .orow k i
  | .orptr k i j => if k = h then .any else .orptr k i j
  | .agg l => .agg (l.map (AV.lose1 h))
  | .tup l => .tup (l.map (AV.lose1 h))
  | a => a
section
variable {w w' : World} {ok ok' : Nat → Prop} {gs : List Gh} {h : Nat} {g' : Gh}
theorem getD_map_lose1 (l : List AV) (i : Nat) : (l.map (AV.lose1 h)).getD i .any = (l.getD i .any).lose1 h := by
  simp only [List.getD_eq_getElem?_getD, List.getElem?_map]
  cases l[i]? <;> rfl
theorem RV.lose1 (k : Keeps ok ok' w w') {v : Value} {a : AV} (hv : RV w ok gs v a) : RV w' ok' (gs.set h g') v (a.lose1 h) := by
  have hg : ∀ {j : Nat} {x : Gh}, j ≠ h → gs[j]? = some x → (gs.set h g')[j]? = some x := fun hj hx => by
    rw [List.getElem?_set, if_neg (fun e => hj e.symm)]; exact hx
  cases hv with
  | any v => exact .any v
  | val v => exact .val v
  | ints h => exact .ints (h.mono k)
  | intss h => exact .intss (h.mono k)
  | @ro v r h => exact .ro (r.up k h)
  | iptr h h1 h2 => exact .iptr (h.mono k) h1 h2
  | iiptr h h1 h2 => exact .iiptr (h.mono k) h1 h2
  | own h1 =>
    simp only [AV.lose1]; split
    · exact .any _
    · exact .own (hg ‹_› h1)
  | optr h1 =>
    simp only [AV.lose1]; split
    · exact .any _
    · exact .optr (hg ‹_› h1)
  | osub h1 h2 h3 h4 =>
    simp only [AV.lose1]; split
    · exact .any _
    · exact .osub (hg ‹_› h1) h2 h3 h4
  | orow h1 h2 =>
    simp only [AV.lose1]; split
    · exact .any _
    · exact .orow (hg ‹_› h1) h2
  | orptr h1 h2 =>
    simp only [AV.lose1]; split
    · exact .any _
    · exact .orptr (hg ‹_› h1) h2
  | agg _ _ _ => exact .any _
  | tup _ _ => exact .any _
theorem RV.lose (k : Keeps ok ok' w w') {v : Value} {a : AV} (hv : RV w ok gs v a) : RV w' ok' (gs.set h g') v (a.lose h) := by
  have hg : ∀ {j : Nat} {x : Gh}, j ≠ h → gs[j]? = some x → (gs.set h g')[j]? = some x := fun hj hx => by
    rw [List.getElem?_set, if_neg (fun e => hj e.symm)]; exact hx
  cases hv with
  | any v => exact .any v
  | val v => exact .val v
  | ints h => exact .ints (h.mono k)
  | intss h => exact .intss (h.mono k)
  | @ro v r h => exact .ro (r.up k h)
  | iptr h h1 h2 => exact .iptr (h.mono k) h1 h2
  | iiptr h h1 h2 => exact .iiptr (h.mono k) h1 h2
  | own h1 =>
    simp only [AV.lose]; split
    · exact .any _
    · exact .own (hg ‹_› h1)
  | optr h1 =>
    simp only [AV.lose]; split
    · exact .any _
    · exact .optr (hg ‹_› h1)
  | osub h1 h2 h3 h4 =>
    simp only [AV.lose]; split
    · exact .any _
    · exact .osub (hg ‹_› h1) h2 h3 h4
  | orow h1 h2 =>
    simp only [AV.lose]; split
    · exact .any _
    · exact .orow (hg ‹_› h1) h2
  | orptr h1 h2 =>
    simp only [AV.lose]; split
    · exact .any _
    · exact .orptr (hg ‹_› h1) h2
  | agg h1 h3 h2 => exact .agg (by simpa using h1) h3 fun i => by rw [getD_map_lose1]; exact (h2 i).lose1 k
  | tup h1 h2 => exact .tup (by simpa using h1) fun i => by rw [getD_map_lose1]; exact (h2 i).lose1 k
end

section
variable {P : Program} {env : Env} {os : List AO} {d : Option Tmp} {ty : TypeId} {pos : String} {af : Array Edge} {g : Option (Nat × Bool)}
theorem c_callt {f : FuncId} {args : List AV} {T T2 : TypeId} {xss : List (List Int)} {Q : List (List Int) → Prop} (hc : AFnT P f args T T2 xss Q) {xs : List Operand} {ats : Array TypeId} {h : Nat} (hs : os[h]? = some (.sls T T2 xss)) (hi : ImmUs os [h] (xs.map (AV.ev env)) args) :
    COp P ⟨d, .call { callee := .value (.func f), args := xs.toArray, argTypes := ats }, ty, pos, af, g⟩ env os (fun r e o => ∃ xss', Q xss' ∧ r = .own h ∧ e = env.mp (AV.lose h) ∧ o = (((os ++ [AO.sli T2 []]).map (AO.via (AV.lose h) h)).set h (.sls T T2 xss')).set os.length .dead) := by
  intro base w gs tm hr
  have hh : Handed os [h] [.sls T T2 xss] := handed1 hs True.intro
  have hg := hi.get
  have hlt := hh.lt h (by simp)
  have hgl : h < gs.length := by rw [hr.hl]; exact hlt
  obtain ⟨gh, hgh⟩ : ∃ x, gs[h]? = some x := ⟨_, List.getElem?_eq_getElem hgl⟩
  have esel : selG gs [h] = [gh] := by simp [selG, hgh]
  have hobj := hr.objs hh
  rw [esel] at hobj
  refine ⟨f, _, run_call hc.1 xs ats _ rfl w, (hc.2 base w gh _ hr.hb hobj (by simpa using hg.1) fun i => ?_).mono ?_⟩
  · have h1 := hg.2 i
    have e1 : (xs.map (AV.ev env)).getD i .any = match xs[i]? with | some x => AV.ev env x | none => .any := by
      simp only [List.getD_eq_getElem?_getD, List.getElem?_map]; cases xs[i]? <;> rfl
    have e2 : (xs.map (Act.eval ⟨tm, []⟩)).toArray.getD i undef = match xs[i]? with | some x => Act.eval ⟨tm, []⟩ x | none => undef := by
      simp only [Array.getD_eq_getD_getElem?, List.getElem?_toArray, List.getElem?_map]; cases xs[i]? <;> rfl
    rw [e1] at h1
    rw [e2, ← esel]
    cases hx : xs[i]? with
    | some x => rw [hx] at h1; exact h1.rv hr hh (hr.ev x)
    | none => rw [hx] at h1; exact h1.rv hr hh (.any _)
  · rintro e w' ⟨g', xss', rfl, hq, hro, hbl, hbel, hfr⟩
    let gd : Gh := ⟨.slice none 0 0, 0, [], []⟩
    have hr1 : Rel base w (gs ++ [gd]) env (os ++ [.sli T2 []]) tm := hr.new (Below.refl _ _) (.sli T2 []) gd (fun _ b hb => by simp [gd] at hb) ⟨World.ownsRow_nil w base T2 1, fun x hx => by simp at hx, .inl ⟨rfl, rfl⟩⟩
    have hg1 : (gs ++ [gd])[h]? = some gh := by rw [List.getElem?_append_left hgl]; exact hgh
    have hs1 : (os ++ [AO.sli T2 []])[h]? = some (.sls T T2 xss) := by rw [List.getElem?_append_left hlt]; exact hs
    have hgd : (gs ++ [gd])[os.length]? = some gd := by rw [← hr.hl]; simp
    have hod : (os ++ [AO.sli T2 []])[os.length]? = some (.sli T2 []) := by simp
    refine ⟨g'.v, .own h, _, _, (gs ++ [gd]).set h g', rfl, ⟨xss', hq, rfl, rfl, rfl⟩, hr1.absorb hg1 hs1 trivial hgd hod trivial (by omega) g' _ (AV.lose h) rfl hfr hbel.size ?_ (fun kp hv => hv.lose kp) (fun _ => AO.plain.ro trivial hro), .own (by rw [List.getElem?_set_self (by rw [List.length_append]; omega)]), hbel⟩
    intro b hb
    have := hbl b hb
    refine ⟨?_, this.2⟩
    rcases this.1 with h1 | h1
    · exact .inl h1
    · exact .inr (.inr h1)
end

section
variable {P : Program} {env : Env} {os : List AO} {d : Tmp} {ty : TypeId} {pos : String} {af : Array Edge} {g : Option (Nat × Bool)} {l rest : List Oper} {K : APost} {q : Md}
theorem w_callt {f : FuncId} {args : List AV} {T T2 : TypeId} {xss : List (List Int)} {Q : List (List Int) → Prop} {xs : List Operand} {ats : Array TypeId} (h : Nat) {m : Nat} (hc : AFnT P f args T T2 xss Q) (hs : os[h]? = some (.sls T T2 xss)) (hm : os.length = m) (hi : ImmUs os [h] (xs.map (AV.ev env)) args)
    (h' : ∀ xss', Q xss' → AOps P .seq l rest K (Env.up (env.mp (AV.lose h)) d (.own h)) ((((os ++ [AO.sli T2 []]).map (AO.via (AV.lose h) h)).set h (.sls T T2 xss')).set m .dead)) :
    AOps P .seq l (⟨some d, .call { callee := .value (.func f), args := xs.toArray, argTypes := ats }, ty, pos, af, none⟩ :: rest) K env os :=
  AOps.ca (c_callt hc hs hi) fun r e o ⟨xss', h1, h2, h3, h4⟩ => by subst h2; subst h3; subst h4; subst hm; exact h' xss' h1
theorem w_slshi {t e : TypeId} [TSlice P t e] [TCell P e] {x y : Operand} {h : Nat} {e' e2 : TypeId} {xss : List (List Int)} {n : Int} (hw : wantedA l env ⟨some d, .slice t x none (some y) none, ty, pos, af, g⟩ = some true) (hx : evo env x = some (.own h)) (hs : os[h]? = some (.sls e' e2 xss)) (hy : evo env y = some (.i n)) (h0 : 0 ≤ n) (h1 : n ≤ xss.length)
    (h' : AOps P q l rest K (env.up d (.osub h 0 n.toNat)) os) : AOps P q l (⟨some d, .slice t x none (some y) none, ty, pos, af, g⟩ :: rest) K env os := AOps.qo hw (q_sls_hi (ev_of hx) hs (ev_of hy) h0 h1) h'
theorem w_slslo {t e : TypeId} [TSlice P t e] [TCell P e] {x y : Operand} {h : Nat} {e' e2 : TypeId} {xss : List (List Int)} {n : Int} (hw : wantedA l env ⟨some d, .slice t x (some y) none none, ty, pos, af, g⟩ = some true) (hx : evo env x = some (.own h)) (hs : os[h]? = some (.sls e' e2 xss)) (hy : evo env y = some (.i n)) (h0 : 0 ≤ n) (h1 : n ≤ xss.length)
    (h' : AOps P q l rest K (env.up d (.osub h n.toNat (xss.length - n.toNat))) os) : AOps P q l (⟨some d, .slice t x (some y) none none, ty, pos, af, g⟩ :: rest) K env os := AOps.qo hw (q_sls_lo (ev_of hx) hs (ev_of hy) h0 h1) h'
theorem w_bslr0 {t e : TypeId} {bytes : Nat} [TSlice P t e] [TElem P e (.slice none 0 0) bytes] {m : Nat} (hm : os.length = m) (h' : AOps P .seq l rest K (env.up d (.own m)) (os ++ [.slr e []])) :
    AOps P .seq l (⟨some d, .buildSlice t 0 #[], ty, pos, af, none⟩ :: rest) K env os := AOps.lo (hm ▸ l_bslr0) h'
theorem w_bslr1 {t e : TypeId} {bytes : Nat} [TSlice P t e] [TElem P e (.slice none 0 0) bytes] {x : Operand} {k m : Nat} {e3 : TypeId} {ys : List Int} (hx : evo env x = some (.own k)) (hk : os[k]? = some (.sli e3 ys)) (hm : os.length = m)
    (h' : AOps P .seq l rest K (env.up d (.own m)) (os ++ [.slr e [.own k]])) : AOps P .seq l (⟨some d, .buildSlice t 1 #[(0, x)], ty, pos, af, none⟩ :: rest) K env os := AOps.lo (hm ▸ l_bslr1 (ev_of hx) hk) h'
theorem w_appsub {t e : TypeId} {bytes : Nat} [TSlice P t e] [TElem P e (.slice none 0 0) bytes] {x y : Operand} {p h off len : Nat} {e' e1 e2 : TypeId} {xss : List (List Int)} {avs : List AV}
    (hx : evo env x = some (.own p)) (hs : os[p]? = some (.slr e' avs)) (hee : e' = e) (hy : evo env y = some (.osub h off len)) (hh : os[h]? = some (.sls e1 e2 xss)) (hle : off + len ≤ xss.length) (hb : (avs.length + len) * bytes ≤ 140737488355328) (hk : avs.map (AV.kill p) = avs)
    (h' : AOps P .seq l rest K (Env.up (env.mp (AV.kill p)) d (.own p)) ((os.map (AO.kill p)).set p (.slr e (avs ++ (List.range' off len).map (AV.orow h))))) :
    AOps P .seq l (⟨some d, .call { callee := .builtin .append, args := #[x, y], argTypes := #[t, t] }, ty, pos, af, none⟩ :: rest) K env os := AOps.lo (l_append_src (ev_of hx) hs hee (src_sub (ev_of hy) hh hle) (by simpa using hb) hk (map_orow_kill p h _)) h'
theorem w_appslr {t e : TypeId} {bytes : Nat} [TSlice P t e] [TElem P e (.slice none 0 0) bytes] {x y : Operand} {p h : Nat} {e' e1 : TypeId} {avs avs2 : List AV}
    (hx : evo env x = some (.own p)) (hs : os[p]? = some (.slr e' avs)) (hee : e' = e) (hy : evo env y = some (.own h)) (hh : os[h]? = some (.slr e1 avs2)) (hok : RowsOk os avs2) (hb : (avs.length + avs2.length) * bytes ≤ 140737488355328) (hk : avs.map (AV.kill p) = avs) (hk2 : avs2.map (AV.kill p) = avs2)
    (h' : AOps P .seq l rest K (Env.up (env.mp (AV.kill p)) d (.own p)) ((os.map (AO.kill p)).set p (.slr e (avs ++ avs2)))) :
    AOps P .seq l (⟨some d, .call { callee := .builtin .append, args := #[x, y], argTypes := #[t, t] }, ty, pos, af, none⟩ :: rest) K env os := AOps.lo (l_append_src (ev_of hx) hs hee (src_slr (ev_of hy) hh hok) hb hk hk2) h'
theorem w_storp {t : TypeId} [TCell P t] {x y : Operand} {h i j : Nat} {e e2 : TypeId} {xss : List (List Int)} {n : Int} (hx : evo env x = some (.orptr h i j)) (hs : os[h]? = some (.sls e e2 xss)) (hi : i < xss.length) (hj : j < (xss.getD i []).length) (hy : evo env y = some (.i n)) (hn : inI n)
    (h' : AOps P .seq l rest K env (os.set h (.sls e e2 (xss.set i ((xss.getD i []).set j n))))) : AOps P .seq l (⟨none, .store t x y, ty, pos, af, none⟩ :: rest) K env os := AOps.so (l_store_orptr (ev_of hx) hs hi hj (ev_of hy) hn) h'
theorem w_bs3 {t e : TypeId} {bytes : Nat} [TSlice P t e] [TElem P e (.int .i64 0) bytes] {x y z : Operand} {a b c : Int} {m : Nat} (hx : evo env x = some (.i a)) (hy : evo env y = some (.i b)) (hz : evo env z = some (.i c)) (hm : os.length = m) (ha : inI a) (hb : inI b) (hc : inI c)
    (h' : AOps P .seq l rest K (env.up d (.own m)) (os ++ [.sli e [a, b, c]])) : AOps P .seq l (⟨some d, .buildSlice t 3 #[(0, x), (1, y), (2, z)], ty, pos, af, none⟩ :: rest) K env os := AOps.lo (hm ▸ l_bs3 (ev_of hx) (ev_of hy) (ev_of hz) ha hb hc) h'
end
end Go.Proofs.Ytpllbdjobmgikaa
/-
  Functions that use up own memory that is handed to them, and hand back own memory. No condition.
-/
namespace Go.Proofs.Ytpllbdjobmgikaa
open Go Go.RowKit

/-- Values that hold no more than two levels of parts, and read nothing. -/
def AV.fl0 : AV → Prop
  | .any => True
  | .val _ => True
  | .own _ => True
  | .optr _ _ => True
  | .osub _ _ _ => True
  | .orow _ _ => True
  | .orptr _ _ _ => True
  | _ => False
def AV.fl1 : AV → Prop
  | .agg l => ∀ a ∈ l, a.fl0
  | a => a.fl0
def AV.fl : AV → Prop
  | .agg l => ∀ a ∈ l, a.fl0
  | .tup l => ∀ a ∈ l, a.fl1
  | a => a.fl0
section
variable {w : World} {ok ok' : Nat → Prop} {gs : List Gh} {g0 : Gh}
theorem RV.unsh0 {v : Value} {a : AV} (hf : a.fl0) (hv : RV w ok (g0 :: gs) v (a.sh0 1)) : RV w ok' gs v a := by
  cases a with
  | any => exact .any v
  | val u => cases hv with | val => exact .val _
  | own k => cases hv with | own h => exact .own (by simpa using h)
  | optr k i => cases hv with | optr h => exact .optr (by simpa using h)
  | osub k i j => cases hv with | osub h h1 h2 h3 => exact .osub (by simpa using h) h1 h2 h3
  | orow k i => cases hv with | orow h h1 => exact .orow (by simpa using h) h1
  | orptr k i j => cases hv with | orptr h h1 => exact .orptr (by simpa using h) h1
  | _ => exact hf.elim
theorem getD_mem_any {l : List AV} {p : AV → Prop} (h : ∀ a ∈ l, p a) (hany : p .any) (i : Nat) : p (l.getD i .any) := by
  rw [List.getD_eq_getElem?_getD]
  cases e : l[i]? with
  | none => exact hany
  | some a => exact h a (List.mem_of_getElem? e)
theorem RV.unsh1 {v : Value} {a : AV} (hf : a.fl1) (hv : RV w ok (g0 :: gs) v (a.sh1 1)) : RV w ok' gs v a := by
  cases a with
  | agg l => cases hv with | agg h1 h3 h2 => exact .agg (by simpa using h1) h3 (fun i => RV.unsh0 (getD_mem_any hf trivial i) (by have := h2 i; rw [getD_map_any _ rfl] at this; exact this))
  | any => exact .any v
  | val u => exact RV.unsh0 (a := .val u) trivial hv
  | own k => exact RV.unsh0 (a := .own k) trivial hv
  | optr k i => exact RV.unsh0 (a := .optr k i) trivial hv
  | osub k i j => exact RV.unsh0 (a := .osub k i j) trivial hv
  | orow k i => exact RV.unsh0 (a := .orow k i) trivial hv
  | orptr k i j => exact RV.unsh0 (a := .orptr k i j) trivial hv
  | _ => exact hf.elim
theorem RV.unsh {v : Value} {a : AV} (hf : a.fl) (hv : RV w ok (g0 :: gs) v (a.sh 1)) : RV w ok' gs v a := by
  cases a with
  | agg l => exact RV.unsh1 (a := .agg l) hf hv
  | tup l => cases hv with | tup h1 h2 => exact .tup (by simpa using h1) (fun i => RV.unsh1 (getD_mem_any hf trivial i) (by have := h2 i; rw [getD_map_any _ rfl] at this; exact this))
  | any => exact .any v
  | val u => exact RV.unsh0 (a := .val u) trivial hv
  | own k => exact RV.unsh0 (a := .own k) trivial hv
  | optr k i => exact RV.unsh0 (a := .optr k i) trivial hv
  | osub k i j => exact RV.unsh0 (a := .osub k i j) trivial hv
  | orow k i => exact RV.unsh0 (a := .orow k i) trivial hv
  | orptr k i j => exact RV.unsh0 (a := .orptr k i j) trivial hv
  | _ => exact hf.elim
end

/-- The function uses up the objects 'objs', which its arguments name, and hands back r over the objects os', of which Q speaks. All else is as it was. -/
def AFnC (P : Program) (f : FuncId) (args : List AV) (objs : List AO) (Q : AV → List AO → Prop) : Prop :=
  HasBody P f ∧ ∀ base w gs vs, base ≤ w.heap.size → Objs base w gs objs → vs.size = args.length → (∀ i : Nat, RV w (okOf gs objs) gs (vs.getD i undef) (args.getD i .any)) →
    Calls P f vs w fun e w' => ∃ v r os' gs', e = .returned v ∧ Q r os' ∧ Objs base w' gs' os' ∧ RV w' (fun _ => False) gs' v r ∧
      (∀ (h : Nat) g, gs'[h]? = some g → ∀ b, b ∈ g.bl → (∃ (k : Nat) (g0 : Gh), gs[k]? = some g0 ∧ b ∈ g0.bl) ∨ w.heap.size ≤ b) ∧ Below base w w' ∧ ∀ b, b < w.heap.size → (∀ (h : Nat) g, gs[h]? = some g → b ∉ g.bl) → w'.heap[b]? = w.heap[b]?

theorem AFnC.of {P : Program} {f : FuncId} {fn : Func} {c : Code} {args args' : List AV} {objs : List AO} {Q : AV → List AO → Prop} {n : Nat} (hf : P.funcs[f]? = some fn) (hb : fn.body = some c) (hnm : (fn.name == "runtime.NumGoroutine") = false) (hn : fn.ntmps - args.length = n) (ha : args' = args.map (AV.sh 1))
    (h : ∀ K, AWp P c (fun _ _ => False) (fun _ _ _ => False) (fun env os => ∃ env2 os' r, Turns env os env2 (.keep 1 K :: os') ∧ ResIs P fn env2 (.keep 1 K :: os') (r.sh 1) ∧ r.fl ∧ Q r os' ∧ ∀ o ∈ os', o.plain) (Env.start args' n) (.keep 1 K :: objs)) :
    AFnC P f args objs Q := by
  refine ⟨⟨fn, c, hf, hnm, hb⟩, fun base w gs vs hbase hO hsz hvs => calls_of_wp hf hb ?_⟩
  rw [show fn.ntmps - vs.size = n by rw [hsz]; exact hn]
  let bl : List Nat := (List.range w.heap.size).filter fun b => decide (base ≤ b) && gs.all fun g => !g.bl.contains b
  let gk : Gh := ⟨undef, 0, bl, []⟩
  let K : Kp := ⟨fun b => w.heap[b]?, [gk]⟩
  have hbl : ∀ b, b ∈ bl ↔ b < w.heap.size ∧ base ≤ b ∧ ∀ (h : Nat) g, gs[h]? = some g → b ∉ g.bl := by
    intro b
    simp only [bl, List.mem_filter, List.mem_range, Bool.and_eq_true, decide_eq_true_eq, List.all_eq_true, Bool.not_eq_true', List.contains_eq_mem, decide_eq_false_iff_not]
    constructor
    · rintro ⟨h1, h2, h3⟩
      exact ⟨h1, h2, fun h g hg => h3 g (List.mem_of_getElem? hg)⟩
    · rintro ⟨h1, h2, h3⟩
      exact ⟨h1, h2, fun g hg => by obtain ⟨i, hi⟩ := List.getElem?_of_mem hg; exact h3 i g hi⟩
  have hl := hO.hl
  have part : ∀ {i : Nat} {x : Gh} {y : AO}, (gk :: gs)[i]? = some x → (AO.keep 1 K :: objs)[i]? = some y → (∃ j, i = j + 1 ∧ gs[j]? = some x ∧ objs[j]? = some y) ∨ (i = 0 ∧ x = gk ∧ y = .keep 1 K) := by
    intro i x y hx hy
    match i, hx, hy with
    | 0, hx, hy => simp at hx hy; exact .inr ⟨rfl, hx.symm, hy.symm⟩
    | j + 1, hx, hy => exact .inl ⟨j, rfl, by simpa using hx, by simpa using hy⟩
  have hkeep : Keeps (okOf gs objs) (okOf (gk :: gs) (.keep 1 K :: objs)) w w := by
    intro b hbk _
    refine ⟨fun i x y hx hy hny hm => ?_, rfl⟩
    rcases part hx hy with ⟨j, rfl, h1, h2⟩ | ⟨_, _, rfl⟩
    · exact hbk j x y h1 h2 hny hm
    · exact hny.elim
  have hrel : Rel base w (gk :: gs) (Env.start args' n) (.keep 1 K :: objs) (vs ++ Array.replicate n undef) := by
    refine ⟨hbase, by simp [hl], by simp [Env.start, hsz, ha], fun i => start_rv args' n vs (fun i => ?_) i, ?_, ?_, ?_⟩
    · rw [ha, getD_map_any _ rfl]
      have := (hvs i).sh (gs0 := [gk]) hkeep
      exact this
    · intro i x y hx hy
      rcases part hx hy with ⟨j, rfl, h1, h2⟩ | ⟨_, rfl, rfl⟩
      · exact (hO.hp y (List.mem_of_getElem? h2)).ro (hO.ho j x y h1 h2)
      · exact ⟨fun b _ => rfl, rfl, fun i x h => by
            match i with
            | 0 => exact h
            | i + 1 => simp [K] at h⟩
    · intro i j g1 g2 o1 o2 hij hg1 hg2 ho1 ho2 _ _ b hb1 hb2
      rcases part hg1 ho1 with ⟨i', rfl, a1, a2⟩ | ⟨rfl, rfl, _⟩
      · rcases part hg2 ho2 with ⟨j', rfl, b1, b2⟩ | ⟨rfl, rfl, _⟩
        · exact hO.hd i' j' g1 g2 (by omega) a1 b1 b hb1 hb2
        · exact ((hbl b).1 hb2).2.2 i' g1 a1 hb1
      · rcases part hg2 ho2 with ⟨j', rfl, b1, b2⟩ | ⟨rfl, _, _⟩
        · exact ((hbl b).1 hb1).2.2 j' g2 b1 hb2
        · omega
    · intro i x y hx hy _ b hb
      rcases part hx hy with ⟨j, rfl, h1, h2⟩ | ⟨_, rfl, _⟩
      · exact hO.hn j x h1 b hb
      · exact ⟨((hbl b).1 hb).2.1, ((hbl b).1 hb).1⟩
  refine wp_mono (h K base w w _ _ hrel (Below.refl _ _)) ?_
  intro e a w' hq
  cases e with
  | normal => obtain ⟨_, _, _, _, _, _, hx⟩ := hq; exact hx.elim
  | exit j => obtain ⟨_, _, _, _, _, _, hx⟩ := hq; exact hx.elim
  | ret =>
    obtain ⟨env, os1, gs1, hr1, hd, hbel, env2, os', r, ht, hres, hfl, hQ, hpl⟩ := hq
    obtain ⟨gs2, hr⟩ := ht base w' gs1 _ hr1
    obtain ⟨v, hu, hv⟩ := hres _ _ _ _ hr
    obtain ⟨g0, gs', rfl⟩ : ∃ g0 gs', gs2 = g0 :: gs' := by
      have := hr.hl
      match gs2 with
      | [] => simp at this
      | a :: b => exact ⟨a, b, rfl⟩
    obtain ⟨r1, r2, r3⟩ := hr.ho 0 _ _ rfl rfl
    have egk : g0 = gk := by
      have := r3 0 gk rfl
      exact Option.some.inj this
    subst egk
    have hl' : gs'.length = os'.length := by have := hr.hl; simpa using this
    have hno : ∀ (i : Nat) x o, gs'[i]? = some x → os'[i]? = some o → ∀ b, b ∈ x.bl → base ≤ b ∧ b < w'.heap.size := fun i x o hx ho b hb =>
      hr.hn (i + 1) x o (by simpa using hx) (by simpa using ho) (hpl o (List.mem_of_getElem? ho)).live.ne b hb
    have obj : ∀ {i : Nat} {x : Gh}, gs'[i]? = some x → ∃ o, os'[i]? = some o := fun {i x} hx => by
      have : i < os'.length := by rw [← hl']; exact (List.getElem?_eq_some_iff.1 hx).1
      exact ⟨_, List.getElem?_eq_getElem this⟩
    refine ⟨hd, v, hu, v, r, os', gs', rfl, hQ, ⟨hl', hpl, ?_, ?_, ?_⟩, ?_, ?_, hbel, ?_⟩
    · intro i x o hx ho
      exact (hpl o (List.mem_of_getElem? ho)).ro (hr.ho (i + 1) x o (by simpa using hx) (by simpa using ho))
    · intro i j x y hij hx hy b hb1 hb2
      obtain ⟨o1, h1⟩ := obj hx
      obtain ⟨o2, h2⟩ := obj hy
      exact hr.hd (i + 1) (j + 1) x y o1 o2 (by omega) (by simpa using hx) (by simpa using hy) (by simpa using h1) (by simpa using h2) (hpl o1 (List.mem_of_getElem? h1)).live.ne (hpl o2 (List.mem_of_getElem? h2)).live.ne b hb1 hb2
    · intro i x hx b hb
      obtain ⟨o1, h1⟩ := obj hx
      exact hno i x o1 hx h1 b hb
    · exact RV.unsh (g0 := gk) hfl hv
    · intro i x hx b hb
      obtain ⟨o1, h1⟩ := obj hx
      have hb2 := hno i x o1 hx h1 b hb
      by_cases hbw : b < w.heap.size
      · left
        apply Classical.byContradiction
        intro hnb
        refine hr.hd (i + 1) 0 x gk o1 _ (by omega) (by simpa using hx) rfl (by simpa using h1) rfl (hpl o1 (List.mem_of_getElem? h1)).live.ne (by simp) b hb ((hbl b).2 ⟨hbw, hb2.1, fun k g0 hg hm => hnb ⟨k, g0, hg, hm⟩⟩)
      · right; omega
    · intro b hb hnot
      rcases Nat.lt_or_ge b base with h6 | h6
      · exact hbel.block b h6
      · exact r1 b ((hbl b).2 ⟨hb, h6, hnot⟩)
  | goto l => exact (hq : False).elim
  | panic ch => exact (hq : False).elim
  | outgrown => exact (hq : False).elim
theorem AFnC.start {P : Program} {f : FuncId} {fn : Func} {nt : Nat} {args : List AV} {objs : List AO} {Q : AV → List AO → Prop} (hf : P.funcs[f]? = some fn) (hnt : fn.ntmps = nt) {c : Code} (hb : fn.body = some c) (hnm : (fn.name == "runtime.NumGoroutine") = false)
    (h : ∀ K, AWp P c (fun _ _ => False) (fun _ _ _ => False) (fun env os => ∃ env2 os' r, Turns env os env2 (.keep 1 K :: os') ∧ ResIs P fn env2 (.keep 1 K :: os') (r.sh 1) ∧ r.fl ∧ Q r os' ∧ ∀ o ∈ os', o.plain) (Env.start (args.map (AV.sh 1)) (nt - args.length)) (.keep 1 K :: objs)) :
    AFnC P f args objs Q := AFnC.of hf hb hnm (by rw [hnt]) rfl h
theorem Turns.fit {env : Env} {os : List AO} {env' : Env} {os' : List AO} (f : Fit env os env' os') : Turns env os env' os' := fun _ _ _ _ h => h.fit f
theorem Turns.fits {env : Env} {os : List AO} {env' : Env} {os' : List AO} {σ : List Nat} (f : FitS σ env os env' os') : Turns env os env' os' := fun _ _ _ _ h => h.fits f
theorem Turns.or {env : Env} {os : List AO} {env' : Env} {os' : List AO} (f : Fit env os env' os' ∨ ∃ σ, FitS σ env os env' os') : Turns env os env' os' := by
  rcases f with f | ⟨σ, f⟩
  · exact .fit f
  · exact .fits f

section
variable {P : Program} {env : Env} {os : List AO} {d : Option Tmp} {ty : TypeId} {pos : String} {af : Array Edge} {g : Option (Nat × Bool)}
theorem deadAll_get {H : List Nat} (hn : H.Nodup) {os : List AO} {i : Nat} {y : AO} (h : (setAll os H (H.map fun _ => .dead))[i]? = some y) : (i ∈ H ∧ y = .dead) ∨ (i ∉ H ∧ os[i]? = some y) := by
  rcases setAll_get hn (by simp) h with ⟨k, h1, h2⟩ | h
  · refine .inl ⟨List.mem_of_getElem? h1, ?_⟩
    rw [List.getElem?_map, h1] at h2
    simpa using h2.symm
  · exact .inr h
theorem setAll_len : ∀ (H : List Nat) (os osP : List AO), (setAll os H osP).length = os.length
  | [], os, osP => by cases osP <;> rfl
  | h :: H, os, [] => rfl
  | h :: H, os, o :: osP => by rw [setAll, setAll_len H, List.length_set]
theorem c_callc {f : FuncId} {args : List AV} {objs : List AO} {Q : AV → List AO → Prop} (H : List Nat) (hc : AFnC P f args objs Q) {xs : List Operand} {ats : Array TypeId} (hh : Handed os H objs) (hi : ImmUs os H (xs.map (AV.ev env)) args) :
    COp P ⟨d, .call { callee := .value (.func f), args := xs.toArray, argTypes := ats }, ty, pos, af, g⟩ env os (fun r e o => ∃ r0 os', Q r0 os' ∧ r = r0.sh os.length ∧ e = env ∧ o = setAll os H (H.map fun _ => .dead) ++ os'.map (AO.sh os.length)) := by
  intro base w gs tm hr
  have hg := hi.get
  have hltH : ∀ h ∈ H, h < gs.length := fun h hm => by rw [hr.hl]; exact hh.lt h hm
  refine ⟨f, _, run_call hc.1 xs ats _ rfl w, (hc.2 base w (selG gs H) _ hr.hb (hr.objs hh) (by simpa using hg.1) fun i => ?_).mono ?_⟩
  · have h1 := hg.2 i
    have e1 : (xs.map (AV.ev env)).getD i .any = match xs[i]? with | some x => AV.ev env x | none => .any := by
      simp only [List.getD_eq_getElem?_getD, List.getElem?_map]; cases xs[i]? <;> rfl
    have e2 : (xs.map (Act.eval ⟨tm, []⟩)).toArray.getD i undef = match xs[i]? with | some x => Act.eval ⟨tm, []⟩ x | none => undef := by
      simp only [Array.getD_eq_getD_getElem?, List.getElem?_toArray, List.getElem?_map]; cases xs[i]? <;> rfl
    rw [e1] at h1
    rw [e2]
    cases hx : xs[i]? with
    | some x => rw [hx] at h1; exact h1.rv hr hh (hr.ev x)
    | none => rw [hx] at h1; exact h1.rv hr hh (.any _)
  · rintro e w' ⟨v, r, os', gs', rfl, hQ, hO', hv, hbl, hbel, hfr⟩
    have hl := hr.hl
    have hl' := hO'.hl
    have hlive : ∀ h, h ∈ H → ∃ o, os[h]? = some o ∧ o.plain := fun h hm => by
      obtain ⟨k, hk⟩ := List.getElem?_of_mem hm
      obtain ⟨o', h1, h2, h3⟩ := hh.get hk
      exact ⟨o', h2, h3⟩
    have selGet : ∀ {k : Nat} {x : Gh}, (selG gs H)[k]? = some x → ∃ h, h ∈ H ∧ gs[h]? = some x := fun hx => by
      obtain ⟨h, h1, h2⟩ := selG_get hltH hx
      exact ⟨h, List.mem_of_getElem? h1, h2⟩
    -- blocks of what is new
    have hnb : ∀ {i : Nat} {x : Gh}, gs'[i]? = some x → ∀ b, b ∈ x.bl → (∃ h gh, h ∈ H ∧ gs[h]? = some gh ∧ b ∈ gh.bl) ∨ w.heap.size ≤ b := fun hx b hb => by
      rcases hbl _ _ hx b hb with ⟨k, g0, h1, h2⟩ | h1
      · obtain ⟨h, h3, h4⟩ := selGet h1
        exact .inl ⟨h, g0, h3, h4, h2⟩
      · exact .inr h1
    have keepB : ∀ b, b < w.heap.size → (∀ h gh, h ∈ H → gs[h]? = some gh → b ∉ gh.bl) → w'.heap[b]? = w.heap[b]? := fun b hb hno => hfr b hb fun k x hx => by
      obtain ⟨h, h1, h2⟩ := selGet hx
      exact hno h x h1 h2
    let osN := setAll os H (H.map fun _ => .dead) ++ os'.map (AO.sh os.length)
    have hlen1 : (setAll os H (H.map fun _ => AO.dead)).length = gs.length := by rw [setAll_len, hl]
    have split : ∀ {i : Nat} {x : Gh} {y : AO}, (gs ++ gs')[i]? = some x → osN[i]? = some y → y ≠ .dead → (i ∉ H ∧ gs[i]? = some x ∧ os[i]? = some y) ∨ ∃ j o, i = os.length + j ∧ gs'[j]? = some x ∧ os'[j]? = some o ∧ y = o.sh os.length := by
      intro i x y hx hy hne
      by_cases hlt : i < gs.length
      · rw [List.getElem?_append_left hlt] at hx
        simp only [osN] at hy
        rw [List.getElem?_append_left (by rw [hlen1]; exact hlt)] at hy
        rcases deadAll_get hh.nd hy with ⟨_, rfl⟩ | ⟨h1, h2⟩
        · exact absurd rfl hne
        · exact .inl ⟨h1, hx, h2⟩
      · rw [List.getElem?_append_right (by omega)] at hx
        simp only [osN] at hy
        rw [List.getElem?_append_right (by rw [hlen1]; omega), hlen1, List.getElem?_map] at hy
        cases ho : os'[i - gs.length]? with
        | none => rw [ho] at hy; cases hy
        | some o =>
          rw [ho] at hy
          simp only [Option.map_some, Option.some.injEq] at hy
          exact .inr ⟨i - gs.length, o, by omega, hx, ho, hy.symm⟩
    have kp : Keeps (okOf gs os) (okOf (gs ++ gs') osN) w w' := by
      intro b hbk hlt
      refine ⟨fun i x y hx hy hny hm => ?_, keepB b hlt fun h gh hm hg hb => ?_⟩
      · rcases split hx hy hny.ne with ⟨_, h1, h2⟩ | ⟨j, o, _, h1, h2, rfl⟩
        · exact hbk i x y h1 h2 hny hm
        · rcases hnb h1 b hm with ⟨h, gh, hH, hgh, hbm⟩ | h3
          · obtain ⟨o', ho', hp⟩ := hlive h hH
            exact hbk h gh o' hgh ho' hp.live hbm
          · omega
      · obtain ⟨o', ho', hp⟩ := hlive h hm
        exact hbk h gh o' hg ho' hp.live hb
    have hgs : ∀ (i : Nat) g', gs[i]? = some g' → (gs ++ gs')[i]? = some g' := fun i g' e => by
      rw [List.getElem?_append_left (List.getElem?_eq_some_iff.1 e).1]; exact e
    have hplsh : ∀ o : AO, o.plain → (o.sh os.length) = o := fun o ho => by cases o <;> first | rfl | exact ho.elim
    have hsame : ∀ (i : Nat) x y, i ∉ H → gs[i]? = some x → os[i]? = some y → y ≠ .dead → ∀ b, b ∈ x.bl → w'.heap[b]? = w.heap[b]? := fun i x y hiH hx hy hne b hb => by
      refine keepB b (hr.hn i x y hx hy hne b hb).2 fun h gh hH hgh hbm => ?_
      obtain ⟨o', ho', hp⟩ := hlive h hH
      exact hr.hd i h x gh y o' (fun e => hiH (e ▸ hH)) hx hgh hy ho' hne hp.live.ne b hb hbm
    refine ⟨v, r.sh os.length, env, osN, gs ++ gs', rfl, ⟨r, os', hQ, rfl, rfl, rfl⟩, ?_, ?_, hbel⟩
    · refine ⟨Nat.le_trans hr.hb hbel.size, ?_, hr.hs, fun i => (hr.he i).mono kp hgs, ?_, ?_, ?_⟩
      · simp only [osN, List.length_append, List.length_map, hlen1, hl']
      · intro i x y hx hy
        by_cases hd : y = .dead
        · subst hd; trivial
        rcases split hx hy hd with ⟨h0, h1, h2⟩ | ⟨j, o, _, h1, h2, rfl⟩
        · exact (hr.ho i x y h1 h2).mono kp hgs fun hne b hb => hsame i x y h0 h1 h2 hne b hb
        · have hp := hO'.hp o (List.mem_of_getElem? h2)
          rw [hplsh o hp]
          exact hp.ro (hO'.ho j x o h1 h2)
      · intro i j x1 x2 y1 y2 hij hx1 hx2 hy1 hy2 hn1 hn2 b hb1 hb2
        rcases split hx1 hy1 hn1 with ⟨a0, a1, a2⟩ | ⟨j1, o1, e1, a1, a2, rfl⟩
        · rcases split hx2 hy2 hn2 with ⟨c0, c1, c2⟩ | ⟨j2, o2, e2, c1, c2, rfl⟩
          · exact hr.hd i j x1 x2 y1 y2 hij a1 c1 a2 c2 hn1 hn2 b hb1 hb2
          · rcases hnb c1 b hb2 with ⟨h, gh, hH, hgh, hbm⟩ | h3
            · obtain ⟨o', ho', hp⟩ := hlive h hH
              exact hr.hd i h x1 gh y1 o' (fun e => a0 (e ▸ hH)) a1 hgh a2 ho' hn1 hp.live.ne b hb1 hbm
            · have := (hr.hn i x1 y1 a1 a2 hn1 b hb1).2; omega
        · rcases split hx2 hy2 hn2 with ⟨c0, c1, c2⟩ | ⟨j2, o2, e2, c1, c2, rfl⟩
          · rcases hnb a1 b hb1 with ⟨h, gh, hH, hgh, hbm⟩ | h3
            · obtain ⟨o', ho', hp⟩ := hlive h hH
              exact hr.hd j h x2 gh y2 o' (fun e => c0 (e ▸ hH)) c1 hgh c2 ho' hn2 hp.live.ne b hb2 hbm
            · have := (hr.hn j x2 y2 c1 c2 hn2 b hb2).2; omega
          · exact hO'.hd j1 j2 x1 x2 (fun e => hij (by omega)) a1 c1 b hb1 hb2
      · intro i x y hx hy hne b hb
        rcases split hx hy hne with ⟨_, h1, h2⟩ | ⟨j, o, _, h1, h2, rfl⟩
        · have := hr.hn i x y h1 h2 hne b hb
          exact ⟨this.1, Nat.lt_of_lt_of_le this.2 hbel.size⟩
        · exact hO'.hn j x h1 b hb
    · have := hv.sh (ok' := okOf (gs ++ gs') osN) (gs0 := gs) (fun b hbk _ => hbk.elim)
      rw [hl] at this; exact this
end
section
variable {P : Program} {env : Env} {os : List AO} {d : Tmp} {ty : TypeId} {pos : String} {af : Array Edge} {l rest : List Oper} {K : APost}
theorem w_callc {f : FuncId} {args : List AV} {objs : List AO} {Q : AV → List AO → Prop} {xs : List Operand} {ats : Array TypeId} (H : List Nat) {m : Nat} (hc : AFnC P f args objs Q) (hm : os.length = m) (hh : Handed os H objs) (hi : ImmUs os H (xs.map (AV.ev env)) args)
    (h' : ∀ r os0, Q r os0 → AOps P .seq l rest K (env.up d (r.sh m)) (setAll os H (H.map fun _ => .dead) ++ os0.map (AO.sh m))) :
    AOps P .seq l (⟨some d, .call { callee := .value (.func f), args := xs.toArray, argTypes := ats }, ty, pos, af, none⟩ :: rest) K env os := by
  subst hm
  exact AOps.ca (c_callc H hc hh hi) fun r e o ⟨r0, os0, hq, h1, h2, h3⟩ => by subst h1; subst h2; subst h3; exact h' r0 os0 hq
theorem handed3 {h1 h2 h3 : Nat} {o1 o2 o3 : AO} (ho1 : os[h1]? = some o1) (ho2 : os[h2]? = some o2) (ho3 : os[h3]? = some o3) (hne : ((h1 == h2) || (h1 == h3) || (h2 == h3)) = false) (hp1 : o1.plain) (hp2 : o2.plain) (hp3 : o3.plain) : Handed os [h1, h2, h3] [o1, o2, o3] := by
  simp only [Bool.or_eq_false_iff, beq_eq_false_iff_ne] at hne
  obtain ⟨⟨n1, n2⟩, n3⟩ := hne
  refine ⟨by simp [n1, n2, n3], fun k h hk => ?_, rfl, fun o ho => ?_⟩
  · match k, hk with
    | 0, hk => simp at hk; subst hk; exact ho1.symm
    | 1, hk => simp at hk; subst hk; exact ho2.symm
    | 2, hk => simp at hk; subst hk; exact ho3.symm
  · simp at ho
    rcases ho with rfl | rfl | rfl
    · exact hp1
    · exact hp2
    · exact hp3
end
end Go.Proofs.Ytpllbdjobmgikaa
/-
  Maps from pairs of integers to integers: made, read, written, walked in whatever order. No condition.
-/
namespace Go.Proofs.Ytpllbdjobmgikaa
open Go Go.RowKit
open Go.ChangeMaps (setBlock)

def mkey (i j : Int) : Value := .agg #[.int .i64 i, .int .i64 j]
/-- Pairs of integers as keys. -/
class TPair (P : Program) (kt : TypeId) (e : outParam TypeId) : Prop where
  hk : P.underlying kt = some (.array 2 e)
  he : P.underlying e = some (.int .i64)
  hi : ∃ ii, P.info? e = some ii
  hs : P.cellsOf e = 1
instance {P : Program} {kt e : TypeId} [h : TArr P kt e 2] [q : TKind P e .i64] : TPair P kt e := ⟨h.und, q.und, let ⟨i, h1, _⟩ := h.elm; ⟨i, h1⟩, by obtain ⟨i, h1, h2⟩ := h.elm; simp [Program.cellsOf, h1, h2]⟩
variable {P : Program}
/-! ### Maps from pairs to integers, as lists of triples in the order of their first writing -/
def entT (t : Int × Int × Int) : Value × Value := (mkey t.1 t.2.1, .int .i64 t.2.2)
def MapIs (es : Array MapEntry) (clock : Nat) (L : List (Int × Int × Int)) : Prop :=
  es.toList.map (fun e => (e.key, e.val)) = L.map entT ∧ (∀ e ∈ es.toList, e.born < clock) ∧ (es.toList.map (·.born)).Nodup
theorem keys_get {es : Array MapEntry} {L : List (Int × Int × Int)} (h : es.toList.map (fun e => (e.key, e.val)) = L.map entT) (k : Nat) (hk : k < L.length) :
    ∃ x, es[k]? = some x ∧ x.key = mkey (L.getD k (0, 0, 0)).1 (L.getD k (0, 0, 0)).2.1 ∧ x.val = .int .i64 (L.getD k (0, 0, 0)).2.2 := by
  have h1 := congrArg (·[k]?) h
  simp only [List.getElem?_map, List.getElem?_eq_getElem hk, Option.map_some, Array.getElem?_toList] at h1
  cases hx : es[k]? with
  | none => rw [hx] at h1; simp at h1
  | some x =>
    rw [hx] at h1
    simp only [Option.map_some, Option.some.injEq, entT, Prod.mk.injEq] at h1
    exact ⟨x, rfl, by rw [h1.1]; simp [List.getD_eq_getElem?_getD, hk], by rw [h1.2]; simp [List.getD_eq_getElem?_getD, hk]⟩
theorem size_of {es : Array MapEntry} {L : List (Int × Int × Int)} (h : es.toList.map (fun e => (e.key, e.val)) = L.map entT) : es.size = L.length := by
  have := congrArg List.length h
  simpa using this

/-! ### As objects, and as what is only read -/
def mapRo (L : List (Int × Int × Int)) : Ro where
  p w ok v := ∃ b es clock, v = .map (some b) ∧ ok b ∧ w.heap[b]? = some (.map es clock) ∧ MapIs es clock L
  up k h := by
    obtain ⟨b, es, clock, h1, h2, h3, h4⟩ := h
    have := k b h2 (Array.getElem?_eq_some_iff.1 h3).1
    exact ⟨b, es, clock, h1, this.1, this.2.trans h3, h4⟩
def mapAt (b : Nat) (es : Array MapEntry) (clock : Nat) : Ro where
  p w ok v := v = .map (some b) ∧ ok b ∧ w.heap[b]? = some (.map es clock)
  up k h := by
    obtain ⟨h1, h2, h3⟩ := h
    have := k b h2 (Array.getElem?_eq_some_iff.1 h3).1
    exact ⟨h1, this.1, this.2.trans h3⟩
def bornAt (es : Array MapEntry) (i : Nat) : Nat := ((es[i]?).map (·.born)).getD 0
/-- An iterator over the map at b, which has handed out the entries 'done'. -/
def itOb (b : Nat) (es : Array MapEntry) (clock : Nat) (done : List Nat) : Ob :=
  ob1 (fun r => .pointer (some ⟨r, 0, none⟩)) (fun o => ∃ since c0 seen, o = .mapIter (some b) since seen c0 ∧ since ≤ c0 ∧ (∀ x ∈ es.toList, x.born < since) ∧ seen.toList = done.map (bornAt es) ∧ (done = [] ∨ c0 = clock) ∧ since ≤ clock) fun _ => ⟨rfl, rfl⟩

/-- A slot may be seen otherwise. -/
theorem Rel.see {base : Nat} {w : World} {gs : List Gh} {env : Env} {os : List AO} {tm : Array Value} (h : Rel base w gs env os tm) {k : Nat} {a : AV} (ha : RV w (okOf gs os) gs (tm.getD k undef) a) : Rel base w gs (env.up k a) os tm where
  hb := h.hb
  hl := h.hl
  hs := by simpa [Env.up] using h.hs
  he i := by
    rw [Env.lk_up]
    split
    · rename_i hi; rw [hi.1]; exact ha
    · exact h.he i
  ho := h.ho
  hd := h.hd
  hn := h.hn

section
variable {P : Program} {wl : Bool} {env : Env} {os : List AO} {d : Option Tmp} {ty : TypeId} {pos : String} {af : Array Edge} {g : Option (Nat × Bool)}

theorem AWp.open {c : Code} {N : Env → List AO → Prop} {X : Nat → Env → List AO → Prop} {Rt : Env → List AO → Prop} (k : Nat) {L : List (Int × Int × Int)} (hk : env.fd k = some (.ro (mapRo L)))
    (h : ∀ b es clock, MapIs es clock L → AWp P c N X Rt (env.up k (.ro (mapAt b es clock))) os) : AWp P c N X Rt env os := by
  intro base w0 w gs tm hr
  have hv := hr.he k
  rw [Env.lk_of hk] at hv
  generalize hu : tm.getD k undef = u at hv
  cases hv with
  | ro h1 =>
    obtain ⟨b, es, clock, e1, e2, e3, hM⟩ := h1
    exact h b es clock hM base w0 w gs tm (hr.see (by rw [hu]; exact .ro ⟨e1, e2, e3⟩))

theorem Ret1.ob {h : Nat} {q : Ob} (hs : os[h]? = some (.ob q)) : Ret1 os (.own h) (.own 0) [.ob q] := fun base w gs env tm hr u hu => by
  cases hu with
  | @own _ g hg => exact ⟨[g], .one (hr.ho _ _ _ hg hs) fun b hb => hr.hn _ _ _ hg hs (by simp) b hb, .own rfl⟩

theorem map_at {base : Nat} {w : World} {gs : List Gh} {tm : Array Value} (hr : Rel base w gs env os tm) {x : Operand} {b : Nat} {es : Array MapEntry} {clock : Nat} (hx : AV.ev env x = .ro (mapAt b es clock)) :
    Act.eval ⟨tm, []⟩ x = .map (some b) ∧ okOf gs os b ∧ w.heap[b]? = some (.map es clock) := by
  have h := hr.ev x
  rw [hx] at h
  generalize Act.eval ⟨tm, []⟩ x = v at h
  cases h with
  | ro h1 => exact h1

theorem setBlock_other (w : World) (r c : Nat) (o : Obj) (h : c ≠ r) : (setBlock w r o).heap[c]? = w.heap[c]? := by
  simp only [setBlock]
  rw [Array.getElem?_setIfInBounds, if_neg (fun e => h e.symm)]
theorem setBlock_same (w : World) (r : Nat) (o : Obj) (h : r < w.heap.size) : (setBlock w r o).heap[r]? = some o := by
  simp only [setBlock]
  rw [Array.getElem?_setIfInBounds, if_pos rfl, if_pos h]
theorem setBlock_below {w w1 : World} {base r : Nat} {o : Obj} (h1 : w1 = w ∨ w1 = w.drew) (hr : base ≤ r) : Below base w (setBlock w1 r o) := by
  have : Below base w w1 := by rcases h1 with rfl | rfl; exact Below.refl _ _; exact (Below.refl _ _).drew
  exact ⟨this.os, this.tape, this.output, by simpa [setBlock] using this.size, fun k hk => by rw [setBlock_other _ _ _ _ (by omega)]; exact this.block k hk⟩

theorem born_inj {es : Array MapEntry} {clock : Nat} {L : List (Int × Int × Int)} (hM : MapIs es clock L) {i j : Nat} (hi : i < L.length) (hj : j < L.length) (h : bornAt es i = bornAt es j) : i = j := by
  obtain ⟨x, hx, _⟩ := keys_get hM.1 i hi
  obtain ⟨y, hy, _⟩ := keys_get hM.1 j hj
  simp only [bornAt, hx, hy, Option.map_some, Option.getD_some] at h
  have hn := hM.2.2
  have hs := size_of hM.1
  have gi : (es.toList.map (·.born))[i]? = some x.born := by simp [hx]
  have gj : (es.toList.map (·.born))[j]? = some y.born := by simp [hy]
  exact (List.getElem?_inj (by simp; omega) hn).1 (gi.trans (by rw [h]; exact gj.symm))

/-- One round of a loop over a map begins, or the loop ends. -/
theorem AOps.next {l rest : List Oper} {K : APost} {d : Tmp} {it : Operand} {h : Nat} {b : Nat} {es : Array MapEntry} {clock : Nat} {done : List Nat} {L : List (Int × Int × Int)} (m : Operand) (hM : MapIs es clock L) (hdone : ∀ i ∈ done, i < L.length)
    (hx : evo env it = some (.own h)) (hs : os[h]? = some (.ob (itOb b es clock done))) (hm : evo env m = some (.ro (mapAt b es clock)))
    (h0 : (∀ i, i < L.length → i ∈ done) → AOps P .seq l rest K (env.up d (.val (.tuple #[.bool false]))) os)
    (h1 : ∀ i, i < L.length → i ∉ done → AOps P .seq l rest K (env.up d (.val (.tuple #[.bool true, mkey (L.getD i (0, 0, 0)).1 (L.getD i (0, 0, 0)).2.1, .int .i64 (L.getD i (0, 0, 0)).2.2]))) (os.set h (.ob (itOb b es clock (done ++ [i]))))) :
    AOps P .seq l (⟨some d, .next it false, ty, pos, af, none⟩ :: rest) K env os := by
  intro base w0 w gs tm hr hb X Rt
  obtain ⟨_, hok, hmap⟩ := map_at hr (ev_of hm)
  have hh := hr.ev it
  rw [ev_of hx] at hh
  generalize hu : Act.eval ⟨tm, []⟩ it = u at hh
  cases hh with
  | @own _ gh hg =>
    obtain ⟨o, a1, ⟨since, c0, seen, rfl, q1, q2, q3, q4, q5⟩, a3, a4, a5⟩ := hr.ho _ _ _ hg hs
    have e5 : gh.v = .pointer (some ⟨gh.b, 0, none⟩) := a5
    have hlt : gh.b < w.heap.size := (Array.getElem?_eq_some_iff.1 a1).1
    have mem_seen : ∀ i, i < L.length → (bornAt es i ∈ seen.toList ↔ i ∈ done) := by
      intro i hi
      rw [q3, List.mem_map]
      constructor
      · rintro ⟨j, hj, e⟩
        have := born_inj hM (hdone j hj) hi e
        rwa [← this]
      · intro hi2; exact ⟨i, hi2, rfl⟩
    refine wpList_plain rfl fun K hK => ?_
    unfold Oper.wp
    rcases run_next_at (P := P) w ty gh.b b since c0 seen es clock a1 hmap q2 q1 with ⟨hz, hrun⟩ | ⟨e, he, w1, hw1, hrun⟩
    · have hrun' : (execOp (Act.eval ⟨tm, []⟩) ⟨some d, .next it false, ty, pos, af, none⟩).run P w = .ok (.value (.tuple #[.bool false])) w := by
        simp only [execOp, hu, e5, Sem.run_bind, hrun, Result.andThen_ok, Sem.run_pure]
      rw [hrun']
      refine hK _ _ (h0 (fun i hi => ?_) base w0 w gs _ (hr.put (.val _) d) hb X Rt)
      obtain ⟨x, hxe, _⟩ := keys_get hM.1 i hi
      have hnil : leftOf es seen = #[] := Array.eq_empty_of_size_eq_zero hz
      unfold leftOf at hnil
      rw [Array.filter_eq_empty_iff] at hnil
      have := hnil x (Array.mem_of_getElem? hxe)
      simp only [Bool.not_eq_true, Bool.not_eq_false', Array.contains_eq_mem, decide_eq_true_eq] at this
      refine (mem_seen i hi).1 ?_
      simpa [bornAt, hxe] using this
    · unfold leftOf at he
      simp only [Array.mem_toList_iff, Array.mem_filter, Bool.not_eq_true', Array.contains_eq_mem, decide_eq_false_iff_not] at he
      obtain ⟨hmem, hns⟩ := he
      obtain ⟨i, hi⟩ := Array.getElem?_of_mem hmem
      have hiL : i < L.length := by
        have := (Array.getElem?_eq_some_iff.1 hi).1
        have := size_of hM.1
        omega
      obtain ⟨x, hxe, k1, k2⟩ := keys_get hM.1 i hiL
      have ex : x = e := Option.some.inj (hxe.symm.trans hi)
      subst ex
      have hnd : i ∉ done := fun hc => hns (by have := (mem_seen i hiL).2 hc; simpa [bornAt, hxe] using this)
      have hrun' : (execOp (Act.eval ⟨tm, []⟩) ⟨some d, .next it false, ty, pos, af, none⟩).run P w = .ok (.value (.tuple #[.bool true, mkey (L.getD i (0, 0, 0)).1 (L.getD i (0, 0, 0)).2.1, .int .i64 (L.getD i (0, 0, 0)).2.2])) (setBlock w1 gh.b (.mapIter (some b) since (seen.push x.born) clock)) := by
        simp only [execOp, hu, e5, Sem.run_bind, hrun, Result.andThen_ok, Sem.run_pure, k1, k2]
      rw [hrun']
      have hw1h : w1.heap = w.heap := by rcases hw1 with rfl | rfl <;> rfl
      refine hK _ _ (h1 i hiL hnd base w0 _ gs _ ((hr.upd hg hs trivial (.ob (itOb b es clock (done ++ [i]))) trivial (fun c _ hc => ?_) ?_ fun _ => ?_).put (.val _) d) (hb.trans (setBlock_below hw1 a3)) X Rt)
      · rw [setBlock_other _ _ _ _ (fun e => hc (by rw [a4, e]; simp)), hw1h]
      · simp [setBlock, hw1h]
      · exact ⟨_, setBlock_same _ _ _ (by rw [hw1h]; exact hlt), ⟨since, clock, seen.push x.born, rfl, q5, q2, by simp [q3, bornAt, hxe], .inr rfl, q5⟩, a3, a4, a5⟩

variable {l rest : List Oper} {K : APost} {q : Md}
end
end Go.Proofs.Ytpllbdjobmgikaa
/-
  A few polynomials (structs of one slice) handed on as a slice. No condition.
-/
namespace Go.Proofs.Ytpllbdjobmgikaa
open Go Go.RowKit

section
variable {P : Program} {wl : Bool} {env : Env} {os : List AO} {d : Option Tmp} {ty : TypeId} {pos : String} {af : Array Edge} {g : Option (Nat × Bool)}

variable {l rest : List Oper} {K : APost} {q : Md}
end
end Go.Proofs.Ytpllbdjobmgikaa
/-
  Lists of polynomials (structs of one slice): their parts, own lists of polynomials; parts of own slices handed back. No condition.
-/
namespace Go.Proofs.Ytpllbdjobmgikaa
open Go Go.RowKit
section
variable {P : Program} {wl : Bool} {env : Env} {os : List AO} {d : Option Tmp} {ty : TypeId} {pos : String} {af : Array Edge} {g : Option (Nat × Bool)}

/-! ### Read as a list of polynomials -/
/-- The element 'a' reads as the polynomial 'f'; the handles behind it. -/
inductive PlE (os : List AO) : AV → List (List Int) → List Nat → Prop
  | intss (f : List (List Int)) : PlE os (.intss f) f []
  | nil : PlE os (.val (.slice none 0 0)) [] []
  | sls {h : Nat} {e e2 : TypeId} {f : List (List Int)} : os[h]? = some (.sls e e2 f) → PlE os (.own h) f [h]
theorem PlE.at {base : Nat} {w : World} {gs : List Gh} {ok : Nat → Prop} {a : AV} {f : List (List Int)} {hs : List Nat} (he : PlE os a f hs) (hro : ∀ (h : Nat) g o, gs[h]? = some g → os[h]? = some o → RO base w (okOf gs os) gs g o)
    (hok : ∀ h, h ∈ hs → ∀ g o, gs[h]? = some g → os[h]? = some o → o ≠ .dead → ∀ b, b ∈ g.bl → ok b) (kp : Keeps (okOf gs os) ok w w) {u : Value} (hu : RV w (okOf gs os) gs u a) : IntssAt w ok u f := by
  cases he with
  | intss => cases hu with | intss h => exact h.mono kp
  | nil => cases hu; exact IntssAt.nil
  | @sls h e e2 _ h1 =>
    cases hu with
    | own hg =>
      obtain ⟨vs, bs, mb, a1, a2, a3, a4, a5, a6, a7, a8⟩ := hro _ _ _ hg h1
      have hb := hok h (by simp) _ _ hg h1 (by simp)
      refine ⟨vs, RowAt.of_owns' a1 fun b hbb => hb b ?_, a2, fun i u hu => ⟨RowAt.of_owns' (a5 i u hu).1 fun b hbb => hb b ?_, (a5 i u hu).2.1⟩⟩
      · rw [a7]
        rcases a6 with ⟨h6, _⟩ | ⟨h6, h6'⟩
        · rw [h6] at hbb; cases hbb
        · rw [h6] at hbb; cases hbb; simp [h6']
      · have hi := (List.getElem?_eq_some_iff.1 hu).1
        rw [a7]
        refine List.mem_append.2 (.inr (List.mem_flatten.2 ⟨bs.getD i [], ?_, by rw [← (a5 i u hu).2.2, hbb]; simp⟩))
        rw [List.getD_eq_getElem?_getD, List.getElem?_eq_getElem (by omega)]
        simp
def PlL (os : List AO) : List AV → List (List (List Int)) → List Nat → Prop
  | [], [], hs => hs = []
  | a :: avs, f :: fs, hs => ∃ h1 h2, PlE os a f h1 ∧ PlL os avs fs h2 ∧ hs = h1 ++ h2
  | _, _, _ => False
theorem PlL.get : ∀ {avs : List AV} {fs : List (List (List Int))} {hs : List Nat}, PlL os avs fs hs → avs.length = fs.length ∧ ∀ (i : Nat) a, avs[i]? = some a → ∃ h1, PlE os a (fs.getD i []) h1 ∧ ∀ h, h ∈ h1 → h ∈ hs
  | [], [], hs, _ => ⟨rfl, fun i a h => by simp at h⟩
  | a :: avs, f :: fs, hs, ⟨h1, h2, p1, p2, e⟩ => by
    have ih := PlL.get p2
    refine ⟨by simp [ih.1], fun i x hx => ?_⟩
    match i with
    | 0 =>
      simp at hx; subst hx
      exact ⟨h1, by simpa using p1, fun h hh => by rw [e]; simp [hh]⟩
    | i + 1 =>
      obtain ⟨h3, q1, q2⟩ := ih.2 i x (by simpa using hx)
      exact ⟨h3, by simpa using q1, fun h hh => by rw [e]; simp [q2 h hh]⟩
  | [], _ :: _, _, h => h.elim
  | _ :: _, [], _, h => h.elim
/-! ### Parts of own slices -/
theorem Ret1.osub {h off len : Nat} {e : TypeId} {xs : List Int} (hs : os[h]? = some (.sli e xs)) : Ret1 os (.osub h off len) (.osub 0 off len) [.sli e xs] := fun base w gs env tm hr u hu => by
  cases hu with
  | osub hg hp hc hm =>
    exact ⟨[_], .one (hr.ho _ _ _ hg hs) fun b hb => hr.hn _ _ _ hg hs (by simp) b hb, .osub rfl hp hc hm⟩
end
section
variable {P : Program} {env : Env} {os : List AO} {d : Tmp} {ty : TypeId} {pos : String} {af : Array Edge} {g : Option (Nat × Bool)} {l rest : List Oper} {K : APost} {q : Md}
end
end Go.Proofs.Ytpllbdjobmgikaa
/-
  A row of an own slice of rows is handed to a function that writes to it. No condition.
-/
namespace Go.Proofs.Ytpllbdjobmgikaa
open Go Go.RowKit

theorem flatten_disj {bs : List (List Nat)} (h : bs.flatten.Nodup) {i j : Nat} (hij : i ≠ j) {c : Nat} (hi : c ∈ bs.getD i []) (hj : c ∈ bs.getD j []) : False := by
  have lt : ∀ {k : Nat}, c ∈ bs.getD k [] → k < bs.length := fun {k} hk => by
    rcases Nat.lt_or_ge k bs.length with h1 | h1
    · exact h1
    · rw [List.getD_eq_getElem?_getD, List.getElem?_eq_none h1] at hk; simp at hk
  have hil := lt hi
  have hjl := lt hj
  have ej : bs.getD j [] = bs[j] := by simp [List.getD_eq_getElem?_getD, hjl]
  rw [flatten_at hil] at h
  simp only [List.nodup_append, List.mem_append] at h
  obtain ⟨_, ⟨_, _, h2⟩, h3⟩ := h
  rcases Nat.lt_or_ge j i with h1 | h1
  · have : c ∈ (bs.take i).flatten := List.mem_flatten.2 ⟨bs[j], by rw [List.mem_take_iff_getElem]; exact ⟨j, by omega, rfl⟩, by rw [← ej]; exact hj⟩
    exact h3 c this c (.inl hi) rfl
  · have : c ∈ (bs.drop (i + 1)).flatten := List.mem_flatten.2 ⟨bs[j], by rw [List.mem_drop_iff_getElem]; exact ⟨j - (i + 1), by omega, by congr 1; omega⟩, by rw [← ej]; exact hj⟩
    exact h2 c hi c this rfl

section
variable {P : Program} {env : Env} {os : List AO} {d : Tmp} {ty : TypeId} {pos : String} {af : Array Edge} {l rest : List Oper} {K : APost}
theorem w_callrow {f : FuncId} {ats : Array TypeId} {v0 : Value} {h i : Nat} {e e2 : TypeId} {xss : List (List Int)} {Q : Value → List AO → Prop} {x y : Operand} (hx : evo env x = some (.orow h i)) (hs : os[h]? = some (.sls e e2 xss)) (hy : evo env y = some (.val v0))
    (hc : AFnU P f [.own 0, .val v0] [.sli e2 (xss.getD i [])] Q)
    (hQ : ∀ v os', Q v os' → ∃ row', os' = [.sli e2 row'])
    (h' : ∀ v row', Q v [.sli e2 row'] → AOps P .seq l rest K (env.up d (.val v)) (os.set h (.sls e e2 (xss.set i row')))) :
    AOps P .seq l (⟨some d, .call { callee := .value (.func f), args := #[x, y], argTypes := ats }, ty, pos, af, none⟩ :: rest) K env os := by
  refine AOps.ca (Q := fun r en o => ∃ v row', Q v [.sli e2 row'] ∧ r = .val v ∧ en = env ∧ o = os.set h (.sls e e2 (xss.set i row'))) ?_ fun r en o ⟨v, row', h0, h1, h2, h3⟩ => by subst h1; subst h2; subst h3; exact h' v row' h0
  intro base w gs tm hr
  have hev := hr.ev x
  rw [ev_of hx] at hev
  generalize hv : Act.eval ⟨tm, []⟩ x = u at hev
  cases hev with
  | @orow _ _ gh _ hg hrow =>
    obtain ⟨vs, bs, mb, a1, a2, a3, a4, a5, a6, a7, a8⟩ := hr.ho _ _ _ hg hs
    rw [a4] at hrow
    obtain ⟨r1, r2, r3⟩ := a5 _ _ hrow
    have hiv : i < vs.length := (List.getElem?_eq_some_iff.1 hrow).1
    let gr : Gh := ⟨u, u.ownBlock.getD 0, u.ownBlock.toList, []⟩
    have hgr : GB gr := by
      show (u.ownBlock = none ∧ u.ownBlock.toList = []) ∨ (u.ownBlock = some (u.ownBlock.getD 0) ∧ u.ownBlock.toList = [u.ownBlock.getD 0])
      cases u.ownBlock with
      | none => exact .inl ⟨rfl, rfl⟩
      | some b => exact .inr ⟨rfl, rfl⟩
    have sub : ∀ b, b ∈ gr.bl → b ∈ gh.bl := by
      intro b hb
      have hb' : b ∈ bs.getD i [] := by rw [← r3]; exact hb
      rw [a7]
      refine List.mem_append.2 (.inr (List.mem_flatten.2 ⟨bs.getD i [], ?_, hb'⟩))
      have hib : i < bs.length := by omega
      rw [List.getD_eq_getElem?_getD, List.getElem?_eq_getElem hib]; simp
    have one : ∀ {k : Nat} {g : Gh}, [gr][k]? = some g → k = 0 ∧ g = gr := by
      intro k g hk
      have := (List.getElem?_eq_some_iff.1 hk).1
      simp at this
      subst this
      simp at hk
      exact ⟨rfl, hk.symm⟩
    have hO : Objs base w [gr] [.sli e2 (xss.getD i [])] := by
      refine ⟨rfl, fun o ho => by simp at ho; subst ho; trivial, ?_, ?_, ?_⟩
      · intro k g o hk ho
        obtain ⟨rfl, rfl⟩ := one hk
        simp at ho
        subst ho
        exact ⟨r1, r2, hgr⟩
      · intro k m g g' hkm hk hm
        obtain ⟨rfl, _⟩ := one hk
        obtain ⟨rfl, _⟩ := one hm
        exact absurd rfl hkm
      · intro k g hk b hb
        obtain ⟨_, rfl⟩ := one hk
        exact hr.hn _ _ _ hg hs (by simp) b (sub b hb)
    refine ⟨f, _, run_call hc.1 [x, y] ats _ rfl w, (hc.2 base w [gr] _ hr.hb hO (by simp) fun k => ?_).mono ?_⟩
    · match k with
      | 0 =>
        have : RV w (okOf [gr] [.sli e2 (xss.getD i [])]) [gr] u (.own 0) := RV.own (g := gr) (by simp)
        simpa [hv] using this
      | 1 =>
        have hyv := hr.evv (ev_of hy)
        have : RV w (okOf [gr] [.sli e2 (xss.getD i [])]) [gr] (Act.eval ⟨tm, []⟩ y) (.val v0) := by rw [hyv]; exact .val _
        simpa using this
      | k + 2 => exact .any _
    · rintro en w' ⟨v, os', rfl, hq, hO', hbel, hw⟩
      obtain ⟨row', rfl⟩ := hQ v os' hq
      have hunch : ∀ c, c < w.heap.size → c ∉ gr.bl → w'.heap[c]? = w.heap[c]? := fun c hc hn => hw c hc fun k g hk => by
        obtain ⟨_, rfl⟩ := one hk
        exact hn
      have hother : ∀ c, c < w.heap.size → c ∉ gh.bl → w'.heap[c]? = w.heap[c]? := fun c hc hn => hunch c hc fun h1 => hn (sub c h1)
      have a8' : (mb ++ bs.flatten).Nodup := by rw [← a7]; exact a8
      have grb : ∀ c, c ∈ gr.bl → c ∈ bs.getD i [] := fun c hc => by rw [← r3]; exact hc
      have inbl : ∀ c, c ∈ gh.bl → c < w.heap.size := fun c hc => (hr.hn _ _ _ hg hs (by simp) c hc).2
      have memfl : ∀ {k : Nat} {c : Nat}, c ∈ bs.getD k [] → c ∈ bs.flatten := by
        intro k c hc
        have hkb : k < bs.length := by
          rcases Nat.lt_or_ge k bs.length with h1 | h1
          · exact h1
          · rw [List.getD_eq_getElem?_getD, List.getElem?_eq_none h1] at hc; simp at hc
        exact List.mem_flatten.2 ⟨bs.getD k [], by rw [List.getD_eq_getElem?_getD, List.getElem?_eq_getElem hkb]; simp, hc⟩
      refine ⟨v, .val v, env, os.set h (.sls e e2 (xss.set i row')), gs, rfl, ⟨v, row', hq, rfl, rfl, rfl⟩, hr.upd hg hs trivial _ trivial hother hbel.size (fun _ => ?_), .val v, hbel⟩
      refine ⟨vs, bs, mb, ?_, by simp [a2], by simp [a3], a4, fun j z hj => ?_, a6, a7, a8⟩
      · refine ownsRow_of_block a1 fun c hc => ?_
        have hcm : c ∈ mb := by
          rcases a6 with ⟨c1, _⟩ | ⟨c1, c2⟩
          · rw [c1] at hc; cases hc
          · rw [c1] at hc; cases hc; rw [c2]; simp
        have hcg : c ∈ gh.bl := by rw [a7]; exact List.mem_append.2 (.inl hcm)
        exact hunch c (inbl c hcg) fun h1 => (List.nodup_append.1 a8').2.2 c hcm c (memfl (grb c h1)) rfl
      · have egd : (xss.set i row').getD j [] = if i = j then row' else xss.getD j [] := by
          simp only [List.getD_eq_getElem?_getD, List.getElem?_set]
          by_cases e1 : i = j
          · subst e1
            have : i < xss.length := by omega
            simp [this]
          · simp [e1]
        rw [egd]
        by_cases e1 : i = j
        · subst e1
          rw [if_pos rfl]
          have h0 := hO'.ho 0 gr (.sli e2 row') (by simp) (by simp)
          obtain ⟨q1, q2, q3⟩ := h0
          have ez : z = u := by rw [hrow] at hj; exact (Option.some.inj hj).symm
          rw [ez]
          exact ⟨q1, q2, r3⟩
        · rw [if_neg e1]
          obtain ⟨q1, q2, q3⟩ := a5 j z hj
          refine ⟨ownsRow_of_block q1 fun c hc => ?_, q2, q3⟩
          have hcj : c ∈ bs.getD j [] := by rw [← q3, hc]; simp
          have hcg : c ∈ gh.bl := by rw [a7]; exact List.mem_append.2 (.inr (memfl hcj))
          exact hunch c (inbl c hcg) fun h1 => flatten_disj (List.nodup_append.1 a8').2.1 e1 (grb c h1) hcj
end

end Go.Proofs.Ytpllbdjobmgikaa
/-
  Own slices of structs of one slice of rows: all of it own memory. No condition.
-/
namespace Go.Proofs.Ytpllbdjobmgikaa
open Go Go.RowKit
set_option linter.unusedVariables false
set_option linter.unusedSimpArgs false

abbrev Pls := List (List (List Int))
/-- The part 'p' reads as the rows 'f'. -/
def PartP (e1 e2 : TypeId) (f : List (List Int)) (base : Nat) (w : World) (p : Gh) : Prop := RO base w (fun _ => True) [] p (.sls e1 e2 f)
theorem PartP.ro {e1 e2 : TypeId} {f : List (List Int)} {base : Nat} {w : World} {p : Gh} (h : PartP e1 e2 f base w p) {ok : Nat → Prop} {gs : List Gh} : RO base w ok gs p (.sls e1 e2 f) := AO.plain.ro (o := .sls e1 e2 f) trivial h
theorem PartP.of {e1 e2 : TypeId} {f : List (List Int)} {base : Nat} {w : World} {p : Gh} {ok : Nat → Prop} {gs : List Gh} (h : RO base w ok gs p (.sls e1 e2 f)) : PartP e1 e2 f base w p := AO.plain.ro (o := .sls e1 e2 f) trivial h
theorem PartP.up {e1 e2 : TypeId} {f : List (List Int)} {base : Nat} {w w' : World} {p : Gh} (hb : ∀ b, b ∈ p.bl → w'.heap[b]? = w.heap[b]?) (h : PartP e1 e2 f base w p) : PartP e1 e2 f base w' p :=
  PartP.of (RO.mono (ok := fun _ => False) (ok' := fun _ => False) (gs := []) (gs' := []) (fun b hb _ => hb.elim) (fun h g e => e) (fun _ => hb) h.ro)
theorem owns_lower {w : World} {base base' : Nat} {e : TypeId} {v : Value} {n : Nat} {vs : List Value} (hl : base' ≤ base) (h : w.ownsRow base e 1 v n vs) : w.ownsRow base' e 1 v n vs := by
  refine ⟨h.1, h.2.imp id ?_⟩
  rintro ⟨g, cap, cur, e1, e2, r⟩
  exact ⟨g, cap, cur, e1, Nat.le_trans hl e2, r⟩
theorem PartP.lower {e1 e2 : TypeId} {f : List (List Int)} {base base' : Nat} {w : World} {p : Gh} (hl : base' ≤ base) (h : PartP e1 e2 f base w p) : PartP e1 e2 f base' w p := by
  obtain ⟨vs, bs, mb, a1, a2, a3, a4, a5, r⟩ := h
  exact ⟨vs, bs, mb, owns_lower hl a1, a2, a3, a4, fun i u hu => ⟨owns_lower hl (a5 i u hu).1, (a5 i u hu).2⟩, r⟩
theorem PartP.nodup {e1 e2 : TypeId} {f : List (List Int)} {base : Nat} {w : World} {p : Gh} (h : PartP e1 e2 f base w p) : p.bl.Nodup := by
  obtain ⟨vs, bs, mb, _, _, _, _, _, _, _, h8⟩ := h; exact h8
theorem PartP.one {e1 e2 : TypeId} {f : List (List Int)} {base : Nat} {w : World} {p : Gh} (h : PartP e1 e2 f base w p) : p.v.oneCell' = true ∧ p.v.cells = #[p.v] := by
  obtain ⟨vs, bs, mb, h1, _⟩ := h
  obtain ⟨a, cap, e1⟩ := ownsRow_slice h1
  rw [e1]; exact ⟨rfl, rfl⟩
theorem PartP.reads {e1 e2 : TypeId} {f : List (List Int)} {base : Nat} {w : World} {p : Gh} (h : PartP e1 e2 f base w p) {ok : Nat → Prop} (hb : ∀ b, b ∈ p.bl → ok b) : IntssAt w ok p.v f := by
  obtain ⟨vs, bs, mb, a1, a2, a3, a4, a5, a6, a7, a8⟩ := h
  refine ⟨vs, RowAt.of_owns' a1 fun b hbb => hb b ?_, a2, fun i u hu => ⟨RowAt.of_owns' (a5 i u hu).1 fun b hbb => hb b ?_, (a5 i u hu).2.1⟩⟩
  · rw [a7]
    rcases a6 with ⟨h6, _⟩ | ⟨h6, h6'⟩
    · rw [h6] at hbb; cases hbb
    · rw [h6] at hbb; cases hbb; simp [h6']
  · have hi := (List.getElem?_eq_some_iff.1 hu).1
    rw [a7]
    refine List.mem_append.2 (.inr (List.mem_flatten.2 ⟨bs.getD i [], ?_, by rw [← (a5 i u hu).2.2, hbb]; simp⟩))
    rw [List.getD_eq_getElem?_getD, List.getElem?_eq_getElem (by omega)]
    simp

theorem main_sub {g : Gh} {mb l : List Nat} {x : List Nat} (hl : l = mb ++ x) (h : (g.v.ownBlock = none ∧ mb = []) ∨ (g.v.ownBlock = some g.b ∧ mb = [g.b])) {b : Nat} (hb : g.v.ownBlock = some b) : b ∈ l := by
  rw [hl]
  rcases h with ⟨h6, _⟩ | ⟨h6, h6'⟩
  · rw [h6] at hb; cases hb
  · rw [h6] at hb; cases hb; simp [h6']
section
variable {P : Program} {wl : Bool} {env : Env} {os : List AO} {d : Option Tmp} {ty : TypeId} {pos : String} {af : Array Edge} {g : Option (Nat × Bool)}

end
section
variable {P : Program} {env : Env} {os : List AO} {d : Tmp} {ty : TypeId} {pos : String} {af : Array Edge} {g : Option (Nat × Bool)} {l rest : List Oper} {K : APost} {q : Md}
end
end Go.Proofs.Ytpllbdjobmgikaa
/-
  A struct of one own slice of rows behind a pointer, as one object; functions that write to it in its place. No condition.
-/
namespace Go.Proofs.Ytpllbdjobmgikaa
open Go Go.RowKit
set_option linter.unusedVariables false

def CntP (T e e2 : TypeId) (L : List (List Int)) (base : Nat) (w : World) (g : Gh) : Prop :=
  ∃ p : Gh, w.heap[g.b]? = some (.cells #[p.v] T (0, 0)) ∧ base ≤ g.b ∧ g.v = .pointer (some ⟨g.b, 0, none⟩) ∧ PartP e e2 L base w p ∧ g.bl = g.b :: p.bl ∧ g.b ∉ p.bl
def cntOb (T e e2 : TypeId) (L : List (List Int)) : Ob where
  p := CntP T e e2 L
  up {base w w' g} hb h := by
    obtain ⟨p, a1, a2, a3, a4, a5, a6⟩ := h
    exact ⟨p, by rw [hb g.b (by rw [a5]; simp)]; exact a1, a2, a3, a4.up fun b hbb => hb b (by rw [a5]; simp [hbb]), a5, a6⟩
  lower hl h := by
    obtain ⟨p, a1, a2, a3, a4, a5, a6⟩ := h
    exact ⟨p, a1, Nat.le_trans hl a2, a3, a4.lower hl, a5, a6⟩
  one h := by
    obtain ⟨p, a1, a2, a3, _⟩ := h
    rw [a3]; exact ⟨rfl, rfl⟩

theorem RO.via {base : Nat} {w : World} {ok ok' : Nat → Prop} {gs gs' : List Gh} {x : Gh} {z : AO} {h : Nat} (hz : RO base w ok gs x z) (kp : Keeps ok ok' w w) (sv : SameV h gs gs') : RO base w ok' gs' x (z.via (AV.noRow h) h) := by
  cases z with
  | ob q => exact hz
  | dead => trivial
  | sli e xs => exact hz
  | sls e e2 xss => exact hz
  | bx T avs =>
    obtain ⟨cs, h1, h2, h3, h4, h5, h6, h7⟩ := hz
    exact ⟨cs, h1, h2, h3, h4, by simpa using h5, h6, fun j => by rw [getD_map_f _ rfl]; exact (h7 j).noRow kp sv⟩
  | slr e avs =>
    obtain ⟨vs, h1, h2, h3, h4⟩ := hz
    exact ⟨vs, h1, by simpa using h2, fun j => by rw [getD_map_f _ rfl]; exact (h3 j).noRow kp sv, h4⟩
  | keep n K =>
    obtain ⟨h1, h2, h3⟩ := hz
    simp only [AO.via]
    split
    · exact ⟨h1, rfl, fun i x hx => by simp at hx⟩
    · refine ⟨h1, h2, fun i y hy => ?_⟩
      have := (List.getElem?_eq_some_iff.1 hy).1
      exact sv.other i y (by omega) (h3 i y hy)

set_option maxHeartbeats 1000000 in
theorem Turns.split {env : Env} {os : List AO} {h m : Nat} {T e e2 : TypeId} {L : List (List Int)} (hs : os[h]? = some (.ob (cntOb T e e2 L))) (hm : os.length = m) :
    Turns env os (env.mp (AV.noRow h)) (((os.map (AO.via (AV.noRow h) h)).set h (.bx T [.own m])) ++ [.sls e e2 L]) := by
  subst hm
  intro base w gs tm hr
  have hlt : h < os.length := (List.getElem?_eq_some_iff.1 hs).1
  have hgl : h < gs.length := by rw [hr.hl]; exact hlt
  obtain ⟨gh, hg⟩ : ∃ x, gs[h]? = some x := ⟨_, List.getElem?_eq_getElem hgl⟩
  obtain ⟨p, a1, a2, a3, a4, a5, a6⟩ := hr.ho _ _ _ hg hs
  let g' : Gh := ⟨gh.v, gh.b, [gh.b], []⟩
  have hgn := hr.hn _ _ _ hg hs (by simp)
  have sub1 : ∀ b, b ∈ g'.bl → b ∈ gh.bl := fun b hb => by rw [a5]; simp [g'] at hb; simp [hb]
  have sub2 : ∀ b, b ∈ p.bl → b ∈ gh.bl := fun b hb => by rw [a5]; simp [hb]
  have sv : SameV h gs (gs.set h g' ++ [p]) := by
    refine ⟨fun j z hj hz => ?_, fun z hz => ⟨g', ?_, ?_⟩⟩
    · have := (List.getElem?_eq_some_iff.1 hz).1
      rw [List.getElem?_append_left (by rw [List.length_set]; exact this), List.getElem?_set, if_neg (fun e => hj e.symm)]; exact hz
    · rw [List.getElem?_append_left (by rw [List.length_set]; exact hgl), List.getElem?_set_self hgl]
    · rw [hg] at hz; cases hz; exact ⟨rfl, rfl⟩
  have gget : ∀ {i : Nat} {x : Gh}, (gs.set h g' ++ [p])[i]? = some x → (i = h ∧ x = g') ∨ (i ≠ h ∧ i < gs.length ∧ gs[i]? = some x) ∨ (i = gs.length ∧ x = p) := by
    intro i x hx
    rcases Nat.lt_or_ge i gs.length with hi | hi
    · rw [List.getElem?_append_left (by rw [List.length_set]; exact hi), List.getElem?_set] at hx
      split at hx
      · subst_vars; simp at hx; exact .inl ⟨rfl, hx.symm⟩
      · exact .inr (.inl ⟨fun e => by simp_all, hi, hx⟩)
    · have h2 := (List.getElem?_eq_some_iff.1 hx).1
      simp at h2
      have : i = gs.length := by omega
      subst this
      rw [List.getElem?_append_right (by simp)] at hx
      simp at hx
      exact .inr (.inr ⟨rfl, hx.symm⟩)
  have oget : ∀ {i : Nat} {y : AO}, (((os.map (AO.via (AV.noRow h) h)).set h (.bx T [.own os.length])) ++ [AO.sls e e2 L])[i]? = some y → (i = h ∧ y = .bx T [.own os.length]) ∨ (i ≠ h ∧ i < os.length ∧ ∃ z, os[i]? = some z ∧ y = z.via (AV.noRow h) h) ∨ (i = os.length ∧ y = .sls e e2 L) := by
    intro i y hy
    rcases Nat.lt_or_ge i os.length with hi | hi
    · rw [List.getElem?_append_left (by simpa using hi), List.getElem?_set] at hy
      split at hy
      · subst_vars; simp [hi] at hy; exact .inl ⟨rfl, hy.symm⟩
      · refine .inr (.inl ⟨fun e => by simp_all, hi, ?_⟩)
        rw [List.getElem?_map] at hy
        cases hz : os[i]? with
        | none => simp [hz] at hy
        | some z => simp [hz] at hy; exact ⟨z, rfl, hy.symm⟩
    · have h2 := (List.getElem?_eq_some_iff.1 hy).1
      simp at h2
      have : i = os.length := by omega
      subst this
      rw [List.getElem?_append_right (by simp)] at hy
      simp at hy
      exact .inr (.inr ⟨rfl, hy.symm⟩)
  have kp : Keeps (okOf gs os) (okOf (gs.set h g' ++ [p]) (((os.map (AO.via (AV.noRow h) h)).set h (.bx T [.own os.length])) ++ [AO.sls e e2 L])) w w := by
    intro b hb _
    refine ⟨fun i x y hx hy hny hm => ?_, rfl⟩
    rcases gget hx with ⟨_, rfl⟩ | ⟨h1, h2, h3⟩ | ⟨_, rfl⟩
    · exact hb h gh _ hg hs trivial (sub1 b hm)
    · rcases oget hy with ⟨h4, _⟩ | ⟨_, _, z, hz, rfl⟩ | ⟨h4, _⟩
      · exact h1 h4
      · exact hb i x z h3 hz (AO.via_live.1 hny) hm
      · rw [← hr.hl] at h4; omega
    · exact hb h gh _ hg hs trivial (sub2 b hm)
  have hl := hr.hl
  refine ⟨gs.set h g' ++ [p], hr.hb, by simp [hl], hr.hs, fun i => by rw [Env.lk_mp _ rfl]; exact (hr.he i).noRow kp sv, ?_, ?_, ?_⟩
  · intro i x y hx hy
    rcases oget hy with ⟨rfl, rfl⟩ | ⟨h1, h2, z, hz, rfl⟩ | ⟨rfl, rfl⟩
    · rcases gget hx with ⟨_, rfl⟩ | ⟨h1, _⟩ | ⟨h1, _⟩
      · refine ⟨[p.v], a1, a2, rfl, a3, rfl, fun c hc => by simp at hc; subst hc; exact a4.one.1, fun j => ?_⟩
        match j with
        | 0 => exact .own (by rw [← hl]; simp)
        | j + 1 => exact .any _
      · exact absurd rfl h1
      · omega
    · rcases gget hx with ⟨h4, _⟩ | ⟨_, _, h3⟩ | ⟨h4, _⟩
      · exact absurd h4 h1
      · exact RO.via (hr.ho i x z h3 hz) kp sv
      · omega
    · rcases gget hx with ⟨h4, _⟩ | ⟨_, h4, _⟩ | ⟨_, rfl⟩
      · omega
      · omega
      · exact a4.ro
  · intro i j x y o1 o2 hij hx hy ho1 ho2 hn1 hn2 b hb1 hb2
    have olive : ∀ {i : Nat} {y : AO}, i ≠ h → i < gs.length → (((os.map (AO.via (AV.noRow h) h)).set h (.bx T [.own os.length])) ++ [AO.sls e e2 L])[i]? = some y → y ≠ .dead → ∃ z, os[i]? = some z ∧ z ≠ .dead := by
      intro i y h1 h2 hy hny
      rcases oget hy with ⟨h4, _⟩ | ⟨_, _, z, hz, rfl⟩ | ⟨h4, _⟩
      · exact absurd h4 h1
      · exact ⟨z, hz, fun e => hny (AO.via_dead.2 e)⟩
      · omega
    rcases gget hx with ⟨rfl, rfl⟩ | ⟨h1, h2, h3⟩ | ⟨rfl, rfl⟩
    · rcases gget hy with ⟨rfl, rfl⟩ | ⟨k1, k2, k3⟩ | ⟨rfl, rfl⟩
      · exact hij rfl
      · obtain ⟨z, hz, hzn⟩ := olive k1 k2 ho2 hn2
        exact hr.hd _ _ gh y _ z (fun e => k1 e.symm) hg k3 hs hz (by simp) hzn b (sub1 b hb1) hb2
      · simp [g'] at hb1; subst hb1; exact a6 hb2
    · obtain ⟨z, hz, hzn⟩ := olive h1 h2 ho1 hn1
      rcases gget hy with ⟨rfl, rfl⟩ | ⟨k1, k2, k3⟩ | ⟨rfl, rfl⟩
      · exact hr.hd _ _ x gh z _ h1 h3 hg hz hs hzn (by simp) b hb1 (sub1 b hb2)
      · obtain ⟨z2, hz2, hzn2⟩ := olive k1 k2 ho2 hn2
        exact hr.hd i j x y z z2 hij h3 k3 hz hz2 hzn hzn2 b hb1 hb2
      · exact hr.hd _ _ x gh z _ h1 h3 hg hz hs hzn (by simp) b hb1 (sub2 b hb2)
    · rcases gget hy with ⟨rfl, rfl⟩ | ⟨k1, k2, k3⟩ | ⟨rfl, rfl⟩
      · simp [g'] at hb2; subst hb2; exact a6 hb1
      · obtain ⟨z, hz, hzn⟩ := olive k1 k2 ho2 hn2
        exact hr.hd _ _ gh y _ z (fun e => k1 e.symm) hg k3 hs hz (by simp) hzn b (sub2 b hb1) hb2
      · exact hij rfl
  · intro i x y hx hy hny b hb
    rcases gget hx with ⟨rfl, rfl⟩ | ⟨h1, h2, h3⟩ | ⟨rfl, rfl⟩
    · exact hgn b (sub1 b hb)
    · rcases oget hy with ⟨h4, _⟩ | ⟨_, _, z, hz, rfl⟩ | ⟨h4, _⟩
      · exact absurd h4 h1
      · exact hr.hn i x z h3 hz (fun e => hny (AO.via_dead.2 e)) b hb
      · omega
    · exact hgn b (sub2 b hb)

theorem Turns.join {env : Env} {os : List AO} {h k : Nat} {T e e2 : TypeId} {L : List (List Int)} (hs : os[h]? = some (.bx T [.own k])) (hk : os[k]? = some (.sls e e2 L)) (hhk : (h == k) = false) :
    Turns env os (env.mp (AV.noRow h)) (((os.map (AO.via (AV.noRow h) h)).set h (.ob (cntOb T e e2 L))).set k .dead) := by
  have hne : h ≠ k := by simpa using hhk
  intro base w gs tm hr
  have hgl : h < gs.length := by rw [hr.hl]; exact (List.getElem?_eq_some_iff.1 hs).1
  have hkl : k < gs.length := by rw [hr.hl]; exact (List.getElem?_eq_some_iff.1 hk).1
  obtain ⟨gh, hg⟩ : ∃ x, gs[h]? = some x := ⟨_, List.getElem?_eq_getElem hgl⟩
  obtain ⟨gk, hgk⟩ : ∃ x, gs[k]? = some x := ⟨_, List.getElem?_eq_getElem hkl⟩
  obtain ⟨cs, c1, c2, c3, c4, c5, c6, c7⟩ := hr.ho _ _ _ hg hs
  have hpk : PartP e e2 L base w gk := PartP.of (hr.ho _ _ _ hgk hk)
  match cs, c5 with
  | [c0], _ =>
  have h0 := c7 0
  simp only [List.getD_cons_zero] at h0
  have e0 : c0 = gk.v := by
    cases h0 with
    | own hh => rw [hgk] at hh; cases hh; rfl
  subst e0
  let g' : Gh := ⟨gh.v, gh.b, gh.b :: gk.bl, []⟩
  have hbn := hr.hn _ _ _ hg hs (by simp)
  have hkn := hr.hn _ _ _ hgk hk (by simp)
  have sv : SameV h gs (gs.set h g') := by
    refine ⟨fun j z hj hz => ?_, fun z hz => ⟨g', by simp [hgl], ?_⟩⟩
    · rw [List.getElem?_set, if_neg (fun e => hj e.symm)]; exact hz
    · rw [hg] at hz; cases hz; exact ⟨rfl, rfl⟩
  refine ⟨gs.set h g', hr.absorb hg hs trivial hgk hk trivial hne g' _ (AV.noRow h) rfl (fun _ _ _ => rfl) (Nat.le_refl _) ?_ (fun kp hv => hv.noRow kp sv) (fun _ => ?_)⟩
  · intro b hb
    simp only [g', List.mem_cons] at hb
    rcases hb with rfl | hb
    · have : gh.b ∈ gh.bl := by rw [c3]; simp
      exact ⟨.inl this, (hbn _ this).2⟩
    · exact ⟨.inr (.inl hb), (hkn b hb).2⟩
  · refine ⟨gk, c1, c2, c4, hpk, rfl, fun hm => ?_⟩
    exact hr.hd k h gk gh _ _ (fun e => hne e.symm) hgk hg hk hs (by simp) (by simp) gh.b hm (by rw [c3]; simp)
theorem Turns.joinNil {env : Env} {os : List AO} {h : Nat} {T : TypeId} (e e2 : TypeId) (hs : os[h]? = some (.bx T [.val (.slice none 0 0)])) : Turns env os env (os.set h (.ob (cntOb T e e2 []))) := by
  intro base w gs tm hr
  have hgl : h < gs.length := by rw [hr.hl]; exact (List.getElem?_eq_some_iff.1 hs).1
  obtain ⟨gh, hg⟩ : ∃ x, gs[h]? = some x := ⟨_, List.getElem?_eq_getElem hgl⟩
  obtain ⟨cs, c1, c2, c3, c4, c5, c6, c7⟩ := hr.ho _ _ _ hg hs
  match cs, c5 with
  | [c0], _ =>
  have h0 := c7 0
  simp only [List.getD_cons_zero] at h0
  have e0 : c0 = .slice none 0 0 := by cases h0; rfl
  subst e0
  refine ⟨gs, hr.upd hg hs trivial _ trivial (fun _ _ _ => rfl) (Nat.le_refl _) fun _ => ?_⟩
  exact ⟨⟨.slice none 0 0, 0, [], []⟩, c1, c2, c4, ⟨[], [], [], World.ownsRow_nil _ _ _ _, rfl, rfl, rfl, fun i u hu => by simp at hu, .inl ⟨rfl, rfl⟩, rfl, by simp⟩, c3, by simp⟩
theorem AWp.turns {P : Program} {c : Code} {N : APost} {X : Nat → APost} {R : APost} {env env' : Env} {os os' : List AO} (ht : Turns env os env' os') (h : AWp P c N X R env' os') : AWp P c N X R env os := by
  intro base w0 w gs tm hr hb
  obtain ⟨gs', hr'⟩ := ht _ _ _ _ hr
  exact h base w0 w gs' tm hr' hb
theorem AOps.turns {P : Program} {l rest : List Oper} {K : APost} {env env' : Env} {os os' : List AO} (ht : Turns env os env' os') (h : AOps P .seq l rest K env' os') : AOps P .seq l rest K env os := by
  intro base w0 w gs tm hr hb X Rt
  obtain ⟨gs', hr'⟩ := ht _ _ _ _ hr
  exact h base w0 w gs' tm hr' hb X Rt

/-! ### Functions that are handed the pointer -/
def AFnP (P : Program) (f : FuncId) (as0 : List Value) (T e e2 : TypeId) (L L' : List (List Int)) (v : Value) : Prop :=
  HasBody P f ∧ ∀ base w g, base ≤ w.heap.size → CntP T e e2 L base w g → (∀ b, b ∈ g.bl → base ≤ b ∧ b < w.heap.size) →
    Calls P f (g.v :: as0).toArray w fun ev w' => ∃ g' : Gh, ev = .returned v ∧ g'.v = g.v ∧ g'.b = g.b ∧ CntP T e e2 L' base w' g' ∧ (∀ b, b ∈ g'.bl → (b ∈ g.bl ∨ w.heap.size ≤ b) ∧ b < w'.heap.size) ∧ Below base w w' ∧ ∀ b, b < w.heap.size → b ∉ g.bl → w'.heap[b]? = w.heap[b]?
/-- What stands at the end. -/
def CntEnd (P : Program) (fn : Func) (T e e2 : TypeId) (L' : List (List Int)) (v : Value) (K : Kp) (env : Env) (os : List AO) : Prop :=
  ∃ k : Nat, ResIs P fn env os (.val v) ∧ os[1]? = some (.bx T [.own k]) ∧ os[k]? = some (.sls e e2 L') ∧ (1 == k) = false ∧ os[0]? = some (.keep 2 K)

set_option maxHeartbeats 1000000 in
theorem AFnP.of {P : Program} {f : FuncId} {fn : Func} {c : Code} {as0 : List Value} {args' : List AV} {T e e2 : TypeId} {L L' : List (List Int)} {v : Value} {n : Nat} (hf : P.funcs[f]? = some fn) (hb : fn.body = some c) (hnm : (fn.name == "runtime.NumGoroutine") = false) (hn : fn.ntmps - (as0.length + 1) = n) (ha : args' = .optr 1 0 :: as0.map AV.val)
    (h : ∀ K, AWp P c (CntEnd P fn T e e2 L' v K) (fun _ _ _ => False) (CntEnd P fn T e e2 L' v K) (Env.start args' n) [.keep 2 K, .bx T [.own 2], .sls e e2 L]) :
    AFnP P f as0 T e e2 L L' v := by
  refine ⟨⟨fn, c, hf, hnm, hb⟩, fun base w g hbase hC hgn => calls_of_wp hf hb ?_⟩
  have hvs : ((g.v :: as0).toArray).size = as0.length + 1 := by simp
  rw [show fn.ntmps - ((g.v :: as0).toArray).size = n by rw [hvs]; exact hn]
  obtain ⟨p, a1, a2, a3, a4, a5, a6⟩ := hC
  let bl : List Nat := (List.range w.heap.size).filter fun b => decide (base ≤ b) && !g.bl.contains b
  let gk : Gh := ⟨undef, 0, bl, []⟩
  let gb : Gh := ⟨g.v, g.b, [g.b], []⟩
  let K : Kp := ⟨fun b => w.heap[b]?, [gk, gb]⟩
  have hbl : ∀ b, b ∈ bl ↔ b < w.heap.size ∧ base ≤ b ∧ b ∉ g.bl := by
    intro b
    simp only [bl, List.mem_filter, List.mem_range, Bool.and_eq_true, decide_eq_true_eq, Bool.not_eq_true', List.contains_eq_mem, decide_eq_false_iff_not]
  have subB : ∀ b, b ∈ gb.bl → b ∈ g.bl := fun b hb => by rw [a5]; simp [gb] at hb; simp [hb]
  have subP : ∀ b, b ∈ p.bl → b ∈ g.bl := fun b hb => by rw [a5]; simp [hb]
  have gg : ∀ {i : Nat} {x : Gh}, [gk, gb, p][i]? = some x → (i = 0 ∧ x = gk) ∨ (i = 1 ∧ x = gb) ∨ (i = 2 ∧ x = p) := by
    intro i x hx
    match i with
    | 0 => simp at hx; exact .inl ⟨rfl, hx.symm⟩
    | 1 => simp at hx; exact .inr (.inl ⟨rfl, hx.symm⟩)
    | 2 => simp at hx; exact .inr (.inr ⟨rfl, hx.symm⟩)
    | i + 3 => simp at hx
  have go : ∀ {i : Nat} {x : AO}, [AO.keep 2 K, .bx T [.own 2], .sls e e2 L][i]? = some x → (i = 0 ∧ x = .keep 2 K) ∨ (i = 1 ∧ x = .bx T [.own 2]) ∨ (i = 2 ∧ x = .sls e e2 L) := by
    intro i x hx
    match i with
    | 0 => simp at hx; exact .inl ⟨rfl, hx.symm⟩
    | 1 => simp at hx; exact .inr (.inl ⟨rfl, hx.symm⟩)
    | 2 => simp at hx; exact .inr (.inr ⟨rfl, hx.symm⟩)
    | i + 3 => simp at hx
  have hrel : Rel base w [gk, gb, p] (Env.start args' n) [.keep 2 K, .bx T [.own 2], .sls e e2 L] ((g.v :: as0).toArray ++ Array.replicate n undef) := by
    refine ⟨hbase, rfl, by simp [Env.start, ha], fun i => start_rv args' n _ (fun i => ?_) i, ?_, ?_, ?_⟩
    · rw [ha]
      match i with
      | 0 =>
        have : RV w (okOf [gk, gb, p] [.keep 2 K, .bx T [.own 2], .sls e e2 L]) [gk, gb, p] (.pointer (some ⟨gb.b, 0, none⟩)) (.optr 1 0) := .optr (by simp)
        simpa [a3, gb] using this
      | i + 1 =>
        simp only [Array.getD_eq_getD_getElem?, List.getElem?_toArray, List.getElem?_cons_succ, List.getD_eq_getElem?_getD, List.getElem?_map]
        cases as0[i]? with
        | none => exact .any _
        | some u => exact .val _
    · intro i x y hx hy
      rcases gg hx with ⟨rfl, rfl⟩ | ⟨rfl, rfl⟩ | ⟨rfl, rfl⟩
      · rcases go hy with ⟨_, rfl⟩ | ⟨h0, _⟩ | ⟨h0, _⟩
        · exact ⟨fun b _ => rfl, rfl, fun i x h => by
            match i with
            | 0 => exact h
            | 1 => exact h
            | i + 2 => simp [K] at h⟩
        · omega
        · omega
      · rcases go hy with ⟨h0, _⟩ | ⟨_, rfl⟩ | ⟨h0, _⟩
        · omega
        · refine ⟨[p.v], a1, a2, rfl, a3, rfl, fun c hc => by simp at hc; subst hc; exact a4.one.1, fun j => ?_⟩
          match j with
          | 0 => exact .own (by simp)
          | j + 1 => exact .any _
        · omega
      · rcases go hy with ⟨h0, _⟩ | ⟨h0, _⟩ | ⟨_, rfl⟩
        · omega
        · omega
        · exact a4.ro
    · intro i j g1 g2 o1 o2 hij hg1 hg2 ho1 ho2 _ _ b hb1 hb2
      rcases gg hg1 with ⟨rfl, rfl⟩ | ⟨rfl, rfl⟩ | ⟨rfl, rfl⟩
      · rcases gg hg2 with ⟨rfl, rfl⟩ | ⟨rfl, rfl⟩ | ⟨rfl, rfl⟩
        · exact hij rfl
        · exact ((hbl b).1 hb1).2.2 (subB b hb2)
        · exact ((hbl b).1 hb1).2.2 (subP b hb2)
      · rcases gg hg2 with ⟨rfl, rfl⟩ | ⟨rfl, rfl⟩ | ⟨rfl, rfl⟩
        · exact ((hbl b).1 hb2).2.2 (subB b hb1)
        · exact hij rfl
        · simp [gb] at hb1; subst hb1; exact a6 hb2
      · rcases gg hg2 with ⟨rfl, rfl⟩ | ⟨rfl, rfl⟩ | ⟨rfl, rfl⟩
        · exact ((hbl b).1 hb2).2.2 (subP b hb1)
        · simp [gb] at hb2; subst hb2; exact a6 hb1
        · exact hij rfl
    · intro i x y hx hy _ b hb
      rcases gg hx with ⟨rfl, rfl⟩ | ⟨rfl, rfl⟩ | ⟨rfl, rfl⟩
      · exact ⟨((hbl b).1 hb).2.1, ((hbl b).1 hb).1⟩
      · exact hgn b (subB b hb)
      · exact hgn b (subP b hb)
  have fin : ∀ {env : Env} {os1 : List AO} {gs2 : List Gh} {a : Act} {w' : World}, Rel base w' gs2 env os1 a.tmps → Below base w w' → CntEnd P fn T e e2 L' v K env os1 →
      ∃ u, (results fn a.tmps).run P w' = .ok u w' ∧ ∃ g' : Gh, Exit.ret = Exit.ret ∧ u = v ∧ g'.v = g.v ∧ g'.b = g.b ∧ CntP T e e2 L' base w' g' ∧ (∀ b, b ∈ g'.bl → (b ∈ g.bl ∨ w.heap.size ≤ b) ∧ b < w'.heap.size) ∧ Below base w w' ∧ ∀ b, b < w.heap.size → b ∉ g.bl → w'.heap[b]? = w.heap[b]? := by
    intro env os1 gs2 a w' hr hbel ⟨k, hres, hbx, hok, hk1, hkp⟩
    obtain ⟨u, hu, hv⟩ := hres _ _ _ _ hr
    cases hv
    have hgt : ∀ {i : Nat} {o : AO}, os1[i]? = some o → ∃ x, gs2[i]? = some x := fun {i o} hi => by
      have : i < gs2.length := by rw [hr.hl]; exact (List.getElem?_eq_some_iff.1 hi).1
      exact ⟨_, List.getElem?_eq_getElem this⟩
    obtain ⟨g0, hg0⟩ := hgt hkp
    obtain ⟨g1, hg1⟩ := hgt hbx
    obtain ⟨gx, hgx⟩ := hgt hok
    obtain ⟨r1, r2, r3⟩ := hr.ho _ _ _ hg0 hkp
    have e0 : g0 = gk := by have := r3 0 gk rfl; rw [hg0] at this; exact Option.some.inj this
    have e1 : g1 = gb := by have := r3 1 gb rfl; rw [hg1] at this; exact Option.some.inj this
    subst e0 e1
    have hk0 : k ≠ 0 := fun e => by subst e; rw [hkp] at hok; cases hok
    have hk1' : k ≠ 1 := fun e => by subst e; simp at hk1
    obtain ⟨cs, c1, c2, c3, c4, c5, c6, c7⟩ := hr.ho _ _ _ hg1 hbx
    match cs, c5 with
    | [c0], _ =>
    have h0 := c7 0
    simp only [List.getD_cons_zero] at h0
    have ec : c0 = gx.v := by
      cases h0 with
      | own hh => rw [hgx] at hh; cases hh; rfl
    subst ec
    have hpx : PartP e e2 L' base w' gx := PartP.of (hr.ho _ _ _ hgx hok)
    have hxn := hr.hn _ _ _ hgx hok (by simp)
    have hbn := hr.hn _ _ _ hg1 hbx (by simp)
    refine ⟨v, hu, ⟨g.v, g.b, g.b :: gx.bl, []⟩, rfl, rfl, rfl, rfl, ⟨gx, c1, c2, a3, hpx, rfl, fun hm => ?_⟩, fun b hb => ?_, hbel, fun b hb hnot => ?_⟩
    · exact hr.hd k 1 gx gb _ _ hk1' hgx hg1 hok hbx (by simp) (by simp) g.b hm (by simp [gb])
    · simp only [List.mem_cons] at hb
      rcases hb with rfl | hb
      · exact ⟨.inl (subB _ (by simp [gb])), (hbn _ (by simp [gb])).2⟩
      · have hbn2 := hxn b hb
        refine ⟨?_, hbn2.2⟩
        by_cases hbw : b < w.heap.size
        · left
          apply Classical.byContradiction
          intro hnb
          exact hr.hd k 0 gx gk _ _ hk0 hgx hg0 hok hkp (by simp) (by simp) b hb ((hbl b).2 ⟨hbw, hbn2.1, hnb⟩)
        · right; omega
    · rcases Nat.lt_or_ge b base with h6 | h6
      · exact hbel.block b h6
      · exact r1 b ((hbl b).2 ⟨hb, h6, hnot⟩)
  refine wp_mono (h K base w w _ _ hrel (Below.refl _ _)) ?_
  intro ev a w' hq
  cases ev with
  | normal =>
    obtain ⟨env, os1, gs1, hr, hd, hbel, hx⟩ := hq
    obtain ⟨u, hu, g', _, rfl, r⟩ := fin hr hbel hx
    exact ⟨hd, _, hu, g', rfl, r⟩
  | exit j => obtain ⟨_, _, _, _, _, _, hx⟩ := hq; exact hx.elim
  | ret =>
    obtain ⟨env, os1, gs1, hr, hd, hbel, hx⟩ := hq
    obtain ⟨u, hu, g', _, rfl, r⟩ := fin hr hbel hx
    exact ⟨hd, _, hu, g', rfl, r⟩
  | goto l => exact (hq : False).elim
  | panic ch => exact (hq : False).elim
  | outgrown => exact (hq : False).elim
theorem AFnP.start {P : Program} {f : FuncId} {fn : Func} {nt : Nat} {as0 : List Value} {T e e2 : TypeId} {L L' : List (List Int)} {v : Value} (hf : P.funcs[f]? = some fn) (hnt : fn.ntmps = nt) {c : Code} (hb : fn.body = some c) (hnm : (fn.name == "runtime.NumGoroutine") = false)
    (h : ∀ K, AWp P c (CntEnd P fn T e e2 L' v K) (fun _ _ _ => False) (CntEnd P fn T e e2 L' v K) (Env.start (.optr 1 0 :: as0.map AV.val) (nt - (as0.length + 1))) [.keep 2 K, .bx T [.own 2], .sls e e2 L]) :
    AFnP P f as0 T e e2 L L' v := AFnP.of hf hb hnm (by rw [hnt]) rfl h

section
variable {P : Program} {env : Env} {os : List AO} {d : Option Tmp} {ty : TypeId} {pos : String} {af : Array Edge} {g : Option (Nat × Bool)}
end
section
variable {P : Program} {env : Env} {os : List AO} {d : Tmp} {ty : TypeId} {pos : String} {af : Array Edge} {g : Option (Nat × Bool)} {l rest : List Oper} {K : APost} {q : Md}
end
end Go.Proofs.Ytpllbdjobmgikaa
/-
  A nil check, a shift by one, a conversion back from uint. No condition.
-/
namespace Go.Proofs.Ytpllbdjobmgikaa
open Go Go.RowKit
set_option linter.unusedSimpArgs false
section
variable {P : Program} {wl : Bool} {env : Env} {os : List AO} {d : Option Tmp} {ty : TypeId} {pos : String} {af : Array Edge} {g : Option (Nat × Bool)}
theorem q_nilck {x : Operand} {h i : Nat} (hx : AV.ev env x = .optr h i) : QOp P wl ⟨d, .nilCheck x, ty, pos, af, g⟩ env os (.optr h i) :=
  .of_run fun _ w gs tm hr => by
    have hh := hr.ev x
    rw [hx] at hh
    generalize hv : Act.eval ⟨tm, []⟩ x = v at hh
    cases hh with
    | optr hg => exact ⟨_, .optr hg, fun w' _ => by simp [execOp, hv]⟩
theorem q_convu {src dst : TypeId} [hs : TKind P src .i64] [hd : TKind P dst .u64] {x : Operand} {a : Int} (ha : AV.ev env x = .i a) (h0 : 0 ≤ a) (h1 : a ≤ 9223372036854775807) :
    QOp P wl ⟨d, .convert src dst x, ty, pos, af, g⟩ env os (.val (.int .u64 a)) :=
  .of_run fun _ _ _ tm hr => ⟨_, .val _, fun w' _ => by
    have e : IntKind.u64.wrap a = a := by simp [IntKind.wrap, IntKind.bits, IntKind.signed]; omega
    simp [execOp, hr.evv ha, convert, run_underlying hs.und, run_underlying hd.und, Conv.intToInt, e]⟩
theorem q_convi {src dst : TypeId} [hs : TKind P src .u64] [hd : TKind P dst .i64] {x : Operand} {a : Int} (ha : AV.ev env x = .val (.int .u64 a)) (h0 : 0 ≤ a) (h1 : a ≤ 9223372036854775807) :
    QOp P wl ⟨d, .convert src dst x, ty, pos, af, g⟩ env os (.i a) :=
  .of_run fun _ _ _ tm hr => ⟨_, .val _, fun w' _ => by
    have e : IntKind.i64.wrap a = a := by rw [IntKind.wrap_i64]; omega
    simp [execOp, hr.evv ha, convert, run_underlying hs.und, run_underlying hd.und, Conv.intToInt, e]⟩
theorem q_shr1 {xt yt : TypeId} {x y : Operand} {a : Int} (ha : AV.ev env x = .val (.int .u64 a)) (hb : AV.ev env y = .val (.int .u64 1)) (h0 : 0 ≤ a) (h1 : a ≤ 9223372036854775807) :
    QOp P wl ⟨d, .binOp .shr xt x y yt, ty, pos, af, g⟩ env os (.val (.int .u64 (a / 2))) :=
  q_bin ha hb (by simp [go_sem]) fun w => by
    have e : IntKind.u64.wrap (a / 2) = a / 2 := by simp [IntKind.wrap, IntKind.bits, IntKind.signed]; omega
    simp [go_sem, e]
end
section
variable {P : Program} {env : Env} {os : List AO} {d : Tmp} {ty : TypeId} {pos : String} {af : Array Edge} {g : Option (Nat × Bool)} {l rest : List Oper} {K : APost} {q : Md}
theorem w_nilck {x : Operand} {h i : Nat} (hw : wantedA l env ⟨some d, .nilCheck x, ty, pos, af, g⟩ = some true) (hx : evo env x = some (.optr h i)) (h' : AOps P q l rest K (env.up d (.optr h i)) os) : AOps P q l (⟨some d, .nilCheck x, ty, pos, af, g⟩ :: rest) K env os := AOps.qo hw (q_nilck (ev_of hx)) h'
theorem w_convu {src dst : TypeId} [TKind P src .i64] [TKind P dst .u64] {x : Operand} {a : Int} (hw : wantedA l env ⟨some d, .convert src dst x, ty, pos, af, g⟩ = some true) (ha : evo env x = some (.i a)) (h0 : 0 ≤ a) (h1 : a ≤ 9223372036854775807) (h' : AOps P q l rest K (env.up d (.val (.int .u64 a))) os) :
    AOps P q l (⟨some d, .convert src dst x, ty, pos, af, g⟩ :: rest) K env os := AOps.qo hw (q_convu (ev_of ha) h0 h1) h'
theorem w_convi {src dst : TypeId} [TKind P src .u64] [TKind P dst .i64] {x : Operand} {a : Int} (hw : wantedA l env ⟨some d, .convert src dst x, ty, pos, af, g⟩ = some true) (ha : evo env x = some (.val (.int .u64 a))) (h0 : 0 ≤ a) (h1 : a ≤ 9223372036854775807) (h' : AOps P q l rest K (env.up d (.i a)) os) :
    AOps P q l (⟨some d, .convert src dst x, ty, pos, af, g⟩ :: rest) K env os := AOps.qo hw (q_convi (ev_of ha) h0 h1) h'
theorem w_shr1 {xt yt : TypeId} {x y : Operand} {a : Int} (hw : wantedA l env ⟨some d, .binOp .shr xt x y yt, ty, pos, af, g⟩ = some true) (ha : evo env x = some (.val (.int .u64 a))) (hb : evo env y = some (.val (.int .u64 1))) (h0 : 0 ≤ a) (h1 : a ≤ 9223372036854775807) (h' : AOps P q l rest K (env.up d (.val (.int .u64 (a / 2)))) os) :
    AOps P q l (⟨some d, .binOp .shr xt x y yt, ty, pos, af, g⟩ :: rest) K env os := AOps.qo hw (q_shr1 (ev_of ha) (ev_of hb) h0 h1) h'
end
end Go.Proofs.Ytpllbdjobmgikaa
/-
  Counters: the search. No condition but that the rows are in order.
-/
namespace Go.Proofs.Ytpllbdjobmgikaa
open Go Go.RowKit
attribute [local irreducible] AWp AOps ResIs Ret1 QOp LOp COp AFnV AFn Imms LeE LeO
set_option maxHeartbeats 1000000
set_option linter.unusedSimpArgs false
set_option linter.unusedVariables false

def cmp3 (a b : Int) : Int := if a < b then -1 else if b < a then 1 else 0
theorem comparedZ_c (a b : Int) : AFnV Try.prog 58 [.i a, .i b] (.int .i64 (cmp3 a b)) := by
  unfold cmp3
  (refine AFnV.start Try.func58 Try.ntmps58 rfl (by kernel_rfl) fun hk => ?_; simp only [Env.start, enumF, List.length_cons, List.length_nil, Nat.reduceAdd, Nat.reduceSub, List.cons_append, List.nil_append])
  repeat' (first
  | (apply AOps.nil; try simp only [List.nil_append, List.cons_append, List.set_cons_zero, List.set_cons_succ, List.length_cons, List.length_nil, Nat.reduceAdd, AV.sh, AV.sh1, AV.sh0, AO.sh, List.map_cons, List.map_nil, Nat.zero_add, Nat.add_zero, setAll])
  | ((apply AOps.splitP; exact rfl; exact rfl) <;> intro h)
  | ((apply AOps.splitN; exact rfl; exact rfl) <;> intro h)
  | (apply w_move; exact rfl; exact rfl)
  | (apply w_assign; exact rfl; exact rfl)
  | apply AWp.seq
  | apply AWp.region
  | ((apply AWp.condP; exact rfl) <;> intro h)
  | ((apply AWp.condN; exact rfl) <;> intro h)
  | (apply AWp.condT; exact rfl)
  | (apply AWp.condF; exact rfl)
  | ((apply AWp.condB; exact rfl) <;> intro h)
  | apply AWp.block
  | apply AWp.ret
  | apply AWp.exit
  | apply AWp.skip
  | (apply AWp.regionQ; kernel_rfl; kernel_rfl)
  | (apply if_pos'; exact rfl)
  | (apply if_neg'; decide)
  | (apply w_skip; exact rfl)
  | (apply w_pickT; exact rfl; exact rfl; exact rfl)
  | (apply w_pickF; exact rfl; exact rfl; exact rfl)
  | (apply w_len; exact rfl; exact rfl; first | exact .ints _ | exact .intss _ | exact .sli rfl | exact .sls rfl | exact .slr rfl | exact .orow rfl | exact .nil)
  | ((first | apply w_lss | apply w_leq | apply w_gtr | apply w_geq | apply w_eql | apply w_neq | apply w_add | apply w_sub | apply w_mul | apply w_idx | apply w_ld | apply w_fld | apply w_fa | apply w_extv | apply w_min | apply w_max | apply w_slhi | apply w_sllo | apply w_bs2); iterate 3 exact rfl)
  | ((first | apply w_eqlb | apply w_neqb | apply w_idxs | apply w_lds | apply w_ext); iterate 3 exact rfl)
  | (apply w_rem; exact rfl; exact rfl; exact rfl; (focus (omega; done)); (focus (omega; done)))
  | (apply w_quo; exact rfl; exact rfl; exact rfl; (focus (omega; done)); (focus (omega; done)))
  | (apply w_remT; exact rfl; exact rfl; exact rfl)
  | (apply w_quoT; exact rfl; exact rfl; exact rfl)
  | ((first | apply w_not | apply w_neg | apply w_conv | apply w_build0 | apply w_bs1 | apply w_boxa); iterate 2 exact rfl)
  | (apply w_idxo; exact rfl; exact rfl; (first | exact .sli rfl | exact .sls rfl | exact .slr rfl); exact rfl)
  | ((first | apply w_idxr | apply w_ldr); iterate 4 exact rfl)
  | (apply w_ldo; iterate 4 exact rfl)
  | (apply w_ldls; iterate 4 exact rfl)
  | (apply w_ldrp; iterate 4 exact rfl)
  | (apply w_ldb; iterate 5 exact rfl)
  | (apply w_ldst; iterate 5 exact rfl)
  | ((first | apply w_sllh | apply w_stbi); iterate 4 exact rfl)
  | ((first | apply w_oslo | apply w_oshi | apply w_stbii); iterate 4 exact rfl)
  | (apply w_build1; exact rfl; exact rfl; (first | exact one_val rfl rfl | exact one_ints | exact one_intss | exact one_own rfl True.intro))
  | (apply w_build2; exact rfl; exact rfl; exact rfl; (first | exact one_val rfl rfl | exact one_ints | exact one_intss | exact one_own rfl True.intro); (first | exact one_val rfl rfl | exact one_ints | exact one_intss | exact one_own rfl True.intro))
  | (apply w_bs0; iterate 1 exact rfl)
  | (apply w_appn; exact rfl; exact rfl; (first | exact .ints _ | exact .sli rfl | exact .orow rfl | exact .nil | exact .osub rfl (by simp; omega)); exact rfl)
  | (apply w_app; exact rfl; exact rfl; exact rfl; exact rfl; (first | exact .ints _ | exact .sli rfl | exact .orow rfl | exact .nil | exact .osub rfl (by simp; omega)); rotate_left 1; simp only [Env.mp, List.map_cons, List.map_nil, List.set_cons_zero, List.set_cons_succ, AV.kill, AV.kill1, AO.kill, AV.noRow, AV.noRow1, AO.via, reduceIte, Nat.reduceEqDiff, Nat.reduceLT, Env.up, Nat.zero_ne_one, Nat.one_ne_zero, Nat.reduceAdd, List.cons_append, List.nil_append]; rotate_left 1)
  | (apply w_alst; iterate 2 exact rfl)
  | (apply w_alone; iterate 3 exact rfl)
  | (apply w_sti; exact rfl; exact rfl; rotate_left 1; exact rfl; rotate_left 2)
  | (apply w_stst; iterate 5 exact rfl)
  | (apply w_stbv; iterate 6 exact rfl)
  | (apply w_stbo; exact rfl; exact rfl; exact rfl; exact rfl; exact rfl; exact True.intro)
  | ((apply AOps.splitB; exact rfl; exact rfl) <;> intro h)
  | apply AllOf.nil
  | (apply AllOf.cons; exact rfl)
  | (apply AAny.take; exact rfl; exact rfl; kernel_rfl; kernel_rfl)
  | (apply AAny.all; exact rfl)
  | (apply AAny.done; exact rfl)
  | (apply inI_of <;> omega)
  | omega
  | (simp <;> omega))
  all_goals exact .int Try.results58 rfl (by repeat' split <;> omega)
theorem addCmp_c (l : List Int) (hl : 0 < l.length) (m : Int) : AFnV Try.prog 57 [.ints l, .i m] (.int .i64 (cmp3 (geti l 0) m)) := by
  (refine AFnV.start Try.func57 Try.ntmps57 rfl (by kernel_rfl) fun hk => ?_; simp only [Env.start, enumF, List.length_cons, List.length_nil, Nat.reduceAdd, Nat.reduceSub, List.cons_append, List.nil_append])
  repeat' (first
  | (apply AOps.nil; try simp only [List.nil_append, List.cons_append, List.set_cons_zero, List.set_cons_succ, List.length_cons, List.length_nil, Nat.reduceAdd, AV.sh, AV.sh1, AV.sh0, AO.sh, List.map_cons, List.map_nil, Nat.zero_add, Nat.add_zero, setAll])
  | ((apply AOps.splitP; exact rfl; exact rfl) <;> intro h)
  | ((apply AOps.splitN; exact rfl; exact rfl) <;> intro h)
  | (apply w_move; exact rfl; exact rfl)
  | (apply w_assign; exact rfl; exact rfl)
  | apply AWp.seq
  | apply AWp.region
  | ((apply AWp.condP; exact rfl) <;> intro h)
  | ((apply AWp.condN; exact rfl) <;> intro h)
  | (apply AWp.condT; exact rfl)
  | (apply AWp.condF; exact rfl)
  | ((apply AWp.condB; exact rfl) <;> intro h)
  | apply AWp.block
  | apply AWp.ret
  | apply AWp.exit
  | apply AWp.skip
  | (apply AWp.regionQ; kernel_rfl; kernel_rfl)
  | (apply if_pos'; exact rfl)
  | (apply if_neg'; decide)
  | (apply w_skip; exact rfl)
  | (apply w_pickT; exact rfl; exact rfl; exact rfl)
  | (apply w_pickF; exact rfl; exact rfl; exact rfl)
  | (apply w_len; exact rfl; exact rfl; first | exact .ints _ | exact .intss _ | exact .sli rfl | exact .sls rfl | exact .slr rfl | exact .orow rfl | exact .nil)
  | (apply w_call (comparedZ_c _ _); exact rfl; exact rfl; focus ((repeat (first | exact im_nil | refine im_cons rfl (.val _) ?_ | refine im_cons rfl (.ints _) ?_ | refine im_cons rfl (.intss _) ?_ | refine im_cons rfl (.sli rfl) ?_ | refine im_cons rfl (.sls rfl) ?_ | refine im_cons rfl (.orow rfl) ?_ | refine im_cons rfl (.osub rfl (by simp; omega)) ?_ | refine im_cons rfl (.nil) ?_ | refine im_cons rfl (.nils) ?_ | refine im_cons rfl (im_agg2 (.val _) (.ints _)) ?_ | refine im_cons rfl (im_agg2 (.val _) (.sli rfl)) ?_ | refine im_cons rfl (im_agg2 (.val _) (.nil)) ?_ | refine im_cons rfl (im_agg2 (.ints _) (.intss _)) ?_ | refine im_cons rfl (im_agg2 (.ints _) (.sls rfl)) ?_ | refine im_cons rfl (im_agg2 (.sli rfl) (.intss _)) ?_ | refine im_cons rfl (im_agg2 (.sli rfl) (.sls rfl)) ?_ | refine im_cons rfl (im_agg1 (.ints _)) ?_ | refine im_cons rfl (im_agg1 (.sli rfl)) ?_ | refine im_cons rfl (im_agg1 (.intss _)) ?_ | refine im_cons rfl (im_agg1 (.sls rfl)) ?_ | refine im_cons rfl (im_agg1 (.nil)) ?_ | refine im_cons rfl (im_agg1 (.nils)) ?_)); done))
  | omega
  | ((first | apply w_lss | apply w_leq | apply w_gtr | apply w_geq | apply w_eql | apply w_neq | apply w_add | apply w_sub | apply w_mul | apply w_idx | apply w_ld | apply w_fld | apply w_fa | apply w_extv | apply w_min | apply w_max | apply w_slhi | apply w_sllo | apply w_bs2); iterate 3 exact rfl)
  | ((first | apply w_eqlb | apply w_neqb | apply w_idxs | apply w_lds | apply w_ext); iterate 3 exact rfl)
  | (apply w_rem; exact rfl; exact rfl; exact rfl; (focus (omega; done)); (focus (omega; done)))
  | (apply w_quo; exact rfl; exact rfl; exact rfl; (focus (omega; done)); (focus (omega; done)))
  | (apply w_remT; exact rfl; exact rfl; exact rfl)
  | (apply w_quoT; exact rfl; exact rfl; exact rfl)
  | ((first | apply w_not | apply w_neg | apply w_conv | apply w_build0 | apply w_bs1 | apply w_boxa); iterate 2 exact rfl)
  | (apply w_idxo; exact rfl; exact rfl; (first | exact .sli rfl | exact .sls rfl | exact .slr rfl); exact rfl)
  | ((first | apply w_idxr | apply w_ldr); iterate 4 exact rfl)
  | (apply w_ldo; iterate 4 exact rfl)
  | (apply w_ldls; iterate 4 exact rfl)
  | (apply w_ldrp; iterate 4 exact rfl)
  | (apply w_ldb; iterate 5 exact rfl)
  | (apply w_ldst; iterate 5 exact rfl)
  | ((first | apply w_sllh | apply w_stbi); iterate 4 exact rfl)
  | ((first | apply w_oslo | apply w_oshi | apply w_stbii); iterate 4 exact rfl)
  | (apply w_build1; exact rfl; exact rfl; (first | exact one_val rfl rfl | exact one_ints | exact one_intss | exact one_own rfl True.intro))
  | (apply w_build2; exact rfl; exact rfl; exact rfl; (first | exact one_val rfl rfl | exact one_ints | exact one_intss | exact one_own rfl True.intro); (first | exact one_val rfl rfl | exact one_ints | exact one_intss | exact one_own rfl True.intro))
  | (apply w_bs0; iterate 1 exact rfl)
  | (apply w_appn; exact rfl; exact rfl; (first | exact .ints _ | exact .sli rfl | exact .orow rfl | exact .nil | exact .osub rfl (by simp; omega)); exact rfl)
  | (apply w_app; exact rfl; exact rfl; exact rfl; exact rfl; (first | exact .ints _ | exact .sli rfl | exact .orow rfl | exact .nil | exact .osub rfl (by simp; omega)); rotate_left 1; simp only [Env.mp, List.map_cons, List.map_nil, List.set_cons_zero, List.set_cons_succ, AV.kill, AV.kill1, AO.kill, AV.noRow, AV.noRow1, AO.via, reduceIte, Nat.reduceEqDiff, Nat.reduceLT, Env.up, Nat.zero_ne_one, Nat.one_ne_zero, Nat.reduceAdd, List.cons_append, List.nil_append]; rotate_left 1)
  | (apply w_alst; iterate 2 exact rfl)
  | (apply w_alone; iterate 3 exact rfl)
  | (apply w_sti; exact rfl; exact rfl; rotate_left 1; exact rfl; rotate_left 2)
  | (apply w_stst; iterate 5 exact rfl)
  | (apply w_stbv; iterate 6 exact rfl)
  | (apply w_stbo; exact rfl; exact rfl; exact rfl; exact rfl; exact rfl; exact True.intro)
  | ((apply AOps.splitB; exact rfl; exact rfl) <;> intro h)
  | apply AllOf.nil
  | (apply AllOf.cons; exact rfl)
  | (apply AAny.take; exact rfl; exact rfl; kernel_rfl; kernel_rfl)
  | (apply AAny.all; exact rfl)
  | (apply AAny.done; exact rfl)
  | (apply inI_of <;> omega)
  | omega
  | (simp <;> omega))
  all_goals exact .int Try.results57 rfl rfl
theorem cmp3_lt {a b : Int} : cmp3 a b < 0 ↔ a < b := by unfold cmp3; repeat' split <;> omega
theorem cmp3_eq {a b : Int} : cmp3 a b = 0 ↔ a = b := by unfold cmp3; repeat' split <;> omega
theorem ResIs.intbool {P : Program} {env : Env} {os : List AO} {fn : Func} {t u : Tmp} (h : fn.results = #[.tmp t, .tmp u]) {a a' : Int} {b b' : Bool} (ht : env.fd t = some (.i a)) (hu : env.fd u = some (.b b)) (e1 : a = a') (e2 : b = b') : ResIs P fn env os (.val (.tuple #[.int .i64 a', .bool b'])) := e1 ▸ e2 ▸ .vv2 h ht hu
/-- The place of a number. -/
structure ZAt (L : List (List Int)) (m : Int) (k : Nat) : Prop where
  le : k ≤ L.length
  lt : ∀ j : Nat, j < k → geti (gets L (j : Nat)) 0 < m
  ge : ∀ j : Nat, k ≤ j → j < L.length → m ≤ geti (gets L (j : Nat)) 0
def zFd (L : List (List Int)) (m : Int) (k : Nat) : Bool := decide (k < L.length ∧ geti (gets L (k : Nat)) 0 = m)

/-- The function that compares. -/
def addF : Value := .func (.func 57) #[] #[]
set_option maxHeartbeats 4000000 in
theorem bsearch_c (L : List (List Int)) (m : Int) (k : Nat) (hk : ZAt L m k) (hn : L.length ≤ 1000000) (hr : ∀ r ∈ L, r.length = 2) :
    AFnV Try.prog 56 [.intss L, .i m, .val (.func (.func 57) #[] #[])] (.tuple #[.int .i64 k, .bool (zFd L m k)]) := by
  obtain ⟨k1, k2, k3⟩ := hk
  have hrow : ∀ i : Nat, i < L.length → (gets L (i : Nat)).length = 2 := fun i hi => hr _ (gets_mem (by omega) (by omega))
  (refine AFnV.start Try.func56 Try.ntmps56 rfl (by kernel_rfl) fun hk => ?_; simp only [Env.start, enumF, List.length_cons, List.length_nil, Nat.reduceAdd, Nat.reduceSub, List.cons_append, List.nil_append])
  repeat' (first
  | (apply AOps.nil; try simp only [List.nil_append, List.cons_append, List.set_cons_zero, List.set_cons_succ, List.length_cons, List.length_nil, Nat.reduceAdd, AV.sh, AV.sh1, AV.sh0, AO.sh, List.map_cons, List.map_nil, Nat.zero_add, Nat.add_zero, setAll])
  | ((apply AOps.splitP; exact rfl; exact rfl) <;> intro h)
  | ((apply AOps.splitN; exact rfl; exact rfl) <;> intro h)
  | (apply w_move; exact rfl; exact rfl)
  | (apply w_assign; exact rfl; exact rfl)
  | apply AWp.seq
  | apply AWp.region
  | ((apply AWp.condP; exact rfl) <;> intro h)
  | ((apply AWp.condN; exact rfl) <;> intro h)
  | (apply AWp.condT; exact rfl)
  | (apply AWp.condF; exact rfl)
  | ((apply AWp.condB; exact rfl) <;> intro h)
  | apply AWp.block
  | apply AWp.ret
  | apply AWp.exit
  | apply AWp.skip
  | (apply if_pos'; exact rfl)
  | (apply if_neg'; decide)
  | (apply w_skip; exact rfl)
  | (apply w_pickT; exact rfl; exact rfl; exact rfl)
  | (apply w_pickF; exact rfl; exact rfl; exact rfl)
  | (apply w_len; exact rfl; exact rfl; first | exact .ints _ | exact .intss _ | exact .sli rfl | exact .sls rfl | exact .slr rfl | exact .orow rfl | exact .nil)
  | ((first | apply w_lss | apply w_leq | apply w_gtr | apply w_geq | apply w_eql | apply w_neq | apply w_add | apply w_sub | apply w_mul | apply w_idx | apply w_ld | apply w_fld | apply w_fa | apply w_extv | apply w_min | apply w_max | apply w_slhi | apply w_sllo | apply w_bs2); iterate 3 exact rfl)
  | ((first | apply w_eqlb | apply w_neqb | apply w_idxs | apply w_lds | apply w_ext); iterate 3 exact rfl)
  | (apply w_rem; exact rfl; exact rfl; exact rfl; (focus (omega; done)); (focus (omega; done)))
  | (apply w_quo; exact rfl; exact rfl; exact rfl; (focus (omega; done)); (focus (omega; done)))
  | (apply w_remT; exact rfl; exact rfl; exact rfl)
  | (apply w_quoT; exact rfl; exact rfl; exact rfl)
  | ((first | apply w_not | apply w_neg | apply w_conv | apply w_build0 | apply w_bs1 | apply w_boxa); iterate 2 exact rfl)
  | (apply w_idxo; exact rfl; exact rfl; (first | exact .sli rfl | exact .sls rfl | exact .slr rfl); exact rfl)
  | ((first | apply w_idxr | apply w_ldr); iterate 4 exact rfl)
  | (apply w_ldo; iterate 4 exact rfl)
  | (apply w_ldls; iterate 4 exact rfl)
  | (apply w_ldrp; iterate 4 exact rfl)
  | (apply w_ldb; iterate 5 exact rfl)
  | (apply w_ldst; iterate 5 exact rfl)
  | ((first | apply w_sllh | apply w_stbi); iterate 4 exact rfl)
  | ((first | apply w_oslo | apply w_oshi | apply w_stbii); iterate 4 exact rfl)
  | (apply w_build1; exact rfl; exact rfl; (first | exact one_val rfl rfl | exact one_ints | exact one_intss | exact one_own rfl True.intro))
  | (apply w_build2; exact rfl; exact rfl; exact rfl; (first | exact one_val rfl rfl | exact one_ints | exact one_intss | exact one_own rfl True.intro); (first | exact one_val rfl rfl | exact one_ints | exact one_intss | exact one_own rfl True.intro))
  | (apply w_bs0; iterate 1 exact rfl)
  | (apply w_appn; exact rfl; exact rfl; (first | exact .ints _ | exact .sli rfl | exact .orow rfl | exact .nil | exact .osub rfl (by simp; omega)); exact rfl)
  | (apply w_app; exact rfl; exact rfl; exact rfl; exact rfl; (first | exact .ints _ | exact .sli rfl | exact .orow rfl | exact .nil | exact .osub rfl (by simp; omega)); rotate_left 1; simp only [Env.mp, List.map_cons, List.map_nil, List.set_cons_zero, List.set_cons_succ, AV.kill, AV.kill1, AO.kill, AV.noRow, AV.noRow1, AO.via, reduceIte, Nat.reduceEqDiff, Nat.reduceLT, Env.up, Nat.zero_ne_one, Nat.one_ne_zero, Nat.reduceAdd, List.cons_append, List.nil_append]; rotate_left 1)
  | (apply w_alst; iterate 2 exact rfl)
  | (apply w_alone; iterate 3 exact rfl)
  | (apply w_sti; exact rfl; exact rfl; rotate_left 1; exact rfl; rotate_left 2)
  | (apply w_stst; iterate 5 exact rfl)
  | (apply w_stbv; iterate 6 exact rfl)
  | (apply w_stbo; exact rfl; exact rfl; exact rfl; exact rfl; exact rfl; exact True.intro)
  | ((apply AOps.splitB; exact rfl; exact rfl) <;> intro h)
  | apply AllOf.nil
  | (apply AllOf.cons; exact rfl)
  | (apply AAny.take; exact rfl; exact rfl; kernel_rfl; kernel_rfl)
  | (apply AAny.all; exact rfl)
  | (apply AAny.done; exact rfl)
  | (apply inI_of <;> omega)
  | omega
  | (simp <;> omega))
  refine AWp.loop (ι := Nat × Nat) (fun s => ⟨49, [(0, .intss L), (1, .i m), (2, .val addF), (8, .i L.length), (9, .i s.1), (10, .i s.2)]⟩) (fun s => []) (fun s => s.1 ≤ k ∧ k ≤ s.2 ∧ s.2 ≤ L.length) (fun s => s.2 - s.1) (0, L.length) ⟨by simp, k1, Nat.le_refl _⟩ ⟨lee rfl (by (repeat (first | exact le_nil | refine le_eq rfl rfl ?_ | refine le_eq rfl (congrArg AV.i (by omega)) ?_))), by (repeat (first | exact lo_nil | refine lo_dead ?_ | refine lo_eq rfl ?_)), rfl, rfl⟩ ?_
  rintro ⟨i, j⟩ ⟨h1, h2, h3⟩
  simp only at h1 h2 h3
  by_cases hij : i < j
  · have hh : ∃ md : Nat, md = (i + j) / 2 := ⟨_, rfl⟩
    obtain ⟨md, hh⟩ := hh
    have ehz : ((i : Int) + (j : Int)) / 2 = (md : Int) := by omega
    have hl := hrow md (by omega)
    have hc := addCmp_c (gets L (md : Nat)) (by omega) m
    by_cases hlt : geti (gets L (md : Nat)) 0 < m
    · have hlt' := cmp3_lt.2 hlt
      have hhk : md < k := by
        apply Classical.byContradiction
        intro hn
        have := k3 md (by omega) (by omega)
        omega
      repeat' (first
  | (apply AOps.nil; try simp only [List.nil_append, List.cons_append, List.set_cons_zero, List.set_cons_succ, List.length_cons, List.length_nil, Nat.reduceAdd, AV.sh, AV.sh1, AV.sh0, AO.sh, List.map_cons, List.map_nil, Nat.zero_add, Nat.add_zero, setAll])
  | ((apply AOps.splitP; exact rfl; exact rfl) <;> intro h)
  | ((apply AOps.splitN; exact rfl; exact rfl) <;> intro h)
  | (apply w_move; exact rfl; exact rfl)
  | (apply w_assign; exact rfl; exact rfl)
  | apply AWp.seq
  | apply AWp.region
  | ((apply AWp.condP; exact rfl) <;> intro h)
  | ((apply AWp.condN; exact rfl) <;> intro h)
  | (apply AWp.condT; exact rfl)
  | (apply AWp.condF; exact rfl)
  | ((apply AWp.condB; exact rfl) <;> intro h)
  | apply AWp.block
  | apply AWp.ret
  | apply AWp.exit
  | apply AWp.skip
  | (apply if_pos'; exact rfl)
  | (apply if_neg'; decide)
  | (apply w_skip; exact rfl)
  | (apply w_pickT; exact rfl; exact rfl; exact rfl)
  | (apply w_pickF; exact rfl; exact rfl; exact rfl)
  | (apply w_len; exact rfl; exact rfl; first | exact .ints _ | exact .intss _ | exact .sli rfl | exact .sls rfl | exact .slr rfl | exact .orow rfl | exact .nil)
  | ((first | apply w_nilck | apply w_convu | apply w_convi | apply w_not | apply w_neg | apply w_conv | apply w_build0 | apply w_bs1 | apply w_boxa); iterate 2 exact rfl)
  | ((first | apply w_shr1 | apply w_lss | apply w_leq | apply w_gtr | apply w_geq | apply w_eql | apply w_neq | apply w_add | apply w_sub | apply w_mul | apply w_idx | apply w_ld | apply w_fld | apply w_fa | apply w_extv | apply w_min | apply w_max | apply w_slhi | apply w_sllo | apply w_bs2); iterate 3 exact rfl)
  | (rw [ehz])
  | (apply w_callv (hc); exact rfl; exact rfl; exact rfl; focus ((repeat (first | exact im_nil | refine im_cons rfl (.val _) ?_ | refine im_cons rfl (.ints _) ?_ | refine im_cons rfl (.intss _) ?_ | refine im_cons rfl (.sli rfl) ?_ | refine im_cons rfl (.sls rfl) ?_ | refine im_cons rfl (.orow rfl) ?_ | refine im_cons rfl (.osub rfl (by simp; omega)) ?_ | refine im_cons rfl (.nil) ?_ | refine im_cons rfl (.nils) ?_ | refine im_cons rfl (im_agg2 (.val _) (.ints _)) ?_ | refine im_cons rfl (im_agg2 (.val _) (.sli rfl)) ?_ | refine im_cons rfl (im_agg2 (.val _) (.nil)) ?_ | refine im_cons rfl (im_agg2 (.ints _) (.intss _)) ?_ | refine im_cons rfl (im_agg2 (.ints _) (.sls rfl)) ?_ | refine im_cons rfl (im_agg2 (.sli rfl) (.intss _)) ?_ | refine im_cons rfl (im_agg2 (.sli rfl) (.sls rfl)) ?_ | refine im_cons rfl (im_agg1 (.ints _)) ?_ | refine im_cons rfl (im_agg1 (.sli rfl)) ?_ | refine im_cons rfl (im_agg1 (.intss _)) ?_ | refine im_cons rfl (im_agg1 (.sls rfl)) ?_ | refine im_cons rfl (im_agg1 (.nil)) ?_ | refine im_cons rfl (im_agg1 (.nils)) ?_)); done))
  | omega
  | ((first | apply w_eqlb | apply w_neqb | apply w_idxs | apply w_lds | apply w_ext); iterate 3 exact rfl)
  | (apply w_rem; exact rfl; exact rfl; exact rfl; (focus (omega; done)); (focus (omega; done)))
  | (apply w_quo; exact rfl; exact rfl; exact rfl; (focus (omega; done)); (focus (omega; done)))
  | (apply w_remT; exact rfl; exact rfl; exact rfl)
  | (apply w_quoT; exact rfl; exact rfl; exact rfl)
  | (apply w_idxo; exact rfl; exact rfl; (first | exact .sli rfl | exact .sls rfl | exact .slr rfl); exact rfl)
  | ((first | apply w_idxr | apply w_ldr); iterate 4 exact rfl)
  | (apply w_ldo; iterate 4 exact rfl)
  | (apply w_ldls; iterate 4 exact rfl)
  | (apply w_ldrp; iterate 4 exact rfl)
  | (apply w_ldb; iterate 5 exact rfl)
  | (apply w_ldst; iterate 5 exact rfl)
  | ((first | apply w_sllh | apply w_stbi); iterate 4 exact rfl)
  | ((first | apply w_oslo | apply w_oshi | apply w_stbii); iterate 4 exact rfl)
  | (apply w_build1; exact rfl; exact rfl; (first | exact one_val rfl rfl | exact one_ints | exact one_intss | exact one_own rfl True.intro))
  | (apply w_build2; exact rfl; exact rfl; exact rfl; (first | exact one_val rfl rfl | exact one_ints | exact one_intss | exact one_own rfl True.intro); (first | exact one_val rfl rfl | exact one_ints | exact one_intss | exact one_own rfl True.intro))
  | (apply w_bs0; iterate 1 exact rfl)
  | (apply w_appn; exact rfl; exact rfl; (first | exact .ints _ | exact .sli rfl | exact .orow rfl | exact .nil | exact .osub rfl (by simp; omega)); exact rfl)
  | (apply w_app; exact rfl; exact rfl; exact rfl; exact rfl; (first | exact .ints _ | exact .sli rfl | exact .orow rfl | exact .nil | exact .osub rfl (by simp; omega)); rotate_left 1; simp only [Env.mp, List.map_cons, List.map_nil, List.set_cons_zero, List.set_cons_succ, AV.kill, AV.kill1, AO.kill, AV.noRow, AV.noRow1, AO.via, reduceIte, Nat.reduceEqDiff, Nat.reduceLT, Env.up, Nat.zero_ne_one, Nat.one_ne_zero, Nat.reduceAdd, List.cons_append, List.nil_append]; rotate_left 1)
  | (apply w_alst; iterate 2 exact rfl)
  | (apply w_alone; iterate 3 exact rfl)
  | (apply w_sti; exact rfl; exact rfl; rotate_left 1; exact rfl; rotate_left 2)
  | (apply w_stst; iterate 5 exact rfl)
  | (apply w_stbv; iterate 6 exact rfl)
  | (apply w_stbo; exact rfl; exact rfl; exact rfl; exact rfl; exact rfl; exact True.intro)
  | ((apply AOps.splitB; exact rfl; exact rfl) <;> intro h)
  | apply AllOf.nil
  | (apply AllOf.cons; exact rfl)
  | (apply AAny.take; exact rfl; exact rfl; kernel_rfl; kernel_rfl)
  | (apply AAny.all; exact rfl)
  | (apply AAny.done; exact rfl)
  | (apply inI_of <;> omega)
  | omega
  | (simp <;> omega))
      exact ⟨(md + 1, j), ⟨hhk, h2, h3⟩, by simp only; omega, ⟨lee rfl (by (repeat (first | exact le_nil | refine le_eq rfl rfl ?_ | refine le_eq rfl (congrArg AV.i (by omega)) ?_))), by (repeat (first | exact lo_nil | refine lo_dead ?_ | refine lo_eq rfl ?_)), rfl, rfl⟩⟩
    · have hlt' : ¬ cmp3 (geti (gets L (md : Nat)) 0) m < 0 := fun e => hlt (cmp3_lt.1 e)
      have hhk : k ≤ md := by
        apply Classical.byContradiction
        intro hn
        exact hlt (k2 md (by omega))
      repeat' (first
  | (apply AOps.nil; try simp only [List.nil_append, List.cons_append, List.set_cons_zero, List.set_cons_succ, List.length_cons, List.length_nil, Nat.reduceAdd, AV.sh, AV.sh1, AV.sh0, AO.sh, List.map_cons, List.map_nil, Nat.zero_add, Nat.add_zero, setAll])
  | ((apply AOps.splitP; exact rfl; exact rfl) <;> intro h)
  | ((apply AOps.splitN; exact rfl; exact rfl) <;> intro h)
  | (apply w_move; exact rfl; exact rfl)
  | (apply w_assign; exact rfl; exact rfl)
  | apply AWp.seq
  | apply AWp.region
  | ((apply AWp.condP; exact rfl) <;> intro h)
  | ((apply AWp.condN; exact rfl) <;> intro h)
  | (apply AWp.condT; exact rfl)
  | (apply AWp.condF; exact rfl)
  | ((apply AWp.condB; exact rfl) <;> intro h)
  | apply AWp.block
  | apply AWp.ret
  | apply AWp.exit
  | apply AWp.skip
  | (apply if_pos'; exact rfl)
  | (apply if_neg'; decide)
  | (apply w_skip; exact rfl)
  | (apply w_pickT; exact rfl; exact rfl; exact rfl)
  | (apply w_pickF; exact rfl; exact rfl; exact rfl)
  | (apply w_len; exact rfl; exact rfl; first | exact .ints _ | exact .intss _ | exact .sli rfl | exact .sls rfl | exact .slr rfl | exact .orow rfl | exact .nil)
  | ((first | apply w_nilck | apply w_convu | apply w_convi | apply w_not | apply w_neg | apply w_conv | apply w_build0 | apply w_bs1 | apply w_boxa); iterate 2 exact rfl)
  | ((first | apply w_shr1 | apply w_lss | apply w_leq | apply w_gtr | apply w_geq | apply w_eql | apply w_neq | apply w_add | apply w_sub | apply w_mul | apply w_idx | apply w_ld | apply w_fld | apply w_fa | apply w_extv | apply w_min | apply w_max | apply w_slhi | apply w_sllo | apply w_bs2); iterate 3 exact rfl)
  | (rw [ehz])
  | (apply w_callv (hc); exact rfl; exact rfl; exact rfl; focus ((repeat (first | exact im_nil | refine im_cons rfl (.val _) ?_ | refine im_cons rfl (.ints _) ?_ | refine im_cons rfl (.intss _) ?_ | refine im_cons rfl (.sli rfl) ?_ | refine im_cons rfl (.sls rfl) ?_ | refine im_cons rfl (.orow rfl) ?_ | refine im_cons rfl (.osub rfl (by simp; omega)) ?_ | refine im_cons rfl (.nil) ?_ | refine im_cons rfl (.nils) ?_ | refine im_cons rfl (im_agg2 (.val _) (.ints _)) ?_ | refine im_cons rfl (im_agg2 (.val _) (.sli rfl)) ?_ | refine im_cons rfl (im_agg2 (.val _) (.nil)) ?_ | refine im_cons rfl (im_agg2 (.ints _) (.intss _)) ?_ | refine im_cons rfl (im_agg2 (.ints _) (.sls rfl)) ?_ | refine im_cons rfl (im_agg2 (.sli rfl) (.intss _)) ?_ | refine im_cons rfl (im_agg2 (.sli rfl) (.sls rfl)) ?_ | refine im_cons rfl (im_agg1 (.ints _)) ?_ | refine im_cons rfl (im_agg1 (.sli rfl)) ?_ | refine im_cons rfl (im_agg1 (.intss _)) ?_ | refine im_cons rfl (im_agg1 (.sls rfl)) ?_ | refine im_cons rfl (im_agg1 (.nil)) ?_ | refine im_cons rfl (im_agg1 (.nils)) ?_)); done))
  | omega
  | ((first | apply w_eqlb | apply w_neqb | apply w_idxs | apply w_lds | apply w_ext); iterate 3 exact rfl)
  | (apply w_rem; exact rfl; exact rfl; exact rfl; (focus (omega; done)); (focus (omega; done)))
  | (apply w_quo; exact rfl; exact rfl; exact rfl; (focus (omega; done)); (focus (omega; done)))
  | (apply w_remT; exact rfl; exact rfl; exact rfl)
  | (apply w_quoT; exact rfl; exact rfl; exact rfl)
  | (apply w_idxo; exact rfl; exact rfl; (first | exact .sli rfl | exact .sls rfl | exact .slr rfl); exact rfl)
  | ((first | apply w_idxr | apply w_ldr); iterate 4 exact rfl)
  | (apply w_ldo; iterate 4 exact rfl)
  | (apply w_ldls; iterate 4 exact rfl)
  | (apply w_ldrp; iterate 4 exact rfl)
  | (apply w_ldb; iterate 5 exact rfl)
  | (apply w_ldst; iterate 5 exact rfl)
  | ((first | apply w_sllh | apply w_stbi); iterate 4 exact rfl)
  | ((first | apply w_oslo | apply w_oshi | apply w_stbii); iterate 4 exact rfl)
  | (apply w_build1; exact rfl; exact rfl; (first | exact one_val rfl rfl | exact one_ints | exact one_intss | exact one_own rfl True.intro))
  | (apply w_build2; exact rfl; exact rfl; exact rfl; (first | exact one_val rfl rfl | exact one_ints | exact one_intss | exact one_own rfl True.intro); (first | exact one_val rfl rfl | exact one_ints | exact one_intss | exact one_own rfl True.intro))
  | (apply w_bs0; iterate 1 exact rfl)
  | (apply w_appn; exact rfl; exact rfl; (first | exact .ints _ | exact .sli rfl | exact .orow rfl | exact .nil | exact .osub rfl (by simp; omega)); exact rfl)
  | (apply w_app; exact rfl; exact rfl; exact rfl; exact rfl; (first | exact .ints _ | exact .sli rfl | exact .orow rfl | exact .nil | exact .osub rfl (by simp; omega)); rotate_left 1; simp only [Env.mp, List.map_cons, List.map_nil, List.set_cons_zero, List.set_cons_succ, AV.kill, AV.kill1, AO.kill, AV.noRow, AV.noRow1, AO.via, reduceIte, Nat.reduceEqDiff, Nat.reduceLT, Env.up, Nat.zero_ne_one, Nat.one_ne_zero, Nat.reduceAdd, List.cons_append, List.nil_append]; rotate_left 1)
  | (apply w_alst; iterate 2 exact rfl)
  | (apply w_alone; iterate 3 exact rfl)
  | (apply w_sti; exact rfl; exact rfl; rotate_left 1; exact rfl; rotate_left 2)
  | (apply w_stst; iterate 5 exact rfl)
  | (apply w_stbv; iterate 6 exact rfl)
  | (apply w_stbo; exact rfl; exact rfl; exact rfl; exact rfl; exact rfl; exact True.intro)
  | ((apply AOps.splitB; exact rfl; exact rfl) <;> intro h)
  | apply AllOf.nil
  | (apply AllOf.cons; exact rfl)
  | (apply AAny.take; exact rfl; exact rfl; kernel_rfl; kernel_rfl)
  | (apply AAny.all; exact rfl)
  | (apply AAny.done; exact rfl)
  | (apply inI_of <;> omega)
  | omega
  | (simp <;> omega))
      exact ⟨(i, md), ⟨h1, hhk, by simp only; omega⟩, by simp only; omega, ⟨lee rfl (by (repeat (first | exact le_nil | refine le_eq rfl rfl ?_ | refine le_eq rfl (congrArg AV.i (by omega)) ?_))), by (repeat (first | exact lo_nil | refine lo_dead ?_ | refine lo_eq rfl ?_)), rfl, rfl⟩⟩
  · have ei : i = k := by omega
    subst ei
    by_cases hlen : i < L.length
    · have hl := hrow i hlen
      have hc := addCmp_c (gets L (i : Nat)) (by omega) m
      have he : decide (cmp3 (geti (gets L (i : Nat)) 0) m = 0) = zFd L m i := by
        unfold zFd
        apply decide_eq_decide.2
        rw [cmp3_eq]
        exact ⟨fun e => ⟨hlen, e⟩, fun e => e.2⟩
      repeat' (first
  | (apply AOps.nil; try simp only [List.nil_append, List.cons_append, List.set_cons_zero, List.set_cons_succ, List.length_cons, List.length_nil, Nat.reduceAdd, AV.sh, AV.sh1, AV.sh0, AO.sh, List.map_cons, List.map_nil, Nat.zero_add, Nat.add_zero, setAll])
  | ((apply AOps.splitP; exact rfl; exact rfl) <;> intro h)
  | ((apply AOps.splitN; exact rfl; exact rfl) <;> intro h)
  | (apply w_move; exact rfl; exact rfl)
  | (apply w_assign; exact rfl; exact rfl)
  | apply AWp.seq
  | apply AWp.region
  | ((apply AWp.condP; exact rfl) <;> intro h)
  | ((apply AWp.condN; exact rfl) <;> intro h)
  | (apply AWp.condT; exact rfl)
  | (apply AWp.condF; exact rfl)
  | ((apply AWp.condB; exact rfl) <;> intro h)
  | apply AWp.block
  | apply AWp.ret
  | apply AWp.exit
  | apply AWp.skip
  | (apply if_pos'; exact rfl)
  | (apply if_neg'; decide)
  | (apply w_skip; exact rfl)
  | (apply w_pickT; exact rfl; exact rfl; exact rfl)
  | (apply w_pickF; exact rfl; exact rfl; exact rfl)
  | (apply w_len; exact rfl; exact rfl; first | exact .ints _ | exact .intss _ | exact .sli rfl | exact .sls rfl | exact .slr rfl | exact .orow rfl | exact .nil)
  | ((first | apply w_nilck | apply w_convu | apply w_convi | apply w_not | apply w_neg | apply w_conv | apply w_build0 | apply w_bs1 | apply w_boxa); iterate 2 exact rfl)
  | ((first | apply w_shr1 | apply w_lss | apply w_leq | apply w_gtr | apply w_geq | apply w_eql | apply w_neq | apply w_add | apply w_sub | apply w_mul | apply w_idx | apply w_ld | apply w_fld | apply w_fa | apply w_extv | apply w_min | apply w_max | apply w_slhi | apply w_sllo | apply w_bs2); iterate 3 exact rfl)
  | (apply w_callv (hc); exact rfl; exact rfl; exact rfl; focus ((repeat (first | exact im_nil | refine im_cons rfl (.val _) ?_ | refine im_cons rfl (.ints _) ?_ | refine im_cons rfl (.intss _) ?_ | refine im_cons rfl (.sli rfl) ?_ | refine im_cons rfl (.sls rfl) ?_ | refine im_cons rfl (.orow rfl) ?_ | refine im_cons rfl (.osub rfl (by simp; omega)) ?_ | refine im_cons rfl (.nil) ?_ | refine im_cons rfl (.nils) ?_ | refine im_cons rfl (im_agg2 (.val _) (.ints _)) ?_ | refine im_cons rfl (im_agg2 (.val _) (.sli rfl)) ?_ | refine im_cons rfl (im_agg2 (.val _) (.nil)) ?_ | refine im_cons rfl (im_agg2 (.ints _) (.intss _)) ?_ | refine im_cons rfl (im_agg2 (.ints _) (.sls rfl)) ?_ | refine im_cons rfl (im_agg2 (.sli rfl) (.intss _)) ?_ | refine im_cons rfl (im_agg2 (.sli rfl) (.sls rfl)) ?_ | refine im_cons rfl (im_agg1 (.ints _)) ?_ | refine im_cons rfl (im_agg1 (.sli rfl)) ?_ | refine im_cons rfl (im_agg1 (.intss _)) ?_ | refine im_cons rfl (im_agg1 (.sls rfl)) ?_ | refine im_cons rfl (im_agg1 (.nil)) ?_ | refine im_cons rfl (im_agg1 (.nils)) ?_)); done))
  | omega
  | ((first | apply w_eqlb | apply w_neqb | apply w_idxs | apply w_lds | apply w_ext); iterate 3 exact rfl)
  | (apply w_rem; exact rfl; exact rfl; exact rfl; (focus (omega; done)); (focus (omega; done)))
  | (apply w_quo; exact rfl; exact rfl; exact rfl; (focus (omega; done)); (focus (omega; done)))
  | (apply w_remT; exact rfl; exact rfl; exact rfl)
  | (apply w_quoT; exact rfl; exact rfl; exact rfl)
  | (apply w_idxo; exact rfl; exact rfl; (first | exact .sli rfl | exact .sls rfl | exact .slr rfl); exact rfl)
  | ((first | apply w_idxr | apply w_ldr); iterate 4 exact rfl)
  | (apply w_ldo; iterate 4 exact rfl)
  | (apply w_ldls; iterate 4 exact rfl)
  | (apply w_ldrp; iterate 4 exact rfl)
  | (apply w_ldb; iterate 5 exact rfl)
  | (apply w_ldst; iterate 5 exact rfl)
  | ((first | apply w_sllh | apply w_stbi); iterate 4 exact rfl)
  | ((first | apply w_oslo | apply w_oshi | apply w_stbii); iterate 4 exact rfl)
  | (apply w_build1; exact rfl; exact rfl; (first | exact one_val rfl rfl | exact one_ints | exact one_intss | exact one_own rfl True.intro))
  | (apply w_build2; exact rfl; exact rfl; exact rfl; (first | exact one_val rfl rfl | exact one_ints | exact one_intss | exact one_own rfl True.intro); (first | exact one_val rfl rfl | exact one_ints | exact one_intss | exact one_own rfl True.intro))
  | (apply w_bs0; iterate 1 exact rfl)
  | (apply w_appn; exact rfl; exact rfl; (first | exact .ints _ | exact .sli rfl | exact .orow rfl | exact .nil | exact .osub rfl (by simp; omega)); exact rfl)
  | (apply w_app; exact rfl; exact rfl; exact rfl; exact rfl; (first | exact .ints _ | exact .sli rfl | exact .orow rfl | exact .nil | exact .osub rfl (by simp; omega)); rotate_left 1; simp only [Env.mp, List.map_cons, List.map_nil, List.set_cons_zero, List.set_cons_succ, AV.kill, AV.kill1, AO.kill, AV.noRow, AV.noRow1, AO.via, reduceIte, Nat.reduceEqDiff, Nat.reduceLT, Env.up, Nat.zero_ne_one, Nat.one_ne_zero, Nat.reduceAdd, List.cons_append, List.nil_append]; rotate_left 1)
  | (apply w_alst; iterate 2 exact rfl)
  | (apply w_alone; iterate 3 exact rfl)
  | (apply w_sti; exact rfl; exact rfl; rotate_left 1; exact rfl; rotate_left 2)
  | (apply w_stst; iterate 5 exact rfl)
  | (apply w_stbv; iterate 6 exact rfl)
  | (apply w_stbo; exact rfl; exact rfl; exact rfl; exact rfl; exact rfl; exact True.intro)
  | ((apply AOps.splitB; exact rfl; exact rfl) <;> intro h)
  | apply AllOf.nil
  | (apply AllOf.cons; exact rfl)
  | (apply AAny.take; exact rfl; exact rfl; kernel_rfl; kernel_rfl)
  | (apply AAny.all; exact rfl)
  | (apply AAny.done; exact rfl)
  | (apply inI_of <;> omega)
  | omega
  | (simp <;> omega))
      all_goals exact .intbool Try.results56 rfl rfl rfl he
    · have he : false = zFd L m i := by
        unfold zFd
        exact (decide_eq_false fun e => hlen e.1).symm
      repeat' (first
  | (apply AOps.nil; try simp only [List.nil_append, List.cons_append, List.set_cons_zero, List.set_cons_succ, List.length_cons, List.length_nil, Nat.reduceAdd, AV.sh, AV.sh1, AV.sh0, AO.sh, List.map_cons, List.map_nil, Nat.zero_add, Nat.add_zero, setAll])
  | ((apply AOps.splitP; exact rfl; exact rfl) <;> intro h)
  | ((apply AOps.splitN; exact rfl; exact rfl) <;> intro h)
  | (apply w_move; exact rfl; exact rfl)
  | (apply w_assign; exact rfl; exact rfl)
  | apply AWp.seq
  | apply AWp.region
  | ((apply AWp.condP; exact rfl) <;> intro h)
  | ((apply AWp.condN; exact rfl) <;> intro h)
  | (apply AWp.condT; exact rfl)
  | (apply AWp.condF; exact rfl)
  | ((apply AWp.condB; exact rfl) <;> intro h)
  | apply AWp.block
  | apply AWp.ret
  | apply AWp.exit
  | apply AWp.skip
  | (apply if_pos'; exact rfl)
  | (apply if_neg'; decide)
  | (apply w_skip; exact rfl)
  | (apply w_pickT; exact rfl; exact rfl; exact rfl)
  | (apply w_pickF; exact rfl; exact rfl; exact rfl)
  | (apply w_len; exact rfl; exact rfl; first | exact .ints _ | exact .intss _ | exact .sli rfl | exact .sls rfl | exact .slr rfl | exact .orow rfl | exact .nil)
  | ((first | apply w_nilck | apply w_convu | apply w_convi | apply w_not | apply w_neg | apply w_conv | apply w_build0 | apply w_bs1 | apply w_boxa); iterate 2 exact rfl)
  | ((first | apply w_shr1 | apply w_lss | apply w_leq | apply w_gtr | apply w_geq | apply w_eql | apply w_neq | apply w_add | apply w_sub | apply w_mul | apply w_idx | apply w_ld | apply w_fld | apply w_fa | apply w_extv | apply w_min | apply w_max | apply w_slhi | apply w_sllo | apply w_bs2); iterate 3 exact rfl)
  | omega
  | ((first | apply w_eqlb | apply w_neqb | apply w_idxs | apply w_lds | apply w_ext); iterate 3 exact rfl)
  | (apply w_rem; exact rfl; exact rfl; exact rfl; (focus (omega; done)); (focus (omega; done)))
  | (apply w_quo; exact rfl; exact rfl; exact rfl; (focus (omega; done)); (focus (omega; done)))
  | (apply w_remT; exact rfl; exact rfl; exact rfl)
  | (apply w_quoT; exact rfl; exact rfl; exact rfl)
  | (apply w_idxo; exact rfl; exact rfl; (first | exact .sli rfl | exact .sls rfl | exact .slr rfl); exact rfl)
  | ((first | apply w_idxr | apply w_ldr); iterate 4 exact rfl)
  | (apply w_ldo; iterate 4 exact rfl)
  | (apply w_ldls; iterate 4 exact rfl)
  | (apply w_ldrp; iterate 4 exact rfl)
  | (apply w_ldb; iterate 5 exact rfl)
  | (apply w_ldst; iterate 5 exact rfl)
  | ((first | apply w_sllh | apply w_stbi); iterate 4 exact rfl)
  | ((first | apply w_oslo | apply w_oshi | apply w_stbii); iterate 4 exact rfl)
  | (apply w_build1; exact rfl; exact rfl; (first | exact one_val rfl rfl | exact one_ints | exact one_intss | exact one_own rfl True.intro))
  | (apply w_build2; exact rfl; exact rfl; exact rfl; (first | exact one_val rfl rfl | exact one_ints | exact one_intss | exact one_own rfl True.intro); (first | exact one_val rfl rfl | exact one_ints | exact one_intss | exact one_own rfl True.intro))
  | (apply w_bs0; iterate 1 exact rfl)
  | (apply w_appn; exact rfl; exact rfl; (first | exact .ints _ | exact .sli rfl | exact .orow rfl | exact .nil | exact .osub rfl (by simp; omega)); exact rfl)
  | (apply w_app; exact rfl; exact rfl; exact rfl; exact rfl; (first | exact .ints _ | exact .sli rfl | exact .orow rfl | exact .nil | exact .osub rfl (by simp; omega)); rotate_left 1; simp only [Env.mp, List.map_cons, List.map_nil, List.set_cons_zero, List.set_cons_succ, AV.kill, AV.kill1, AO.kill, AV.noRow, AV.noRow1, AO.via, reduceIte, Nat.reduceEqDiff, Nat.reduceLT, Env.up, Nat.zero_ne_one, Nat.one_ne_zero, Nat.reduceAdd, List.cons_append, List.nil_append]; rotate_left 1)
  | (apply w_alst; iterate 2 exact rfl)
  | (apply w_alone; iterate 3 exact rfl)
  | (apply w_sti; exact rfl; exact rfl; rotate_left 1; exact rfl; rotate_left 2)
  | (apply w_stst; iterate 5 exact rfl)
  | (apply w_stbv; iterate 6 exact rfl)
  | (apply w_stbo; exact rfl; exact rfl; exact rfl; exact rfl; exact rfl; exact True.intro)
  | ((apply AOps.splitB; exact rfl; exact rfl) <;> intro h)
  | apply AllOf.nil
  | (apply AllOf.cons; exact rfl)
  | (apply AAny.take; exact rfl; exact rfl; kernel_rfl; kernel_rfl)
  | (apply AAny.all; exact rfl)
  | (apply AAny.done; exact rfl)
  | (apply inI_of <;> omega)
  | omega
  | (simp <;> omega))
      all_goals exact .intbool Try.results56 rfl rfl rfl he
end Go.Proofs.Ytpllbdjobmgikaa
/-
  A copy of a list. No condition but a bound on the size.
-/
namespace Go.Proofs.Ytpllbdjobmgikaa
open Go Go.RowKit
attribute [local irreducible] AWp AOps ResIs Ret1 QOp LOp COp AFnV AFn Imms LeE LeO
set_option maxHeartbeats 1000000
set_option linter.unusedSimpArgs false
set_option linter.unusedVariables false

theorem l01Own_c (xs : List Int) (h2 : xs.length ≤ 1048576) : AFn Try.prog 51 [.ints xs] (IsInts 2 xs) := by
  (refine AFn.start Try.func51 Try.ntmps51 rfl (by kernel_rfl) fun hk => ?_; simp only [Env.start, enumF, List.length_cons, List.length_nil, Nat.reduceAdd, Nat.reduceSub, List.cons_append, List.nil_append])
  repeat' (first
  | (apply AOps.nil; try simp only [List.nil_append, List.cons_append, List.set_cons_zero, List.set_cons_succ, List.length_cons, List.length_nil, Nat.reduceAdd, AV.sh, AV.sh1, AV.sh0, AO.sh, List.map_cons, List.map_nil, Nat.zero_add, Nat.add_zero, setAll])
  | ((apply AOps.splitP; exact rfl; exact rfl) <;> intro h)
  | ((apply AOps.splitN; exact rfl; exact rfl) <;> intro h)
  | (apply w_move; exact rfl; exact rfl)
  | (apply w_assign; exact rfl; exact rfl)
  | apply AWp.seq
  | apply AWp.region
  | ((apply AWp.condP; exact rfl) <;> intro h)
  | ((apply AWp.condN; exact rfl) <;> intro h)
  | (apply AWp.condT; exact rfl)
  | (apply AWp.condF; exact rfl)
  | ((apply AWp.condB; exact rfl) <;> intro h)
  | apply AWp.block
  | apply AWp.ret
  | apply AWp.exit
  | apply AWp.skip
  | (apply AWp.regionQ; kernel_rfl; kernel_rfl)
  | (apply if_pos'; exact rfl)
  | (apply if_neg'; decide)
  | (apply w_skip; exact rfl)
  | (apply w_pickT; exact rfl; exact rfl; exact rfl)
  | (apply w_pickF; exact rfl; exact rfl; exact rfl)
  | (apply w_len; exact rfl; exact rfl; first | exact .ints _ | exact .intss _ | exact .sli rfl | exact .sls rfl | exact .slr rfl | exact .orow rfl | exact .nil)
  | ((first | apply w_lss | apply w_leq | apply w_gtr | apply w_geq | apply w_eql | apply w_neq | apply w_add | apply w_sub | apply w_mul | apply w_idx | apply w_ld | apply w_fld | apply w_fa | apply w_extv | apply w_min | apply w_max | apply w_slhi | apply w_sllo | apply w_bs2); iterate 3 exact rfl)
  | ((first | apply w_eqlb | apply w_neqb | apply w_idxs | apply w_lds | apply w_ext); iterate 3 exact rfl)
  | (apply w_rem; exact rfl; exact rfl; exact rfl; (focus (omega; done)); (focus (omega; done)))
  | (apply w_quo; exact rfl; exact rfl; exact rfl; (focus (omega; done)); (focus (omega; done)))
  | (apply w_remT; exact rfl; exact rfl; exact rfl)
  | (apply w_quoT; exact rfl; exact rfl; exact rfl)
  | ((first | apply w_not | apply w_neg | apply w_conv | apply w_build0 | apply w_bs1 | apply w_boxa); iterate 2 exact rfl)
  | (apply w_idxo; exact rfl; exact rfl; (first | exact .sli rfl | exact .sls rfl | exact .slr rfl); exact rfl)
  | ((first | apply w_idxr | apply w_ldr); iterate 4 exact rfl)
  | (apply w_ldo; iterate 4 exact rfl)
  | (apply w_ldls; iterate 4 exact rfl)
  | (apply w_ldrp; iterate 4 exact rfl)
  | (apply w_ldb; iterate 5 exact rfl)
  | (apply w_ldst; iterate 5 exact rfl)
  | ((first | apply w_sllh | apply w_stbi); iterate 4 exact rfl)
  | ((first | apply w_oslo | apply w_oshi | apply w_stbii); iterate 4 exact rfl)
  | (apply w_copy; exact rfl; (first | exact .own rfl rfl rfl | exact .osub); exact rfl; rotate_left 1; exact rfl; (first | exact .ints _ | exact .sli rfl | exact .orow rfl | exact .nil | exact .osub rfl (by simp; omega)))
  | (apply w_build1; exact rfl; exact rfl; (first | exact one_val rfl rfl | exact one_ints | exact one_intss | exact one_own rfl True.intro))
  | (apply w_build2; exact rfl; exact rfl; exact rfl; (first | exact one_val rfl rfl | exact one_ints | exact one_intss | exact one_own rfl True.intro); (first | exact one_val rfl rfl | exact one_ints | exact one_intss | exact one_own rfl True.intro))
  | (apply w_bs0; iterate 1 exact rfl)
  | (apply w_appn; exact rfl; exact rfl; (first | exact .ints _ | exact .sli rfl | exact .orow rfl | exact .nil | exact .osub rfl (by simp; omega)); exact rfl)
  | (apply w_app; exact rfl; exact rfl; exact rfl; exact rfl; (first | exact .ints _ | exact .sli rfl | exact .orow rfl | exact .nil | exact .osub rfl (by simp; omega)); rotate_left 1; simp only [Env.mp, List.map_cons, List.map_nil, List.set_cons_zero, List.set_cons_succ, AV.kill, AV.kill1, AO.kill, AV.noRow, AV.noRow1, AO.via, reduceIte, Nat.reduceEqDiff, Nat.reduceLT, Env.up, Nat.zero_ne_one, Nat.one_ne_zero, Nat.reduceAdd, List.cons_append, List.nil_append]; rotate_left 1)
  | (apply w_alst; iterate 2 exact rfl)
  | (apply w_alone; iterate 3 exact rfl)
  | (apply w_mki; exact rfl; exact rfl; rotate_left 3; exact rfl; rotate_left 1)
  | (apply w_mkr; exact rfl; exact rfl; rotate_left 3; exact rfl; rotate_left 1)
  | (apply w_strow; exact rfl; exact rfl; rotate_left 1; exact rfl; exact rfl; exact rfl; exact rfl; simp only [Env.mp, List.map_cons, List.map_nil, List.set_cons_zero, List.set_cons_succ, AV.kill, AV.kill1, AO.kill, AV.noRow, AV.noRow1, AO.via, reduceIte, Nat.reduceEqDiff, Nat.reduceLT, Env.up, Nat.zero_ne_one, Nat.one_ne_zero, Nat.reduceAdd, List.cons_append, List.nil_append]; rotate_left 1)
  | (apply w_sti; exact rfl; exact rfl; rotate_left 1; exact rfl; rotate_left 2)
  | (apply w_stst; iterate 5 exact rfl)
  | (apply w_stbv; iterate 6 exact rfl)
  | (apply w_stbo; exact rfl; exact rfl; exact rfl; exact rfl; exact rfl; exact True.intro)
  | ((apply AOps.splitB; exact rfl; exact rfl) <;> intro h)
  | apply AllOf.nil
  | (apply AllOf.cons; exact rfl)
  | (apply AAny.take; exact rfl; exact rfl; kernel_rfl; kernel_rfl)
  | (apply AAny.all; exact rfl)
  | (apply AAny.done; exact rfl)
  | (apply inI_of <;> omega)
  | omega
  | (simp <;> omega))
  all_goals exact ⟨_, _, _, .v1 Try.results51 rfl, .sli rfl, rfl, rfl⟩
end Go.Proofs.Ytpllbdjobmgikaa
/-
  Regions that draw their order: a load is taken first where nothing that may come ahead of it writes. No condition.
-/
namespace Go.Proofs.Ytpllbdjobmgikaa
open Go Go.RowKit

/-- Whatever order is picked; behind an operation of G what was there is there still. -/
def wpAnyG (P : Program) (ops : Array Oper) (Q : Exit → Act → World → Prop) (G : Nat → Bool) : Nat → Array Bool → Act → World → Prop
  | 0, listed, a, w => Region.ready .any ops listed = [] ∧ Q .normal a w
  | fuel + 1, listed, a, w =>
    (Region.ready .any ops listed = [] → Q .normal a w) ∧
    ∀ i ∈ Region.ready .any ops listed, wpOp P ops Q i (fun a' w' => (G i = true → Below w.heap.size w w') ∧ wpAnyG P ops Q G fuel (listed.setIfInBounds i true) a' w') a w

/-- What writes nothing: no world asked, a load, a call of one of these functions. -/
def gentB (qs : List Nat) (o : Oper) : Bool :=
  wlessB o || match o.op with
    | .load _ _ => true
    | .call c => match c.callee with
      | .value (.func f) => qs.contains f
      | _ => false
    | _ => false
def gentle (qs : List Nat) (l : List Oper) (j : Nat) : Bool := match l[j]? with | some o => gentB qs o | none => false

def AAnyG (P : Program) (qs : List Nat) (l : List Oper) (fuel : Nat) (listed : List Bool) (K : APost) (env : Env) (os : List AO) : Prop :=
  ∀ base w0 w gs tm, Rel base w gs env os tm → Below base w0 w → ∀ X Rt, wpAnyG P l.toArray (Post base w0 K X Rt) (gentle qs l) fuel listed.toArray ⟨tm, []⟩ w

/-- Each of these comes up next. -/
def AllOfG (P : Program) (qs : List Nat) (l : List Oper) (fuel : Nat) (listed : List Bool) (K : APost) (env : Env) (os : List AO) : List Nat → Prop
  | [] => True
  | i :: is => (∃ o, l[i]? = some o ∧ AOps P (cond (gentB qs o) .quiet .seq) l [o] (fun env os => AAnyG P qs l fuel (listed.set i true) K env os) env os) ∧ AllOfG P qs l fuel listed K env os is

section
variable {P : Program} {N : APost} {X : Nat → APost} {Rt : APost} {env : Env} {os : List AO} {l : List Oper} {K : APost} {fuel : Nat} {listed : List Bool} {qs : List Nat}

theorem AllOfG.get : ∀ {rs : List Nat}, AllOfG P qs l fuel listed K env os rs → ∀ i ∈ rs, ∃ o, l[i]? = some o ∧ AOps P (cond (gentB qs o) .quiet .seq) l [o] (fun env os => AAnyG P qs l fuel (listed.set i true) K env os) env os
  | [], _, i, h => by cases h
  | j :: rs, h, i, hi => by
    rcases List.mem_cons.1 hi with rfl | hi
    · exact h.1
    · exact AllOfG.get h.2 i hi
theorem AllOfG.nil : AllOfG P qs l fuel listed K env os [] := trivial
theorem AAnyG.all {i : Nat} {is : List Nat} (hr : rdyGo listed 0 l = i :: is) (h : AllOfG P qs l fuel listed K env os (i :: is)) : AAnyG P qs l (fuel + 1) listed K env os := by
  intro base w0 w gs tm hrel hb X Rt
  refine ⟨fun h0 => ?_, fun j hj => ?_⟩
  · have : i ∈ Region.ready .any l.toArray listed.toArray := mem_rdy.2 (by rw [hr]; simp)
    rw [h0] at this; cases this
  · have hj' := mem_rdy.1 hj
    rw [hr] at hj'
    obtain ⟨o, ho, hop⟩ := h.get j hj'
    have ho' : l.toArray[j]? = some o := by simpa using ho
    have hgj : gentle qs l j = gentB qs o := by unfold gentle; rw [ho]
    have kk : ∀ a w', Post base w0 (fun env os => AAnyG P qs l fuel (listed.set j true) K env os) X Rt .normal a w' → wpAnyG P l.toArray (Post base w0 K X Rt) (gentle qs l) fuel (listed.toArray.setIfInBounds j true) a w' := by
      rintro a w' ⟨env', os', gs', h1, h2, h3, h4⟩
      have ea : a = ⟨a.tmps, []⟩ := by cases a; simp_all
      rw [ea]
      have := h4 base w0 w' gs' a.tmps h1 h3 X Rt
      rwa [show listed.toArray.setIfInBounds j true = (listed.set j true).toArray from by simp]
    cases hg : gentB qs o with
    | false =>
      rw [hg] at hop
      have := hop base w0 w gs tm hrel hb X Rt
      unfold wpOp
      rw [ho']
      unfold wpList at this
      simp only
      rw [hgj, hg]
      split
      · rename_i hw
        rw [if_pos hw] at this
        rcases this with this | ⟨h1, ⟨a, w', h2⟩⟩
        · exact .inl (Oper.wp_mono2 (fun a w' h => ⟨fun e => (by cases e), kk a w' h⟩) (fun _ _ _ h => (h : False).elim) (fun ⟨_, _, h⟩ => (h : False).elim) this)
        · exact (h2 : False).elim
      · rename_i hw
        rw [if_neg hw] at this
        exact ⟨fun e => (by cases e), kk _ _ this⟩
    | true =>
      rw [hg] at hop
      have := hop base w gs tm hrel
      unfold wpOp
      rw [ho']
      unfold wpQuiet at this
      simp only
      have kq : ∀ (a : Act) w', Below w.heap.size w w' → wpQuiet P l.toArray (fun w' => Below w.heap.size w w') (fun a' => ∃ env' os' gs', AAnyG P qs l fuel (listed.set j true) K env' os' ∧ a'.defers = [] ∧ ∀ w', Below w.heap.size w w' → Rel base w' gs' env' os' a'.tmps) [] a →
          (gentle qs l j = true → Below w.heap.size w w') ∧ wpAnyG P l.toArray (Post base w0 K X Rt) (gentle qs l) fuel (listed.toArray.setIfInBounds j true) a w' := by
        rintro a w' hbw ⟨env', os', gs', h1, h2, h3⟩
        exact ⟨fun _ => hbw, kk a w' ⟨env', os', gs', h3 w' hbw, h2, hb.trans (hbw.mono hrel.hb), h1⟩⟩
      split
      · rename_i hw
        rw [if_pos hw] at this
        obtain ⟨v, hv, hn⟩ := this
        refine .inl (Oper.wp_of_quiet (C := fun w' => Below w.heap.size w w') (K := fun a' => a' = Act.put ⟨tm, []⟩ o.dst v) (Below.refl _ _) ?_ ⟨v, hv, rfl⟩)
        intro a' w' hw' he
        subst he
        exact kq _ w' hw' hn
      · rename_i hw
        rw [if_neg hw] at this
        exact kq _ w (Below.refl _ _) this

theorem AAnyG.done (hr : rdyGo listed 0 l = []) (h : K env os) : AAnyG P qs l fuel listed K env os := by
  intro base w0 w gs tm hrel hb X Rt
  have hr' : Region.ready .any l.toArray listed.toArray = [] := by
    apply List.eq_nil_iff_forall_not_mem.2
    intro j hj
    have := mem_rdy.1 hj
    rw [hr] at this; cases this
  cases fuel with
  | zero => exact ⟨hr', env, os, gs, hrel, rfl, hb, h⟩
  | succ n => exact ⟨fun _ => ⟨env, os, gs, hrel, rfl, hb, h⟩, by rw [hr']; intro j hj; cases hj⟩

end
end Go.Proofs.Ytpllbdjobmgikaa
/-
  A term put into terms in order: the reference's. No condition but a bound on the sizes.
-/
namespace Go.Proofs.Ytpllbdjobmgikaa
open Go Go.RowKit
attribute [local irreducible] AWp AOps ResIs Ret1 QOp LOp COp AFnV AFn Imms LeE LeO
set_option maxHeartbeats 1000000
set_option linter.unusedSimpArgs false
set_option linter.unusedVariables false


theorem l01Own2_c (xss : List (List Int)) (hb : xss.length ≤ 1048576) (hr : ∀ xs ∈ xss, xs.length ≤ 1048576) : AFn Try.prog 50 [.intss xss] (IsIntss 31 2 xss) := by
  (refine AFn.start Try.func50 Try.ntmps50 rfl (by kernel_rfl) fun hk => ?_; simp only [Env.start, enumF, List.length_cons, List.length_nil, Nat.reduceAdd, Nat.reduceSub, List.cons_append, List.nil_append])
  repeat' (first
  | (apply AOps.nil; try simp only [List.nil_append, List.cons_append, List.set_cons_zero, List.set_cons_succ, List.length_cons, List.length_nil, Nat.reduceAdd, AV.sh, AV.sh1, AV.sh0, AO.sh, List.map_cons, List.map_nil, Nat.zero_add, Nat.add_zero, setAll])
  | ((apply AOps.splitP; exact rfl; exact rfl) <;> intro h)
  | ((apply AOps.splitN; exact rfl; exact rfl) <;> intro h)
  | (apply w_move; exact rfl; exact rfl)
  | (apply w_assign; exact rfl; exact rfl)
  | apply AWp.seq
  | apply AWp.region
  | ((apply AWp.condP; exact rfl) <;> intro h)
  | ((apply AWp.condN; exact rfl) <;> intro h)
  | (apply AWp.condT; exact rfl)
  | (apply AWp.condF; exact rfl)
  | ((apply AWp.condB; exact rfl) <;> intro h)
  | apply AWp.block
  | apply AWp.ret
  | apply AWp.exit
  | apply AWp.skip
  | (apply AWp.regionQ; kernel_rfl; kernel_rfl)
  | (apply if_pos'; exact rfl)
  | (apply if_neg'; decide)
  | (apply w_skip; exact rfl)
  | (apply w_pickT; exact rfl; exact rfl; exact rfl)
  | (apply w_pickF; exact rfl; exact rfl; exact rfl)
  | (apply w_len; exact rfl; exact rfl; first | exact .ints _ | exact .intss _ | exact .sli rfl | exact .sls rfl | exact .slr rfl | exact .orow rfl | exact .nil)
  | ((first | apply w_bsr0 | apply w_bs0); iterate 1 exact rfl)
  | ((first | apply w_bsr1 | apply w_lss | apply w_leq | apply w_gtr | apply w_geq | apply w_eql | apply w_neq | apply w_add | apply w_sub | apply w_mul | apply w_idx | apply w_ld | apply w_fld | apply w_fa | apply w_extv | apply w_min | apply w_max | apply w_slhi | apply w_sllo | apply w_bs2); iterate 3 exact rfl)
  | (apply w_appr; exact rfl; exact rfl; exact rfl; exact rfl; exact rfl; exact rfl; exact rfl; rotate_left 1; simp only [Env.mp, List.map_cons, List.map_nil, List.set_cons_zero, List.set_cons_succ, AV.kill, AV.kill1, AO.kill, AV.rin, AV.rin1, AV.noRow, AV.noRow1, AO.via, reduceIte, Nat.reduceEqDiff, Nat.reduceLT, Env.up, Nat.zero_ne_one, Nat.one_ne_zero, Nat.reduceAdd, List.cons_append, List.nil_append]; rotate_left 1)
  | ((first | apply w_eqlb | apply w_neqb | apply w_idxs | apply w_lds | apply w_ext); iterate 3 exact rfl)
  | (apply w_rem; exact rfl; exact rfl; exact rfl; (focus (omega; done)); (focus (omega; done)))
  | (apply w_quo; exact rfl; exact rfl; exact rfl; (focus (omega; done)); (focus (omega; done)))
  | (apply w_remT; exact rfl; exact rfl; exact rfl)
  | (apply w_quoT; exact rfl; exact rfl; exact rfl)
  | ((first | apply w_not | apply w_neg | apply w_conv | apply w_build0 | apply w_bs1 | apply w_boxa); iterate 2 exact rfl)
  | (apply w_idxo; exact rfl; exact rfl; (first | exact .sli rfl | exact .sls rfl | exact .slr rfl); exact rfl)
  | ((first | apply w_idxr | apply w_ldr); iterate 4 exact rfl)
  | (apply w_ldo; iterate 4 exact rfl)
  | (apply w_ldls; iterate 4 exact rfl)
  | (apply w_ldrp; iterate 4 exact rfl)
  | (apply w_ldb; iterate 5 exact rfl)
  | (apply w_ldst; iterate 5 exact rfl)
  | ((first | apply w_sllh | apply w_stbi); iterate 4 exact rfl)
  | ((first | apply w_oslo | apply w_oshi | apply w_stbii); iterate 4 exact rfl)
  | (apply w_build1; exact rfl; exact rfl; (first | exact one_val rfl rfl | exact one_ints | exact one_intss | exact one_own rfl True.intro))
  | (apply w_build2; exact rfl; exact rfl; exact rfl; (first | exact one_val rfl rfl | exact one_ints | exact one_intss | exact one_own rfl True.intro); (first | exact one_val rfl rfl | exact one_ints | exact one_intss | exact one_own rfl True.intro))
  | (apply w_appn; exact rfl; exact rfl; (first | exact .ints _ | exact .sli rfl | exact .orow rfl | exact .nil | exact .osub rfl (by simp; omega)); exact rfl)
  | (apply w_app; exact rfl; exact rfl; exact rfl; exact rfl; (first | exact .ints _ | exact .sli rfl | exact .orow rfl | exact .nil | exact .osub rfl (by simp; omega)); rotate_left 1; simp only [Env.mp, List.map_cons, List.map_nil, List.set_cons_zero, List.set_cons_succ, AV.kill, AV.kill1, AO.kill, AV.noRow, AV.noRow1, AO.via, reduceIte, Nat.reduceEqDiff, Nat.reduceLT, Env.up, Nat.zero_ne_one, Nat.one_ne_zero, Nat.reduceAdd, List.cons_append, List.nil_append]; rotate_left 1)
  | (apply w_alst; iterate 2 exact rfl)
  | (apply w_alone; iterate 3 exact rfl)
  | (apply w_sti; exact rfl; exact rfl; rotate_left 1; exact rfl; rotate_left 2)
  | (apply w_stst; iterate 5 exact rfl)
  | (apply w_stbv; iterate 6 exact rfl)
  | (apply w_stbo; exact rfl; exact rfl; exact rfl; exact rfl; exact rfl; exact True.intro)
  | ((apply AOps.splitB; exact rfl; exact rfl) <;> intro h)
  | apply AllOf.nil
  | (apply AllOf.cons; exact rfl)
  | (apply AAny.take; exact rfl; exact rfl; kernel_rfl; kernel_rfl)
  | (apply AAny.all; exact rfl)
  | (apply AAny.done; exact rfl)
  | (apply inI_of <;> omega)
  | omega
  | (simp <;> omega))
  refine AWp.loop (ι := Nat) (fun i => ⟨21, [(0, .intss xss), (3, .own 0), (4, .i i)]⟩) (fun i => [.sls 31 2 (xss.take i)]) (fun i => i ≤ xss.length) (fun i => xss.length - i) 0 (by omega) ⟨lee rfl (by (repeat (first | exact le_nil | refine le_eq rfl rfl ?_ | refine le_eq rfl (congrArg AV.i (by omega)) ?_))), by (repeat (first | exact lo_nil | refine lo_dead ?_ | refine lo_eq rfl ?_)), rfl, rfl⟩ ?_
  rintro i h0
  have e1 : (xss.take i).length = i := by simp; omega
  by_cases hi : i < xss.length
  · have hb2 := hr (gets xss i) (gets_mem (by omega) (by omega))
    have e2 : xss.take i ++ [gets xss i] = xss.take (i + 1) := by rw [List.take_succ_eq_append_getElem hi]; simp [gets, hi]
    repeat' (first
  | (apply AOps.nil; try simp only [List.nil_append, List.cons_append, List.set_cons_zero, List.set_cons_succ, List.length_cons, List.length_nil, Nat.reduceAdd, AV.sh, AV.sh1, AV.sh0, AO.sh, List.map_cons, List.map_nil, Nat.zero_add, Nat.add_zero, setAll])
  | ((apply AOps.splitP; exact rfl; exact rfl) <;> intro h)
  | ((apply AOps.splitN; exact rfl; exact rfl) <;> intro h)
  | (apply w_move; exact rfl; exact rfl)
  | (apply w_assign; exact rfl; exact rfl)
  | apply AWp.seq
  | apply AWp.region
  | ((apply AWp.condP; exact rfl) <;> intro h)
  | ((apply AWp.condN; exact rfl) <;> intro h)
  | (apply AWp.condT; exact rfl)
  | (apply AWp.condF; exact rfl)
  | ((apply AWp.condB; exact rfl) <;> intro h)
  | apply AWp.block
  | apply AWp.ret
  | apply AWp.exit
  | apply AWp.skip
  | (apply AWp.regionQ; kernel_rfl; kernel_rfl)
  | (apply if_pos'; exact rfl)
  | (apply if_neg'; decide)
  | (apply w_skip; exact rfl)
  | (apply w_pickT; exact rfl; exact rfl; exact rfl)
  | (apply w_pickF; exact rfl; exact rfl; exact rfl)
  | (apply w_len; exact rfl; exact rfl; first | exact .ints _ | exact .intss _ | exact .sli rfl | exact .sls rfl | exact .slr rfl | exact .orow rfl | exact .nil)
  | ((first | apply w_bsr0 | apply w_bs0); iterate 1 exact rfl)
  | ((first | apply w_bsr1 | apply w_lss | apply w_leq | apply w_gtr | apply w_geq | apply w_eql | apply w_neq | apply w_add | apply w_sub | apply w_mul | apply w_idx | apply w_ld | apply w_fld | apply w_fa | apply w_extv | apply w_min | apply w_max | apply w_slhi | apply w_sllo | apply w_bs2); iterate 3 exact rfl)
  | (apply w_appr; exact rfl; exact rfl; exact rfl; exact rfl; exact rfl; exact rfl; exact rfl; rotate_left 1; simp only [Env.mp, List.map_cons, List.map_nil, List.set_cons_zero, List.set_cons_succ, AV.kill, AV.kill1, AO.kill, AV.rin, AV.rin1, AV.noRow, AV.noRow1, AO.via, reduceIte, Nat.reduceEqDiff, Nat.reduceLT, Env.up, Nat.zero_ne_one, Nat.one_ne_zero, Nat.reduceAdd, List.cons_append, List.nil_append]; rotate_left 1)
  | (apply w_callm (l01Own_c _ hb2); (focus ((repeat (first | exact im_nil | refine im_cons rfl (.val _) ?_ | refine im_cons rfl (.ints _) ?_ | refine im_cons rfl (.intss _) ?_ | refine im_cons rfl (.sli rfl) ?_ | refine im_cons rfl (.sls rfl) ?_ | refine im_cons rfl (.orow rfl) ?_ | refine im_cons rfl (.osub rfl (by simp; omega)) ?_ | refine im_cons rfl (.nil) ?_ | refine im_cons rfl (.nils) ?_ | refine im_cons rfl (im_agg2 (.val _) (.ints _)) ?_ | refine im_cons rfl (im_agg2 (.val _) (.sli rfl)) ?_ | refine im_cons rfl (im_agg2 (.val _) (.nil)) ?_ | refine im_cons rfl (im_agg2 (.ints _) (.intss _)) ?_ | refine im_cons rfl (im_agg2 (.ints _) (.sls rfl)) ?_ | refine im_cons rfl (im_agg2 (.sli rfl) (.intss _)) ?_ | refine im_cons rfl (im_agg2 (.sli rfl) (.sls rfl)) ?_ | refine im_cons rfl (im_agg1 (.ints _)) ?_ | refine im_cons rfl (im_agg1 (.sli rfl)) ?_ | refine im_cons rfl (im_agg1 (.intss _)) ?_ | refine im_cons rfl (im_agg1 (.sls rfl)) ?_ | refine im_cons rfl (im_agg1 (.nil)) ?_ | refine im_cons rfl (im_agg1 (.nils)) ?_)); done)); rintro r os0 ⟨rfl, rfl⟩; try simp only [List.nil_append, List.cons_append, List.set_cons_zero, List.set_cons_succ, List.length_cons, List.length_nil, Nat.reduceAdd, AV.sh, AV.sh1, AV.sh0, AO.sh, List.map_cons, List.map_nil, Nat.zero_add, Nat.add_zero, setAll])
  | omega
  | ((first | apply w_eqlb | apply w_neqb | apply w_idxs | apply w_lds | apply w_ext); iterate 3 exact rfl)
  | (apply w_rem; exact rfl; exact rfl; exact rfl; (focus (omega; done)); (focus (omega; done)))
  | (apply w_quo; exact rfl; exact rfl; exact rfl; (focus (omega; done)); (focus (omega; done)))
  | (apply w_remT; exact rfl; exact rfl; exact rfl)
  | (apply w_quoT; exact rfl; exact rfl; exact rfl)
  | ((first | apply w_not | apply w_neg | apply w_conv | apply w_build0 | apply w_bs1 | apply w_boxa); iterate 2 exact rfl)
  | (apply w_idxo; exact rfl; exact rfl; (first | exact .sli rfl | exact .sls rfl | exact .slr rfl); exact rfl)
  | ((first | apply w_idxr | apply w_ldr); iterate 4 exact rfl)
  | (apply w_ldo; iterate 4 exact rfl)
  | (apply w_ldls; iterate 4 exact rfl)
  | (apply w_ldrp; iterate 4 exact rfl)
  | (apply w_ldb; iterate 5 exact rfl)
  | (apply w_ldst; iterate 5 exact rfl)
  | ((first | apply w_sllh | apply w_stbi); iterate 4 exact rfl)
  | ((first | apply w_oslo | apply w_oshi | apply w_stbii); iterate 4 exact rfl)
  | (apply w_build1; exact rfl; exact rfl; (first | exact one_val rfl rfl | exact one_ints | exact one_intss | exact one_own rfl True.intro))
  | (apply w_build2; exact rfl; exact rfl; exact rfl; (first | exact one_val rfl rfl | exact one_ints | exact one_intss | exact one_own rfl True.intro); (first | exact one_val rfl rfl | exact one_ints | exact one_intss | exact one_own rfl True.intro))
  | (apply w_appn; exact rfl; exact rfl; (first | exact .ints _ | exact .sli rfl | exact .orow rfl | exact .nil | exact .osub rfl (by simp; omega)); exact rfl)
  | (apply w_app; exact rfl; exact rfl; exact rfl; exact rfl; (first | exact .ints _ | exact .sli rfl | exact .orow rfl | exact .nil | exact .osub rfl (by simp; omega)); rotate_left 1; simp only [Env.mp, List.map_cons, List.map_nil, List.set_cons_zero, List.set_cons_succ, AV.kill, AV.kill1, AO.kill, AV.noRow, AV.noRow1, AO.via, reduceIte, Nat.reduceEqDiff, Nat.reduceLT, Env.up, Nat.zero_ne_one, Nat.one_ne_zero, Nat.reduceAdd, List.cons_append, List.nil_append]; rotate_left 1)
  | (apply w_alst; iterate 2 exact rfl)
  | (apply w_alone; iterate 3 exact rfl)
  | (apply w_sti; exact rfl; exact rfl; rotate_left 1; exact rfl; rotate_left 2)
  | (apply w_stst; iterate 5 exact rfl)
  | (apply w_stbv; iterate 6 exact rfl)
  | (apply w_stbo; exact rfl; exact rfl; exact rfl; exact rfl; exact rfl; exact True.intro)
  | ((apply AOps.splitB; exact rfl; exact rfl) <;> intro h)
  | apply AllOf.nil
  | (apply AllOf.cons; exact rfl)
  | (apply AAny.take; exact rfl; exact rfl; kernel_rfl; kernel_rfl)
  | (apply AAny.all; exact rfl)
  | (apply AAny.done; exact rfl)
  | (apply inI_of <;> omega)
  | omega
  | (simp <;> omega))
    all_goals exact ⟨i + 1, by omega, by omega, ⟨lee rfl (by (repeat (first | exact le_nil | refine le_eq rfl rfl ?_ | refine le_eq rfl (congrArg AV.i (by omega)) ?_ | refine le_eq rfl (congrArg AV.i (e2)) ?_))), by (repeat (first | exact lo_nil | refine lo_dead ?_ | refine lo_eq rfl ?_ | refine lo_eq (congrArg (AO.sli _) (e2)) ?_ | refine lo_eq (congrArg (AO.sls _ _) (e2)) ?_)), rfl, rfl⟩⟩
  · repeat' (first
  | (apply AOps.nil; try simp only [List.nil_append, List.cons_append, List.set_cons_zero, List.set_cons_succ, List.length_cons, List.length_nil, Nat.reduceAdd, AV.sh, AV.sh1, AV.sh0, AO.sh, List.map_cons, List.map_nil, Nat.zero_add, Nat.add_zero, setAll])
  | ((apply AOps.splitP; exact rfl; exact rfl) <;> intro h)
  | ((apply AOps.splitN; exact rfl; exact rfl) <;> intro h)
  | (apply w_move; exact rfl; exact rfl)
  | (apply w_assign; exact rfl; exact rfl)
  | apply AWp.seq
  | apply AWp.region
  | ((apply AWp.condP; exact rfl) <;> intro h)
  | ((apply AWp.condN; exact rfl) <;> intro h)
  | (apply AWp.condT; exact rfl)
  | (apply AWp.condF; exact rfl)
  | ((apply AWp.condB; exact rfl) <;> intro h)
  | apply AWp.block
  | apply AWp.ret
  | apply AWp.exit
  | apply AWp.skip
  | (apply AWp.regionQ; kernel_rfl; kernel_rfl)
  | (apply if_pos'; exact rfl)
  | (apply if_neg'; decide)
  | (apply w_skip; exact rfl)
  | (apply w_pickT; exact rfl; exact rfl; exact rfl)
  | (apply w_pickF; exact rfl; exact rfl; exact rfl)
  | (apply w_len; exact rfl; exact rfl; first | exact .ints _ | exact .intss _ | exact .sli rfl | exact .sls rfl | exact .slr rfl | exact .orow rfl | exact .nil)
  | omega
  | ((first | apply w_lss | apply w_leq | apply w_gtr | apply w_geq | apply w_eql | apply w_neq | apply w_add | apply w_sub | apply w_mul | apply w_idx | apply w_ld | apply w_fld | apply w_fa | apply w_extv | apply w_min | apply w_max | apply w_slhi | apply w_sllo | apply w_bs2); iterate 3 exact rfl)
  | ((first | apply w_eqlb | apply w_neqb | apply w_idxs | apply w_lds | apply w_ext); iterate 3 exact rfl)
  | (apply w_rem; exact rfl; exact rfl; exact rfl; (focus (omega; done)); (focus (omega; done)))
  | (apply w_quo; exact rfl; exact rfl; exact rfl; (focus (omega; done)); (focus (omega; done)))
  | (apply w_remT; exact rfl; exact rfl; exact rfl)
  | (apply w_quoT; exact rfl; exact rfl; exact rfl)
  | ((first | apply w_not | apply w_neg | apply w_conv | apply w_build0 | apply w_bs1 | apply w_boxa); iterate 2 exact rfl)
  | (apply w_idxo; exact rfl; exact rfl; (first | exact .sli rfl | exact .sls rfl | exact .slr rfl); exact rfl)
  | ((first | apply w_idxr | apply w_ldr); iterate 4 exact rfl)
  | (apply w_ldo; iterate 4 exact rfl)
  | (apply w_ldls; iterate 4 exact rfl)
  | (apply w_ldrp; iterate 4 exact rfl)
  | (apply w_ldb; iterate 5 exact rfl)
  | (apply w_ldst; iterate 5 exact rfl)
  | ((first | apply w_sllh | apply w_stbi); iterate 4 exact rfl)
  | ((first | apply w_oslo | apply w_oshi | apply w_stbii); iterate 4 exact rfl)
  | (apply w_build1; exact rfl; exact rfl; (first | exact one_val rfl rfl | exact one_ints | exact one_intss | exact one_own rfl True.intro))
  | (apply w_build2; exact rfl; exact rfl; exact rfl; (first | exact one_val rfl rfl | exact one_ints | exact one_intss | exact one_own rfl True.intro); (first | exact one_val rfl rfl | exact one_ints | exact one_intss | exact one_own rfl True.intro))
  | (apply w_bs0; iterate 1 exact rfl)
  | (apply w_appn; exact rfl; exact rfl; (first | exact .ints _ | exact .sli rfl | exact .orow rfl | exact .nil | exact .osub rfl (by simp; omega)); exact rfl)
  | (apply w_app; exact rfl; exact rfl; exact rfl; exact rfl; (first | exact .ints _ | exact .sli rfl | exact .orow rfl | exact .nil | exact .osub rfl (by simp; omega)); rotate_left 1; simp only [Env.mp, List.map_cons, List.map_nil, List.set_cons_zero, List.set_cons_succ, AV.kill, AV.kill1, AO.kill, AV.noRow, AV.noRow1, AO.via, reduceIte, Nat.reduceEqDiff, Nat.reduceLT, Env.up, Nat.zero_ne_one, Nat.one_ne_zero, Nat.reduceAdd, List.cons_append, List.nil_append]; rotate_left 1)
  | (apply w_alst; iterate 2 exact rfl)
  | (apply w_alone; iterate 3 exact rfl)
  | (apply w_sti; exact rfl; exact rfl; rotate_left 1; exact rfl; rotate_left 2)
  | (apply w_stst; iterate 5 exact rfl)
  | (apply w_stbv; iterate 6 exact rfl)
  | (apply w_stbo; exact rfl; exact rfl; exact rfl; exact rfl; exact rfl; exact True.intro)
  | ((apply AOps.splitB; exact rfl; exact rfl) <;> intro h)
  | apply AllOf.nil
  | (apply AllOf.cons; exact rfl)
  | (apply AAny.take; exact rfl; exact rfl; kernel_rfl; kernel_rfl)
  | (apply AAny.all; exact rfl)
  | (apply AAny.done; exact rfl)
  | (apply inI_of <;> omega)
  | omega
  | (simp <;> omega))
    have e : i = xss.length := by omega
    subst e
    exact ⟨_, _, _, .v1 Try.results50 rfl, .sls rfl, rfl, by simp⟩

/-- The term comes ahead of (i, j). -/
def bef (i j : Int) (t : List Int) : Prop := geti t 0 + geti t 1 < i + j ∨ (geti t 0 + geti t 1 = i + j ∧ geti t 0 < i)
instance (i j : Int) (t : List Int) : Decidable (bef i j t) := by unfold bef; infer_instance
theorem rows_take (ts : List (List Int)) (n : Nat) (h : n ≤ ts.length) : (List.range' 0 n).map (fun i => ts.getD i []) = ts.take n := by
  apply List.ext_getElem?
  intro k
  rw [List.getElem?_map, List.getElem?_take]
  by_cases hk : k < n
  · rw [if_pos hk, List.getElem?_range' (by omega)]
    simp [List.getD_eq_getElem?_getD, List.getElem?_eq_getElem (show k < ts.length by omega)]
  · rw [if_neg hk, List.getElem?_eq_none (by simp; omega)]; rfl
theorem rows_drop (ts : List (List Int)) (n : Nat) : (List.range' n (ts.length - n)).map (fun i => ts.getD i []) = ts.drop n := by
  apply List.ext_getElem?
  intro k
  rw [List.getElem?_map, List.getElem?_drop]
  by_cases hk : k < ts.length - n
  · rw [List.getElem?_range' (by omega)]
    simp [List.getD_eq_getElem?_getD, List.getElem?_eq_getElem (show n + k < ts.length by omega)]
  · rw [List.getElem?_eq_none (by simp; omega), List.getElem?_eq_none (by omega)]; rfl
theorem range_nodup {a n b m : Nat} (h : a + n ≤ b) : (List.range' a n ++ List.range' b m).Nodup := by
  rw [List.nodup_append]
  refine ⟨List.nodup_range', List.nodup_range', fun x hx y hy e => ?_⟩
  rw [List.mem_range'_1] at hx hy
  omega

end Go.Proofs.Ytpllbdjobmgikaa
/-
  Counters in the reference. No condition but bounds.
-/
namespace Go.Proofs.Ytpllbdjobmgikaa
open Go Go.RowKit
attribute [local irreducible] AWp AOps ResIs Ret1 QOp LOp COp AFnV AFn Imms LeE LeO
set_option maxHeartbeats 1000000
set_option linter.unusedSimpArgs false
set_option linter.unusedVariables false

def zIdx (L : List (List Int)) (m : Int) : Nat := L.findIdx fun r => !decide (geti r 0 < m)
/-- e is added to the count of m. -/
def putZ (L : List (List Int)) (m e : Int) : List (List Int) :=
  if zIdx L m < L.length ∧ geti (L.getD (zIdx L m) []) 0 = m then L.set (zIdx L m) ((L.getD (zIdx L m) []).set 1 (geti (L.getD (zIdx L m) []) 1 + e))
  else L.take (zIdx L m) ++ [m, e] :: L.drop (zIdx L m)
/-- A number and a count of moderate size. -/
def ZOk (B : Int) (r : List Int) : Prop := r.length = 2 ∧ (1 ≤ geti r 0 ∧ geti r 0 ≤ 1000000) ∧ (-B ≤ geti r 1 ∧ geti r 1 ≤ B)
theorem zIdx_eq {L : List (List Int)} {m : Int} {n : Nat} (hn : n ≤ L.length) (h1 : ∀ k, k < n → geti (L.getD k []) 0 < m) (h2 : n = L.length ∨ ¬ geti (L.getD n []) 0 < m) : zIdx L m = n := by
  unfold zIdx
  rcases Nat.lt_or_ge n L.length with h | h
  · rw [List.findIdx_eq h]
    refine ⟨?_, fun k hk => ?_⟩
    · have := h2.resolve_left (by omega)
      rw [List.getD_eq_getElem?_getD, List.getElem?_eq_getElem h] at this
      simpa using this
    · have := h1 k hk
      rw [List.getD_eq_getElem?_getD, List.getElem?_eq_getElem (by omega)] at this
      simpa using this
  · have e : n = L.length := by omega
    subst e
    rw [List.findIdx_eq_length]
    intro t ht
    obtain ⟨k, hk⟩ := List.getElem?_of_mem ht
    have hkl := (List.getElem?_eq_some_iff.1 hk).1
    have := h1 k hkl
    rw [List.getD_eq_getElem?_getD, hk] at this
    simpa using this

set_option maxHeartbeats 8000000 in
theorem l14Put_c (L : List (List Int)) (m e : Int) (hL : ∀ r ∈ L, ZOk 1000000000000 r) (hn : L.length ≤ 1000000) (hm : 1 ≤ m ∧ m ≤ 1000000) (he : -1000000000000 ≤ e ∧ e ≤ 1000000000000) :
    AFnT Try.prog 37 [.own 0, .i m, .i e] 31 2 L (fun r => r = putZ L m e) := by
  have hown := l01Own2_c L (by omega) (fun t ht => by have := (hL t ht).1; omega)
  have hat : ∀ n : Nat, n < L.length → (L.getD (n : Int).toNat []).length = 2 ∧ (1 ≤ geti (L.getD (n : Int).toNat []) ((Int.toNat 0 : Nat) : Int) ∧ geti (L.getD (n : Int).toNat []) ((Int.toNat 0 : Nat) : Int) ≤ 1000000) ∧ (-1000000000000 ≤ geti (L.getD (n : Int).toNat []) ((Int.toNat 1 : Nat) : Int) ∧ geti (L.getD (n : Int).toNat []) ((Int.toNat 1 : Nat) : Int) ≤ 1000000000000) := fun n hn => by
    have : L.getD n [] ∈ L := by rw [List.getD_eq_getElem?_getD, List.getElem?_eq_getElem hn]; exact List.getElem_mem hn
    exact hL _ this
  (refine AFnT.start Try.func37 Try.ntmps37 rfl (by kernel_rfl) fun K => ?_; simp only [Env.start, enumF, List.map_cons, List.map_nil, AV.sh, List.length_cons, List.length_nil, Nat.reduceAdd, Nat.reduceSub, List.cons_append, List.nil_append])
  repeat' (first
  | (apply AOps.nil; try simp only [List.nil_append, List.cons_append, List.set_cons_zero, List.set_cons_succ, List.length_cons, List.length_nil, Nat.reduceAdd, AV.sh, AV.sh1, AV.sh0, AO.sh, List.map_cons, List.map_nil, Nat.zero_add, Nat.add_zero, setAll])
  | ((apply AOps.splitP; exact rfl; exact rfl) <;> intro h)
  | ((apply AOps.splitN; exact rfl; exact rfl) <;> intro h)
  | (apply w_move; exact rfl; exact rfl)
  | (apply w_assign; exact rfl; exact rfl)
  | apply AWp.seq
  | apply AWp.region
  | ((apply AWp.condP; exact rfl) <;> intro h)
  | ((apply AWp.condN; exact rfl) <;> intro h)
  | (apply AWp.condT; exact rfl)
  | (apply AWp.condF; exact rfl)
  | ((apply AWp.condB; exact rfl) <;> intro h)
  | apply AWp.block
  | apply AWp.ret
  | apply AWp.exit
  | apply AWp.skip
  | (apply AWp.regionQ; kernel_rfl; kernel_rfl)
  | (apply if_pos'; exact rfl)
  | (apply if_neg'; decide)
  | (apply w_skip; exact rfl)
  | (apply w_pickT; exact rfl; exact rfl; exact rfl)
  | (apply w_pickF; exact rfl; exact rfl; exact rfl)
  | (apply w_len; exact rfl; exact rfl; first | exact .ints _ | exact .intss _ | exact .sli rfl | exact .sls rfl | exact .slr rfl | exact .orow rfl | exact .nil)
  | ((first | apply w_lss | apply w_leq | apply w_gtr | apply w_geq | apply w_eql | apply w_neq | apply w_add | apply w_sub | apply w_mul | apply w_idx | apply w_ld | apply w_fld | apply w_fa | apply w_extv | apply w_min | apply w_max | apply w_slhi | apply w_sllo | apply w_bs2); iterate 3 exact rfl)
  | ((first | apply w_eqlb | apply w_neqb | apply w_idxs | apply w_lds | apply w_ext); iterate 3 exact rfl)
  | (apply w_rem; exact rfl; exact rfl; exact rfl; (focus (omega; done)); (focus (omega; done)))
  | (apply w_quo; exact rfl; exact rfl; exact rfl; (focus (omega; done)); (focus (omega; done)))
  | (apply w_remT; exact rfl; exact rfl; exact rfl)
  | (apply w_quoT; exact rfl; exact rfl; exact rfl)
  | ((first | apply w_not | apply w_neg | apply w_conv | apply w_build0 | apply w_bs1 | apply w_boxa); iterate 2 exact rfl)
  | (apply w_idxo; exact rfl; exact rfl; (first | exact .sli rfl | exact .sls rfl | exact .slr rfl); exact rfl)
  | ((first | apply w_idxr | apply w_ldr); iterate 4 exact rfl)
  | (apply w_ldo; iterate 4 exact rfl)
  | (apply w_ldls; iterate 4 exact rfl)
  | (apply w_ldrp; iterate 4 exact rfl)
  | (apply w_ldb; iterate 5 exact rfl)
  | (apply w_ldst; iterate 5 exact rfl)
  | ((first | apply w_sllh | apply w_stbi); iterate 4 exact rfl)
  | ((first | apply w_oslo | apply w_oshi | apply w_stbii); iterate 4 exact rfl)
  | (apply w_build1; exact rfl; exact rfl; (first | exact one_val rfl rfl | exact one_ints | exact one_intss | exact one_own rfl True.intro))
  | (apply w_build2; exact rfl; exact rfl; exact rfl; (first | exact one_val rfl rfl | exact one_ints | exact one_intss | exact one_own rfl True.intro); (first | exact one_val rfl rfl | exact one_ints | exact one_intss | exact one_own rfl True.intro))
  | (apply w_bs0; iterate 1 exact rfl)
  | (apply w_appn; exact rfl; exact rfl; (first | exact .ints _ | exact .sli rfl | exact .orow rfl | exact .nil | exact .osub rfl (by simp; omega)); exact rfl)
  | (apply w_app; exact rfl; exact rfl; exact rfl; exact rfl; (first | exact .ints _ | exact .sli rfl | exact .orow rfl | exact .nil | exact .osub rfl (by simp; omega)); rotate_left 1; simp only [Env.mp, List.map_cons, List.map_nil, List.set_cons_zero, List.set_cons_succ, AV.kill, AV.kill1, AO.kill, AV.noRow, AV.noRow1, AO.via, reduceIte, Nat.reduceEqDiff, Nat.reduceLT, Env.up, Nat.zero_ne_one, Nat.one_ne_zero, Nat.reduceAdd, List.cons_append, List.nil_append]; rotate_left 1)
  | (apply w_alst; iterate 2 exact rfl)
  | (apply w_alone; iterate 3 exact rfl)
  | (apply w_sti; exact rfl; exact rfl; rotate_left 1; exact rfl; rotate_left 2)
  | (apply w_stst; iterate 5 exact rfl)
  | (apply w_stbv; iterate 6 exact rfl)
  | (apply w_stbo; exact rfl; exact rfl; exact rfl; exact rfl; exact rfl; exact True.intro)
  | ((apply AOps.splitB; exact rfl; exact rfl) <;> intro h)
  | apply AllOf.nil
  | (apply AllOf.cons; exact rfl)
  | (apply AAny.take; exact rfl; exact rfl; kernel_rfl; kernel_rfl)
  | (apply AAny.all; exact rfl)
  | (apply AAny.done; exact rfl)
  | (apply inI_of <;> omega)
  | omega
  | (simp <;> omega))
  refine AWp.loop (ι := Nat) (fun n => ⟨71, [(0, .own 1), (1, .i m), (2, .i e), (7, .i n)]⟩) (fun _ => [.keep 1 K, .sls 31 2 L]) (fun n => n ≤ L.length ∧ ∀ k, k < n → geti (L.getD k []) 0 < m) (fun n => L.length - n) 0 ⟨by omega, fun k hk => by omega⟩ ⟨lee rfl (by (repeat (first | exact le_nil | refine le_eq rfl rfl ?_ | refine le_eq rfl (congrArg AV.i (by omega)) ?_))), by (repeat (first | exact lo_nil | refine lo_dead ?_ | refine lo_eq rfl ?_)), rfl, rfl⟩ ?_
  rintro n ⟨n0, n1⟩
  by_cases hlt : n < L.length
  · obtain ⟨t1, t2, t3⟩ := hat n hlt
    by_cases hb : geti (L.getD (n : Int).toNat []) ((Int.toNat 0 : Nat) : Int) < m
    · repeat' (first
  | (apply AOps.nil; try simp only [List.nil_append, List.cons_append, List.set_cons_zero, List.set_cons_succ, List.length_cons, List.length_nil, Nat.reduceAdd, AV.sh, AV.sh1, AV.sh0, AO.sh, List.map_cons, List.map_nil, Nat.zero_add, Nat.add_zero, setAll])
  | ((apply AOps.splitP; exact rfl; exact rfl) <;> intro h)
  | ((apply AOps.splitN; exact rfl; exact rfl) <;> intro h)
  | (apply w_move; exact rfl; exact rfl)
  | (apply w_assign; exact rfl; exact rfl)
  | apply AWp.seq
  | apply AWp.region
  | ((apply AWp.condP; exact rfl) <;> intro h)
  | ((apply AWp.condN; exact rfl) <;> intro h)
  | (apply AWp.condT; exact rfl)
  | (apply AWp.condF; exact rfl)
  | ((apply AWp.condB; exact rfl) <;> intro h)
  | apply AWp.block
  | apply AWp.ret
  | apply AWp.exit
  | apply AWp.skip
  | (apply if_pos'; exact rfl)
  | (apply if_neg'; decide)
  | (apply w_skip; exact rfl)
  | (apply w_pickT; exact rfl; exact rfl; exact rfl)
  | (apply w_pickF; exact rfl; exact rfl; exact rfl)
  | (apply w_len; exact rfl; exact rfl; first | exact .ints _ | exact .intss _ | exact .sli rfl | exact .sls rfl | exact .slr rfl | exact .orow rfl | exact .nil)
  | omega
  | ((first | apply w_lss | apply w_leq | apply w_gtr | apply w_geq | apply w_eql | apply w_neq | apply w_add | apply w_sub | apply w_mul | apply w_idx | apply w_ld | apply w_fld | apply w_fa | apply w_extv | apply w_min | apply w_max | apply w_slhi | apply w_sllo | apply w_bs2); iterate 3 exact rfl)
  | ((first | apply w_eqlb | apply w_neqb | apply w_idxs | apply w_lds | apply w_ext); iterate 3 exact rfl)
  | (apply w_rem; exact rfl; exact rfl; exact rfl; (focus (omega; done)); (focus (omega; done)))
  | (apply w_quo; exact rfl; exact rfl; exact rfl; (focus (omega; done)); (focus (omega; done)))
  | (apply w_remT; exact rfl; exact rfl; exact rfl)
  | (apply w_quoT; exact rfl; exact rfl; exact rfl)
  | ((first | apply w_not | apply w_neg | apply w_conv | apply w_build0 | apply w_bs1 | apply w_boxa); iterate 2 exact rfl)
  | (apply w_idxo; exact rfl; exact rfl; (first | exact .sli rfl | exact .sls rfl | exact .slr rfl); exact rfl)
  | ((first | apply w_idxr | apply w_ldr); iterate 4 exact rfl)
  | (apply w_ldo; iterate 4 exact rfl)
  | (apply w_ldls; iterate 4 exact rfl)
  | (apply w_ldrp; iterate 4 exact rfl)
  | (apply w_ldb; iterate 5 exact rfl)
  | (apply w_ldst; iterate 5 exact rfl)
  | ((first | apply w_sllh | apply w_stbi); iterate 4 exact rfl)
  | ((first | apply w_oslo | apply w_oshi | apply w_stbii); iterate 4 exact rfl)
  | (apply w_build1; exact rfl; exact rfl; (first | exact one_val rfl rfl | exact one_ints | exact one_intss | exact one_own rfl True.intro))
  | (apply w_build2; exact rfl; exact rfl; exact rfl; (first | exact one_val rfl rfl | exact one_ints | exact one_intss | exact one_own rfl True.intro); (first | exact one_val rfl rfl | exact one_ints | exact one_intss | exact one_own rfl True.intro))
  | (apply w_bs0; iterate 1 exact rfl)
  | (apply w_appn; exact rfl; exact rfl; (first | exact .ints _ | exact .sli rfl | exact .orow rfl | exact .nil | exact .osub rfl (by simp; omega)); exact rfl)
  | (apply w_app; exact rfl; exact rfl; exact rfl; exact rfl; (first | exact .ints _ | exact .sli rfl | exact .orow rfl | exact .nil | exact .osub rfl (by simp; omega)); rotate_left 1; simp only [Env.mp, List.map_cons, List.map_nil, List.set_cons_zero, List.set_cons_succ, AV.kill, AV.kill1, AO.kill, AV.noRow, AV.noRow1, AO.via, reduceIte, Nat.reduceEqDiff, Nat.reduceLT, Env.up, Nat.zero_ne_one, Nat.one_ne_zero, Nat.reduceAdd, List.cons_append, List.nil_append]; rotate_left 1)
  | (apply w_alst; iterate 2 exact rfl)
  | (apply w_alone; iterate 3 exact rfl)
  | (apply w_sti; exact rfl; exact rfl; rotate_left 1; exact rfl; rotate_left 2)
  | (apply w_stst; iterate 5 exact rfl)
  | (apply w_stbv; iterate 6 exact rfl)
  | (apply w_stbo; exact rfl; exact rfl; exact rfl; exact rfl; exact rfl; exact True.intro)
  | ((apply AOps.splitB; exact rfl; exact rfl) <;> intro h)
  | apply AllOf.nil
  | (apply AllOf.cons; exact rfl)
  | (apply AAny.take; exact rfl; exact rfl; kernel_rfl; kernel_rfl)
  | (apply AAny.all; exact rfl)
  | (apply AAny.done; exact rfl)
  | (apply inI_of <;> omega)
  | omega
  | (simp <;> omega))
      refine ⟨n + 1, ⟨hlt, fun k hk => ?_⟩, by omega, ⟨lee rfl (by (repeat (first | exact le_nil | refine le_eq rfl rfl ?_ | refine le_eq rfl (congrArg AV.i (by omega)) ?_))), by (repeat (first | exact lo_nil | refine lo_dead ?_ | refine lo_eq rfl ?_)), rfl, rfl⟩⟩
      by_cases ek : k = n
      · subst ek; exact hb
      · exact n1 k (by omega)
    · have ep : zIdx L m = n := zIdx_eq n0 n1 (.inr hb)
      by_cases hs : geti (L.getD (n : Int).toNat []) ((Int.toNat 0 : Nat) : Int) = m
      · have hput : putZ L m e = L.set n ((L.getD n []).set 1 (geti (L.getD n []) 1 + e)) := by
          unfold putZ
          rw [ep, if_pos ⟨hlt, hs⟩]
        repeat' (first
  | (apply AOps.nil; try simp only [List.nil_append, List.cons_append, List.set_cons_zero, List.set_cons_succ, List.length_cons, List.length_nil, Nat.reduceAdd, AV.sh, AV.sh1, AV.sh0, AO.sh, List.map_cons, List.map_nil, Nat.zero_add, Nat.add_zero, setAll])
  | ((apply AOps.splitP; exact rfl; exact rfl) <;> intro h)
  | ((apply AOps.splitN; exact rfl; exact rfl) <;> intro h)
  | (apply w_move; exact rfl; exact rfl)
  | (apply w_assign; exact rfl; exact rfl)
  | apply AWp.seq
  | apply AWp.region
  | ((apply AWp.condP; exact rfl) <;> intro h)
  | ((apply AWp.condN; exact rfl) <;> intro h)
  | (apply AWp.condT; exact rfl)
  | (apply AWp.condF; exact rfl)
  | ((apply AWp.condB; exact rfl) <;> intro h)
  | apply AWp.block
  | apply AWp.ret
  | apply AWp.exit
  | apply AWp.skip
  | (apply if_pos'; exact rfl)
  | (apply if_neg'; decide)
  | (apply w_skip; exact rfl)
  | (apply w_pickT; exact rfl; exact rfl; exact rfl)
  | (apply w_pickF; exact rfl; exact rfl; exact rfl)
  | (apply w_len; exact rfl; exact rfl; first | exact .ints _ | exact .intss _ | exact .sli rfl | exact .sls rfl | exact .slr rfl | exact .orow rfl | exact .nil)
  | (apply w_callm (hown); (focus ((repeat (first | exact im_nil | refine im_cons rfl (.val _) ?_ | refine im_cons rfl (.ints _) ?_ | refine im_cons rfl (.intss _) ?_ | refine im_cons rfl (.sli rfl) ?_ | refine im_cons rfl (.sls rfl) ?_ | refine im_cons rfl (.orow rfl) ?_ | refine im_cons rfl (.osub rfl (by simp; omega)) ?_ | refine im_cons rfl (.nil) ?_ | refine im_cons rfl (.nils) ?_ | refine im_cons rfl (im_agg2 (.val _) (.ints _)) ?_ | refine im_cons rfl (im_agg2 (.val _) (.sli rfl)) ?_ | refine im_cons rfl (im_agg2 (.val _) (.nil)) ?_ | refine im_cons rfl (im_agg2 (.ints _) (.intss _)) ?_ | refine im_cons rfl (im_agg2 (.ints _) (.sls rfl)) ?_ | refine im_cons rfl (im_agg2 (.sli rfl) (.intss _)) ?_ | refine im_cons rfl (im_agg2 (.sli rfl) (.sls rfl)) ?_ | refine im_cons rfl (im_agg1 (.ints _)) ?_ | refine im_cons rfl (im_agg1 (.sli rfl)) ?_ | refine im_cons rfl (im_agg1 (.intss _)) ?_ | refine im_cons rfl (im_agg1 (.sls rfl)) ?_ | refine im_cons rfl (im_agg1 (.nil)) ?_ | refine im_cons rfl (im_agg1 (.nils)) ?_)); done)); rintro r os0 ⟨rfl, rfl⟩; try simp only [List.nil_append, List.cons_append, List.set_cons_zero, List.set_cons_succ, List.length_cons, List.length_nil, Nat.reduceAdd, AV.sh, AV.sh1, AV.sh0, AO.sh, List.map_cons, List.map_nil, Nat.zero_add, Nat.add_zero, setAll])
  | omega
  | ((first | apply w_lss | apply w_leq | apply w_gtr | apply w_geq | apply w_eql | apply w_neq | apply w_add | apply w_sub | apply w_mul | apply w_idx | apply w_ld | apply w_fld | apply w_fa | apply w_extv | apply w_min | apply w_max | apply w_slhi | apply w_sllo | apply w_bs2); iterate 3 exact rfl)
  | ((first | apply w_eqlb | apply w_neqb | apply w_idxs | apply w_lds | apply w_ext); iterate 3 exact rfl)
  | (apply w_rem; exact rfl; exact rfl; exact rfl; (focus (omega; done)); (focus (omega; done)))
  | (apply w_quo; exact rfl; exact rfl; exact rfl; (focus (omega; done)); (focus (omega; done)))
  | (apply w_remT; exact rfl; exact rfl; exact rfl)
  | (apply w_quoT; exact rfl; exact rfl; exact rfl)
  | ((first | apply w_not | apply w_neg | apply w_conv | apply w_build0 | apply w_bs1 | apply w_boxa); iterate 2 exact rfl)
  | (apply w_idxo; exact rfl; exact rfl; (first | exact .sli rfl | exact .sls rfl | exact .slr rfl); exact rfl)
  | ((first | apply w_idxr | apply w_ldr); iterate 4 exact rfl)
  | (apply w_ldo; iterate 4 exact rfl)
  | (apply w_ldls; iterate 4 exact rfl)
  | (apply w_ldrp; iterate 4 exact rfl)
  | (apply w_ldb; iterate 5 exact rfl)
  | (apply w_ldst; iterate 5 exact rfl)
  | ((first | apply w_sllh | apply w_stbi); iterate 4 exact rfl)
  | ((first | apply w_oslo | apply w_oshi | apply w_stbii); iterate 4 exact rfl)
  | (apply w_build1; exact rfl; exact rfl; (first | exact one_val rfl rfl | exact one_ints | exact one_intss | exact one_own rfl True.intro))
  | (apply w_build2; exact rfl; exact rfl; exact rfl; (first | exact one_val rfl rfl | exact one_ints | exact one_intss | exact one_own rfl True.intro); (first | exact one_val rfl rfl | exact one_ints | exact one_intss | exact one_own rfl True.intro))
  | (apply w_bs0; iterate 1 exact rfl)
  | (apply w_appn; exact rfl; exact rfl; (first | exact .ints _ | exact .sli rfl | exact .orow rfl | exact .nil | exact .osub rfl (by simp; omega)); exact rfl)
  | (apply w_app; exact rfl; exact rfl; exact rfl; exact rfl; (first | exact .ints _ | exact .sli rfl | exact .orow rfl | exact .nil | exact .osub rfl (by simp; omega)); rotate_left 1; simp only [Env.mp, List.map_cons, List.map_nil, List.set_cons_zero, List.set_cons_succ, AV.kill, AV.kill1, AO.kill, AV.noRow, AV.noRow1, AO.via, reduceIte, Nat.reduceEqDiff, Nat.reduceLT, Env.up, Nat.zero_ne_one, Nat.one_ne_zero, Nat.reduceAdd, List.cons_append, List.nil_append]; rotate_left 1)
  | (apply w_alst; iterate 2 exact rfl)
  | (apply w_alone; iterate 3 exact rfl)
  | (apply w_sti; exact rfl; exact rfl; rotate_left 1; exact rfl; rotate_left 2)
  | (apply w_stst; iterate 5 exact rfl)
  | (apply w_stbv; iterate 6 exact rfl)
  | (apply w_stbo; exact rfl; exact rfl; exact rfl; exact rfl; exact rfl; exact True.intro)
  | ((apply AOps.splitB; exact rfl; exact rfl) <;> intro h)
  | apply AllOf.nil
  | (apply AllOf.cons; exact rfl)
  | (apply AAny.take; exact rfl; exact rfl; kernel_rfl; kernel_rfl)
  | (apply AAny.all; exact rfl)
  | (apply AAny.done; exact rfl)
  | (apply inI_of <;> omega)
  | omega
  | (simp <;> omega))
        refine AWp.regionA (by kernel_rfl) (envC := ⟨71, [(8, .own 2)]⟩) (osC := [.keep 1 K, .sls 31 2 L, .sls 31 2 (L.set n ((L.getD n []).set 1 (geti (L.getD n []) 1 + e)))]) rfl rfl ?_ ?_
        · repeat' (first
  | (apply AOps.nil; try simp only [List.nil_append, List.cons_append, List.set_cons_zero, List.set_cons_succ, List.length_cons, List.length_nil, Nat.reduceAdd, AV.sh, AV.sh1, AV.sh0, AO.sh, List.map_cons, List.map_nil, Nat.zero_add, Nat.add_zero, setAll])
  | ((apply AOps.splitP; exact rfl; exact rfl) <;> intro h)
  | ((apply AOps.splitN; exact rfl; exact rfl) <;> intro h)
  | (apply w_move; exact rfl; exact rfl)
  | (apply w_assign; exact rfl; exact rfl)
  | apply AWp.seq
  | apply AWp.region
  | ((apply AWp.condP; exact rfl) <;> intro h)
  | ((apply AWp.condN; exact rfl) <;> intro h)
  | (apply AWp.condT; exact rfl)
  | (apply AWp.condF; exact rfl)
  | ((apply AWp.condB; exact rfl) <;> intro h)
  | apply AWp.block
  | apply AWp.ret
  | apply AWp.exit
  | apply AWp.skip
  | (apply AWp.regionQ; kernel_rfl; kernel_rfl)
  | (apply if_pos'; exact rfl)
  | (apply if_neg'; decide)
  | (apply w_skip; exact rfl)
  | (apply w_pickT; exact rfl; exact rfl; exact rfl)
  | (apply w_pickF; exact rfl; exact rfl; exact rfl)
  | (apply w_len; exact rfl; exact rfl; first | exact .ints _ | exact .intss _ | exact .sli rfl | exact .sls rfl | exact .slr rfl | exact .orow rfl | exact .nil)
  | ((first | apply w_slshi | apply w_slslo | apply w_bs3 | apply w_sllh | apply w_stbi); iterate 4 exact rfl)
  | (apply w_storp; exact rfl; exact rfl; rotate_left 2; exact rfl; rotate_left 2)
  | omega
  | ((first | apply w_lss | apply w_leq | apply w_gtr | apply w_geq | apply w_eql | apply w_neq | apply w_add | apply w_sub | apply w_mul | apply w_idx | apply w_ld | apply w_fld | apply w_fa | apply w_extv | apply w_min | apply w_max | apply w_slhi | apply w_sllo | apply w_bs2); iterate 3 exact rfl)
  | ((first | apply w_eqlb | apply w_neqb | apply w_idxs | apply w_lds | apply w_ext); iterate 3 exact rfl)
  | (apply w_rem; exact rfl; exact rfl; exact rfl; (focus (omega; done)); (focus (omega; done)))
  | (apply w_quo; exact rfl; exact rfl; exact rfl; (focus (omega; done)); (focus (omega; done)))
  | (apply w_remT; exact rfl; exact rfl; exact rfl)
  | (apply w_quoT; exact rfl; exact rfl; exact rfl)
  | ((first | apply w_not | apply w_neg | apply w_conv | apply w_build0 | apply w_bs1 | apply w_boxa); iterate 2 exact rfl)
  | (apply w_idxo; exact rfl; exact rfl; (first | exact .sli rfl | exact .sls rfl | exact .slr rfl); exact rfl)
  | ((first | apply w_idxr | apply w_ldr); iterate 4 exact rfl)
  | (apply w_ldo; iterate 4 exact rfl)
  | (apply w_ldls; iterate 4 exact rfl)
  | (apply w_ldrp; iterate 4 exact rfl)
  | (apply w_ldb; iterate 5 exact rfl)
  | (apply w_ldst; iterate 5 exact rfl)
  | ((first | apply w_oslo | apply w_oshi | apply w_stbii); iterate 4 exact rfl)
  | (apply w_build1; exact rfl; exact rfl; (first | exact one_val rfl rfl | exact one_ints | exact one_intss | exact one_own rfl True.intro))
  | (apply w_build2; exact rfl; exact rfl; exact rfl; (first | exact one_val rfl rfl | exact one_ints | exact one_intss | exact one_own rfl True.intro); (first | exact one_val rfl rfl | exact one_ints | exact one_intss | exact one_own rfl True.intro))
  | (apply w_bs0; iterate 1 exact rfl)
  | (apply w_appn; exact rfl; exact rfl; (first | exact .ints _ | exact .sli rfl | exact .orow rfl | exact .nil | exact .osub rfl (by simp; omega)); exact rfl)
  | (apply w_app; exact rfl; exact rfl; exact rfl; exact rfl; (first | exact .ints _ | exact .sli rfl | exact .orow rfl | exact .nil | exact .osub rfl (by simp; omega)); rotate_left 1; simp only [Env.mp, List.map_cons, List.map_nil, List.set_cons_zero, List.set_cons_succ, AV.kill, AV.kill1, AO.kill, AV.noRow, AV.noRow1, AO.via, reduceIte, Nat.reduceEqDiff, Nat.reduceLT, Env.up, Nat.zero_ne_one, Nat.one_ne_zero, Nat.reduceAdd, List.cons_append, List.nil_append]; rotate_left 1)
  | (apply w_alst; iterate 2 exact rfl)
  | (apply w_alone; iterate 3 exact rfl)
  | (apply w_sti; exact rfl; exact rfl; rotate_left 1; exact rfl; rotate_left 2)
  | (apply w_stst; iterate 5 exact rfl)
  | (apply w_stbv; iterate 6 exact rfl)
  | (apply w_stbo; exact rfl; exact rfl; exact rfl; exact rfl; exact rfl; exact True.intro)
  | ((apply AOps.splitB; exact rfl; exact rfl) <;> intro h)
  | apply AllOf.nil
  | (apply AllOf.cons; exact rfl)
  | (apply AAny.take; exact rfl; exact rfl; kernel_rfl; kernel_rfl)
  | (apply AAny.all; exact rfl)
  | (apply AAny.done; exact rfl)
  | (apply inI_of <;> omega)
  | omega
  | (simp <;> omega))
          all_goals (first | (apply Or.inl; refine ⟨lee rfl ?_, ?_, rfl, rfl⟩; (focus ((repeat (first | exact le_nil | refine le_eq rfl rfl ?_ | (refine le_eq rfl (congrArg AV.i ?_) ?_; (focus (omega; done))))); done)); (focus ((repeat (first | exact lo_nil | refine lo_dead ?_ | refine lo_eq rfl ?_)); done))))
        repeat' (first
  | (apply AOps.nil; try simp only [List.nil_append, List.cons_append, List.set_cons_zero, List.set_cons_succ, List.length_cons, List.length_nil, Nat.reduceAdd, AV.sh, AV.sh1, AV.sh0, AO.sh, List.map_cons, List.map_nil, Nat.zero_add, Nat.add_zero, setAll])
  | ((apply AOps.splitP; exact rfl; exact rfl) <;> intro h)
  | ((apply AOps.splitN; exact rfl; exact rfl) <;> intro h)
  | (apply w_move; exact rfl; exact rfl)
  | (apply w_assign; exact rfl; exact rfl)
  | apply AWp.seq
  | apply AWp.region
  | ((apply AWp.condP; exact rfl) <;> intro h)
  | ((apply AWp.condN; exact rfl) <;> intro h)
  | (apply AWp.condT; exact rfl)
  | (apply AWp.condF; exact rfl)
  | ((apply AWp.condB; exact rfl) <;> intro h)
  | apply AWp.block
  | apply AWp.ret
  | apply AWp.exit
  | apply AWp.skip
  | (apply if_pos'; exact rfl)
  | (apply if_neg'; decide)
  | (apply w_skip; exact rfl)
  | (apply w_pickT; exact rfl; exact rfl; exact rfl)
  | (apply w_pickF; exact rfl; exact rfl; exact rfl)
  | (apply w_len; exact rfl; exact rfl; first | exact .ints _ | exact .intss _ | exact .sli rfl | exact .sls rfl | exact .slr rfl | exact .orow rfl | exact .nil)
  | ((first | apply w_lss | apply w_leq | apply w_gtr | apply w_geq | apply w_eql | apply w_neq | apply w_add | apply w_sub | apply w_mul | apply w_idx | apply w_ld | apply w_fld | apply w_fa | apply w_extv | apply w_min | apply w_max | apply w_slhi | apply w_sllo | apply w_bs2); iterate 3 exact rfl)
  | ((first | apply w_eqlb | apply w_neqb | apply w_idxs | apply w_lds | apply w_ext); iterate 3 exact rfl)
  | (apply w_rem; exact rfl; exact rfl; exact rfl; (focus (omega; done)); (focus (omega; done)))
  | (apply w_quo; exact rfl; exact rfl; exact rfl; (focus (omega; done)); (focus (omega; done)))
  | (apply w_remT; exact rfl; exact rfl; exact rfl)
  | (apply w_quoT; exact rfl; exact rfl; exact rfl)
  | ((first | apply w_not | apply w_neg | apply w_conv | apply w_build0 | apply w_bs1 | apply w_boxa); iterate 2 exact rfl)
  | (apply w_idxo; exact rfl; exact rfl; (first | exact .sli rfl | exact .sls rfl | exact .slr rfl); exact rfl)
  | ((first | apply w_idxr | apply w_ldr); iterate 4 exact rfl)
  | (apply w_ldo; iterate 4 exact rfl)
  | (apply w_ldls; iterate 4 exact rfl)
  | (apply w_ldrp; iterate 4 exact rfl)
  | (apply w_ldb; iterate 5 exact rfl)
  | (apply w_ldst; iterate 5 exact rfl)
  | ((first | apply w_sllh | apply w_stbi); iterate 4 exact rfl)
  | ((first | apply w_oslo | apply w_oshi | apply w_stbii); iterate 4 exact rfl)
  | (apply w_build1; exact rfl; exact rfl; (first | exact one_val rfl rfl | exact one_ints | exact one_intss | exact one_own rfl True.intro))
  | (apply w_build2; exact rfl; exact rfl; exact rfl; (first | exact one_val rfl rfl | exact one_ints | exact one_intss | exact one_own rfl True.intro); (first | exact one_val rfl rfl | exact one_ints | exact one_intss | exact one_own rfl True.intro))
  | (apply w_bs0; iterate 1 exact rfl)
  | (apply w_appn; exact rfl; exact rfl; (first | exact .ints _ | exact .sli rfl | exact .orow rfl | exact .nil | exact .osub rfl (by simp; omega)); exact rfl)
  | (apply w_app; exact rfl; exact rfl; exact rfl; exact rfl; (first | exact .ints _ | exact .sli rfl | exact .orow rfl | exact .nil | exact .osub rfl (by simp; omega)); rotate_left 1; simp only [Env.mp, List.map_cons, List.map_nil, List.set_cons_zero, List.set_cons_succ, AV.kill, AV.kill1, AO.kill, AV.noRow, AV.noRow1, AO.via, reduceIte, Nat.reduceEqDiff, Nat.reduceLT, Env.up, Nat.zero_ne_one, Nat.one_ne_zero, Nat.reduceAdd, List.cons_append, List.nil_append]; rotate_left 1)
  | (apply w_alst; iterate 2 exact rfl)
  | (apply w_alone; iterate 3 exact rfl)
  | (apply w_sti; exact rfl; exact rfl; rotate_left 1; exact rfl; rotate_left 2)
  | (apply w_stst; iterate 5 exact rfl)
  | (apply w_stbv; iterate 6 exact rfl)
  | (apply w_stbo; exact rfl; exact rfl; exact rfl; exact rfl; exact rfl; exact True.intro)
  | ((apply AOps.splitB; exact rfl; exact rfl) <;> intro h)
  | apply AllOf.nil
  | (apply AllOf.cons; exact rfl)
  | (apply AAny.take; exact rfl; exact rfl; kernel_rfl; kernel_rfl)
  | (apply AAny.all; exact rfl)
  | (apply AAny.done; exact rfl)
  | (apply inI_of <;> omega)
  | omega
  | (simp <;> omega))
        exact ⟨_, _, 2, _, .refl, .v1 Try.results37 rfl, rfl, hput.symm, rfl⟩
      · have hput : putZ L m e = L.take n ++ [m, e] :: L.drop n := by
          unfold putZ
          rw [ep, if_neg (fun h => hs h.2)]
        repeat' (first
  | (apply AOps.nil; try simp only [List.nil_append, List.cons_append, List.set_cons_zero, List.set_cons_succ, List.length_cons, List.length_nil, Nat.reduceAdd, AV.sh, AV.sh1, AV.sh0, AO.sh, List.map_cons, List.map_nil, Nat.zero_add, Nat.add_zero, setAll])
  | ((apply AOps.splitP; exact rfl; exact rfl) <;> intro h)
  | ((apply AOps.splitN; exact rfl; exact rfl) <;> intro h)
  | (apply w_move; exact rfl; exact rfl)
  | (apply w_assign; exact rfl; exact rfl)
  | apply AWp.seq
  | apply AWp.region
  | ((apply AWp.condP; exact rfl) <;> intro h)
  | ((apply AWp.condN; exact rfl) <;> intro h)
  | (apply AWp.condT; exact rfl)
  | (apply AWp.condF; exact rfl)
  | ((apply AWp.condB; exact rfl) <;> intro h)
  | apply AWp.block
  | apply AWp.ret
  | apply AWp.exit
  | apply AWp.skip
  | (apply AWp.regionQ; kernel_rfl; kernel_rfl)
  | (apply if_pos'; exact rfl)
  | (apply if_neg'; decide)
  | (apply w_skip; exact rfl)
  | (apply w_pickT; exact rfl; exact rfl; exact rfl)
  | (apply w_pickF; exact rfl; exact rfl; exact rfl)
  | (apply w_len; exact rfl; exact rfl; first | exact .ints _ | exact .intss _ | exact .sli rfl | exact .sls rfl | exact .slr rfl | exact .orow rfl | exact .nil)
  | (apply w_bslr0; exact rfl; try simp only [List.nil_append, List.cons_append, List.set_cons_zero, List.set_cons_succ, List.length_cons, List.length_nil, Nat.reduceAdd, AV.sh, AV.sh1, AV.sh0, AO.sh, List.map_cons, List.map_nil, Nat.zero_add, Nat.add_zero, setAll])
  | (apply w_bslr1; exact rfl; exact rfl; exact rfl; try simp only [List.nil_append, List.cons_append, List.set_cons_zero, List.set_cons_succ, List.length_cons, List.length_nil, Nat.reduceAdd, AV.sh, AV.sh1, AV.sh0, AO.sh, List.map_cons, List.map_nil, Nat.zero_add, Nat.add_zero, setAll])
  | (apply w_appsub; exact rfl; exact rfl; exact rfl; exact rfl; exact rfl; rotate_left 3; simp only [Env.mp, List.map_cons, List.map_nil, List.set_cons_zero, List.set_cons_succ, AV.kill, AV.kill1, AO.kill, AV.lose, AV.lose1, List.map_append, map_orow_kill, AV.noRow, AV.noRow1, AO.via, reduceIte, Nat.reduceEqDiff, Nat.reduceLT, Env.up, Nat.zero_ne_one, Nat.one_ne_zero, Nat.reduceAdd, List.cons_append, List.nil_append]; rotate_left 3; (focus (first | exact rfl | (simp only [List.map_append, List.map_cons, List.map_nil, map_orow_kill, AV.kill, reduceIte, Nat.reduceEqDiff]; done)); done))
  | (apply w_appslr; exact rfl; exact rfl; exact rfl; exact rfl; exact rfl; (focus ((repeat (first | exact rowsOk_nil | exact rowsOk_map rfl | refine rowsOk_cons rfl ?_ | refine rowsOk_app ?_ ?_)); done)); rotate_left 1; (focus (first | exact rfl | (simp only [List.map_append, List.map_cons, List.map_nil, map_orow_kill, AV.kill, reduceIte, Nat.reduceEqDiff]; done)); done); (focus (first | exact rfl | (simp only [List.map_append, List.map_cons, List.map_nil, map_orow_kill, AV.kill, reduceIte, Nat.reduceEqDiff]; done)); done); simp only [Env.mp, List.map_cons, List.map_nil, List.set_cons_zero, List.set_cons_succ, AV.kill, AV.kill1, AO.kill, AV.lose, AV.lose1, List.map_append, map_orow_kill, AV.noRow, AV.noRow1, AO.via, reduceIte, Nat.reduceEqDiff, Nat.reduceLT, Env.up, Nat.zero_ne_one, Nat.one_ne_zero, Nat.reduceAdd, List.cons_append, List.nil_append]; rotate_left 1)
  | ((first | apply w_slshi | apply w_slslo | apply w_bs3 | apply w_sllh | apply w_stbi); iterate 4 exact rfl)
  | (apply w_storp; exact rfl; exact rfl; rotate_left 2; exact rfl; rotate_left 2)
  | omega
  | ((first | apply w_lss | apply w_leq | apply w_gtr | apply w_geq | apply w_eql | apply w_neq | apply w_add | apply w_sub | apply w_mul | apply w_idx | apply w_ld | apply w_fld | apply w_fa | apply w_extv | apply w_min | apply w_max | apply w_slhi | apply w_sllo | apply w_bs2); iterate 3 exact rfl)
  | ((first | apply w_eqlb | apply w_neqb | apply w_idxs | apply w_lds | apply w_ext); iterate 3 exact rfl)
  | (apply w_rem; exact rfl; exact rfl; exact rfl; (focus (omega; done)); (focus (omega; done)))
  | (apply w_quo; exact rfl; exact rfl; exact rfl; (focus (omega; done)); (focus (omega; done)))
  | (apply w_remT; exact rfl; exact rfl; exact rfl)
  | (apply w_quoT; exact rfl; exact rfl; exact rfl)
  | ((first | apply w_not | apply w_neg | apply w_conv | apply w_build0 | apply w_bs1 | apply w_boxa); iterate 2 exact rfl)
  | (apply w_idxo; exact rfl; exact rfl; (first | exact .sli rfl | exact .sls rfl | exact .slr rfl); exact rfl)
  | ((first | apply w_idxr | apply w_ldr); iterate 4 exact rfl)
  | (apply w_ldo; iterate 4 exact rfl)
  | (apply w_ldls; iterate 4 exact rfl)
  | (apply w_ldrp; iterate 4 exact rfl)
  | (apply w_ldb; iterate 5 exact rfl)
  | (apply w_ldst; iterate 5 exact rfl)
  | ((first | apply w_oslo | apply w_oshi | apply w_stbii); iterate 4 exact rfl)
  | (apply w_build1; exact rfl; exact rfl; (first | exact one_val rfl rfl | exact one_ints | exact one_intss | exact one_own rfl True.intro))
  | (apply w_build2; exact rfl; exact rfl; exact rfl; (first | exact one_val rfl rfl | exact one_ints | exact one_intss | exact one_own rfl True.intro); (first | exact one_val rfl rfl | exact one_ints | exact one_intss | exact one_own rfl True.intro))
  | (apply w_bs0; iterate 1 exact rfl)
  | (apply w_appn; exact rfl; exact rfl; (first | exact .ints _ | exact .sli rfl | exact .orow rfl | exact .nil | exact .osub rfl (by simp; omega)); exact rfl)
  | (apply w_app; exact rfl; exact rfl; exact rfl; exact rfl; (first | exact .ints _ | exact .sli rfl | exact .orow rfl | exact .nil | exact .osub rfl (by simp; omega)); rotate_left 1; simp only [Env.mp, List.map_cons, List.map_nil, List.set_cons_zero, List.set_cons_succ, AV.kill, AV.kill1, AO.kill, AV.noRow, AV.noRow1, AO.via, reduceIte, Nat.reduceEqDiff, Nat.reduceLT, Env.up, Nat.zero_ne_one, Nat.one_ne_zero, Nat.reduceAdd, List.cons_append, List.nil_append]; rotate_left 1)
  | (apply w_alst; iterate 2 exact rfl)
  | (apply w_alone; iterate 3 exact rfl)
  | (apply w_sti; exact rfl; exact rfl; rotate_left 1; exact rfl; rotate_left 2)
  | (apply w_stst; iterate 5 exact rfl)
  | (apply w_stbv; iterate 6 exact rfl)
  | (apply w_stbo; exact rfl; exact rfl; exact rfl; exact rfl; exact rfl; exact True.intro)
  | ((apply AOps.splitB; exact rfl; exact rfl) <;> intro h)
  | apply AllOf.nil
  | (apply AllOf.cons; exact rfl)
  | (apply AAny.take; exact rfl; exact rfl; kernel_rfl; kernel_rfl)
  | (apply AAny.all; exact rfl)
  | (apply AAny.done; exact rfl)
  | (apply inI_of <;> omega)
  | omega
  | (simp <;> omega))
        all_goals
          refine ⟨_, _, 4, _, Turns.gather (p := 4) (k := 1) (m := 2) (i1 := List.range' 0 n) (i2 := List.range' n (L.length - n)) rfl rfl rfl rfl (range_nodup (by omega)), .v1 Try.results37 rfl, rfl, ?_, rfl⟩
          rw [hput, rows_take L n n0, rows_drop]
  · have en : n = L.length := by omega
    have ep : zIdx L m = n := zIdx_eq n0 n1 (.inl en)
    have hput : putZ L m e = L.take n ++ [m, e] :: L.drop n := by
      unfold putZ
      rw [ep, if_neg (fun h => hlt h.1)]
    repeat' (first
  | (apply AOps.nil; try simp only [List.nil_append, List.cons_append, List.set_cons_zero, List.set_cons_succ, List.length_cons, List.length_nil, Nat.reduceAdd, AV.sh, AV.sh1, AV.sh0, AO.sh, List.map_cons, List.map_nil, Nat.zero_add, Nat.add_zero, setAll])
  | ((apply AOps.splitP; exact rfl; exact rfl) <;> intro h)
  | ((apply AOps.splitN; exact rfl; exact rfl) <;> intro h)
  | (apply w_move; exact rfl; exact rfl)
  | (apply w_assign; exact rfl; exact rfl)
  | apply AWp.seq
  | apply AWp.region
  | ((apply AWp.condP; exact rfl) <;> intro h)
  | ((apply AWp.condN; exact rfl) <;> intro h)
  | (apply AWp.condT; exact rfl)
  | (apply AWp.condF; exact rfl)
  | ((apply AWp.condB; exact rfl) <;> intro h)
  | apply AWp.block
  | apply AWp.ret
  | apply AWp.exit
  | apply AWp.skip
  | (apply AWp.regionQ; kernel_rfl; kernel_rfl)
  | (apply if_pos'; exact rfl)
  | (apply if_neg'; decide)
  | (apply w_skip; exact rfl)
  | (apply w_pickT; exact rfl; exact rfl; exact rfl)
  | (apply w_pickF; exact rfl; exact rfl; exact rfl)
  | (apply w_len; exact rfl; exact rfl; first | exact .ints _ | exact .intss _ | exact .sli rfl | exact .sls rfl | exact .slr rfl | exact .orow rfl | exact .nil)
  | (apply w_bslr0; exact rfl; try simp only [List.nil_append, List.cons_append, List.set_cons_zero, List.set_cons_succ, List.length_cons, List.length_nil, Nat.reduceAdd, AV.sh, AV.sh1, AV.sh0, AO.sh, List.map_cons, List.map_nil, Nat.zero_add, Nat.add_zero, setAll])
  | (apply w_bslr1; exact rfl; exact rfl; exact rfl; try simp only [List.nil_append, List.cons_append, List.set_cons_zero, List.set_cons_succ, List.length_cons, List.length_nil, Nat.reduceAdd, AV.sh, AV.sh1, AV.sh0, AO.sh, List.map_cons, List.map_nil, Nat.zero_add, Nat.add_zero, setAll])
  | (apply w_appsub; exact rfl; exact rfl; exact rfl; exact rfl; exact rfl; rotate_left 3; simp only [Env.mp, List.map_cons, List.map_nil, List.set_cons_zero, List.set_cons_succ, AV.kill, AV.kill1, AO.kill, AV.lose, AV.lose1, List.map_append, map_orow_kill, AV.noRow, AV.noRow1, AO.via, reduceIte, Nat.reduceEqDiff, Nat.reduceLT, Env.up, Nat.zero_ne_one, Nat.one_ne_zero, Nat.reduceAdd, List.cons_append, List.nil_append]; rotate_left 3; (focus (first | exact rfl | (simp only [List.map_append, List.map_cons, List.map_nil, map_orow_kill, AV.kill, reduceIte, Nat.reduceEqDiff]; done)); done))
  | (apply w_appslr; exact rfl; exact rfl; exact rfl; exact rfl; exact rfl; (focus ((repeat (first | exact rowsOk_nil | exact rowsOk_map rfl | refine rowsOk_cons rfl ?_ | refine rowsOk_app ?_ ?_)); done)); rotate_left 1; (focus (first | exact rfl | (simp only [List.map_append, List.map_cons, List.map_nil, map_orow_kill, AV.kill, reduceIte, Nat.reduceEqDiff]; done)); done); (focus (first | exact rfl | (simp only [List.map_append, List.map_cons, List.map_nil, map_orow_kill, AV.kill, reduceIte, Nat.reduceEqDiff]; done)); done); simp only [Env.mp, List.map_cons, List.map_nil, List.set_cons_zero, List.set_cons_succ, AV.kill, AV.kill1, AO.kill, AV.lose, AV.lose1, List.map_append, map_orow_kill, AV.noRow, AV.noRow1, AO.via, reduceIte, Nat.reduceEqDiff, Nat.reduceLT, Env.up, Nat.zero_ne_one, Nat.one_ne_zero, Nat.reduceAdd, List.cons_append, List.nil_append]; rotate_left 1)
  | ((first | apply w_slshi | apply w_slslo | apply w_bs3 | apply w_sllh | apply w_stbi); iterate 4 exact rfl)
  | (apply w_storp; exact rfl; exact rfl; rotate_left 2; exact rfl; rotate_left 2)
  | omega
  | ((first | apply w_lss | apply w_leq | apply w_gtr | apply w_geq | apply w_eql | apply w_neq | apply w_add | apply w_sub | apply w_mul | apply w_idx | apply w_ld | apply w_fld | apply w_fa | apply w_extv | apply w_min | apply w_max | apply w_slhi | apply w_sllo | apply w_bs2); iterate 3 exact rfl)
  | ((first | apply w_eqlb | apply w_neqb | apply w_idxs | apply w_lds | apply w_ext); iterate 3 exact rfl)
  | (apply w_rem; exact rfl; exact rfl; exact rfl; (focus (omega; done)); (focus (omega; done)))
  | (apply w_quo; exact rfl; exact rfl; exact rfl; (focus (omega; done)); (focus (omega; done)))
  | (apply w_remT; exact rfl; exact rfl; exact rfl)
  | (apply w_quoT; exact rfl; exact rfl; exact rfl)
  | ((first | apply w_not | apply w_neg | apply w_conv | apply w_build0 | apply w_bs1 | apply w_boxa); iterate 2 exact rfl)
  | (apply w_idxo; exact rfl; exact rfl; (first | exact .sli rfl | exact .sls rfl | exact .slr rfl); exact rfl)
  | ((first | apply w_idxr | apply w_ldr); iterate 4 exact rfl)
  | (apply w_ldo; iterate 4 exact rfl)
  | (apply w_ldls; iterate 4 exact rfl)
  | (apply w_ldrp; iterate 4 exact rfl)
  | (apply w_ldb; iterate 5 exact rfl)
  | (apply w_ldst; iterate 5 exact rfl)
  | ((first | apply w_oslo | apply w_oshi | apply w_stbii); iterate 4 exact rfl)
  | (apply w_build1; exact rfl; exact rfl; (first | exact one_val rfl rfl | exact one_ints | exact one_intss | exact one_own rfl True.intro))
  | (apply w_build2; exact rfl; exact rfl; exact rfl; (first | exact one_val rfl rfl | exact one_ints | exact one_intss | exact one_own rfl True.intro); (first | exact one_val rfl rfl | exact one_ints | exact one_intss | exact one_own rfl True.intro))
  | (apply w_bs0; iterate 1 exact rfl)
  | (apply w_appn; exact rfl; exact rfl; (first | exact .ints _ | exact .sli rfl | exact .orow rfl | exact .nil | exact .osub rfl (by simp; omega)); exact rfl)
  | (apply w_app; exact rfl; exact rfl; exact rfl; exact rfl; (first | exact .ints _ | exact .sli rfl | exact .orow rfl | exact .nil | exact .osub rfl (by simp; omega)); rotate_left 1; simp only [Env.mp, List.map_cons, List.map_nil, List.set_cons_zero, List.set_cons_succ, AV.kill, AV.kill1, AO.kill, AV.noRow, AV.noRow1, AO.via, reduceIte, Nat.reduceEqDiff, Nat.reduceLT, Env.up, Nat.zero_ne_one, Nat.one_ne_zero, Nat.reduceAdd, List.cons_append, List.nil_append]; rotate_left 1)
  | (apply w_alst; iterate 2 exact rfl)
  | (apply w_alone; iterate 3 exact rfl)
  | (apply w_sti; exact rfl; exact rfl; rotate_left 1; exact rfl; rotate_left 2)
  | (apply w_stst; iterate 5 exact rfl)
  | (apply w_stbv; iterate 6 exact rfl)
  | (apply w_stbo; exact rfl; exact rfl; exact rfl; exact rfl; exact rfl; exact True.intro)
  | ((apply AOps.splitB; exact rfl; exact rfl) <;> intro h)
  | apply AllOf.nil
  | (apply AllOf.cons; exact rfl)
  | (apply AAny.take; exact rfl; exact rfl; kernel_rfl; kernel_rfl)
  | (apply AAny.all; exact rfl)
  | (apply AAny.done; exact rfl)
  | (apply inI_of <;> omega)
  | omega
  | (simp <;> omega))
    all_goals
      refine ⟨_, _, 4, _, Turns.gather (p := 4) (k := 1) (m := 2) (i1 := List.range' 0 n) (i2 := List.range' n (L.length - n)) rfl rfl rfl rfl (range_nodup (by omega)), .v1 Try.results37 rfl, rfl, ?_, rfl⟩
      rw [hput, rows_take L n n0, rows_drop]
end Go.Proofs.Ytpllbdjobmgikaa
/-
  Counters: the plain law. No condition.
-/
namespace Go.Proofs.Ytpllbdjobmgikaa
open Go Go.RowKit

/-- Rows in order of their numbers, with counts that j changes can make. -/
structure ZI (j : Nat) (L : List (List Int)) : Prop where
  row : ∀ r ∈ L, ZOk (1 + 1000 * (j : Int)) r
  len : L.length ≤ 1 + j
  srt : L.Pairwise fun a b => geti a 0 < geti b 0
theorem zi_mono {j k : Nat} {L : List (List Int)} (h : ZI j L) (hjk : j ≤ k) : ZI k L :=
  ⟨fun r hr => by have := h.row r hr; unfold ZOk at *; omega, by have := h.len; omega, h.srt⟩
theorem zi_nil : ZI 0 [] := ⟨fun r hr => by simp at hr, by simp, by simp⟩
theorem zIdx_le (L : List (List Int)) (m : Int) : zIdx L m ≤ L.length := List.findIdx_le_length
theorem zIdx_lt {L : List (List Int)} {m : Int} {k : Nat} (hk : k < zIdx L m) : geti (L.getD k []) 0 < m := by
  have hl := zIdx_le L m
  have := List.not_of_lt_findIdx (p := fun r => !decide (geti r 0 < m)) (xs := L) hk
  rw [List.getD_eq_getElem?_getD, List.getElem?_eq_getElem (by omega)]
  simpa using this
theorem zIdx_ge {L : List (List Int)} {m : Int} (h : zIdx L m < L.length) : m ≤ geti (L.getD (zIdx L m) []) 0 := by
  have := List.findIdx_getElem (p := fun r => !decide (geti r 0 < m)) (xs := L) (w := h)
  rw [List.getD_eq_getElem?_getD, List.getElem?_eq_getElem h]
  simp only [Option.getD_some]
  simp at this
  exact this
theorem srt_at {L : List (List Int)} (h : L.Pairwise fun a b => geti a 0 < geti b 0) {a b : Nat} (hab : a < b) (hb : b < L.length) : geti (L.getD a []) 0 < geti (L.getD b []) 0 := by
  have := (List.pairwise_iff_getElem.1 h) a b (by omega) hb hab
  rw [List.getD_eq_getElem?_getD, List.getElem?_eq_getElem (by omega), List.getD_eq_getElem?_getD, List.getElem?_eq_getElem hb]
  exact this
theorem zat {j : Nat} {L : List (List Int)} (h : ZI j L) (m : Int) : ZAt L m (zIdx L m) := by
  refine ⟨zIdx_le L m, fun k hk => ?_, fun k hk hl => ?_⟩
  · have := zIdx_lt hk
    unfold gets; rw [Int.toNat_natCast]; exact this
  · have hz := zIdx_ge (L := L) (m := m) (by omega)
    unfold gets; rw [Int.toNat_natCast]
    by_cases e : k = zIdx L m
    · rw [e]; exact hz
    · have := srt_at h.srt (a := zIdx L m) (b := k) (by omega) hl
      omega
theorem at_mem {L : List (List Int)} {k : Nat} (h : k < L.length) : L.getD k [] ∈ L := by
  rw [List.getD_eq_getElem?_getD, List.getElem?_eq_getElem h]; exact List.getElem_mem h
theorem zi_put {j : Nat} {L : List (List Int)} (h : ZI j L) {m e : Int} (hm : 1 ≤ m ∧ m ≤ 1000000) (he : -1000 ≤ e ∧ e ≤ 1000) : ZI (j + 1) (putZ L m e) := by
  have h' := zi_mono h (Nat.le_succ j)
  have hzl := zIdx_le L m
  unfold putZ
  split
  · rename_i hc
    obtain ⟨hc1, hc2⟩ := hc
    have hr := h.row _ (at_mem hc1)
    have hnew : ZOk (1 + 1000 * ((j + 1 : Nat) : Int)) ((L.getD (zIdx L m) []).set 1 (geti (L.getD (zIdx L m) []) 1 + e)) ∧ geti ((L.getD (zIdx L m) []).set 1 (geti (L.getD (zIdx L m) []) 1 + e)) 0 = geti (L.getD (zIdx L m) []) 0 := by
      generalize L.getD (zIdx L m) [] = r at hr ⊢
      obtain ⟨h1, h2, h3⟩ := hr
      match r, h1 with
      | [a, b], _ =>
        have h2' : 1 ≤ a ∧ a ≤ 1000000 := h2
        have h3' : -(1 + 1000 * (j : Int)) ≤ b ∧ b ≤ 1 + 1000 * (j : Int) := h3
        exact ⟨⟨rfl, h2', by show -(1 + 1000 * ((j + 1 : Nat) : Int)) ≤ b + e ∧ b + e ≤ 1 + 1000 * ((j + 1 : Nat) : Int); omega⟩, rfl⟩
    refine ⟨fun r hr => ?_, by rw [List.length_set]; exact h'.len, ?_⟩
    · rcases List.mem_or_eq_of_mem_set hr with hr | rfl
      · exact h'.row r hr
      · exact hnew.1
    · rw [List.pairwise_iff_getElem]
      intro a b ha hb hab
      rw [List.length_set] at ha hb
      have hs := srt_at h.srt hab hb
      rw [List.getD_eq_getElem?_getD, List.getElem?_eq_getElem ha, List.getD_eq_getElem?_getD, List.getElem?_eq_getElem hb] at hs
      simp only [Option.getD_some] at hs
      have key : ∀ (k : Nat) (hk : k < (L.set (zIdx L m) ((L.getD (zIdx L m) []).set 1 (geti (L.getD (zIdx L m) []) 1 + e))).length) (hk' : k < L.length), geti ((L.set (zIdx L m) ((L.getD (zIdx L m) []).set 1 (geti (L.getD (zIdx L m) []) 1 + e)))[k]) 0 = geti L[k] 0 := by
        intro k hk hk'
        rw [List.getElem_set]
        split
        · rename_i e1
          subst e1
          rw [hnew.2, List.getD_eq_getElem?_getD, List.getElem?_eq_getElem hc1]
          rfl
        · rfl
      rw [key a _ ha, key b _ hb]
      exact hs
  · rename_i hc
    have hgt : zIdx L m < L.length → m < geti (L.getD (zIdx L m) []) 0 := fun hl => by
      have := zIdx_ge hl
      have : geti (L.getD (zIdx L m) []) 0 ≠ m := fun e => hc ⟨hl, e⟩
      omega
    refine ⟨fun r hr => ?_, ?_, ?_⟩
    · rcases List.mem_append.1 hr with hr | hr
      · exact h'.row r (List.mem_of_mem_take hr)
      · rcases List.mem_cons.1 hr with rfl | hr
        · exact ⟨rfl, hm, by show -(1 + 1000 * ((j + 1 : Nat) : Int)) ≤ e ∧ e ≤ 1 + 1000 * ((j + 1 : Nat) : Int); omega⟩
        · exact h'.row r (List.mem_of_mem_drop hr)
    · have := h.len
      simp
      omega
    · rw [List.pairwise_append]
      refine ⟨h.srt.sublist (List.take_sublist _ _), ?_, fun a ha b hb => ?_⟩
      · rw [List.pairwise_cons]
        refine ⟨fun b hb => ?_, h.srt.sublist (List.drop_sublist _ _)⟩
        obtain ⟨k, hk, rfl⟩ := List.getElem_of_mem hb
        rw [List.length_drop] at hk
        rw [List.getElem_drop]
        have h1 := hgt (by omega)
        have e0 : geti [m, e] 0 = m := rfl
        rw [e0]
        by_cases ek : k = 0
        · subst ek
          rw [List.getD_eq_getElem?_getD, List.getElem?_eq_getElem (by omega)] at h1
          exact h1
        · have := srt_at h.srt (a := zIdx L m) (b := zIdx L m + k) (by omega) (by omega)
          rw [List.getD_eq_getElem?_getD (i := zIdx L m + k), List.getElem?_eq_getElem (by omega)] at this
          simp only [Option.getD_some] at this
          omega
      · obtain ⟨k, hk, rfl⟩ := List.getElem_of_mem ha
        have hk' : k < zIdx L m := by rw [List.length_take] at hk; omega
        have h1 := zIdx_lt hk'
        rw [List.getD_eq_getElem?_getD, List.getElem?_eq_getElem (by omega)] at h1
        rw [List.getElem_take]
        rcases List.mem_cons.1 hb with rfl | hb
        · exact h1
        · obtain ⟨k2, hk2, rfl⟩ := List.getElem_of_mem hb
          rw [List.length_drop] at hk2
          rw [List.getElem_drop]
          have := (List.pairwise_iff_getElem.1 h.srt) k (zIdx L m + k2) (by omega) (by omega) (by omega)
          exact this
end Go.Proofs.Ytpllbdjobmgikaa
