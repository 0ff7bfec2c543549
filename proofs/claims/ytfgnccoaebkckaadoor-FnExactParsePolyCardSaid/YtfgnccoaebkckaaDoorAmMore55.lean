/-
  Texts as plain values; own slices of plain values; a text made of own bytes. No condition.
-/
import Derived.Test.YtfgnccoaebkckaaDoorAmMore11
import Derived.Test.YtfgnccoaebkckaaDoorAmAny
import Derived.Laws.IdiomStrings
import Derived.Laws.Strings2
import Derived.Laws.Slices
import Derived.Laws.Concat
namespace Go.Proofs.YtfgnccoaebkckaaDoor
open Go Go.RowKit

/-- A text, by its bytes. -/
abbrev sV (l : List UInt8) : Value := .string ⟨l.toArray⟩
abbrev AV.s (l : List UInt8) : AV := .val (.string ⟨l.toArray⟩)
abbrev AV.u (n : Int) : AV := .val (.int .u8 n)
def bt (l : List UInt8) (i : Int) : Int := ((l.getD i.toNat 0).toNat : Int)
theorem bt_le (l : List UInt8) (i : Int) : 0 ≤ bt l i ∧ bt l i ≤ 255 := by
  unfold bt
  have := (l.getD i.toNat 0).toNat_lt
  omega
theorem ba_size (l : List UInt8) : (⟨l.toArray⟩ : ByteArray).size = l.length := by simp [ByteArray.size]
theorem ba_inj {a b : List UInt8} : ((⟨a.toArray⟩ : ByteArray).toList == (⟨b.toArray⟩ : ByteArray).toList) = decide (a = b) := by
  rw [ByteArray.toList_mk, ByteArray.toList_mk, Bool.eq_iff_iff]; simp

section
variable {P : Program} {env : Env} {os : List AO} {d : Option Tmp} {ty : TypeId} {pos : String} {af : Array Edge} {g : Option (Nat × Bool)} {wl : Bool}
theorem q_slen {t : TypeId} [ht : TStr P t] {x : Operand} {l : List UInt8} (hx : AV.ev env x = .s l) :
    QOp P wl ⟨d, .call { callee := .builtin .len, args := #[x], argTypes := #[t] }, ty, pos, af, g⟩ env os (.i l.length) :=
  .of_run fun _ w gs tm hr => ⟨_, .val _, fun w' _ => by
    have := run_len_string (P := P) w' t ty ⟨l.toArray⟩ ht.und
    rw [ba_size] at this
    simp only [execOp, resolve, invoke, builtin, hr.evv hx, Sem.run_bind, Sem.run_pure, Result.andThen_ok, List.map_toArray, List.map_cons, List.map_nil, this, goInt]⟩
theorem q_sidx {t : TypeId} [ht : TStr P t] {x y : Operand} {l : List UInt8} {i : Int} (hx : AV.ev env x = .s l) (hy : AV.ev env y = .i i) (h0 : 0 ≤ i) (h1 : i < l.length) :
    QOp P wl ⟨d, .index t x y, ty, pos, af, g⟩ env os (.u (bt l i)) :=
  .of_run fun _ w gs tm hr => ⟨_, .val _, fun w' _ => by
    have := run_index_string (P := P) w' t ⟨l.toArray⟩ .i64 i ht.und
    rw [dif_pos (by rw [ba_size]; exact ⟨h0, h1⟩)] at this
    have e : ((⟨l.toArray⟩ : ByteArray)[i.toNat]'(by rw [ba_size]; omega)) = l.getD i.toNat 0 := by
      rw [List.getD_eq_getElem?_getD, List.getElem?_eq_getElem (by omega)]
      rfl
    rw [e] at this
    simp only [execOp, hr.evv hx, hr.evv hy, Sem.run_bind, Sem.run_pure, Result.andThen_ok, this, bt]⟩
theorem q_shi {t : TypeId} [ht : TStr P t] {x y : Operand} {l : List UInt8} {n : Int} (hx : AV.ev env x = .s l) (hy : AV.ev env y = .i n) (h0 : 0 ≤ n) (h1 : n ≤ l.length) :
    QOp P wl ⟨d, .slice t x none (some y) none, ty, pos, af, g⟩ env os (.s (l.take n.toNat)) :=
  .of_run fun _ w gs tm hr => ⟨_, .val _, fun w' _ => by
    have := run_slice_string_h (P := P) w' t ⟨l.toArray⟩ ht.und .i64 n h0 (by rw [ba_size]; exact h1)
    rw [ByteArray.extract_mk] at this
    simp only [List.drop_zero, Nat.sub_zero] at this
    simp only [execOp, hr.evv hx, hr.evv hy, Sem.run_bind, Sem.run_pure, Result.andThen_ok, Option.map_some, Option.map_none, run_sliceAt_string _ _ _ _ _ _ ht.und, this]⟩
theorem q_slo {t : TypeId} [ht : TStr P t] {x y : Operand} {l : List UInt8} {n : Int} (hx : AV.ev env x = .s l) (hy : AV.ev env y = .i n) (h0 : 0 ≤ n) (h1 : n ≤ l.length) :
    QOp P wl ⟨d, .slice t x (some y) none none, ty, pos, af, g⟩ env os (.s (l.drop n.toNat)) :=
  .of_run fun _ w gs tm hr => ⟨_, .val _, fun w' _ => by
    have := run_slice_string_l (P := P) w' t ⟨l.toArray⟩ ht.und .i64 n h0 (by rw [ba_size]; exact h1)
    rw [ByteArray.extract_mk, ba_size, List.take_of_length_le (by simp)] at this
    simp only [execOp, hr.evv hx, hr.evv hy, Sem.run_bind, Sem.run_pure, Result.andThen_ok, Option.map_some, Option.map_none, run_sliceAt_string _ _ _ _ _ _ ht.und, this]⟩
theorem q_slh {t : TypeId} [ht : TStr P t] {x y z : Operand} {l : List UInt8} {m n : Int} (hx : AV.ev env x = .s l) (hy : AV.ev env y = .i m) (hz : AV.ev env z = .i n) (h0 : 0 ≤ m) (h1 : m ≤ n) (h2 : n ≤ l.length) :
    QOp P wl ⟨d, .slice t x (some y) (some z) none, ty, pos, af, g⟩ env os (.s ((l.take n.toNat).drop m.toNat)) :=
  .of_run fun _ w gs tm hr => ⟨_, .val _, fun w' _ => by
    have := run_slice_string (P := P) w' t ⟨l.toArray⟩ .i64 .i64 m n ht.und h0 h1 (by rw [ba_size]; exact h2)
    rw [ByteArray.extract_mk, ← List.drop_take] at this
    simp only [execOp, hr.evv hx, hr.evv hy, hr.evv hz, Sem.run_bind, Sem.run_pure, Result.andThen_ok, Option.map_some, Option.map_none, run_sliceAt_string _ _ _ _ _ _ ht.und, this]⟩
theorem q_sadd {xt yt : TypeId} {x y : Operand} {a b : List UInt8} (hx : AV.ev env x = .s a) (hy : AV.ev env y = .s b) (hl : (a.length : Int) + b.length ≤ 9223372036854775807) :
    QOp P wl ⟨d, .binOp .add xt x y yt, ty, pos, af, g⟩ env os (.s (a ++ b)) :=
  q_bin hx hy (by simp [go_sem]) fun w => by
    rw [binOp_string_add, run_string_add_sum w _ _ (by rw [ba_size, ba_size]; omega), ByteArray.mk_append_mk]
theorem q_seql {xt yt : TypeId} {x y : Operand} {a b : List UInt8} (hx : AV.ev env x = .s a) (hy : AV.ev env y = .s b) :
    QOp P wl ⟨d, .binOp .eql xt x y yt, ty, pos, af, g⟩ env os (.b (decide (a = b))) :=
  q_bin hx hy (by simp [go_sem]) fun w => by rw [binOp_string_eql, ba_inj, Sem.run_pure]
theorem q_sneq {xt yt : TypeId} {x y : Operand} {a b : List UInt8} (hx : AV.ev env x = .s a) (hy : AV.ev env y = .s b) :
    QOp P wl ⟨d, .binOp .neq xt x y yt, ty, pos, af, g⟩ env os (.b (decide (a ≠ b))) :=
  q_bin hx hy (by simp [go_sem]) fun w => by
    have : binOp .neq xt (.string ⟨a.toArray⟩) (.string ⟨b.toArray⟩) = pure (.bool (!((⟨a.toArray⟩ : ByteArray).toList == (⟨b.toArray⟩ : ByteArray).toList))) := by simp [binOp, Op.stringOp]
    rw [this, ba_inj, Sem.run_pure]
    simp
theorem q_usub {xt yt : TypeId} {x y : Operand} {a b : Int} (ha : AV.ev env x = .u a) (hb : AV.ev env y = .u b) (h0 : b ≤ a) (h1 : a - b ≤ 255) :
    QOp P wl ⟨d, .binOp .sub xt x y yt, ty, pos, af, g⟩ env os (.u (a - b)) :=
  q_bin ha hb (by simp [go_sem]) fun w => by simp [go_sem, IntWalk.u8_in (a - b) ⟨by omega, h1⟩]
theorem q_uconv {src dst : TypeId} [hs : TKind P src .u8] [hd : TKind P dst .i64] {x : Operand} {a : Int} (ha : AV.ev env x = .u a) (h0 : 0 ≤ a) (h1 : a ≤ 255) :
    QOp P wl ⟨d, .convert src dst x, ty, pos, af, g⟩ env os (.i a) :=
  .of_run fun _ _ _ tm hr => ⟨_, .val _, fun w' _ => by simp [execOp, hr.evv ha, convert, run_underlying hs.und, run_underlying hd.und, Conv.intToInt, IntWalk.i64_in a ⟨by omega, by omega⟩]⟩
theorem q_iconv {src dst : TypeId} [hs : TKind P src .i64] [hd : TKind P dst .u8] {x : Operand} {a : Int} (ha : AV.ev env x = .i a) (h0 : 0 ≤ a) (h1 : a ≤ 255) :
    QOp P wl ⟨d, .convert src dst x, ty, pos, af, g⟩ env os (.u a) :=
  .of_run fun _ _ _ tm hr => ⟨_, .val _, fun w' _ => by simp [execOp, hr.evv ha, convert, run_underlying hs.und, run_underlying hd.und, Conv.intToInt, IntWalk.u8_in a ⟨h0, h1⟩]⟩

/-- A literal slice without elements. -/
theorem l_bv0 {t e : TypeId} {z : Value} {bytes : Nat} [ht : TSlice P t e] [he : TElem P e z bytes] (_h1 : z.cells = #[z]) : LOp P ⟨d, .buildSlice t 0 #[], ty, pos, af, g⟩ env os (.own os.length) env (os ++ [.slr e []]) := by
  refine l_new fun base w gs tm hr => ?_
  obtain ⟨ii, hi, hs, hz, hby⟩ := he.info
  have hbel := below_alloc w (.cells ([] : List Value).toArray e)
  refine ⟨w.alloc (.cells ([] : List Value).toArray e), ⟨.slice (some ⟨w.heap.size, 0, none⟩) 0 0, w.heap.size, [w.heap.size], []⟩, ?_, hbel, fun b hb => by simp at hb; simp; omega, fun ok gs' => ⟨[], ⟨rfl, .inr ⟨w.heap.size, 0, _, rfl, Nat.le_trans hr.hb (Nat.le_refl _), heap_alloc_new w _, Nat.le_refl _, by simp [maxLen], by simp, by simp⟩⟩, rfl, fun i => .any _, .inr ⟨rfl, rfl⟩⟩⟩
  simp [execOp, Instr.buildSlice, run_underlying ht.und, sizeOf, typeInfo, hi, Instr.fill, newRow, ar0]
/-- A literal slice of one plain value. -/
theorem l_bv1 {t e : TypeId} {z : Value} {bytes : Nat} [ht : TSlice P t e] [he : TElem P e z bytes] {x : Operand} {v : Value} (hx : AV.ev env x = .val v) (h1 : v.cells = #[v]) (hz1 : z.cells = #[z]) :
    LOp P ⟨d, .buildSlice t 1 #[(0, x)], ty, pos, af, g⟩ env os (.own os.length) env (os ++ [.slr e [.val v]]) := by
  refine l_new fun base w gs tm hr => ?_
  obtain ⟨ii, hi, hs, hz, hby⟩ := he.info
  have hbel := below_alloc w (.cells [v].toArray e)
  refine ⟨w.alloc (.cells [v].toArray e), ⟨.slice (some ⟨w.heap.size, 0, none⟩) 1 1, w.heap.size, [w.heap.size], []⟩, ?_, hbel, fun b hb => by simp at hb; simp; omega, fun ok gs' => ⟨[v], ⟨rfl, .inr ⟨w.heap.size, 1, _, rfl, Nat.le_trans hr.hb (Nat.le_refl _), heap_alloc_new w _, Nat.le_refl _, by simp [maxLen], by simp, by simp⟩⟩, rfl, fun i => ?_, .inr ⟨rfl, rfl⟩⟩⟩
  · simp [execOp, Instr.buildSlice, run_underlying ht.und, sizeOf, typeInfo, zeroValue, hi, hs, hz, Instr.fill, newRow, hr.evv hx, h1, hz1, ar1]
  · match i with
    | 0 => exact .val _
    | i + 1 => exact .any _
/-- A text made of one own byte. -/
theorem q_b2s {src dst e : TypeId} [hs : TSlice P src e] [he : TKind P e .u8] [hd : TStr P dst] {x : Operand} {h : Nat} {e' : TypeId} {n : Int} (hx : AV.ev env x = .own h) (ho : os[h]? = some (.slr e' [.u n])) (h0 : 0 ≤ n) (h1 : n ≤ 255) :
    QOp P false ⟨d, .convert src dst x, ty, pos, af, g⟩ env os (.s [UInt8.ofNat n.toNat]) :=
  .of_runb fun _ w gs tm hr => by
    have hh := hr.ev x
    rw [hx] at hh
    generalize hv : Act.eval ⟨tm, []⟩ x = v at hh
    cases hh with
    | own hg =>
      obtain ⟨vs, a1, a2, a3, a4⟩ := hr.ho _ _ _ hg ho
      obtain ⟨b, cap, e1, e2, e3, _⟩ := own_slice a1 (i := 0) (by rw [a2]; simp)
      have hv0 := a3 0
      match vs, a2 with
      | [u], _ =>
        simp at hv0
        cases hv0
        refine ⟨_, .val _, fun w' hw' => ?_⟩
        have hcell : w'.cell? ⟨b, 0, none⟩ = some (.int .u8 n) := below_cell hw' (by rw [e3]; rfl)
        have := run_convert_bytes_back (P := P) w' src dst e ⟨b, 0, none⟩ cap [UInt8.ofNat n.toNat] hs.und he.und hd.und (fun j hj => by
          have : j = 0 := by simpa using hj
          subst this
          rw [add_none]
          simp only [Nat.add_zero, List.getElem_cons_zero]
          rw [hcell]
          have : (UInt8.ofNat n.toNat).toNat = n.toNat := by rw [UInt8.toNat_ofNat']; omega
          rw [this]; congr 2; omega)
        simp only [execOp, hv, e1, Sem.run_bind]
        simp only [List.length_cons, List.length_nil] at this ⊢
        rw [this]; rfl
end

section
variable {P : Program} {env : Env} {os : List AO} {fn : Func} {t u s : Tmp}
theorem ResIs.str (h : fn.results = #[.tmp t]) {a b : List UInt8} (ht : env.fd t = some (.s a)) (e : a = b) : ResIs P fn env os (.val (sV b)) := e ▸ .v1 h ht
theorem ResIs.strint (h : fn.results = #[.tmp t, .tmp u]) {a a' : List UInt8} {b b' : Int} (ht : env.fd t = some (.s a)) (hu : env.fd u = some (.i b)) (e1 : a = a') (e2 : b = b') : ResIs P fn env os (.val (.tuple #[sV a', .int .i64 b'])) := e1 ▸ e2 ▸ .vv2 h ht hu
theorem ResIs.intstr (h : fn.results = #[.tmp t, .tmp u]) {a a' : List UInt8} {b b' : Int} (ht : env.fd t = some (.i b)) (hu : env.fd u = some (.s a)) (e1 : b = b') (e2 : a = a') : ResIs P fn env os (.val (.tuple #[.int .i64 b', sV a'])) := e1 ▸ e2 ▸ .vv2 h ht hu
theorem ResIs.isb (h : fn.results = #[.tmp t, .tmp u, .tmp s]) {a a' : List UInt8} {b b' : Int} {c c' : Bool} (ht : env.fd t = some (.i b)) (hu : env.fd u = some (.s a)) (hs : env.fd s = some (.b c)) (e1 : b = b') (e2 : a = a') (e3 : c = c') : ResIs P fn env os (.val (.tuple #[.int .i64 b', sV a', .bool c'])) := e1 ▸ e2 ▸ e3 ▸ .vv3 h ht hu hs
theorem ResIs.ssb (h : fn.results = #[.tmp t, .tmp u, .tmp s]) {a a' d d' : List UInt8} {c c' : Bool} (ht : env.fd t = some (.s a)) (hu : env.fd u = some (.s d)) (hs : env.fd s = some (.b c)) (e1 : a = a') (e2 : d = d') (e3 : c = c') : ResIs P fn env os (.val (.tuple #[sV a', sV d', .bool c'])) := e1 ▸ e2 ▸ e3 ▸ .vv3 h ht hu hs
end
/-- Own slices of texts. -/
def sL (ss : List (List UInt8)) : List AV := ss.map AV.s
theorem sL_len (ss : List (List UInt8)) : (sL ss).length = ss.length := List.length_map _
theorem sL_kill (h : Nat) (ss : List (List UInt8)) : (sL ss).map (AV.kill h) = sL ss := by unfold sL; rw [List.map_map]; rfl
theorem sL_lim (n : Nat) (ss : List (List UInt8)) : (sL ss).map (AV.lim n) = sL ss := by unfold sL; rw [List.map_map]; rfl
theorem sL_sh (n : Nat) (ss : List (List UInt8)) : (sL ss).map (AV.sh n) = sL ss := by unfold sL; rw [List.map_map]; rfl
theorem sL_ren (n : List Nat) (ss : List (List UInt8)) : (sL ss).map (AV.ren n) = sL ss := by unfold sL; rw [List.map_map]; rfl
theorem sL_noRow (n : Nat) (ss : List (List UInt8)) : (sL ss).map (AV.noRow n) = sL ss := by unfold sL; rw [List.map_map]; rfl
theorem sL_rin (k p j : Nat) (ss : List (List UInt8)) : (sL ss).map (AV.rin k p j) = sL ss := by unfold sL; rw [List.map_map]; rfl
theorem sL_get {ss : List (List UInt8)} {i : Nat} (h : i < ss.length) : (sL ss)[i]? = some (.s (ss.getD i [])) := by
  unfold sL; rw [List.getElem?_map, List.getD_eq_getElem?_getD, List.getElem?_eq_getElem h]; rfl
theorem src_val {env : Env} {os : List AO} {y : Operand} {q : Nat} {e : TypeId} {avs : List AV} (hy : AV.ev env y = .own q) (hs : os[q]? = some (.slr e avs)) (hok : ∀ a ∈ avs, ∃ v, a = .val v ∧ v.oneCell' = true) : Src env os y avs := by
  intro base w gs tm hr
  have hyv := hr.ev y
  rw [hy] at hyv
  generalize hv : Act.eval ⟨tm, []⟩ y = v at hyv
  cases hyv with
  | @own _ gh hg =>
    obtain ⟨vs, a1, a2, a3, a4⟩ := hr.ho _ _ _ hg hs
    obtain ⟨a, cap, q1, q2, q3, q4⟩ := RowAt.of_owns a1
    rw [a2] at q1 q2 q4
    refine ⟨a, cap, vs, q1, a2, fun h0 => ?_, fun u hu => ?_, a3⟩
    · obtain ⟨b, off, r1, _, r3⟩ := q4 h0
      exact ⟨_, r1, fun j u hj => by rw [add_none]; exact r3 j u hj⟩
    · obtain ⟨j, hj⟩ := List.getElem?_of_mem hu
      have hjl := (List.getElem?_eq_some_iff.1 hj).1
      have := a3 j
      rw [List.getD_eq_getElem?_getD, hj, List.getD_eq_getElem?_getD, List.getElem?_eq_getElem (by omega)] at this
      obtain ⟨v, e1, e2⟩ := hok _ (List.getElem_mem (by omega : j < avs.length))
      simp only [Option.getD_some] at this
      rw [e1] at this
      cases this
      exact e2

section
variable {P : Program} {env : Env} {os : List AO} {d : Tmp} {ty : TypeId} {pos : String} {af : Array Edge} {g : Option (Nat × Bool)} {l rest : List Oper} {K : APost} {q : Md}
theorem w_slen {t : TypeId} [TStr P t] {x : Operand} {s : List UInt8} (hw : wantedA l env ⟨some d, .call { callee := .builtin .len, args := #[x], argTypes := #[t] }, ty, pos, af, g⟩ = some true) (hx : evo env x = some (.s s))
    (h' : AOps P q l rest K (env.up d (.i s.length)) os) : AOps P q l (⟨some d, .call { callee := .builtin .len, args := #[x], argTypes := #[t] }, ty, pos, af, g⟩ :: rest) K env os := AOps.qo hw (q_slen (ev_of hx)) h'
theorem w_sidx {t : TypeId} [TStr P t] {x y : Operand} {s : List UInt8} {i : Int} (hw : wantedA l env ⟨some d, .index t x y, ty, pos, af, g⟩ = some true) (hx : evo env x = some (.s s)) (hy : evo env y = some (.i i)) (h0 : 0 ≤ i) (h1 : i < s.length)
    (h' : AOps P q l rest K (env.up d (.u (bt s i))) os) : AOps P q l (⟨some d, .index t x y, ty, pos, af, g⟩ :: rest) K env os := AOps.qo hw (q_sidx (ev_of hx) (ev_of hy) h0 h1) h'
theorem w_shi {t : TypeId} [TStr P t] {x y : Operand} {s : List UInt8} {n : Int} (hw : wantedA l env ⟨some d, .slice t x none (some y) none, ty, pos, af, g⟩ = some true) (hx : evo env x = some (.s s)) (hy : evo env y = some (.i n)) (h0 : 0 ≤ n) (h1 : n ≤ s.length)
    (h' : AOps P q l rest K (env.up d (.s (s.take n.toNat))) os) : AOps P q l (⟨some d, .slice t x none (some y) none, ty, pos, af, g⟩ :: rest) K env os := AOps.qo hw (q_shi (ev_of hx) (ev_of hy) h0 h1) h'
theorem w_slo {t : TypeId} [TStr P t] {x y : Operand} {s : List UInt8} {n : Int} (hw : wantedA l env ⟨some d, .slice t x (some y) none none, ty, pos, af, g⟩ = some true) (hx : evo env x = some (.s s)) (hy : evo env y = some (.i n)) (h0 : 0 ≤ n) (h1 : n ≤ s.length)
    (h' : AOps P q l rest K (env.up d (.s (s.drop n.toNat))) os) : AOps P q l (⟨some d, .slice t x (some y) none none, ty, pos, af, g⟩ :: rest) K env os := AOps.qo hw (q_slo (ev_of hx) (ev_of hy) h0 h1) h'
theorem w_slh {t : TypeId} [TStr P t] {x y z : Operand} {s : List UInt8} {m n : Int} (hw : wantedA l env ⟨some d, .slice t x (some y) (some z) none, ty, pos, af, g⟩ = some true) (hx : evo env x = some (.s s)) (hy : evo env y = some (.i m)) (hz : evo env z = some (.i n)) (h0 : 0 ≤ m) (h1 : m ≤ n) (h2 : n ≤ s.length)
    (h' : AOps P q l rest K (env.up d (.s ((s.take n.toNat).drop m.toNat))) os) : AOps P q l (⟨some d, .slice t x (some y) (some z) none, ty, pos, af, g⟩ :: rest) K env os := AOps.qo hw (q_slh (ev_of hx) (ev_of hy) (ev_of hz) h0 h1 h2) h'
theorem w_sadd {xt yt : TypeId} {x y : Operand} {a b : List UInt8} (hw : wantedA l env ⟨some d, .binOp .add xt x y yt, ty, pos, af, g⟩ = some true) (hx : evo env x = some (.s a)) (hy : evo env y = some (.s b)) (hl : (a.length : Int) + b.length ≤ 9223372036854775807)
    (h' : AOps P q l rest K (env.up d (.s (a ++ b))) os) : AOps P q l (⟨some d, .binOp .add xt x y yt, ty, pos, af, g⟩ :: rest) K env os := AOps.qo hw (q_sadd (ev_of hx) (ev_of hy) hl) h'
theorem w_seql {xt yt : TypeId} {x y : Operand} {a b : List UInt8} (hw : wantedA l env ⟨some d, .binOp .eql xt x y yt, ty, pos, af, g⟩ = some true) (hx : evo env x = some (.s a)) (hy : evo env y = some (.s b))
    (h' : AOps P q l rest K (env.up d (.b (decide (a = b)))) os) : AOps P q l (⟨some d, .binOp .eql xt x y yt, ty, pos, af, g⟩ :: rest) K env os := AOps.qo hw (q_seql (ev_of hx) (ev_of hy)) h'
theorem w_sneq {xt yt : TypeId} {x y : Operand} {a b : List UInt8} (hw : wantedA l env ⟨some d, .binOp .neq xt x y yt, ty, pos, af, g⟩ = some true) (hx : evo env x = some (.s a)) (hy : evo env y = some (.s b))
    (h' : AOps P q l rest K (env.up d (.b (decide (a ≠ b)))) os) : AOps P q l (⟨some d, .binOp .neq xt x y yt, ty, pos, af, g⟩ :: rest) K env os := AOps.qo hw (q_sneq (ev_of hx) (ev_of hy)) h'
theorem w_usub {xt yt : TypeId} {x y : Operand} {a b : Int} (hw : wantedA l env ⟨some d, .binOp .sub xt x y yt, ty, pos, af, g⟩ = some true) (hx : evo env x = some (.u a)) (hy : evo env y = some (.u b)) (h0 : b ≤ a) (h1 : a - b ≤ 255)
    (h' : AOps P q l rest K (env.up d (.u (a - b))) os) : AOps P q l (⟨some d, .binOp .sub xt x y yt, ty, pos, af, g⟩ :: rest) K env os := AOps.qo hw (q_usub (ev_of hx) (ev_of hy) h0 h1) h'
theorem w_uconv {src dst : TypeId} [TKind P src .u8] [TKind P dst .i64] {x : Operand} {a : Int} (hw : wantedA l env ⟨some d, .convert src dst x, ty, pos, af, g⟩ = some true) (hx : evo env x = some (.u a)) (h0 : 0 ≤ a) (h1 : a ≤ 255)
    (h' : AOps P q l rest K (env.up d (.i a)) os) : AOps P q l (⟨some d, .convert src dst x, ty, pos, af, g⟩ :: rest) K env os := AOps.qo hw (q_uconv (ev_of hx) h0 h1) h'
theorem w_iconv {src dst : TypeId} [TKind P src .i64] [TKind P dst .u8] {x : Operand} {a : Int} (hw : wantedA l env ⟨some d, .convert src dst x, ty, pos, af, g⟩ = some true) (hx : evo env x = some (.i a)) (h0 : 0 ≤ a) (h1 : a ≤ 255)
    (h' : AOps P q l rest K (env.up d (.u a)) os) : AOps P q l (⟨some d, .convert src dst x, ty, pos, af, g⟩ :: rest) K env os := AOps.qo hw (q_iconv (ev_of hx) h0 h1) h'
theorem w_b2s {src dst e : TypeId} [TSlice P src e] [TKind P e .u8] [TStr P dst] {x : Operand} {h : Nat} {e' : TypeId} {n : Int} (hw : wantedA l env ⟨some d, .convert src dst x, ty, pos, af, g⟩ = some true) (hq : q.wl = false) (hx : evo env x = some (.own h)) (ho : os[h]? = some (.slr e' [.u n])) (h0 : 0 ≤ n) (h1 : n ≤ 255)
    (h' : AOps P q l rest K (env.up d (.s [UInt8.ofNat n.toNat])) os) : AOps P q l (⟨some d, .convert src dst x, ty, pos, af, g⟩ :: rest) K env os := AOps.qo hw (by rw [hq]; exact q_b2s (ev_of hx) ho h0 h1) h'
theorem w_bu1 {t e : TypeId} {bytes : Nat} [TSlice P t e] [TElem P e (.int .u8 0) bytes] {x : Operand} {n : Int} {m : Nat} (hx : evo env x = some (.u n)) (hm : os.length = m)
    (h' : AOps P .seq l rest K (env.up d (.own m)) (os ++ [.slr e [.u n]])) : AOps P .seq l (⟨some d, .buildSlice t 1 #[(0, x)], ty, pos, af, none⟩ :: rest) K env os := AOps.lo (hm ▸ l_bv1 (ev_of hx) rfl rfl) h'
theorem w_bS1 {t e : TypeId} {bytes : Nat} [TSlice P t e] [TElem P e (.string ⟨#[]⟩) bytes] {x : Operand} {s : List UInt8} {m : Nat} (hx : evo env x = some (.s s)) (hm : os.length = m)
    (h' : AOps P .seq l rest K (env.up d (.own m)) (os ++ [.slr e (sL [s])])) : AOps P .seq l (⟨some d, .buildSlice t 1 #[(0, x)], ty, pos, af, none⟩ :: rest) K env os := AOps.lo (hm ▸ l_bv1 (ev_of hx) rfl rfl) h'
theorem w_bS0 {t e : TypeId} {bytes : Nat} [TSlice P t e] [TElem P e (.string ⟨#[]⟩) bytes] {m : Nat} (hm : os.length = m)
    (h' : AOps P .seq l rest K (env.up d (.own m)) (os ++ [.slr e (sL [])])) : AOps P .seq l (⟨some d, .buildSlice t 0 #[], ty, pos, af, none⟩ :: rest) K env os := AOps.lo (hm ▸ l_bv0 rfl) h'
theorem w_appS {t e : TypeId} {bytes : Nat} [TSlice P t e] [TElem P e (.string ⟨#[]⟩) bytes] {x y : Operand} {p h : Nat} {e' e1 : TypeId} {ss us : List (List UInt8)}
    (hx : evo env x = some (.own p)) (hs : os[p]? = some (.slr e' (sL ss))) (hee : e' = e) (hy : evo env y = some (.own h)) (hh : os[h]? = some (.slr e1 (sL us))) (hb : (ss.length + us.length) * bytes ≤ 140737488355328)
    (h' : AOps P .seq l rest K (Env.up (env.mp (AV.kill p)) d (.own p)) ((os.map (AO.kill p)).set p (.slr e (sL (ss ++ us))))) :
    AOps P .seq l (⟨some d, .call { callee := .builtin .append, args := #[x, y], argTypes := #[t, t] }, ty, pos, af, none⟩ :: rest) K env os :=
  AOps.lo (l_append_src (avs := sL ss) (new := sL us) (ev_of hx) hs hee (src_val (ev_of hy) hh fun a ha => by
    obtain ⟨u, _, rfl⟩ := List.mem_map.1 ha
    exact ⟨_, rfl, rfl⟩) (by rw [sL_len, sL_len]; exact hb) (sL_kill _ _) (sL_kill _ _)) (by
    have e2 : sL ss ++ sL us = sL (ss ++ us) := by unfold sL; rw [List.map_append]
    rw [e2]; exact h')
theorem w_lenS {t e0 : TypeId} [TSlice P t e0] {x : Operand} {h : Nat} {e : TypeId} {ss : List (List UInt8)} (hw : wantedA l env ⟨some d, .call { callee := .builtin .len, args := #[x], argTypes := #[t] }, ty, pos, af, g⟩ = some true) (hx : evo env x = some (.own h)) (hs : os[h]? = some (.slr e (sL ss)))
    (h' : AOps P q l rest K (env.up d (.i ss.length)) os) : AOps P q l (⟨some d, .call { callee := .builtin .len, args := #[x], argTypes := #[t] }, ty, pos, af, g⟩ :: rest) K env os :=
  w_len hw hx (.slr hs) (by rw [sL_len]; exact h')
theorem w_idxS {t e : TypeId} [TSlice P t e] [TCell P e] {x y : Operand} {h : Nat} {e' : TypeId} {ss : List (List UInt8)} {i : Int} (hw : wantedA l env ⟨some d, .indexAddr t x y, ty, pos, af, g⟩ = some true) (hx : evo env x = some (.own h)) (hs : os[h]? = some (.slr e' (sL ss))) (hy : evo env y = some (.i i)) (h0 : 0 ≤ i) (h1 : i < ss.length)
    (h' : AOps P q l rest K (env.up d (.optr h i.toNat)) os) : AOps P q l (⟨some d, .indexAddr t x y, ty, pos, af, g⟩ :: rest) K env os := w_idxo hw hx (.slr hs) hy h0 (by rw [sL_len]; exact h1) h'
theorem w_ldS {t : TypeId} [TCell P t] {x : Operand} {h i : Nat} {e : TypeId} {ss : List (List UInt8)} (hw : wantedA l env ⟨some d, .load t x, ty, pos, af, g⟩ = some true) (hq : q.wl = false) (hx : evo env x = some (.optr h i)) (hs : os[h]? = some (.slr e (sL ss))) (hi : i < ss.length)
    (h' : AOps P q l rest K (env.up d (.s (ss.getD i []))) os) : AOps P q l (⟨some d, .load t x, ty, pos, af, g⟩ :: rest) K env os := AOps.qo hw (by rw [hq]; exact q_load_slr (ev_of hx) hs (sL_get hi)) h'
end

/-- What needs no world, a conversion to T aside. -/
def wlessT (T : Nat) (o : Oper) : Bool := wlessB o && !(match o.op with
  | .convert _ d _ => Nat.beq d T
  | _ => false)
def findT (T : Nat) (l : List Oper) : List Nat → Option Nat
  | [] => none
  | i :: is => cond (match l[i]? with | some o => wlessT T o | none => false) (some i) (findT T l is)
theorem findT_mem {T : Nat} {l : List Oper} : ∀ {is : List Nat} {i : Nat}, findT T l is = some i → i ∈ is
  | [], _, h => by cases h
  | j :: is, i, h => by
    simp only [findT] at h
    cases hb : (match l[j]? with | some o => wlessT T o | none => false) with
    | true => rw [hb] at h; simp at h; simp [h]
    | false => rw [hb] at h; exact List.mem_cons_of_mem _ (findT_mem h)
theorem AAny.takeT {P : Program} {env : Env} {os : List AO} {l : List Oper} {K : APost} {fuel : Nat} {listed : List Bool} (T : Nat) {i : Nat} {o : Oper} (hi : findT T l (rdyGo listed 0 l) = some i) (ho : l[i]? = some o) (hs : Region.noSelect l.toArray = true) (hf : Region.free .any l.toArray listed.toArray i = true)
    (h : AOps P .wless l [o] (fun env os => AAny P l fuel (listed.set i true) K env os) env os) : AAny P l (fuel + 1) listed K env os := by
  intro base w0 w gs tm hrel hb X Rt
  obtain ⟨v, hy, env', os', gs', hk, hd, hr'⟩ := h base w gs tm hrel
  refine wpAny_take (oi := o) (v := v) (by simpa using ho) hs hf ?_ (fun _ _ _ h => h.elim) hy ?_
  · have : i ∈ Region.ready .any l.toArray listed.toArray := mem_rdy.2 (findT_mem hi)
    simpa using this
  · have := hk base w0 w gs' _ hr' hb X Rt
    rw [show listed.toArray.setIfInBounds i true = (listed.set i true).toArray from by simp]
    have e : (⟨(Act.put ⟨tm, []⟩ o.dst v).tmps, []⟩ : Act) = Act.put ⟨tm, []⟩ o.dst v := by
      have : (Act.put ⟨tm, []⟩ o.dst v).defers = [] := hd
      generalize Act.put ⟨tm, []⟩ o.dst v = a at this
      cases a; simp_all
    rw [e] at this
    exact this
end Go.Proofs.YtfgnccoaebkckaaDoor
