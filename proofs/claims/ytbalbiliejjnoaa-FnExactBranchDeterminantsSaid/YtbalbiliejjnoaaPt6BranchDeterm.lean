/-
  Parts of the proof, one behind the other: contracts of functions and plain laws. No condition.
-/
import Derived.Test.YtbalbiliejjnoaaPt5BranchDeterm
/-
  A drawn region that makes five objects: their numbers follow from the slots that name them; structs of five given fields. No condition.
-/
namespace Go.Proofs.Ytbalbiliejjnoaa
open Go Go.RowKit
set_option linter.unusedVariables false

section
variable {P : Program} {env : Env} {os : List AO} {d : Option Tmp} {ty : TypeId} {pos : String} {af : Array Edge} {g : Option (Nat × Bool)} {wl : Bool}
theorem q_build56 {t : TypeId} {z1 z2 z3 z4 z5 z : Value} [ht : TBuild P t 6 [z1, z2, z3, z4, z5, z]] {x1 x2 x3 x4 x5 : Operand} {a1 a2 a3 a4 a5 : AV} (h1 : AV.ev env x1 = a1) (h2 : AV.ev env x2 = a2) (h3 : AV.ev env x3 = a3) (h4 : AV.ev env x4 = a4) (h5 : AV.ev env x5 = a5)
    (o1 : OneC env os a1) (o2 : OneC env os a2) (o3 : OneC env os a3) (o4 : OneC env os a4) (o5 : OneC env os a5) (hz : z.oneCell' = true) :
    QOp P wl ⟨d, .build t #[(0, x1), (1, x2), (2, x3), (3, x4), (4, x5)], ty, pos, af, g⟩ env os (.agg [a1, a2, a3, a4, a5, .val z]) :=
  .of_run fun _ w gs tm hr => by
    have v1 := hr.ev x1
    rw [h1] at v1
    have v2 := hr.ev x2
    rw [h2] at v2
    have v3 := hr.ev x3
    rw [h3] at v3
    have v4 := hr.ev x4
    rw [h4] at v4
    have v5 := hr.ev x5
    rw [h5] at v5
    obtain ⟨p1, c1⟩ := o1 _ _ _ _ hr _ v1
    obtain ⟨p2, c2⟩ := o2 _ _ _ _ hr _ v2
    obtain ⟨p3, c3⟩ := o3 _ _ _ _ hr _ v3
    obtain ⟨p4, c4⟩ := o4 _ _ _ _ hr _ v4
    obtain ⟨p5, c5⟩ := o5 _ _ _ _ hr _ v5
    refine ⟨.agg [Act.eval ⟨tm, []⟩ x1, Act.eval ⟨tm, []⟩ x2, Act.eval ⟨tm, []⟩ x3, Act.eval ⟨tm, []⟩ x4, Act.eval ⟨tm, []⟩ x5, z].toArray, .agg rfl (by simp; exact ⟨p1, p2, p3, p4, p5, hz⟩) (rv_list rfl fun i hi => ?_), fun w' _ => ?_⟩
    · match i, hi with
      | 0, _ => exact v1
      | 1, _ => exact v2
      | 2, _ => exact v3
      | 3, _ => exact v4
      | 4, _ => exact v5
      | 5, _ => exact .val _
    · have hb : P.built t (#[(0, Act.eval ⟨tm, []⟩ x1), (1, Act.eval ⟨tm, []⟩ x2), (2, Act.eval ⟨tm, []⟩ x3), (3, Act.eval ⟨tm, []⟩ x4), (4, Act.eval ⟨tm, []⟩ x5)] : Array (Nat × Value)).toList = some #[Act.eval ⟨tm, []⟩ x1, Act.eval ⟨tm, []⟩ x2, Act.eval ⟨tm, []⟩ x3, Act.eval ⟨tm, []⟩ x4, Act.eval ⟨tm, []⟩ x5, z] := by
        rcases ht.bl with e | e <;> rw [e] <;> simp [Instr.fill, c1, c2, c3, c4, c5, List.range_succ]
      simp [execOp, run_build (P := P) w' t _ _ hb]
end
section
variable {P : Program} {env : Env} {os : List AO} {d : Tmp} {ty : TypeId} {pos : String} {af : Array Edge} {g : Option (Nat × Bool)} {l rest : List Oper} {K : APost} {q : Md}
theorem w_build56 {t : TypeId} {z1 z2 z3 z4 z5 z : Value} [TBuild P t 6 [z1, z2, z3, z4, z5, z]] {x1 x2 x3 x4 x5 : Operand} {a1 a2 a3 a4 a5 : AV} (hw : wantedA l env ⟨some d, .build t #[(0, x1), (1, x2), (2, x3), (3, x4), (4, x5)], ty, pos, af, g⟩ = some true) (h1 : evo env x1 = some a1) (h2 : evo env x2 = some a2) (h3 : evo env x3 = some a3) (h4 : evo env x4 = some a4) (h5 : evo env x5 = some a5)
    (hz : z.oneCell' = true) (o1 : OneC env os a1) (o2 : OneC env os a2) (o3 : OneC env os a3) (o4 : OneC env os a4) (o5 : OneC env os a5)
    (h' : AOps P q l rest K (env.up d (.agg [a1, a2, a3, a4, a5, .val z])) os) : AOps P q l (⟨some d, .build t #[(0, x1), (1, x2), (2, x3), (3, x4), (4, x5)], ty, pos, af, g⟩ :: rest) K env os :=
  AOps.qo hw (q_build56 (ev_of h1) (ev_of h2) (ev_of h3) (ev_of h4) (ev_of h5) o1 o2 o3 o4 o5 hz) h'
end
theorem ResIs.a4 {P : Program} {env : Env} {os : List AO} {fn : Func} {t u s x : Tmp} (h : fn.results = #[.tmp t, .tmp u, .tmp s, .tmp x]) {a b c d : AV} (ha : env.fd t = some a) (hb : env.fd u = some b) (hc : env.fd s = some c) (hd : env.fd x = some d) : ResIs P fn env os (.tup [a, b, c, d]) :=
  fun _ _ _ tm hr => ⟨.tuple #[tm.getD t undef, tm.getD u undef, tm.getD s undef, tm.getD x undef], by unfold results; rw [h]; simp, .tup (vs := [tm.getD t undef, tm.getD u undef, tm.getD s undef, tm.getD x undef]) rfl fun i => by
    match i with
    | 0 => have := hr.he t; rw [gd_of ha] at this; exact this
    | 1 => have := hr.he u; rw [gd_of hb] at this; exact this
    | 2 => have := hr.he s; rw [gd_of hc] at this; exact this
    | 3 => have := hr.he x; rw [gd_of hd] at this; exact this
    | i + 4 => exact .any _⟩
end Go.Proofs.Ytbalbiliejjnoaa
/-
  Operations that make memory, each its own, in whatever order: one order is enough. No condition.
-/
namespace Go.Proofs.Ytbalbiliejjnoaa
open Go Go.RowKit
set_option linter.unusedVariables false

/-- What an operation brings: a new object (by its slice value, by its address), or a value. -/
inductive Kd where
  | own (o : AO)
  | ptr (o : AO)
  | val (a : AV)
structure It where
  i : Nat
  d : Nat
  q : Kd
def It.r (it : It) (m : Nat) : AV := match it.q with
  | .own _ => .own m
  | .ptr _ => .optr m 0
  | .val a => a
def It.os (it : It) : List AO := match it.q with
  | .own o => [o]
  | .ptr o => [o]
  | .val _ => []
def osL (D : List It) : List AO := D.flatMap It.os
theorem osL_app (A B : List It) : osL (A ++ B) = osL A ++ osL B := List.flatMap_append
theorem osL_perm {A B : List It} (h : A.Perm B) : (osL A).length = (osL B).length := by
  unfold osL
  rw [List.length_flatMap, List.length_flatMap]
  exact (h.map _).sum_nat
def Fr (env0 : Env) (ds : List Nat) (env : Env) : Prop := env.n = env0.n ∧ ∀ k, k ∉ ds → env.fd k = env0.fd k
def upsL (env : Env) : List It → Nat → Env
  | [], _ => env
  | it :: D, n => upsL (env.up it.d (it.r n)) D (n + it.os.length)
theorem upsL_app (B : List It) : ∀ (A : List It) (env : Env) (n : Nat), upsL env (A ++ B) n = upsL (upsL env A n) B (n + (osL A).length)
  | [], env, n => rfl
  | c :: C, env, n => by
    rw [List.cons_append, upsL, upsL_app B C, upsL]
    congr 1
    rw [show c :: C = [c] ++ C from rfl, osL_app, List.length_append]
    simp only [osL, List.flatMap_cons, List.flatMap_nil, List.append_nil]; omega
theorem upsL_snoc (it : It) (D : List It) (env : Env) (n : Nat) : upsL env (D ++ [it]) n = (upsL env D n).up it.d (it.r (n + (osL D).length)) := by
  rw [upsL_app]; rfl
theorem fd_up (e : Env) (d : Nat) (r : AV) (k : Nat) : (e.up d r).fd k = if k = d ∧ d < e.n then some r else e.fd k := by
  simp only [Env.fd, Env.up, fdm]
  by_cases h : k = d
  · subst h
    have : Nat.beq k k = true := Nat.beq_refl k
    by_cases h2 : k < e.n
    · have h3 : Nat.blt k e.n = true := by rw [Nat.blt_eq]; exact h2
      simp [h2, h3]
    · have h3 : Nat.blt k e.n = false := by rw [Bool.eq_false_iff]; intro h4; rw [Nat.blt_eq] at h4; exact h2 h4
      simp [h2, h3]
  · have : Nat.beq d k = false := by rw [Bool.eq_false_iff]; intro h4; exact h (Nat.eq_of_beq_eq_true h4).symm
    simp [h, this]
theorem upsL_n : ∀ (D : List It) (env : Env) (n : Nat), (upsL env D n).n = env.n
  | [], env, n => rfl
  | a :: D, env, n => by rw [upsL, upsL_n D]; rfl
theorem upsL_fd : ∀ (D : List It) (env : Env) (n k : Nat), k ∉ D.map (·.d) → (upsL env D n).fd k = env.fd k
  | [], env, n, k, _ => rfl
  | a :: D, env, n, k, h => by
    simp only [List.map_cons, List.mem_cons, not_or] at h
    rw [upsL, upsL_fd D _ _ _ h.2, fd_up, if_neg (fun e => h.1 e.1)]
theorem upsL_at (it : It) (A B : List It) (env : Env) (n : Nat) (hd : it.d < env.n) (hB : it.d ∉ B.map (·.d)) : (upsL env (A ++ it :: B) n).fd it.d = some (it.r (n + (osL A).length)) := by
  have e : A ++ it :: B = (A ++ [it]) ++ B := by simp
  rw [e, upsL_app, upsL_fd _ _ _ _ hB, upsL_snoc, fd_up, if_pos ⟨rfl, by rw [upsL_n]; exact hd⟩]

/-! ### Which have been -/
def lsD (listed : List Bool) : List Nat → List Bool
  | [] => listed
  | i :: is => lsD (listed.set i true) is
theorem lsD_snoc (i : Nat) : ∀ (is : List Nat) (listed : List Bool), lsD listed (is ++ [i]) = (lsD listed is).set i true
  | [], _ => rfl
  | j :: is, listed => by rw [List.cons_append, lsD, lsD, lsD_snoc i is]
theorem lsD_get : ∀ (is : List Nat) (listed : List Bool) (k : Nat), (lsD listed is)[k]? = if k ∈ is ∧ k < listed.length then some true else listed[k]?
  | [], listed, k => by simp [lsD]
  | i :: is, listed, k => by
    rw [lsD, lsD_get is, List.length_set, List.getElem?_set]
    by_cases h2 : k < listed.length
    · by_cases h1 : k ∈ is
      · rw [if_pos ⟨h1, h2⟩, if_pos ⟨by simp [h1], h2⟩]
      · rw [if_neg (fun h => h1 h.1)]
        by_cases e : i = k
        · subst e
          rw [if_pos rfl, if_pos h2, if_pos ⟨by simp, h2⟩]
        · rw [if_neg e, if_neg]
          rintro ⟨h3, _⟩
          rcases List.mem_cons.1 h3 with h3 | h3
          · exact e h3.symm
          · exact h1 h3
    · simp only [h2, and_false, if_false]
      by_cases e : i = k
      · subst e; rw [if_pos rfl, if_neg h2, List.getElem?_eq_none (by omega)]
      · rw [if_neg e]
theorem lsD_congr {listed : List Bool} {A B : List Nat} (h : ∀ k, k ∈ A ↔ k ∈ B) : lsD listed A = lsD listed B := by
  apply List.ext_getElem?
  intro k
  rw [lsD_get, lsD_get]
  simp only [h]
def subs : List Nat → List (List Nat)
  | [] => [[]]
  | x :: xs => subs xs ++ (subs xs).map (x :: ·)
theorem filter_subs (f : Nat → Bool) : ∀ xs : List Nat, xs.filter f ∈ subs xs
  | [] => by simp [subs]
  | x :: xs => by
    rw [subs, List.mem_append]
    cases h : f x
    · left; rw [List.filter_cons_of_neg (by simp [h])]; exact filter_subs f xs
    · right; rw [List.filter_cons_of_pos h]; exact List.mem_map.2 ⟨_, filter_subs f xs, rfl⟩

section
variable {P : Program} {qs : List Nat} {l : List Oper} {K : APost} {env0 : Env} {os0 : List AO}
def NStep (P : Program) (qs : List Nat) (l : List Oper) (env0 : Env) (os0 : List AO) (N : List It) (it : It) : Prop :=
  ∃ o, l[it.i]? = some o ∧ gentB qs o = false ∧ ∀ (env : Env) (os : List AO) (K' : APost), Fr env0 (N.map (·.d)) env → (∃ t, os = os0 ++ t) →
    (∀ z ∈ N, ∀ a, z.q = .val a → (o.after.toList.any fun e => Region.binds .any e && e.on == z.i) = true → env.fd z.d = some a) → K' (env.up it.d (it.r os.length)) (os ++ it.os) → AOps P .seq l [o] K' env os
/-- A load: it need not wait for what makes memory. -/
def NStepQ (P : Program) (qs : List Nat) (l : List Oper) (env0 : Env) (os0 : List AO) (N : List It) (it : It) : Prop :=
  ∃ o, l[it.i]? = some o ∧ gentB qs o = true ∧ ∀ (env : Env) (os : List AO) (K' : APost), Fr env0 (N.map (·.d)) env → (∃ t, os = os0 ++ t) →
    (∀ z ∈ N, ∀ a, z.q = .val a → (o.after.toList.any fun e => Region.binds .any e && e.on == z.i) = true → env.fd z.d = some a) → K' (env.up it.d (it.r os.length)) (os ++ it.os) → AOps P .quiet l [o] K' env os
theorem AllOfG.of {fuel : Nat} {listed : List Bool} {env : Env} {os : List AO} : ∀ {rs : List Nat}, (∀ i ∈ rs, ∃ o, l[i]? = some o ∧ AOps P (cond (gentB qs o) .quiet .seq) l [o] (fun env os => AAnyG P qs l fuel (listed.set i true) K env os) env os) → AllOfG P qs l fuel listed K env os rs
  | [], _ => trivial
  | i :: rs, h => ⟨h i (by simp), AllOfG.of fun j hj => h j (by simp [hj])⟩
/-- A set of operations that can have been: each with those that it waits for. -/
def depOk (l : List Oper) (idx S : List Nat) : Bool := S.all fun k => match l[k]? with | some o => o.after.toList.all fun e => !(Region.binds .any e && idx.contains e.on) || S.contains e.on | none => true
/-- What comes up is among those that have not been. -/
def chkR (l : List Oper) (listed : List Bool) (idx S : List Nat) : Bool := !(rdyGo (lsD listed S) 0 l).isEmpty && (rdyGo (lsD listed S) 0 l).all fun j => idx.contains j && !S.contains j
theorem it_inj : ∀ L : List It, (L.map (·.i)).Nodup → ∀ x ∈ L, ∀ y ∈ L, x.i = y.i → x = y := by
  intro L
  induction L with
  | nil => intro _ x hx; cases hx
  | cons w L ihL =>
    intro hn x hx y hy hxy
    rw [List.map_cons] at hn
    obtain ⟨n1, n2⟩ := List.nodup_cons.1 hn
    rcases List.mem_cons.1 hx with e1 | g1
    · rcases List.mem_cons.1 hy with e2 | g2
      · exact e1.trans e2.symm
      · exact absurd (List.mem_map.2 ⟨y, g2, by rw [← hxy, e1]⟩) n1
    · rcases List.mem_cons.1 hy with e2 | g2
      · exact absurd (List.mem_map.2 ⟨x, g1, by rw [hxy, e2]⟩) n1
      · exact ihL n2 x g1 y g2 hxy
theorem AAnyG.newsRun {N N' : List It} (hN' : ∀ z ∈ N', z ∈ N) (hnN : (N'.map (·.i)).Nodup) {listed : List Bool} {fuel : Nat} (hst : ∀ it ∈ N, NStep P qs l env0 os0 N it ∨ NStepQ P qs l env0 os0 N it) (hnd : (N.map (·.i)).Nodup) (hds : (N.map (·.d)).Nodup) (hdn : ∀ it ∈ N, it.d < env0.n) (hl0 : ∀ it ∈ N, listed.getD it.i true = false)
    (hrd : (subs (N.map (·.i))).all (fun S => !depOk l (N.map (·.i)) S || (S.length == N.length || (N'.map (·.i)).isPerm S || chkR l listed (N.map (·.i)) S)) = true)
    (hstop : ∀ D, D.Perm N' → AAnyG P qs l (fuel + (N.length - N'.length)) (lsD listed (D.map (·.i))) K (upsL env0 D os0.length) (os0 ++ osL D))
    (hfin : ∀ D, D.Perm N → AAnyG P qs l fuel (lsD listed (D.map (·.i))) K (upsL env0 D os0.length) (os0 ++ osL D)) :
    ∀ (m : Nat) (D R : List It), R.length = m → (D ++ R).Perm N → (∀ k ∈ D.map (·.i), ∀ o, l[k]? = some o → ∀ e ∈ o.after.toList, Region.binds .any e = true → e.on ∈ N.map (·.i) → e.on ∈ D.map (·.i)) → AAnyG P qs l (fuel + m) (lsD listed (D.map (·.i))) K (upsL env0 D os0.length) (os0 ++ osL D)
  | 0, D, R, hm, hp, hcl => by
    have : R = [] := List.eq_nil_of_length_eq_zero hm
    subst this
    rw [List.append_nil] at hp
    exact hfin D hp
  | m + 1, D, R, hm, hp, hcl => by
    have hpi : (D.map (·.i) ++ R.map (·.i)).Perm (N.map (·.i)) := by rw [← List.map_append]; exact hp.map _
    have hndD := hpi.nodup_iff.2 hnd
    have hlen : D.length + R.length = N.length := by rw [← List.length_append]; exact hp.length_eq
    -- the canonical list of those that have been
    let S := (N.map (·.i)).filter fun j => (D.map (·.i)).contains j
    have hS : ∀ k, k ∈ S ↔ k ∈ D.map (·.i) := fun k => by
      simp only [S, List.mem_filter, List.contains_eq_mem, decide_eq_true_eq]
      constructor
      · exact fun h => h.2
      · exact fun h => ⟨hpi.mem_iff.1 (List.mem_append.2 (.inl h)), h⟩
    have hSm := filter_subs (fun j => (D.map (·.i)).contains j) (N.map (·.i))
    have hdo : depOk l (N.map (·.i)) S = true := by
      unfold depOk
      rw [List.all_eq_true]
      intro k hk
      cases ho : l[k]? with
      | none => rfl
      | some o =>
        show (o.after.toList.all fun e => !(Region.binds .any e && (N.map (·.i)).contains e.on) || S.contains e.on) = true
        rw [List.all_eq_true]
        intro e he
        cases hb : Region.binds .any e && (N.map (·.i)).contains e.on with
        | false => rfl
        | true =>
          rw [Bool.and_eq_true, List.contains_eq_mem, decide_eq_true_eq] at hb
          have := (hS _).2 (hcl k ((hS k).1 hk) o ho e he hb.1 hb.2)
          simp [this]
    have hc := List.all_eq_true.1 hrd S hSm
    rw [hdo, Bool.not_true, Bool.false_or] at hc
    have hSl : S.length ≠ N.length := by
      intro e
      have hSn : S.Nodup := hnd.sublist List.filter_sublist
      have h1 : S.Perm (D.map (·.i)) := (List.perm_ext_iff_of_nodup hSn (List.nodup_append.1 hndD).1).2 hS
      have := h1.length_eq
      rw [List.length_map] at this; omega
    have hc2 : (N'.map (·.i)).isPerm S = true ∨ chkR l listed (N.map (·.i)) S = true := by
      rcases Bool.or_eq_true_iff.1 hc with h | h
      · rcases Bool.or_eq_true_iff.1 h with h | h
        · exact absurd (by simpa using h) hSl
        · exact .inl h
      · exact .inr h
    rcases hc2 with hst' | hc'
    · have hSp : (N'.map (·.i)).Perm S := List.isPerm_iff.1 hst'
      have hDmem : ∀ z ∈ D, z ∈ N := fun z hz => hp.mem_iff.1 (List.mem_append.2 (.inl hz))
      have hDi := (List.nodup_append.1 hndD).1
      have nd_of : ∀ L : List It, (L.map (·.i)).Nodup → L.Nodup := fun L h => by
        have h1 : (L.map (·.i)).Pairwise (· ≠ ·) := h
        rw [List.pairwise_map] at h1
        exact h1.imp fun h e => h (congrArg It.i e)
      have hDN' : D.Perm N' := (List.perm_ext_iff_of_nodup (nd_of D hDi) (nd_of N' hnN)).2 fun z => by
        constructor
        · intro hz
          have h1 : z.i ∈ N'.map (·.i) := hSp.mem_iff.2 ((hS _).2 (List.mem_map.2 ⟨z, hz, rfl⟩))
          obtain ⟨y, hy, e⟩ := List.mem_map.1 h1
          have := it_inj N hnd y (hN' y hy) z (hDmem z hz) e
          rwa [← this]
        · intro hz
          have h1 : z.i ∈ D.map (·.i) := (hS _).1 (hSp.mem_iff.1 (List.mem_map.2 ⟨z, hz, rfl⟩))
          obtain ⟨y, hy, e⟩ := List.mem_map.1 h1
          have := it_inj N hnd y (hDmem y hy) z (hN' z hz) e
          rwa [← this]
      have hl1 := hDN'.length_eq
      rw [show m + 1 = N.length - N'.length by omega]
      exact hstop D hDN'
    unfold chkR at hc'
    rw [lsD_congr hS] at hc'
    obtain ⟨h1, h2⟩ := Bool.and_eq_true_iff.1 hc'
    cases hr : rdyGo (lsD listed (D.map (·.i))) 0 l with
    | nil => rw [hr] at h1; simp at h1
    | cons j js =>
      rw [← Nat.add_assoc]
      refine AAnyG.all hr (AllOfG.of fun k hk => ?_)
      rw [← hr] at hk
      have h3 := List.all_eq_true.1 h2 k hk
      simp only [List.contains_eq_mem, Bool.and_eq_true, decide_eq_true_eq, Bool.not_eq_true', decide_eq_false_iff_not] at h3
      have hkS : k ∉ D.map (·.i) := fun h => h3.2 ((hS k).2 h)
      have hkR : k ∈ R.map (·.i) := by
        rcases List.mem_append.1 (hpi.mem_iff.2 h3.1) with h | h
        · exact absurd h hkS
        · exact h
      obtain ⟨it, hit, rfl⟩ := List.mem_map.1 hkR
      obtain ⟨A, B, rfl⟩ := List.append_of_mem hit
      have hp' : ((D ++ [it]) ++ (A ++ B)).Perm N := by
        refine List.Perm.trans ?_ hp
        rw [List.append_assoc]
        exact List.Perm.append_left _ (List.perm_middle (l₁ := A)).symm
      have hin : ∀ o, l[it.i]? = some o → ∀ e ∈ o.after.toList, Region.binds .any e = true → e.on ∈ N.map (·.i) → e.on ∈ D.map (·.i) := by
        intro o ho e he hbe hz
        obtain ⟨_, _, o', ho', hb⟩ := mem_rdyGo.1 hk
        rw [Nat.sub_zero] at ho'
        have eo : o' = o := by rw [ho] at ho'; exact (Option.some.inj ho').symm
        subst eo
        obtain ⟨z, hzN, ez⟩ := List.mem_map.1 hz
        have h5 := hb e (by simpa using he) hbe
        rw [List.getD_eq_getElem?_getD, lsD_get] at h5
        have h6 := hl0 z hzN
        rw [ez, List.getD_eq_getElem?_getD] at h6
        apply Classical.byContradiction
        intro hn
        rw [if_neg (fun h => hn h.1)] at h5
        cases hx : listed[e.on]? with
        | none => rw [hx] at h5; cases h5
        | some b => rw [hx] at h5 h6; simp at h5 h6; rw [h5] at h6; cases h6
      have hcl' : ∀ k ∈ (D ++ [it]).map (·.i), ∀ o, l[k]? = some o → ∀ e ∈ o.after.toList, Region.binds .any e = true → e.on ∈ N.map (·.i) → e.on ∈ (D ++ [it]).map (·.i) := by
        intro k' hk' o ho e he hbe hz
        rw [List.map_append, List.mem_append] at hk' ⊢
        rcases hk' with hk' | hk'
        · exact .inl (hcl k' hk' o ho e he hbe hz)
        · rw [List.map_cons, List.map_nil, List.mem_singleton] at hk'
          subst hk'
          exact .inl (hin o ho e he hbe hz)
      have ih := AAnyG.newsRun hN' hnN hst hnd hds hdn hl0 hrd hstop hfin m (D ++ [it]) (A ++ B) (by simp at hm ⊢; omega) hp' hcl'
      have hDN : ∀ z ∈ D, z ∈ N := fun z hz => hp.mem_iff.1 (List.mem_append.2 (.inl hz))
      have hfr : Fr env0 (N.map (·.d)) (upsL env0 D os0.length) := ⟨upsL_n _ _ _, fun k hk => upsL_fd _ _ _ _ fun h => hk (by
        obtain ⟨z, hz, rfl⟩ := List.mem_map.1 h
        exact List.mem_map.2 ⟨z, hDN z hz, rfl⟩)⟩
      have hDd : (D.map (·.d)).Nodup := by
        have : ((D ++ (A ++ it :: B)).map (·.d)).Nodup := (hp.map (·.d)).nodup_iff.2 hds
        rw [List.map_append] at this
        exact (List.nodup_append.1 this).1
      have hdep : ∀ o : Oper, l[it.i]? = some o → ∀ z ∈ N, ∀ a, z.q = .val a → (o.after.toList.any fun e => Region.binds .any e && e.on == z.i) = true → (upsL env0 D os0.length).fd z.d = some a := by
        intro o ho z hz a ha hany
        obtain ⟨_, _, o', ho', hb⟩ := mem_rdyGo.1 hk
        rw [Nat.sub_zero] at ho'
        have eo : o' = o := by rw [ho] at ho'; exact (Option.some.inj ho').symm
        subst eo
        obtain ⟨e, he, hbe⟩ := List.any_eq_true.1 hany
        simp only [Bool.and_eq_true, beq_iff_eq] at hbe
        have h5 := hb e (by simpa using he) hbe.1
        rw [hbe.2, List.getD_eq_getElem?_getD, lsD_get] at h5
        have h6 := hl0 z hz
        rw [List.getD_eq_getElem?_getD] at h6
        have hzD : z.i ∈ D.map (·.i) := by
          apply Classical.byContradiction
          intro hn
          rw [if_neg (fun h => hn h.1)] at h5
          cases hx : listed[z.i]? with
          | none => rw [hx] at h5; cases h5
          | some b => rw [hx] at h5 h6; simp at h5 h6; rw [h5] at h6; cases h6
        obtain ⟨z', hz', ez⟩ := List.mem_map.1 hzD
        have hzz : z' = z := by
          exact it_inj N hnd z' (hDN z' hz') z hz ez
        subst hzz
        obtain ⟨A', B', eD⟩ := List.append_of_mem hz'
        have hdB : z'.d ∉ B'.map (·.d) := by
          rw [eD, List.map_append, List.map_cons] at hDd
          exact (List.nodup_cons.1 (List.nodup_append.1 hDd).2.1).1
        rw [eD, upsL_at z' A' B' env0 _ (hdn z' hz) hdB]
        unfold It.r
        rw [ha]
      have hK : AAnyG P qs l (fuel + m) ((lsD listed (D.map (·.i))).set it.i true) K ((upsL env0 D os0.length).up it.d (it.r (os0 ++ osL D).length)) ((os0 ++ osL D) ++ it.os) := by
        rw [List.map_append, osL_app, List.map_cons, List.map_nil, lsD_snoc, upsL_snoc, ← List.append_assoc] at ih
        rw [List.length_append]
        have e1 : osL [it] = it.os := by simp [osL]
        rw [e1] at ih
        exact ih
      rcases hst it (hp.mem_iff.1 (List.mem_append.2 (.inr hit))) with ⟨o, ho, hg, hop⟩ | ⟨o, ho, hg, hop⟩
      · refine ⟨o, ho, ?_⟩
        rw [hg]
        exact hop _ _ _ hfr ⟨_, rfl⟩ (hdep o ho) hK
      · refine ⟨o, ho, ?_⟩
        rw [hg]
        exact hop _ _ _ hfr ⟨_, rfl⟩ (hdep o ho) hK
theorem AAnyG.turns {fuel : Nat} {listed : List Bool} {env env' : Env} {os os' : List AO} (ht : Turns env os env' os') (h : AAnyG P qs l fuel listed K env' os') : AAnyG P qs l fuel listed K env os := by
  intro base w0 w gs tm hr hb X Rt
  obtain ⟨gs', hr'⟩ := ht base w gs tm hr
  exact h base w0 w gs' tm hr' hb X Rt

/-! ### One order -/
def canL : List It → Nat → List (Nat × AV)
  | [], _ => []
  | it :: N, n => (it.d, it.r n) :: canL N (n + it.os.length)
theorem ixOf_of : ∀ {σ : List Nat} {j h : Nat}, σ.Nodup → σ[j]? = some h → ixOf σ h = some j
  | [], j, h, _, e => by simp at e
  | s :: t, 0, h, _, e => by
    simp at e; subst e
    simp [ixOf, Nat.beq_refl]
  | s :: t, j + 1, h, hn, e => by
    have e' : t[j]? = some h := by simpa using e
    obtain ⟨n1, n2⟩ := List.nodup_cons.1 hn
    have hne : Nat.beq s h = false := by
      rw [Bool.eq_false_iff]; intro hb
      have := Nat.eq_of_beq_eq_true hb
      subst this; exact n1 (List.mem_of_getElem? e')
    rw [ixOf, hne, ixOf_of n2 e']; rfl
theorem leM_app {e : Env} : ∀ {a b : List (Nat × AV)}, LeM e a → LeM e b → LeM e (a ++ b)
  | [], _, _, hb => hb
  | _ :: _, _, ha, hb => ⟨ha.1, leM_app ha.2 hb⟩
theorem leM_of {e : Env} : ∀ {a : List (Nat × AV)}, (∀ p ∈ a, e.fd p.1 = some p.2) → LeM e a
  | [], _ => trivial
  | p :: _, h => ⟨h p (by simp), leM_of fun q hq => h q (by simp [hq])⟩
theorem leO_refl : ∀ a : List AO, LeO a a
  | [] => trivial
  | _ :: a => ⟨.inr (.inl rfl), leO_refl a⟩
theorem fd_mp (f : AV → AV) (e : Env) (k : Nat) : (e.mp f).fd k = (e.fd k).map f := by
  simp only [Env.fd, Env.mp, fdm_mp]
  cases Nat.blt k e.n <;> rfl
theorem mem_canL {N : List It} : ∀ {n : Nat} {p : Nat × AV}, p ∈ canL N n → ∃ (A B : List It) (it : It), N = A ++ it :: B ∧ p = (it.d, it.r (n + (osL A).length)) := by
  induction N with
  | nil => intro n p h; cases h
  | cons a N ih =>
    intro n p h
    rcases List.mem_cons.1 h with rfl | h
    · exact ⟨[], N, a, rfl, rfl⟩
    · obtain ⟨A, B, it, h1, h2⟩ := ih h
      refine ⟨a :: A, B, it, by rw [h1]; rfl, by rw [h2, show a :: A = [a] ++ A from rfl, osL_app, List.length_append]; congr 2; simp [osL]; omega⟩
/-- What stays when numbers change beyond the first n0. -/
def Clo (n0 M : Nat) (o : AO) : Prop := o.lim M = o ∧ ∀ σ : List Nat, n0 ≤ σ.length → σ.take n0 = List.range n0 → o.ren σ = o
/-- What stays of an operation's gift. -/
def CloI (n0 M : Nat) (it : It) : Prop := (∀ o ∈ it.os, Clo n0 M o) ∧ ∀ a, it.q = .val a → a.lim M = a ∧ ∀ σ, a.ren σ = a
theorem it_os1 {it : It} (h : ∀ a, it.q ≠ .val a) : ∃ o, it.os = [o] := by
  unfold It.os
  cases hq : it.q with
  | own o => exact ⟨o, rfl⟩
  | ptr o => exact ⟨o, rfl⟩
  | val a => exact absurd hq (h a)
theorem it_os0 {it : It} {a : AV} (h : it.q = .val a) : it.os = [] := by unfold It.os; rw [h]
theorem r_ren {it : It} {σ : List Nat} {m j : Nat} (h : ∀ a, it.q ≠ .val a) (hx : ixOf σ m = some j) : (it.r m).ren σ = it.r j := by
  unfold It.r
  cases hq : it.q with
  | own o => simp [AV.ren, hx]
  | ptr o => simp [AV.ren, hx]
  | val a => exact absurd hq (h a)
theorem r_lim {it : It} {m n : Nat} (h : ∀ a, it.q ≠ .val a) (hx : m < n) : (it.r m).lim n = it.r m := by
  unfold It.r
  cases hq : it.q with
  | own o => simp [AV.lim, hx]
  | ptr o => simp [AV.lim, hx]
  | val a => exact absurd hq (h a)
theorem r_val {it : It} {a : AV} (h : it.q = .val a) (m : Nat) : it.r m = a := by unfold It.r; rw [h]
theorem osL_at {A B : List It} {it : It} {o : AO} (h : it.os = [o]) : (osL (A ++ it :: B))[(osL A).length]? = some o := by
  rw [osL_app, List.getElem?_append_right (Nat.le_refl _), Nat.sub_self]
  simp [osL, h]
theorem flat_len (N : List It) (f : It → Nat) : (N.flatMap fun it => it.os.map fun _ => f it).length = (osL N).length := by
  unfold osL
  rw [List.length_flatMap, List.length_flatMap]
  congr 1
  exact List.map_congr_left fun it _ => by simp
theorem news_turn {N D : List It} {kept : List (Nat × AV)} (hp : D.Perm N) (hnd : (N.map (·.i)).Nodup) (hds : (N.map (·.d)).Nodup) (hdn : ∀ it ∈ N, it.d < env0.n) (hk : ∀ p ∈ kept, env0.fd p.1 = some p.2 ∧ p.1 ∉ N.map (·.d) ∧ p.2.lim (os0.length + (osL N).length) = p.2 ∧ ∀ σ, p.2.ren σ = p.2)
    (ho : ∀ o ∈ os0, Clo os0.length (os0.length + (osL N).length) o) (hN : ∀ it ∈ N, CloI os0.length (os0.length + (osL N).length) it) :
    Turns (upsL env0 D os0.length) (os0 ++ osL D) ⟨env0.n, canL N os0.length ++ kept⟩ (os0 ++ osL N) := by
  let n0 := os0.length
  have hDd : (D.map (·.d)).Nodup := (hp.map (·.d)).nodup_iff.2 hds
  have hNn : N.Nodup := by
    have h1 : (N.map (·.i)).Pairwise (· ≠ ·) := hnd
    rw [List.pairwise_map] at h1
    exact h1.imp fun h e => h (congrArg It.i e)
  have hDn : D.Nodup := hp.nodup_iff.2 hNn
  have hlD := osL_perm hp
  have hex : ∀ it : It, it ∈ N → ∃ A B, D = A ++ it :: B := fun it hit => List.append_of_mem (hp.mem_iff.2 hit)
  let pos : It → Nat := fun it => open Classical in if h : it ∈ N then (osL (hex it h).choose).length else 0
  have hpos : ∀ it ∈ N, ∃ A B, D = A ++ it :: B ∧ pos it = (osL A).length := fun it hit => by
    obtain ⟨B, hB⟩ := (hex it hit).choose_spec
    exact ⟨_, B, hB, by simp only [pos, dif_pos hit]⟩
  have huni : ∀ {A B A' B' : List It} {it : It}, D = A ++ it :: B → D = A' ++ it :: B' → A = A' := by
    intro A B A' B' it h1 h2
    have n1 : D[A.length]? = some it := by rw [h1]; simp
    have n2 : D[A'.length]? = some it := by rw [h2]; simp
    have hl := (List.getElem?_inj (List.getElem?_eq_some_iff.1 n1).1 hDn).1 (n1.trans n2.symm)
    have h3 := congrArg (List.take A.length) (h1.symm.trans h2)
    rw [List.take_left] at h3
    rw [h3, hl, List.take_left]
  let σ : List Nat := List.range n0 ++ N.flatMap fun it => it.os.map fun _ => n0 + pos it
  have hσl : n0 ≤ σ.length := by simp [σ]
  have hσt : σ.take n0 = List.range n0 := by simp [σ]
  have hobj : ∀ it ∈ N, ∀ o, it.os = [o] → (os0 ++ osL D)[n0 + pos it]? = some o := fun it hit o h1 => by
    obtain ⟨A, B, hD, hpa⟩ := hpos it hit
    rw [List.getElem?_append_right (by omega), show n0 + pos it - os0.length = pos it by omega, hpa, hD]
    exact osL_at h1
  have hsep : ∀ a ∈ N, ∀ b ∈ N, a ≠ b → (∃ o, a.os = [o]) → (∃ o, b.os = [o]) → pos a ≠ pos b := by
    rintro a ha b hb hab ⟨oa, ea⟩ ⟨ob, eb⟩
    obtain ⟨A, B, hD, hpa⟩ := hpos a ha
    obtain ⟨A', B', hD', hpb⟩ := hpos b hb
    have hbm : b ∈ D := hp.mem_iff.2 hb
    rw [hD] at hbm
    rcases List.mem_append.1 hbm with hm | hm
    · obtain ⟨C, E, rfl⟩ := List.append_of_mem hm
      have := huni (A := C) (B := E ++ a :: B) (by rw [hD]; simp) hD'
      subst this
      rw [hpa, hpb, osL_app, List.length_append]
      simp only [osL, List.flatMap_cons, eb, List.length_append, List.length_singleton]; omega
    · rcases List.mem_cons.1 hm with e | hm
      · exact absurd e.symm hab
      · obtain ⟨C, E, rfl⟩ := List.append_of_mem hm
        have := huni (A := A ++ a :: C) (B := E) (by rw [hD]; simp) hD'
        subst this
        rw [hpa, hpb, osL_app, List.length_append]
        simp only [osL, List.flatMap_cons, ea, List.length_append, List.length_singleton]; omega
  have hσn : σ.Nodup := by
    rw [List.nodup_append]
    refine ⟨List.nodup_range, ?_, ?_⟩
    · have key : ∀ L : List It, L.Nodup → (∀ it ∈ L, it ∈ N) → (L.flatMap fun it => it.os.map fun _ => n0 + pos it).Nodup := by
        intro L
        induction L with
        | nil => intro _ _; exact List.nodup_nil
        | cons a L ih =>
          intro hn hs
          obtain ⟨n1, n2⟩ := List.nodup_cons.1 hn
          rw [List.flatMap_cons, List.nodup_append]
          refine ⟨?_, ih n2 fun it hit => hs it (by simp [hit]), ?_⟩
          · unfold It.os; cases a.q <;> simp
          · intro x hx y hy exy
            obtain ⟨oa, hoa, rfl⟩ := List.mem_map.1 hx
            obtain ⟨b, hb, hy⟩ := List.mem_flatMap.1 hy
            obtain ⟨ob, hob, rfl⟩ := List.mem_map.1 hy
            have q1 : ∃ o, a.os = [o] := by
              refine it_os1 fun z hz => ?_
              rw [it_os0 hz] at hoa; cases hoa
            have q2 : ∃ o, b.os = [o] := by
              refine it_os1 fun z hz => ?_
              rw [it_os0 hz] at hob; cases hob
            exact hsep a (hs a (by simp)) b (hs b (by simp [hb])) (fun e => n1 (e ▸ hb)) q1 q2 (by omega)
      exact key N hNn fun it h => h
    · intro a ha b hb e
      have := List.mem_range.1 ha
      obtain ⟨it, _, hb⟩ := List.mem_flatMap.1 hb
      obtain ⟨_, _, rfl⟩ := List.mem_map.1 hb
      omega
  have hσk : ∀ (A B : List It) it, N = A ++ it :: B → (∃ o, it.os = [o]) → σ[n0 + (osL A).length]? = some (n0 + pos it) := by
    rintro A B it hNe ⟨o, eo⟩
    show (List.range n0 ++ N.flatMap fun it => it.os.map fun _ => n0 + pos it)[n0 + (osL A).length]? = _
    rw [List.getElem?_append_right (by simp), List.length_range, Nat.add_sub_cancel_left, hNe, List.flatMap_append, List.getElem?_append_right (by rw [flat_len]; exact Nat.le_refl _), flat_len, Nat.sub_self, List.flatMap_cons, eo]
    rfl
  have hsel : selO σ (os0 ++ osL D) = os0 ++ osL N := by
    show σ.map _ = _
    rw [show σ = List.range n0 ++ N.flatMap (fun it => it.os.map fun _ => n0 + pos it) from rfl, List.map_append]
    congr 1
    · apply List.ext_getElem (by simp [n0])
      intro i h1 h2
      simp only [List.getElem_map, List.getElem_range]
      rw [List.getD_eq_getElem?_getD, List.getElem?_append_left h2, List.getElem?_eq_getElem h2]
      exact (ho _ (List.getElem_mem h2)).2 σ hσl hσt
    · have key : ∀ L : List It, (∀ it ∈ L, it ∈ N) → (L.flatMap fun it => it.os.map fun _ => n0 + pos it).map (fun h => ((os0 ++ osL D).getD h .dead).ren σ) = osL L := by
        intro L
        induction L with
        | nil => intro _; rfl
        | cons a L ih =>
          intro hs
          rw [List.flatMap_cons, List.map_append, ih fun it hit => hs it (by simp [hit])]
          show _ = a.os ++ osL L
          congr 1
          by_cases hv : ∃ z, a.q = .val z
          · obtain ⟨z, hz⟩ := hv
            rw [it_os0 hz]; rfl
          · obtain ⟨o, eo⟩ := it_os1 fun z hz => hv ⟨z, hz⟩
            rw [eo]
            show [((os0 ++ osL D).getD (n0 + pos a) .dead).ren σ] = [o]
            rw [List.getD_eq_getElem?_getD, hobj a (hs a (by simp)) o eo]
            congr 1
            exact ((hN a (hs a (by simp))).1 o (by rw [eo]; simp)).2 σ hσl hσt
      exact key N fun it h => h
  refine Turns.fits (σ := σ) ⟨⟨hσn, fun h hh => ?_⟩, ⟨by show env0.n = (upsL env0 D n0).n; rw [upsL_n], ?_⟩, by rw [hsel]; exact leO_refl _, ?_, ?_⟩
  · rcases List.mem_append.1 hh with hh | hh
    · have := List.mem_range.1 hh; rw [List.length_append]; omega
    · obtain ⟨it, hit, hh⟩ := List.mem_flatMap.1 hh
      obtain ⟨o, ho', rfl⟩ := List.mem_map.1 hh
      have q1 : ∃ o, it.os = [o] := by
        refine it_os1 fun z hz => ?_
        rw [it_os0 hz] at ho'; cases ho'
      obtain ⟨o2, eo2⟩ := q1
      exact (List.getElem?_eq_some_iff.1 (hobj it hit o2 eo2)).1
  · refine leM_app (leM_of fun p hp' => ?_) (leM_of fun p hp' => ?_)
    · obtain ⟨A, B, it, hNe, rfl⟩ := mem_canL hp'
      have hit : it ∈ N := by rw [hNe]; simp
      obtain ⟨A', B', hD, hpa⟩ := hpos it hit
      have hdB : it.d ∉ B'.map (·.d) := by
        rw [hD, List.map_append, List.map_cons] at hDd
        exact (List.nodup_cons.1 (List.nodup_append.1 hDd).2.1).1
      rw [fd_mp, hD, upsL_at it A' B' env0 _ (hdn it hit) hdB]
      show some ((it.r (n0 + (osL A').length)).ren σ) = some (it.r (n0 + (osL A).length))
      congr 1
      by_cases hv : ∃ z, it.q = .val z
      · obtain ⟨z, hz⟩ := hv
        rw [r_val hz, r_val hz]
        exact ((hN it hit).2 z hz).2 σ
      · have hv' : ∀ z, it.q ≠ .val z := fun z hz => hv ⟨z, hz⟩
        rw [← hpa]
        exact r_ren hv' (ixOf_of hσn (hσk A B it hNe (it_os1 hv')))
    · obtain ⟨k1, k2, k3, k4⟩ := hk p hp'
      rw [fd_mp, upsL_fd _ _ _ _ (fun h => k2 ((hp.map (·.d)).mem_iff.1 h)), k1]
      show some (p.2.ren σ) = some p.2
      rw [k4]
  · show (⟨env0.n, (canL N n0 ++ kept).map _⟩ : Env) = _
    congr 1
    rw [List.length_append, List.map_congr_left (g := id) fun p hp' => ?_, List.map_id]
    rcases List.mem_append.1 hp' with hp' | hp'
    · obtain ⟨A, B, it, hNe, rfl⟩ := mem_canL hp'
      have hit : it ∈ N := by rw [hNe]; simp
      show (it.d, (it.r (n0 + (osL A).length)).lim _) = _
      by_cases hv : ∃ z, it.q = .val z
      · obtain ⟨z, hz⟩ := hv
        rw [r_val hz, ((hN it hit).2 z hz).1]; rfl
      · have hv' : ∀ z, it.q ≠ .val z := fun z hz => hv ⟨z, hz⟩
        obtain ⟨o, eo⟩ := it_os1 hv'
        have hlt : (osL A).length < (osL N).length := by
          have := osL_at (A := A) (B := B) eo
          rw [← hNe] at this
          exact (List.getElem?_eq_some_iff.1 this).1
        rw [r_lim hv' (by omega)]; rfl
    · obtain ⟨k1, k2, k3, k4⟩ := hk p hp'
      show (p.1, p.2.lim _) = _
      rw [k3]; rfl
  · rw [List.length_append, List.map_congr_left (g := id) fun o ho' => ?_, List.map_id]
    rcases List.mem_append.1 ho' with ho' | ho'
    · exact (ho o ho').1
    · obtain ⟨it, hit, ho'⟩ := List.mem_flatMap.1 ho'
      exact ((hN it hit).1 o ho').1
/-- The operations N in whatever order: the state after them in the order of N is enough, and that after N' of them, where others may come up. -/
theorem AAnyG.news (N N' : List It) (kept : List (Nat × AV)) {listed : List Bool} {fuel fuel' fuel2 : Nat} (hf : fuel' = fuel + N.length) (hf2 : fuel2 = fuel + (N.length - N'.length)) (hst : ∀ it ∈ N, NStep P qs l env0 os0 N it ∨ NStepQ P qs l env0 os0 N it) (hnd : (N.map (·.i)).Nodup)
    (hds : (N.map (·.d)).Nodup) (hdn : ∀ it ∈ N, it.d < env0.n) (hl0 : ∀ it ∈ N, listed.getD it.i true = false) (hN' : N'.Sublist N)
    (hrd : (subs (N.map (·.i))).all (fun S => !depOk l (N.map (·.i)) S || (S.length == N.length || (N'.map (·.i)).isPerm S || chkR l listed (N.map (·.i)) S)) = true)
    (hk : ∀ p ∈ kept, env0.fd p.1 = some p.2 ∧ p.1 ∉ N.map (·.d) ∧ ∀ M, p.2.lim M = p.2 ∧ ∀ σ, p.2.ren σ = p.2)
    (ho : ∀ M, os0.length ≤ M → ∀ o ∈ os0, Clo os0.length M o) (hN : ∀ M, ∀ it ∈ N, CloI os0.length M it)
    (hstop : AAnyG P qs l fuel2 (lsD listed (N'.map (·.i))) K ⟨env0.n, canL N' os0.length ++ kept⟩ (os0 ++ osL N'))
    (hfin : AAnyG P qs l fuel (lsD listed (N.map (·.i))) K ⟨env0.n, canL N os0.length ++ kept⟩ (os0 ++ osL N)) : AAnyG P qs l fuel' listed K env0 os0 := by
  subst hf hf2
  have hnN : (N'.map (·.i)).Nodup := hnd.sublist (hN'.map _)
  have := AAnyG.newsRun (K := K) (fuel := fuel) (N' := N') (fun z hz => hN'.subset hz) hnN hst hnd hds hdn hl0 hrd (fun D hp => ?_) (fun D hp => ?_) N.length [] N rfl (by simp) (fun k hk => by cases hk)
  · simpa [lsD, upsL, osL] using this
  · rw [lsD_congr (B := N'.map (·.i)) fun k => (hp.map (·.i)).mem_iff]
    refine AAnyG.turns (news_turn hp hnN (hds.sublist (hN'.map _)) (fun it hit => hdn it (hN'.subset hit)) (fun p hp' => ?_) (ho _ (Nat.le_add_right _ _)) fun it hit => hN _ it (hN'.subset hit)) hstop
    obtain ⟨k1, k2, k3⟩ := hk p hp'
    exact ⟨k1, fun h => k2 ((hN'.map (·.d)).subset h), (k3 _).1, (k3 0).2⟩
  · rw [lsD_congr (B := N.map (·.i)) fun k => (hp.map (·.i)).mem_iff]
    refine AAnyG.turns (news_turn hp hnd hds hdn (fun p hp' => ?_) (ho _ (Nat.le_add_right _ _)) (hN _)) hfin
    obtain ⟨k1, k2, k3⟩ := hk p hp'
    exact ⟨k1, k2, (k3 _).1, (k3 0).2⟩
theorem all_nil {α : Type} {p : α → Prop} : ∀ x ∈ ([] : List α), p x := fun _ h => by cases h
theorem all_cons {α : Type} {p : α → Prop} {a : α} {l : List α} (h : p a) (hs : ∀ x ∈ l, p x) : ∀ x ∈ a :: l, p x := fun x hx => by
  rcases List.mem_cons.1 hx with rfl | hx
  · exact h
  · exact hs x hx
theorem clo_own {n0 M i d : Nat} {o : AO} (h : Clo n0 M o) : CloI n0 M ⟨i, d, .own o⟩ := ⟨fun x hx => by simp [It.os] at hx; subst hx; exact h, fun a e => by cases e⟩
theorem clo_ptr {n0 M i d : Nat} {o : AO} (h : Clo n0 M o) : CloI n0 M ⟨i, d, .ptr o⟩ := ⟨fun x hx => by simp [It.os] at hx; subst hx; exact h, fun a e => by cases e⟩
theorem clo_val {n0 M i d : Nat} {a : AV} (h : a.lim M = a) (h2 : ∀ σ, a.ren σ = a) : CloI n0 M ⟨i, d, .val a⟩ := ⟨fun x hx => by simp [It.os] at hx, fun b e => by cases e; exact ⟨h, h2⟩⟩
theorem clo_keep {n0 M n : Nat} {K : Kp} (h : n ≤ n0) (h2 : n ≤ M) : Clo n0 M (.keep n K) := by
  refine ⟨by simp only [AO.lim]; rw [if_pos h2], fun σ h3 h4 => ?_⟩
  simp only [AO.ren]
  rw [if_pos]
  refine ⟨by omega, ?_⟩
  have := congrArg (List.take n) h4
  rw [List.take_take, Nat.min_eq_left h, List.take_range, Nat.min_eq_left h] at this
  exact this
theorem kep_cons {ds : List Nat} {k : Nat} {a : AV} {N : List (Nat × AV)} (h1 : env0.fd k = some a) (h2 : ds.contains k = false) (h3 : ∀ M, a.lim M = a ∧ ∀ σ, a.ren σ = a) (hs : ∀ p ∈ N, env0.fd p.1 = some p.2 ∧ p.1 ∉ ds ∧ ∀ M, p.2.lim M = p.2 ∧ ∀ σ, p.2.ren σ = p.2) :
    ∀ p ∈ (k, a) :: N, env0.fd p.1 = some p.2 ∧ p.1 ∉ ds ∧ ∀ M, p.2.lim M = p.2 ∧ ∀ σ, p.2.ren σ = p.2 := all_cons ⟨h1, by simpa using h2, h3⟩ hs
end
end Go.Proofs.Ytbalbiliejjnoaa
/-
  All branch determinants, walked. Condition: a forest of at most 40 vertices.
-/
namespace Go.Proofs.Ytbalbiliejjnoaa
open Go Go.RowKit
attribute [local irreducible] AWp AOps ResIs Ret1 QOp LOp COp AFnV AFn Imms LeE LeO
set_option maxHeartbeats 1000000
set_option linter.unusedSimpArgs false
set_option linter.unusedVariables false

theorem brF_len (n : Nat) (near : Int → List Int) (W : List Int) : ∀ i, (brF n near W i).2.length ≤ i
  | 0 => Nat.le_refl _
  | i + 1 => by
    have ih := brF_len n near W i
    rw [brF]
    split
    · omega
    · simp only [List.length_append, List.length_cons, List.length_nil]; omega

set_option maxHeartbeats 16000000 in
theorem branchDeterminants_c (W : List Int) (E : List (List Int)) (h : GrF W E) :
    AFnC Try.prog 38 [.agg [.ints W, .intss E]] [] (fun r os => r = .tup [.own 0, .own 1, .own 2, .b (!(brF W.length (nearL E) W W.length).1.l)] ∧
      os = [.sli 2 (brF W.length (nearL E) W W.length).1.f, .sli 2 (brF W.length (nearL E) W W.length).1.g, .sli 2 (brF W.length (nearL E) W W.length).2]) := by
  have hn := h.n
  have hF := h.fo.fst
  have hnb := neighboursOf_c W E h
  have hrun := fun i (hi : i ≤ W.length) => br_run (W := W) hF h.w i hi
  have e0 : (⟨List.replicate (W.length : Int).toNat 0, List.replicate (W.length : Int).toNat 0, List.replicate (W.length : Int).toNat false, false⟩ : WS) = (brF W.length (nearL E) W 0).1 := by rw [Int.toNat_natCast]; rfl
  (refine AFnC.start Try.func38 Try.ntmps38 rfl (by kernel_rfl) fun K => ?_; simp only [Env.start, enumF, List.map_cons, List.map_nil, AV.sh, List.length_cons, List.length_nil, Nat.reduceAdd, Nat.reduceSub, List.cons_append, List.nil_append])
  repeat' (first
  | (apply AOps.nil; try simp only [List.nil_append, List.cons_append, List.set_cons_zero, List.set_cons_succ, List.length_cons, List.length_nil, Nat.reduceAdd, AV.sh, AV.sh1, AV.sh0, AO.sh, List.map_cons, List.map_nil, Nat.zero_add, Nat.add_zero, setAll])
  | ((apply AOps.splitP; exact rfl; exact rfl) <;> intro h)
  | ((apply AOps.splitN; exact rfl; exact rfl) <;> intro h)
  | (apply w_move; exact rfl; exact rfl)
  | (apply w_assign; exact rfl; exact rfl)
  | apply AWp.seq
  | apply AWp.region
  | ((apply AWp.condP; exact rfl) <;> intro h)
  | ((apply AWp.condN; exact rfl) <;> intro h)
  | (apply AWp.condT; exact rfl)
  | (apply AWp.condF; exact rfl)
  | ((apply AWp.condB; exact rfl) <;> intro h)
  | apply AWp.block
  | apply AWp.ret
  | apply AWp.exit
  | apply AWp.skip
  | (apply if_pos'; exact rfl)
  | (apply if_neg'; decide)
  | (apply w_skip; exact rfl)
  | (apply w_pickT; exact rfl; exact rfl; exact rfl)
  | (apply w_pickF; exact rfl; exact rfl; exact rfl)
  | (apply w_len; exact rfl; exact rfl; first | exact .ints _ | exact .intss _ | exact .sli rfl | exact .sls rfl | exact .slr rfl | exact .orow rfl | exact .nil)
  | omega
  | ((first | apply w_lss | apply w_leq | apply w_gtr | apply w_geq | apply w_eql | apply w_neq | apply w_add | apply w_sub | apply w_mul | apply w_idx | apply w_ld | apply w_fld | apply w_fa | apply w_extv | apply w_min | apply w_max | apply w_slhi | apply w_sllo | apply w_bs2); iterate 3 exact rfl)
  | ((first | apply w_eqlb | apply w_neqb | apply w_idxs | apply w_lds | apply w_ext); iterate 3 exact rfl)
  | (apply w_rem; exact rfl; exact rfl; exact rfl; (focus (omega; done)); (focus (omega; done)))
  | (apply w_quo; exact rfl; exact rfl; exact rfl; (focus (omega; done)); (focus (omega; done)))
  | (apply w_remT; exact rfl; exact rfl; exact rfl)
  | (apply w_quoT; exact rfl; exact rfl; exact rfl)
  | ((first | apply w_not | apply w_neg | apply w_conv | apply w_build0 | apply w_bs1 | apply w_boxa); iterate 2 exact rfl)
  | (apply w_idxo; exact rfl; exact rfl; (first | exact .sli rfl | exact .sls rfl | exact .slr rfl); exact rfl)
  | ((first | apply w_idxr | apply w_ldr); iterate 4 exact rfl)
  | (apply w_ldo; iterate 4 exact rfl)
  | (apply w_ldls; iterate 4 exact rfl)
  | (apply w_ldrp; iterate 4 exact rfl)
  | (apply w_ldb; iterate 5 exact rfl)
  | (apply w_ldst; iterate 5 exact rfl)
  | ((first | apply w_sllh | apply w_stbi); iterate 4 exact rfl)
  | ((first | apply w_oslo | apply w_oshi | apply w_stbii); iterate 4 exact rfl)
  | (apply w_build1; exact rfl; exact rfl; (first | exact one_val rfl rfl | exact one_ints | exact one_intss | exact one_own rfl True.intro))
  | (apply w_build2; exact rfl; exact rfl; exact rfl; (first | exact one_val rfl rfl | exact one_ints | exact one_intss | exact one_own rfl True.intro); (first | exact one_val rfl rfl | exact one_ints | exact one_intss | exact one_own rfl True.intro))
  | (apply w_bs0; iterate 1 exact rfl)
  | (apply w_appn; exact rfl; exact rfl; (first | exact .ints _ | exact .sli rfl | exact .orow rfl | exact .nil | exact .osub rfl (by simp; omega)); exact rfl)
  | (apply w_app; exact rfl; exact rfl; exact rfl; exact rfl; (first | exact .ints _ | exact .sli rfl | exact .orow rfl | exact .nil | exact .osub rfl (by simp; omega)); rotate_left 1; simp only [Env.mp, List.map_cons, List.map_nil, List.set_cons_zero, List.set_cons_succ, AV.kill, AV.kill1, AO.kill, AV.noRow, AV.noRow1, AO.via, reduceIte, Nat.reduceEqDiff, Nat.reduceLT, Env.up, Nat.zero_ne_one, Nat.one_ne_zero, Nat.reduceAdd, List.cons_append, List.nil_append]; rotate_left 1)
  | (apply w_alst; iterate 2 exact rfl)
  | (apply w_alone; iterate 3 exact rfl)
  | (apply w_mki; exact rfl; exact rfl; rotate_left 3; exact rfl; rotate_left 1)
  | (apply w_mkr; exact rfl; exact rfl; rotate_left 3; exact rfl; rotate_left 1)
  | (apply w_sti; exact rfl; exact rfl; rotate_left 1; exact rfl; rotate_left 2)
  | (apply w_stst; iterate 5 exact rfl)
  | (apply w_stbv; iterate 6 exact rfl)
  | (apply w_stbo; exact rfl; exact rfl; exact rfl; exact rfl; exact rfl; exact True.intro)
  | ((apply AOps.splitB; exact rfl; exact rfl) <;> intro h)
  | apply AllOf.nil
  | (apply AllOf.cons; exact rfl)
  | (apply AAny.take; exact rfl; exact rfl; kernel_rfl; kernel_rfl)
  | (apply AAny.all; exact rfl)
  | (apply AAny.done; exact rfl)
  | (apply inI_of <;> omega)
  | omega
  | (simp <;> omega))
  refine AWp.regionG [] (by kernel_rfl) (envC := ⟨50, [(6, .i W.length), (7, .optr 6 0)]⟩) (osC := [.keep 1 K, .bx 29 [.ints W, .intss E], .sls 22 2 (nbs W E), .sli 2 (brF W.length (nearL E) W 0).1.f, .sli 2 (brF W.length (nearL E) W 0).1.g, .slr 4 (bL (brF W.length (nearL E) W 0).1.s), .bx 83 [.ints W, .own 2, .own 3, .own 4, .own 5, .b (brF W.length (nearL E) W 0).1.l]]) rfl (by first | exact rfl | (simp [AO.lim, AV.lim, bL_lim]; done)) ?_ ?_
  · rw [← e0]
    repeat' (first
  | (apply AOps.nil; try simp only [List.nil_append, List.cons_append, List.set_cons_zero, List.set_cons_succ, List.length_cons, List.length_nil, Nat.reduceAdd, AV.sh, AV.sh1, AV.sh0, AO.sh, List.map_cons, List.map_nil, Nat.zero_add, Nat.add_zero, setAll])
  | ((apply AOps.splitP; exact rfl; exact rfl) <;> intro h)
  | ((apply AOps.splitN; exact rfl; exact rfl) <;> intro h)
  | (apply w_move; exact rfl; exact rfl)
  | (apply w_assign; exact rfl; exact rfl)
  | apply AWp.seq
  | apply AWp.region
  | ((apply AWp.condP; exact rfl) <;> intro h)
  | ((apply AWp.condN; exact rfl) <;> intro h)
  | (apply AWp.condT; exact rfl)
  | (apply AWp.condF; exact rfl)
  | ((apply AWp.condB; exact rfl) <;> intro h)
  | apply AWp.block
  | apply AWp.ret
  | apply AWp.exit
  | apply AWp.skip
  | (apply AWp.regionQ; kernel_rfl; kernel_rfl)
  | (apply if_pos'; exact rfl)
  | (apply if_neg'; decide)
  | (apply w_skip; exact rfl)
  | (apply w_pickT; exact rfl; exact rfl; exact rfl)
  | (apply w_pickF; exact rfl; exact rfl; exact rfl)
  | (apply w_len; exact rfl; exact rfl; first | exact .ints _ | exact .intss _ | exact .sli rfl | exact .sls rfl | exact .slr rfl | exact .orow rfl | exact .nil)
  | (apply AAnyG.takeW; exact rfl; exact rfl; kernel_rfl; kernel_rfl)
  | (apply AAnyG.takeL; exact rfl; exact rfl; kernel_rfl)
  | omega
  | ((first | apply w_lss | apply w_leq | apply w_gtr | apply w_geq | apply w_eql | apply w_neq | apply w_add | apply w_sub | apply w_mul | apply w_idx | apply w_ld | apply w_fld | apply w_fa | apply w_extv | apply w_min | apply w_max | apply w_slhi | apply w_sllo | apply w_bs2); iterate 3 exact rfl)
  | ((first | apply w_eqlb | apply w_neqb | apply w_idxs | apply w_lds | apply w_ext); iterate 3 exact rfl)
  | (apply w_rem; exact rfl; exact rfl; exact rfl; (focus (omega; done)); (focus (omega; done)))
  | (apply w_quo; exact rfl; exact rfl; exact rfl; (focus (omega; done)); (focus (omega; done)))
  | (apply w_remT; exact rfl; exact rfl; exact rfl)
  | (apply w_quoT; exact rfl; exact rfl; exact rfl)
  | ((first | apply w_not | apply w_neg | apply w_conv | apply w_build0 | apply w_bs1 | apply w_boxa); iterate 2 exact rfl)
  | (apply w_idxo; exact rfl; exact rfl; (first | exact .sli rfl | exact .sls rfl | exact .slr rfl); exact rfl)
  | ((first | apply w_idxr | apply w_ldr); iterate 4 exact rfl)
  | (apply w_ldo; iterate 4 exact rfl)
  | (apply w_ldls; iterate 4 exact rfl)
  | (apply w_ldrp; iterate 4 exact rfl)
  | (apply w_ldb; iterate 5 exact rfl)
  | (apply w_ldst; iterate 5 exact rfl)
  | ((first | apply w_sllh | apply w_stbi); iterate 4 exact rfl)
  | ((first | apply w_oslo | apply w_oshi | apply w_stbii); iterate 4 exact rfl)
  | (apply w_build1; exact rfl; exact rfl; (first | exact one_val rfl rfl | exact one_ints | exact one_intss | exact one_own rfl True.intro))
  | (apply w_build2; exact rfl; exact rfl; exact rfl; (first | exact one_val rfl rfl | exact one_ints | exact one_intss | exact one_own rfl True.intro); (first | exact one_val rfl rfl | exact one_ints | exact one_intss | exact one_own rfl True.intro))
  | (apply w_bs0; iterate 1 exact rfl)
  | (apply w_appn; exact rfl; exact rfl; (first | exact .ints _ | exact .sli rfl | exact .orow rfl | exact .nil | exact .osub rfl (by simp; omega)); exact rfl)
  | (apply w_app; exact rfl; exact rfl; exact rfl; exact rfl; (first | exact .ints _ | exact .sli rfl | exact .orow rfl | exact .nil | exact .osub rfl (by simp; omega)); rotate_left 1; simp only [Env.mp, List.map_cons, List.map_nil, List.set_cons_zero, List.set_cons_succ, AV.kill, AV.kill1, AO.kill, AV.noRow, AV.noRow1, AO.via, reduceIte, Nat.reduceEqDiff, Nat.reduceLT, Env.up, Nat.zero_ne_one, Nat.one_ne_zero, Nat.reduceAdd, List.cons_append, List.nil_append]; rotate_left 1)
  | (apply w_alst; iterate 2 exact rfl)
  | (apply w_alone; iterate 3 exact rfl)
  | (apply w_mki; exact rfl; exact rfl; rotate_left 3; exact rfl; rotate_left 1)
  | (apply w_mkr; exact rfl; exact rfl; rotate_left 3; exact rfl; rotate_left 1)
  | (apply w_sti; exact rfl; exact rfl; rotate_left 1; exact rfl; rotate_left 2)
  | (apply w_stst; iterate 5 exact rfl)
  | (apply w_stbv; iterate 6 exact rfl)
  | (apply w_stbo; exact rfl; exact rfl; exact rfl; exact rfl; exact rfl; exact True.intro)
  | ((apply AOps.splitB; exact rfl; exact rfl) <;> intro h)
  | apply AllOf.nil
  | (apply AllOf.cons; exact rfl)
  | (apply AAny.take; exact rfl; exact rfl; kernel_rfl; kernel_rfl)
  | (apply AAny.all; exact rfl)
  | (apply AAny.done; exact rfl)
  | (apply inI_of <;> omega)
  | omega
  | (simp <;> omega))
    refine AAnyG.news (fuel := 2) (fuel2 := 3) [⟨1, 14, .val (.ints W)⟩, ⟨2, 15, .val (.agg [.ints W, .intss E])⟩, ⟨3, 16, .own (.sls 22 2 (nbs W E))⟩, ⟨5, 18, .own (.sli 2 (List.replicate (W.length : Int).toNat 0))⟩, ⟨7, 20, .own (.sli 2 (List.replicate (W.length : Int).toNat 0))⟩, ⟨9, 22, .own (.slr 4 (bL (List.replicate (W.length : Int).toNat false)))⟩, ⟨11, 7, .ptr (.bx 83 [.val (.slice none 0 0), .val (.slice none 0 0), .val (.slice none 0 0), .val (.slice none 0 0), .val (.slice none 0 0), .val (.bool false)])⟩]
      [⟨1, 14, .val (.ints W)⟩, ⟨2, 15, .val (.agg [.ints W, .intss E])⟩, ⟨3, 16, .own (.sls 22 2 (nbs W E))⟩, ⟨5, 18, .own (.sli 2 (List.replicate (W.length : Int).toNat 0))⟩, ⟨7, 20, .own (.sli 2 (List.replicate (W.length : Int).toNat 0))⟩, ⟨9, 22, .own (.slr 4 (bL (List.replicate (W.length : Int).toNat false)))⟩] [(6, .i W.length)] rfl rfl
      (all_cons (.inr ⟨_, rfl, rfl, fun env os K' hE hO hd hK => ?_⟩) (all_cons (.inr ⟨_, rfl, rfl, fun env os K' hE hO hd hK => ?_⟩) (all_cons (.inl ⟨_, rfl, rfl, fun env os K' hE hO hd hK => ?_⟩) (all_cons (.inl ⟨_, rfl, rfl, fun env os K' hE hO hd hK => ?_⟩) (all_cons (.inl ⟨_, rfl, rfl, fun env os K' hE hO hd hK => ?_⟩) (all_cons (.inl ⟨_, rfl, rfl, fun env os K' hE hO hd hK => ?_⟩) (all_cons (.inl ⟨_, rfl, rfl, fun env os K' hE hO hd hK => ?_⟩) all_nil)))))))
      (show ([1, 2, 3, 5, 7, 9, 11] : List Nat).Nodup by decide) (show ([14, 15, 16, 18, 20, 22, 7] : List Nat).Nodup by decide) ?_ ?_ (.cons_cons _ (.cons_cons _ (.cons_cons _ (.cons_cons _ (.cons_cons _ (.cons_cons _ (.cons _ .slnil))))))) (by kernel_rfl) (kep_cons rfl rfl (fun _ => ⟨rfl, fun _ => rfl⟩) all_nil) (fun M hM => all_cons (clo_keep (Nat.le_of_ble_eq_true rfl) (Nat.le_trans (Nat.le_of_ble_eq_true rfl) hM)) (all_cons ⟨rfl, fun _ _ _ => rfl⟩ all_nil))
      (fun M => all_cons (clo_val rfl fun _ => rfl) (all_cons (clo_val rfl fun _ => rfl) (all_cons (clo_own ⟨rfl, fun _ _ _ => rfl⟩) (all_cons (clo_own ⟨rfl, fun _ _ _ => rfl⟩) (all_cons (clo_own ⟨rfl, fun _ _ _ => rfl⟩) (all_cons (clo_own ⟨congrArg (AO.slr _) (bL_lim _ _), fun _ _ _ => congrArg (AO.slr _) (bL_ren _ _)⟩) (all_cons (clo_ptr ⟨rfl, fun _ _ _ => rfl⟩) all_nil))))))) ?_ ?_
    · obtain ⟨t, rfl⟩ := hO
      refine w_ldb rfl rfl ((hE.2 13 (show 13 ∉ ([14, 15, 16, 18, 20, 22, 7] : List Nat) by decide)).trans rfl) rfl rfl (AOps.nil ?_)
      simpa [It.os, It.r] using hK
    · obtain ⟨t, rfl⟩ := hO
      refine w_ldst rfl rfl ((hE.2 1 (show 1 ∉ ([14, 15, 16, 18, 20, 22, 7] : List Nat) by decide)).trans rfl) rfl rfl ?_
      refine AOps.nil ?_
      simpa [It.os, It.r] using hK
    · have h15 := hd ⟨2, 15, .val (.agg [.ints W, .intss E])⟩ (by simp) _ rfl rfl
      refine w_callm hnb (im_cons h15 (im_agg2 (.ints _) (.intss _)) im_nil) ?_
      rintro r os0 ⟨rfl, rfl⟩
      refine AOps.nil ?_
      simpa [It.os, It.r, AV.sh, AO.sh] using hK
    · refine w_mki ((hE.2 17 (show 17 ∉ ([14, 15, 16, 18, 20, 22, 7] : List Nat) by decide)).trans rfl) ((hE.2 17 (show 17 ∉ ([14, 15, 16, 18, 20, 22, 7] : List Nat) by decide)).trans rfl) (by omega) (by omega) (by omega) rfl ?_
      exact AOps.nil hK
    · refine w_mki ((hE.2 19 (show 19 ∉ ([14, 15, 16, 18, 20, 22, 7] : List Nat) by decide)).trans rfl) ((hE.2 19 (show 19 ∉ ([14, 15, 16, 18, 20, 22, 7] : List Nat) by decide)).trans rfl) (by omega) (by omega) (by omega) rfl ?_
      exact AOps.nil hK
    · refine w_mkb ((hE.2 21 (show 21 ∉ ([14, 15, 16, 18, 20, 22, 7] : List Nat) by decide)).trans rfl) ((hE.2 21 (show 21 ∉ ([14, 15, 16, 18, 20, 22, 7] : List Nat) by decide)).trans rfl) (by omega) (by omega) (by omega) rfl ?_
      exact AOps.nil hK
    · refine w_alst rfl rfl ?_
      exact AOps.nil hK
    · exact all_cons (show 14 < 50 by decide) (all_cons (show 15 < 50 by decide) (all_cons (show 16 < 50 by decide) (all_cons (show 18 < 50 by decide) (all_cons (show 20 < 50 by decide) (all_cons (show 22 < 50 by decide) (all_cons (show 7 < 50 by decide) all_nil))))))
    · exact all_cons rfl (all_cons rfl (all_cons rfl (all_cons rfl (all_cons rfl (all_cons rfl (all_cons rfl all_nil))))))
    all_goals simp only [canL, It.r, It.os, osL, List.flatMap_cons, List.flatMap_nil, List.length_cons, List.length_nil, List.cons_append, List.nil_append, Nat.reduceAdd, Nat.zero_add, Nat.add_zero, List.append_nil]
    all_goals repeat' (first
  | (apply AOps.nil; try simp only [List.nil_append, List.cons_append, List.set_cons_zero, List.set_cons_succ, List.length_cons, List.length_nil, Nat.reduceAdd, AV.sh, AV.sh1, AV.sh0, AO.sh, List.map_cons, List.map_nil, Nat.zero_add, Nat.add_zero, setAll])
  | ((apply AOps.splitP; exact rfl; exact rfl) <;> intro h)
  | ((apply AOps.splitN; exact rfl; exact rfl) <;> intro h)
  | (apply w_move; exact rfl; exact rfl)
  | (apply w_assign; exact rfl; exact rfl)
  | apply AWp.seq
  | apply AWp.region
  | ((apply AWp.condP; exact rfl) <;> intro h)
  | ((apply AWp.condN; exact rfl) <;> intro h)
  | (apply AWp.condT; exact rfl)
  | (apply AWp.condF; exact rfl)
  | ((apply AWp.condB; exact rfl) <;> intro h)
  | apply AWp.block
  | apply AWp.ret
  | apply AWp.exit
  | apply AWp.skip
  | (apply AWp.regionQ; kernel_rfl; kernel_rfl)
  | (apply if_pos'; exact rfl)
  | (apply if_neg'; decide)
  | (apply w_skip; exact rfl)
  | (apply w_pickT; exact rfl; exact rfl; exact rfl)
  | (apply w_pickF; exact rfl; exact rfl; exact rfl)
  | (apply w_lenb; iterate 3 exact rfl)
  | (apply w_len; exact rfl; exact rfl; first | exact .ints _ | exact .intss _ | exact .sli rfl | exact .sls rfl | exact .slr rfl | exact .orow rfl | exact .nil)
  | (apply w_mkb; exact rfl; exact rfl; rotate_left 3; exact rfl; rotate_left 1)
  | (apply w_idxb; iterate 4 exact rfl)
  | (apply w_ldbl; iterate 4 exact rfl)
  | (apply w_stb; exact rfl; exact rfl; rotate_left 1; exact rfl; rotate_left 1)
  | (apply w_build56; exact rfl; exact rfl; exact rfl; exact rfl; exact rfl; exact rfl; exact rfl; (first | exact one_val rfl rfl | exact one_ints | exact one_intss | exact one_own rfl True.intro); (first | exact one_val rfl rfl | exact one_ints | exact one_intss | exact one_own rfl True.intro); (first | exact one_val rfl rfl | exact one_ints | exact one_intss | exact one_own rfl True.intro); (first | exact one_val rfl rfl | exact one_ints | exact one_intss | exact one_own rfl True.intro); (first | exact one_val rfl rfl | exact one_ints | exact one_intss | exact one_own rfl True.intro))
  | apply AllOfG.nil
  | (apply AllOfG.consQ; exact rfl; exact rfl)
  | (apply AllOfG.consS; exact rfl; exact rfl)
  | (apply AAnyG.takeW; exact rfl; exact rfl; kernel_rfl; kernel_rfl)
  | (apply AAnyG.takeL; exact rfl; exact rfl; kernel_rfl)
  | (apply AAnyG.all; exact rfl)
  | (apply AAnyG.done; exact rfl)
  | omega
  | ((first | apply w_lss | apply w_leq | apply w_gtr | apply w_geq | apply w_eql | apply w_neq | apply w_add | apply w_sub | apply w_mul | apply w_idx | apply w_ld | apply w_fld | apply w_fa | apply w_extv | apply w_min | apply w_max | apply w_slhi | apply w_sllo | apply w_bs2); iterate 3 exact rfl)
  | ((first | apply w_eqlb | apply w_neqb | apply w_idxs | apply w_lds | apply w_ext); iterate 3 exact rfl)
  | (apply w_rem; exact rfl; exact rfl; exact rfl; (focus (omega; done)); (focus (omega; done)))
  | (apply w_quo; exact rfl; exact rfl; exact rfl; (focus (omega; done)); (focus (omega; done)))
  | (apply w_remT; exact rfl; exact rfl; exact rfl)
  | (apply w_quoT; exact rfl; exact rfl; exact rfl)
  | ((first | apply w_not | apply w_neg | apply w_conv | apply w_build0 | apply w_bs1 | apply w_boxa); iterate 2 exact rfl)
  | (apply w_idxo; exact rfl; exact rfl; (first | exact .sli rfl | exact .sls rfl | exact .slr rfl); exact rfl)
  | ((first | apply w_idxr | apply w_ldr); iterate 4 exact rfl)
  | (apply w_ldo; iterate 4 exact rfl)
  | (apply w_ldls; iterate 4 exact rfl)
  | (apply w_ldrp; iterate 4 exact rfl)
  | (apply w_ldb; iterate 5 exact rfl)
  | (apply w_ldst; iterate 5 exact rfl)
  | ((first | apply w_sllh | apply w_stbi); iterate 4 exact rfl)
  | ((first | apply w_oslo | apply w_oshi | apply w_stbii); iterate 4 exact rfl)
  | (apply w_build1; exact rfl; exact rfl; (first | exact one_val rfl rfl | exact one_ints | exact one_intss | exact one_own rfl True.intro))
  | (apply w_build2; exact rfl; exact rfl; exact rfl; (first | exact one_val rfl rfl | exact one_ints | exact one_intss | exact one_own rfl True.intro); (first | exact one_val rfl rfl | exact one_ints | exact one_intss | exact one_own rfl True.intro))
  | (apply w_bs0; iterate 1 exact rfl)
  | (apply w_appn; exact rfl; exact rfl; (first | exact .ints _ | exact .sli rfl | exact .orow rfl | exact .nil | exact .osub rfl (by simp; omega)); exact rfl)
  | (apply w_app; exact rfl; exact rfl; exact rfl; exact rfl; (first | exact .ints _ | exact .sli rfl | exact .orow rfl | exact .nil | exact .osub rfl (by simp; omega)); rotate_left 1; simp only [Env.mp, List.map_cons, List.map_nil, List.set_cons_zero, List.set_cons_succ, AV.kill, AV.kill1, AO.kill, bL_kill, AV.noRow, AV.noRow1, AO.via, reduceIte, Nat.reduceEqDiff, Nat.reduceLT, Env.up, Nat.zero_ne_one, Nat.one_ne_zero, Nat.reduceAdd, List.cons_append, List.nil_append]; rotate_left 1)
  | (apply w_alst; iterate 2 exact rfl)
  | (apply w_alone; iterate 3 exact rfl)
  | (apply w_mki; exact rfl; exact rfl; rotate_left 3; exact rfl; rotate_left 1)
  | (apply w_mkr; exact rfl; exact rfl; rotate_left 3; exact rfl; rotate_left 1)
  | (apply w_sti; exact rfl; exact rfl; rotate_left 1; exact rfl; rotate_left 2)
  | (apply w_stst; iterate 5 exact rfl)
  | (apply w_stbv; iterate 6 exact rfl)
  | (apply w_stbo; exact rfl; exact rfl; exact rfl; exact rfl; exact rfl; exact True.intro)
  | ((apply AOps.splitB; exact rfl; exact rfl) <;> intro h)
  | apply AllOf.nil
  | (apply AllOf.cons; exact rfl)
  | (apply AAny.take; exact rfl; exact rfl; kernel_rfl; kernel_rfl)
  | (apply AAny.all; exact rfl)
  | (apply AAny.done; exact rfl)
  | (apply inI_of <;> omega)
  | omega
  | (simp <;> omega))
    all_goals (first | (apply Or.inl; refine ⟨lee rfl ?_, ?_, rfl, (by first | exact rfl | (simp [AO.lim, AV.lim, bL_lim]; done))⟩; (focus ((repeat (first | exact le_nil | refine le_eq rfl rfl ?_ | (refine le_eq rfl (congrArg AV.i ?_) ?_; (focus (omega; done))))); done)); (focus ((repeat (first | exact lo_nil | refine lo_dead ?_ | refine lo_eq rfl ?_ | refine lo_eq (congrArg (AO.slr _) (bL_ren _ _)) ?_)); done))))
  refine AWp.turns (Turns.freeze (k := 2) rfl) ?_
  simp only [Env.mp, List.map_cons, List.map_nil, List.set_cons_zero, List.set_cons_succ, AV.frz, AV.frz1, AO.frz, bL_frz, reduceIte, Nat.reduceEqDiff, Nat.zero_ne_one, Nat.one_ne_zero]
  repeat' (first
  | (apply AOps.nil; try simp only [List.nil_append, List.cons_append, List.set_cons_zero, List.set_cons_succ, List.length_cons, List.length_nil, Nat.reduceAdd, AV.sh, AV.sh1, AV.sh0, AO.sh, List.map_cons, List.map_nil, Nat.zero_add, Nat.add_zero, setAll])
  | ((apply AOps.splitP; exact rfl; exact rfl) <;> intro h)
  | ((apply AOps.splitN; exact rfl; exact rfl) <;> intro h)
  | (apply w_move; exact rfl; exact rfl)
  | (apply w_assign; exact rfl; exact rfl)
  | apply AWp.seq
  | apply AWp.region
  | ((apply AWp.condP; exact rfl) <;> intro h)
  | ((apply AWp.condN; exact rfl) <;> intro h)
  | (apply AWp.condT; exact rfl)
  | (apply AWp.condF; exact rfl)
  | ((apply AWp.condB; exact rfl) <;> intro h)
  | apply AWp.block
  | apply AWp.ret
  | apply AWp.exit
  | apply AWp.skip
  | (apply if_pos'; exact rfl)
  | (apply if_neg'; decide)
  | (apply w_skip; exact rfl)
  | (apply w_pickT; exact rfl; exact rfl; exact rfl)
  | (apply w_pickF; exact rfl; exact rfl; exact rfl)
  | (apply w_len; exact rfl; exact rfl; first | exact .ints _ | exact .intss _ | exact .sli rfl | exact .sls rfl | exact .slr rfl | exact .orow rfl | exact .nil)
  | omega
  | ((first | apply w_lss | apply w_leq | apply w_gtr | apply w_geq | apply w_eql | apply w_neq | apply w_add | apply w_sub | apply w_mul | apply w_idx | apply w_ld | apply w_fld | apply w_fa | apply w_extv | apply w_min | apply w_max | apply w_slhi | apply w_sllo | apply w_bs2); iterate 3 exact rfl)
  | ((first | apply w_eqlb | apply w_neqb | apply w_idxs | apply w_lds | apply w_ext); iterate 3 exact rfl)
  | (apply w_rem; exact rfl; exact rfl; exact rfl; (focus (omega; done)); (focus (omega; done)))
  | (apply w_quo; exact rfl; exact rfl; exact rfl; (focus (omega; done)); (focus (omega; done)))
  | (apply w_remT; exact rfl; exact rfl; exact rfl)
  | (apply w_quoT; exact rfl; exact rfl; exact rfl)
  | ((first | apply w_not | apply w_neg | apply w_conv | apply w_build0 | apply w_bs1 | apply w_boxa); iterate 2 exact rfl)
  | (apply w_idxo; exact rfl; exact rfl; (first | exact .sli rfl | exact .sls rfl | exact .slr rfl); exact rfl)
  | ((first | apply w_idxr | apply w_ldr); iterate 4 exact rfl)
  | (apply w_ldo; iterate 4 exact rfl)
  | (apply w_ldls; iterate 4 exact rfl)
  | (apply w_ldrp; iterate 4 exact rfl)
  | (apply w_ldb; iterate 5 exact rfl)
  | (apply w_ldst; iterate 5 exact rfl)
  | ((first | apply w_sllh | apply w_stbi); iterate 4 exact rfl)
  | ((first | apply w_oslo | apply w_oshi | apply w_stbii); iterate 4 exact rfl)
  | (apply w_build1; exact rfl; exact rfl; (first | exact one_val rfl rfl | exact one_ints | exact one_intss | exact one_own rfl True.intro))
  | (apply w_build2; exact rfl; exact rfl; exact rfl; (first | exact one_val rfl rfl | exact one_ints | exact one_intss | exact one_own rfl True.intro); (first | exact one_val rfl rfl | exact one_ints | exact one_intss | exact one_own rfl True.intro))
  | (apply w_bs0; iterate 1 exact rfl)
  | (apply w_appn; exact rfl; exact rfl; (first | exact .ints _ | exact .sli rfl | exact .orow rfl | exact .nil | exact .osub rfl (by simp; omega)); exact rfl)
  | (apply w_app; exact rfl; exact rfl; exact rfl; exact rfl; (first | exact .ints _ | exact .sli rfl | exact .orow rfl | exact .nil | exact .osub rfl (by simp; omega)); rotate_left 1; simp only [Env.mp, List.map_cons, List.map_nil, List.set_cons_zero, List.set_cons_succ, AV.kill, AV.kill1, AO.kill, AV.noRow, AV.noRow1, AO.via, reduceIte, Nat.reduceEqDiff, Nat.reduceLT, Env.up, Nat.zero_ne_one, Nat.one_ne_zero, Nat.reduceAdd, List.cons_append, List.nil_append]; rotate_left 1)
  | (apply w_alst; iterate 2 exact rfl)
  | (apply w_alone; iterate 3 exact rfl)
  | (apply w_mki; exact rfl; exact rfl; rotate_left 3; exact rfl; rotate_left 1)
  | (apply w_mkr; exact rfl; exact rfl; rotate_left 3; exact rfl; rotate_left 1)
  | (apply w_sti; exact rfl; exact rfl; rotate_left 1; exact rfl; rotate_left 2)
  | (apply w_stst; iterate 5 exact rfl)
  | (apply w_stbv; iterate 6 exact rfl)
  | (apply w_stbo; exact rfl; exact rfl; exact rfl; exact rfl; exact rfl; exact True.intro)
  | ((apply AOps.splitB; exact rfl; exact rfl) <;> intro h)
  | apply AllOf.nil
  | (apply AllOf.cons; exact rfl)
  | (apply AAny.take; exact rfl; exact rfl; kernel_rfl; kernel_rfl)
  | (apply AAny.all; exact rfl)
  | (apply AAny.done; exact rfl)
  | (apply inI_of <;> omega)
  | omega
  | (simp <;> omega))
  refine AWp.loop (ι := Nat) (fun i => ⟨50, [(6, .i W.length), (7, .optr 6 0), (8, .own 7), (25, .i W.length), (26, .i i)]⟩) (fun i => [.keep 1 K, .bx 29 [.ints W, .intss E], .dead, .sli 2 (brF W.length (nearL E) W i).1.f, .sli 2 (brF W.length (nearL E) W i).1.g, .slr 4 (bL (brF W.length (nearL E) W i).1.s), .bx 83 [.ints W, .intss (nbs W E), .own 3, .own 4, .own 5, .b (brF W.length (nearL E) W i).1.l], .sli 2 (brF W.length (nearL E) W i).2])
    (fun i => i ≤ W.length) (fun i => W.length - i) 0 (by omega) ⟨lee rfl (by (repeat (first | exact le_nil | refine le_eq rfl rfl ?_ | refine le_eq rfl (congrArg AV.i (by omega)) ?_))), by (repeat (first | exact lo_nil | refine lo_dead ?_ | refine lo_eq rfl ?_)), rfl, (by first | exact rfl | (simp [AO.lim, AV.lim, bL_lim]; done))⟩ ?_
  intro i i0
  have hi0 := hrun i i0
  have ok := hi0.ok
  have cn := hi0.cnt
  have ls := ok.ls
  have lf := ok.lf
  have lg := ok.lg
  by_cases hi : i < W.length
  · have hstep : brF W.length (nearL E) W (i + 1) = if (brF W.length (nearL E) W i).1.sn (i : Nat) = true then brF W.length (nearL E) W i else (visF W (nearL E) W.length (i : Nat) (brF W.length (nearL E) W i).1, (brF W.length (nearL E) W i).2 ++ [(i : Int)]) := rfl
    have hbl : ((brF W.length (nearL E) W i).2.length + [(i : Int)].length) * 8 ≤ 140737488355328 := by
      have := brF_len W.length (nearL E) W i
      simp only [List.length_cons, List.length_nil]; omega
    generalize brF W.length (nearL E) W i = b at *
    cases hsc : b.1.sn (i : Nat) with
    | true =>
      rw [hsc, if_pos rfl] at hstep
      rw [sn_get] at hsc
      repeat' (first
  | (apply AOps.nil; try simp only [List.nil_append, List.cons_append, List.set_cons_zero, List.set_cons_succ, List.length_cons, List.length_nil, Nat.reduceAdd, AV.sh, AV.sh1, AV.sh0, AO.sh, List.map_cons, List.map_nil, Nat.zero_add, Nat.add_zero, setAll])
  | ((apply AOps.splitP; exact rfl; exact rfl) <;> intro h)
  | ((apply AOps.splitN; exact rfl; exact rfl) <;> intro h)
  | (apply w_move; exact rfl; exact rfl)
  | (apply w_assign; exact rfl; exact rfl)
  | apply AWp.seq
  | apply AWp.region
  | ((apply AWp.condP; exact rfl) <;> intro h)
  | ((apply AWp.condN; exact rfl) <;> intro h)
  | (apply AWp.condT; exact rfl)
  | (apply AWp.condF; exact rfl)
  | ((apply AWp.condB; exact rfl) <;> intro h)
  | apply AWp.block
  | apply AWp.ret
  | apply AWp.exit
  | apply AWp.skip
  | (apply if_pos'; exact rfl)
  | (apply if_neg'; decide)
  | (apply w_skip; exact rfl)
  | (apply w_pickT; exact rfl; exact rfl; exact rfl)
  | (apply w_pickF; exact rfl; exact rfl; exact rfl)
  | (apply w_lenb; iterate 3 exact rfl)
  | (apply w_len; exact rfl; exact rfl; first | exact .ints _ | exact .intss _ | exact .sli rfl | exact .sls rfl | exact .slr rfl | exact .orow rfl | exact .nil)
  | (apply w_mkb; exact rfl; exact rfl; rotate_left 3; exact rfl; rotate_left 1)
  | (apply w_idxb; iterate 4 exact rfl)
  | (apply w_ldbl; iterate 4 exact rfl)
  | (apply w_stb; exact rfl; exact rfl; rotate_left 1; exact rfl; rotate_left 1)
  | (apply w_ldbi; iterate 5 exact rfl)
  | (apply w_ldbn; iterate 5 exact rfl)
  | ((first | apply w_nilck | apply w_convu | apply w_convi | apply w_not | apply w_neg | apply w_conv | apply w_build0 | apply w_bs1 | apply w_boxa); iterate 2 exact rfl)
  | ((first | apply w_shr1 | apply w_lss | apply w_leq | apply w_gtr | apply w_geq | apply w_eql | apply w_neq | apply w_add | apply w_sub | apply w_mul | apply w_idx | apply w_ld | apply w_fld | apply w_fa | apply w_extv | apply w_min | apply w_max | apply w_slhi | apply w_sllo | apply w_bs2); iterate 3 exact rfl)
  | omega
  | ((first | apply w_eqlb | apply w_neqb | apply w_idxs | apply w_lds | apply w_ext); iterate 3 exact rfl)
  | (apply w_rem; exact rfl; exact rfl; exact rfl; (focus (omega; done)); (focus (omega; done)))
  | (apply w_quo; exact rfl; exact rfl; exact rfl; (focus (omega; done)); (focus (omega; done)))
  | (apply w_remT; exact rfl; exact rfl; exact rfl)
  | (apply w_quoT; exact rfl; exact rfl; exact rfl)
  | (apply w_idxo; exact rfl; exact rfl; (first | exact .sli rfl | exact .sls rfl | exact .slr rfl); exact rfl)
  | ((first | apply w_idxr | apply w_ldr); iterate 4 exact rfl)
  | (apply w_ldo; iterate 4 exact rfl)
  | (apply w_ldls; iterate 4 exact rfl)
  | (apply w_ldrp; iterate 4 exact rfl)
  | (apply w_ldb; iterate 5 exact rfl)
  | (apply w_ldst; iterate 5 exact rfl)
  | ((first | apply w_sllh | apply w_stbi); iterate 4 exact rfl)
  | ((first | apply w_oslo | apply w_oshi | apply w_stbii); iterate 4 exact rfl)
  | (apply w_build1; exact rfl; exact rfl; (first | exact one_val rfl rfl | exact one_ints | exact one_intss | exact one_own rfl True.intro))
  | (apply w_build2; exact rfl; exact rfl; exact rfl; (first | exact one_val rfl rfl | exact one_ints | exact one_intss | exact one_own rfl True.intro); (first | exact one_val rfl rfl | exact one_ints | exact one_intss | exact one_own rfl True.intro))
  | (apply w_bs0; iterate 1 exact rfl)
  | (apply w_appn; exact rfl; exact rfl; (first | exact .ints _ | exact .sli rfl | exact .orow rfl | exact .nil | exact .osub rfl (by simp; omega)); exact rfl)
  | (apply w_app; exact rfl; exact rfl; exact rfl; exact rfl; (first | exact .ints _ | exact .sli rfl | exact .orow rfl | exact .nil | exact .osub rfl (by simp; omega)); rotate_left 1; simp only [Env.mp, List.map_cons, List.map_nil, List.set_cons_zero, List.set_cons_succ, AV.kill, AV.kill1, AO.kill, bL_kill, AV.noRow, AV.noRow1, AO.via, reduceIte, Nat.reduceEqDiff, Nat.reduceLT, Env.up, Nat.zero_ne_one, Nat.one_ne_zero, Nat.reduceAdd, List.cons_append, List.nil_append]; rotate_left 1)
  | (apply w_alst; iterate 2 exact rfl)
  | (apply w_alone; iterate 3 exact rfl)
  | (apply w_mki; exact rfl; exact rfl; rotate_left 3; exact rfl; rotate_left 1)
  | (apply w_mkr; exact rfl; exact rfl; rotate_left 3; exact rfl; rotate_left 1)
  | (apply w_sti; exact rfl; exact rfl; rotate_left 1; exact rfl; rotate_left 2)
  | (apply w_stst; iterate 5 exact rfl)
  | (apply w_stbv; iterate 6 exact rfl)
  | (apply w_stbo; exact rfl; exact rfl; exact rfl; exact rfl; exact rfl; exact True.intro)
  | ((apply AOps.splitB; exact rfl; exact rfl) <;> intro h)
  | apply AllOf.nil
  | (apply AllOf.cons; exact rfl)
  | (apply AAny.take; exact rfl; exact rfl; kernel_rfl; kernel_rfl)
  | (apply AAny.all; exact rfl)
  | (apply AAny.done; exact rfl)
  | (apply inI_of <;> omega)
  | omega
  | (simp <;> omega))
      all_goals try (exfalso; simp_all; done)
      exact ⟨i + 1, by omega, by omega, by rw [hstep]; exact ⟨lee rfl (by (repeat (first | exact le_nil | refine le_eq rfl rfl ?_ | refine le_eq rfl (congrArg AV.i (by omega)) ?_))), by (repeat (first | exact lo_nil | refine lo_dead ?_ | refine lo_eq rfl ?_)), rfl, (by first | exact rfl | (simp [AO.lim, AV.lim, bL_lim]; done))⟩⟩
    | false =>
      rw [hsc, if_neg (by decide)] at hstep
      have hcall := visit_c W E h W.length (i : Nat) b.1 ok cn ⟨by omega, by omega⟩ hsc
      rw [sn_get] at hsc
      generalize visF W (nearL E) W.length (i : Nat) b.1 = u at *
      repeat' (first
  | (apply AOps.nil; try simp only [List.nil_append, List.cons_append, List.set_cons_zero, List.set_cons_succ, List.length_cons, List.length_nil, Nat.reduceAdd, AV.sh, AV.sh1, AV.sh0, AO.sh, List.map_cons, List.map_nil, Nat.zero_add, Nat.add_zero, setAll])
  | ((apply AOps.splitP; exact rfl; exact rfl) <;> intro h)
  | ((apply AOps.splitN; exact rfl; exact rfl) <;> intro h)
  | (apply w_move; exact rfl; exact rfl)
  | (apply w_assign; exact rfl; exact rfl)
  | apply AWp.seq
  | apply AWp.region
  | ((apply AWp.condP; exact rfl) <;> intro h)
  | ((apply AWp.condN; exact rfl) <;> intro h)
  | (apply AWp.condT; exact rfl)
  | (apply AWp.condF; exact rfl)
  | ((apply AWp.condB; exact rfl) <;> intro h)
  | apply AWp.block
  | apply AWp.ret
  | apply AWp.exit
  | apply AWp.skip
  | (apply if_pos'; exact rfl)
  | (apply if_neg'; decide)
  | (apply w_skip; exact rfl)
  | (apply w_pickT; exact rfl; exact rfl; exact rfl)
  | (apply w_pickF; exact rfl; exact rfl; exact rfl)
  | (apply w_lenb; iterate 3 exact rfl)
  | (apply w_len; exact rfl; exact rfl; first | exact .ints _ | exact .intss _ | exact .sli rfl | exact .sls rfl | exact .slr rfl | exact .orow rfl | exact .nil)
  | (apply w_mkb; exact rfl; exact rfl; rotate_left 3; exact rfl; rotate_left 1)
  | (apply w_idxb; iterate 4 exact rfl)
  | (apply w_ldbl; iterate 4 exact rfl)
  | (apply w_stb; exact rfl; exact rfl; rotate_left 1; exact rfl; rotate_left 1)
  | (apply w_ldbi; iterate 5 exact rfl)
  | (apply w_ldbn; iterate 5 exact rfl)
  | ((first | apply w_nilck | apply w_convu | apply w_convi | apply w_not | apply w_neg | apply w_conv | apply w_build0 | apply w_bs1 | apply w_boxa); iterate 2 exact rfl)
  | ((first | apply w_shr1 | apply w_lss | apply w_leq | apply w_gtr | apply w_geq | apply w_eql | apply w_neq | apply w_add | apply w_sub | apply w_mul | apply w_idx | apply w_ld | apply w_fld | apply w_fa | apply w_extv | apply w_min | apply w_max | apply w_slhi | apply w_sllo | apply w_bs2); iterate 3 exact rfl)
  | (apply w_callb (hcall); exact rfl; exact rfl; exact rfl; exact rfl; exact rfl; exact rfl; exact rfl; (first | exact rdI_ro _ _ | exact rdI_ints _); (first | exact rdN_ro _ _ | exact rdN_intss _); exact rfl; try simp only [List.nil_append, List.cons_append, List.set_cons_zero, List.set_cons_succ, List.length_cons, List.length_nil, Nat.reduceAdd, AV.sh, AV.sh1, AV.sh0, AO.sh, List.map_cons, List.map_nil, Nat.zero_add, Nat.add_zero, setAll])
  | omega
  | ((first | apply w_eqlb | apply w_neqb | apply w_idxs | apply w_lds | apply w_ext); iterate 3 exact rfl)
  | (apply w_rem; exact rfl; exact rfl; exact rfl; (focus (omega; done)); (focus (omega; done)))
  | (apply w_quo; exact rfl; exact rfl; exact rfl; (focus (omega; done)); (focus (omega; done)))
  | (apply w_remT; exact rfl; exact rfl; exact rfl)
  | (apply w_quoT; exact rfl; exact rfl; exact rfl)
  | (apply w_idxo; exact rfl; exact rfl; (first | exact .sli rfl | exact .sls rfl | exact .slr rfl); exact rfl)
  | ((first | apply w_idxr | apply w_ldr); iterate 4 exact rfl)
  | (apply w_ldo; iterate 4 exact rfl)
  | (apply w_ldls; iterate 4 exact rfl)
  | (apply w_ldrp; iterate 4 exact rfl)
  | (apply w_ldb; iterate 5 exact rfl)
  | (apply w_ldst; iterate 5 exact rfl)
  | ((first | apply w_sllh | apply w_stbi); iterate 4 exact rfl)
  | ((first | apply w_oslo | apply w_oshi | apply w_stbii); iterate 4 exact rfl)
  | (apply w_build1; exact rfl; exact rfl; (first | exact one_val rfl rfl | exact one_ints | exact one_intss | exact one_own rfl True.intro))
  | (apply w_build2; exact rfl; exact rfl; exact rfl; (first | exact one_val rfl rfl | exact one_ints | exact one_intss | exact one_own rfl True.intro); (first | exact one_val rfl rfl | exact one_ints | exact one_intss | exact one_own rfl True.intro))
  | (apply w_bs0; iterate 1 exact rfl)
  | (apply w_appn; exact rfl; exact rfl; (first | exact .ints _ | exact .sli rfl | exact .orow rfl | exact .nil | exact .osub rfl (by simp; omega)); exact rfl)
  | (apply w_app; exact rfl; exact rfl; exact rfl; exact rfl; (first | exact .ints _ | exact .sli rfl | exact .orow rfl | exact .nil | exact .osub rfl (by simp; omega)); rotate_left 1; simp only [Env.mp, List.map_cons, List.map_nil, List.set_cons_zero, List.set_cons_succ, AV.kill, AV.kill1, AO.kill, bL_kill, AV.noRow, AV.noRow1, AO.via, reduceIte, Nat.reduceEqDiff, Nat.reduceLT, Env.up, Nat.zero_ne_one, Nat.one_ne_zero, Nat.reduceAdd, List.cons_append, List.nil_append]; rotate_left 1)
  | (apply w_alst; iterate 2 exact rfl)
  | (apply w_alone; iterate 3 exact rfl)
  | (apply w_mki; exact rfl; exact rfl; rotate_left 3; exact rfl; rotate_left 1)
  | (apply w_mkr; exact rfl; exact rfl; rotate_left 3; exact rfl; rotate_left 1)
  | (apply w_sti; exact rfl; exact rfl; rotate_left 1; exact rfl; rotate_left 2)
  | (apply w_stst; iterate 5 exact rfl)
  | (apply w_stbv; iterate 6 exact rfl)
  | (apply w_stbo; exact rfl; exact rfl; exact rfl; exact rfl; exact rfl; exact True.intro)
  | ((apply AOps.splitB; exact rfl; exact rfl) <;> intro h)
  | apply AllOf.nil
  | (apply AllOf.cons; exact rfl)
  | (apply AAny.take; exact rfl; exact rfl; kernel_rfl; kernel_rfl)
  | (apply AAny.all; exact rfl)
  | (apply AAny.done; exact rfl)
  | (apply inI_of <;> omega)
  | omega
  | (simp <;> omega))
      all_goals try (exfalso; simp_all; done)
      exact ⟨i + 1, by omega, by omega, by rw [hstep]; exact ⟨lee rfl (by (repeat (first | exact le_nil | refine le_eq rfl rfl ?_ | refine le_eq rfl (congrArg AV.i (by omega)) ?_))), by (repeat (first | exact lo_nil | refine lo_dead ?_ | refine lo_eq rfl ?_)), rfl, (by first | exact rfl | (simp [AO.lim, AV.lim, bL_lim]; done))⟩⟩
  · have ei : i = W.length := by omega
    subst ei
    repeat' (first
  | (apply AOps.nil; try simp only [List.nil_append, List.cons_append, List.set_cons_zero, List.set_cons_succ, List.length_cons, List.length_nil, Nat.reduceAdd, AV.sh, AV.sh1, AV.sh0, AO.sh, List.map_cons, List.map_nil, Nat.zero_add, Nat.add_zero, setAll])
  | ((apply AOps.splitP; exact rfl; exact rfl) <;> intro h)
  | ((apply AOps.splitN; exact rfl; exact rfl) <;> intro h)
  | (apply w_move; exact rfl; exact rfl)
  | (apply w_assign; exact rfl; exact rfl)
  | apply AWp.seq
  | apply AWp.region
  | ((apply AWp.condP; exact rfl) <;> intro h)
  | ((apply AWp.condN; exact rfl) <;> intro h)
  | (apply AWp.condT; exact rfl)
  | (apply AWp.condF; exact rfl)
  | ((apply AWp.condB; exact rfl) <;> intro h)
  | apply AWp.block
  | apply AWp.ret
  | apply AWp.exit
  | apply AWp.skip
  | (apply if_pos'; exact rfl)
  | (apply if_neg'; decide)
  | (apply w_skip; exact rfl)
  | (apply w_pickT; exact rfl; exact rfl; exact rfl)
  | (apply w_pickF; exact rfl; exact rfl; exact rfl)
  | (apply w_lenb; iterate 3 exact rfl)
  | (apply w_len; exact rfl; exact rfl; first | exact .ints _ | exact .intss _ | exact .sli rfl | exact .sls rfl | exact .slr rfl | exact .orow rfl | exact .nil)
  | (apply w_mkb; exact rfl; exact rfl; rotate_left 3; exact rfl; rotate_left 1)
  | (apply w_idxb; iterate 4 exact rfl)
  | (apply w_ldbl; iterate 4 exact rfl)
  | (apply w_stb; exact rfl; exact rfl; rotate_left 1; exact rfl; rotate_left 1)
  | (apply w_ldbi; iterate 5 exact rfl)
  | (apply w_ldbn; iterate 5 exact rfl)
  | ((first | apply w_nilck | apply w_convu | apply w_convi | apply w_not | apply w_neg | apply w_conv | apply w_build0 | apply w_bs1 | apply w_boxa); iterate 2 exact rfl)
  | ((first | apply w_shr1 | apply w_lss | apply w_leq | apply w_gtr | apply w_geq | apply w_eql | apply w_neq | apply w_add | apply w_sub | apply w_mul | apply w_idx | apply w_ld | apply w_fld | apply w_fa | apply w_extv | apply w_min | apply w_max | apply w_slhi | apply w_sllo | apply w_bs2); iterate 3 exact rfl)
  | omega
  | ((first | apply w_eqlb | apply w_neqb | apply w_idxs | apply w_lds | apply w_ext); iterate 3 exact rfl)
  | (apply w_rem; exact rfl; exact rfl; exact rfl; (focus (omega; done)); (focus (omega; done)))
  | (apply w_quo; exact rfl; exact rfl; exact rfl; (focus (omega; done)); (focus (omega; done)))
  | (apply w_remT; exact rfl; exact rfl; exact rfl)
  | (apply w_quoT; exact rfl; exact rfl; exact rfl)
  | (apply w_idxo; exact rfl; exact rfl; (first | exact .sli rfl | exact .sls rfl | exact .slr rfl); exact rfl)
  | ((first | apply w_idxr | apply w_ldr); iterate 4 exact rfl)
  | (apply w_ldo; iterate 4 exact rfl)
  | (apply w_ldls; iterate 4 exact rfl)
  | (apply w_ldrp; iterate 4 exact rfl)
  | (apply w_ldb; iterate 5 exact rfl)
  | (apply w_ldst; iterate 5 exact rfl)
  | ((first | apply w_sllh | apply w_stbi); iterate 4 exact rfl)
  | ((first | apply w_oslo | apply w_oshi | apply w_stbii); iterate 4 exact rfl)
  | (apply w_build1; exact rfl; exact rfl; (first | exact one_val rfl rfl | exact one_ints | exact one_intss | exact one_own rfl True.intro))
  | (apply w_build2; exact rfl; exact rfl; exact rfl; (first | exact one_val rfl rfl | exact one_ints | exact one_intss | exact one_own rfl True.intro); (first | exact one_val rfl rfl | exact one_ints | exact one_intss | exact one_own rfl True.intro))
  | (apply w_bs0; iterate 1 exact rfl)
  | (apply w_appn; exact rfl; exact rfl; (first | exact .ints _ | exact .sli rfl | exact .orow rfl | exact .nil | exact .osub rfl (by simp; omega)); exact rfl)
  | (apply w_app; exact rfl; exact rfl; exact rfl; exact rfl; (first | exact .ints _ | exact .sli rfl | exact .orow rfl | exact .nil | exact .osub rfl (by simp; omega)); rotate_left 1; simp only [Env.mp, List.map_cons, List.map_nil, List.set_cons_zero, List.set_cons_succ, AV.kill, AV.kill1, AO.kill, bL_kill, AV.noRow, AV.noRow1, AO.via, reduceIte, Nat.reduceEqDiff, Nat.reduceLT, Env.up, Nat.zero_ne_one, Nat.one_ne_zero, Nat.reduceAdd, List.cons_append, List.nil_append]; rotate_left 1)
  | (apply w_alst; iterate 2 exact rfl)
  | (apply w_alone; iterate 3 exact rfl)
  | (apply w_mki; exact rfl; exact rfl; rotate_left 3; exact rfl; rotate_left 1)
  | (apply w_mkr; exact rfl; exact rfl; rotate_left 3; exact rfl; rotate_left 1)
  | (apply w_sti; exact rfl; exact rfl; rotate_left 1; exact rfl; rotate_left 2)
  | (apply w_stst; iterate 5 exact rfl)
  | (apply w_stbv; iterate 6 exact rfl)
  | (apply w_stbo; exact rfl; exact rfl; exact rfl; exact rfl; exact rfl; exact True.intro)
  | ((apply AOps.splitB; exact rfl; exact rfl) <;> intro h)
  | apply AllOf.nil
  | (apply AllOf.cons; exact rfl)
  | (apply AAny.take; exact rfl; exact rfl; kernel_rfl; kernel_rfl)
  | (apply AAny.all; exact rfl)
  | (apply AAny.done; exact rfl)
  | (apply inI_of <;> omega)
  | omega
  | (simp <;> omega))
    all_goals try (exfalso; omega)
    refine AWp.regionG [] (by kernel_rfl) (envC := ⟨50, [(2, .own 1), (3, .own 2), (4, .own 3), (5, .b (!(brF W.length (nearL E) W W.length).1.l))]⟩) (osC := [.keep 1 K, .sli 2 (brF W.length (nearL E) W W.length).1.f, .sli 2 (brF W.length (nearL E) W W.length).1.g, .sli 2 (brF W.length (nearL E) W W.length).2]) rfl (by first | exact rfl | (simp [AO.lim, AV.lim, bL_lim]; done)) ?_ ?_
    · repeat' (first
  | (apply AOps.nil; try simp only [List.nil_append, List.cons_append, List.set_cons_zero, List.set_cons_succ, List.length_cons, List.length_nil, Nat.reduceAdd, AV.sh, AV.sh1, AV.sh0, AO.sh, List.map_cons, List.map_nil, Nat.zero_add, Nat.add_zero, setAll])
  | ((apply AOps.splitP; exact rfl; exact rfl) <;> intro h)
  | ((apply AOps.splitN; exact rfl; exact rfl) <;> intro h)
  | (apply w_move; exact rfl; exact rfl)
  | (apply w_assign; exact rfl; exact rfl)
  | apply AWp.seq
  | apply AWp.region
  | ((apply AWp.condP; exact rfl) <;> intro h)
  | ((apply AWp.condN; exact rfl) <;> intro h)
  | (apply AWp.condT; exact rfl)
  | (apply AWp.condF; exact rfl)
  | ((apply AWp.condB; exact rfl) <;> intro h)
  | apply AWp.block
  | apply AWp.ret
  | apply AWp.exit
  | apply AWp.skip
  | (apply AWp.regionQ; kernel_rfl; kernel_rfl)
  | (apply if_pos'; exact rfl)
  | (apply if_neg'; decide)
  | (apply w_skip; exact rfl)
  | (apply w_pickT; exact rfl; exact rfl; exact rfl)
  | (apply w_pickF; exact rfl; exact rfl; exact rfl)
  | (apply w_lenb; iterate 3 exact rfl)
  | (apply w_len; exact rfl; exact rfl; first | exact .ints _ | exact .intss _ | exact .sli rfl | exact .sls rfl | exact .slr rfl | exact .orow rfl | exact .nil)
  | (apply w_mkb; exact rfl; exact rfl; rotate_left 3; exact rfl; rotate_left 1)
  | (apply w_idxb; iterate 4 exact rfl)
  | (apply w_ldbl; iterate 4 exact rfl)
  | (apply w_stb; exact rfl; exact rfl; rotate_left 1; exact rfl; rotate_left 1)
  | (apply w_ldbi; iterate 5 exact rfl)
  | (apply w_ldbn; iterate 5 exact rfl)
  | apply AllOfG.nil
  | (apply AllOfG.consQ; exact rfl; exact rfl)
  | (apply AllOfG.consS; exact rfl; exact rfl)
  | (apply AAnyG.takeW; exact rfl; exact rfl; kernel_rfl; kernel_rfl)
  | (apply AAnyG.takeL; exact rfl; exact rfl; kernel_rfl)
  | (apply AAnyG.all; exact rfl)
  | (apply AAnyG.done; exact rfl)
  | ((first | apply w_nilck | apply w_convu | apply w_convi | apply w_not | apply w_neg | apply w_conv | apply w_build0 | apply w_bs1 | apply w_boxa); iterate 2 exact rfl)
  | ((first | apply w_shr1 | apply w_lss | apply w_leq | apply w_gtr | apply w_geq | apply w_eql | apply w_neq | apply w_add | apply w_sub | apply w_mul | apply w_idx | apply w_ld | apply w_fld | apply w_fa | apply w_extv | apply w_min | apply w_max | apply w_slhi | apply w_sllo | apply w_bs2); iterate 3 exact rfl)
  | omega
  | ((first | apply w_eqlb | apply w_neqb | apply w_idxs | apply w_lds | apply w_ext); iterate 3 exact rfl)
  | (apply w_rem; exact rfl; exact rfl; exact rfl; (focus (omega; done)); (focus (omega; done)))
  | (apply w_quo; exact rfl; exact rfl; exact rfl; (focus (omega; done)); (focus (omega; done)))
  | (apply w_remT; exact rfl; exact rfl; exact rfl)
  | (apply w_quoT; exact rfl; exact rfl; exact rfl)
  | (apply w_idxo; exact rfl; exact rfl; (first | exact .sli rfl | exact .sls rfl | exact .slr rfl); exact rfl)
  | ((first | apply w_idxr | apply w_ldr); iterate 4 exact rfl)
  | (apply w_ldo; iterate 4 exact rfl)
  | (apply w_ldls; iterate 4 exact rfl)
  | (apply w_ldrp; iterate 4 exact rfl)
  | (apply w_ldb; iterate 5 exact rfl)
  | (apply w_ldst; iterate 5 exact rfl)
  | ((first | apply w_sllh | apply w_stbi); iterate 4 exact rfl)
  | ((first | apply w_oslo | apply w_oshi | apply w_stbii); iterate 4 exact rfl)
  | (apply w_build1; exact rfl; exact rfl; (first | exact one_val rfl rfl | exact one_ints | exact one_intss | exact one_own rfl True.intro))
  | (apply w_build2; exact rfl; exact rfl; exact rfl; (first | exact one_val rfl rfl | exact one_ints | exact one_intss | exact one_own rfl True.intro); (first | exact one_val rfl rfl | exact one_ints | exact one_intss | exact one_own rfl True.intro))
  | (apply w_bs0; iterate 1 exact rfl)
  | (apply w_appn; exact rfl; exact rfl; (first | exact .ints _ | exact .sli rfl | exact .orow rfl | exact .nil | exact .osub rfl (by simp; omega)); exact rfl)
  | (apply w_app; exact rfl; exact rfl; exact rfl; exact rfl; (first | exact .ints _ | exact .sli rfl | exact .orow rfl | exact .nil | exact .osub rfl (by simp; omega)); rotate_left 1; simp only [Env.mp, List.map_cons, List.map_nil, List.set_cons_zero, List.set_cons_succ, AV.kill, AV.kill1, AO.kill, bL_kill, AV.noRow, AV.noRow1, AO.via, reduceIte, Nat.reduceEqDiff, Nat.reduceLT, Env.up, Nat.zero_ne_one, Nat.one_ne_zero, Nat.reduceAdd, List.cons_append, List.nil_append]; rotate_left 1)
  | (apply w_alst; iterate 2 exact rfl)
  | (apply w_alone; iterate 3 exact rfl)
  | (apply w_mki; exact rfl; exact rfl; rotate_left 3; exact rfl; rotate_left 1)
  | (apply w_mkr; exact rfl; exact rfl; rotate_left 3; exact rfl; rotate_left 1)
  | (apply w_sti; exact rfl; exact rfl; rotate_left 1; exact rfl; rotate_left 2)
  | (apply w_stst; iterate 5 exact rfl)
  | (apply w_stbv; iterate 6 exact rfl)
  | (apply w_stbo; exact rfl; exact rfl; exact rfl; exact rfl; exact rfl; exact True.intro)
  | ((apply AOps.splitB; exact rfl; exact rfl) <;> intro h)
  | apply AllOf.nil
  | (apply AllOf.cons; exact rfl)
  | (apply AAny.take; exact rfl; exact rfl; kernel_rfl; kernel_rfl)
  | (apply AAny.all; exact rfl)
  | (apply AAny.done; exact rfl)
  | (apply inI_of <;> omega)
  | omega
  | (simp <;> omega))
      all_goals (first | (apply Or.inl; refine ⟨lee rfl ?_, ?_, rfl, (by first | exact rfl | (simp [AO.lim, AV.lim, bL_lim]; done))⟩; (focus ((repeat (first | exact le_nil | refine le_eq rfl rfl ?_ | (refine le_eq rfl (congrArg AV.i ?_) ?_; (focus (omega; done))))); done)); (focus ((repeat (first | exact lo_nil | refine lo_dead ?_ | refine lo_eq rfl ?_ | refine lo_eq (congrArg (AO.slr _) (bL_ren _ _)) ?_)); done))) | (apply Or.inr; refine ⟨[0, 3, 4, 7], ⟨by decide, fun x hx => Nat.lt_of_lt_of_le ((by decide : ∀ x ∈ ([0, 3, 4, 7] : List Nat), x < 8) x hx) (Nat.le_of_ble_eq_true rfl)⟩, lee rfl ?_, ?_, rfl, (by first | exact rfl | (simp [AO.lim, AV.lim, bL_lim]; done))⟩; (focus ((repeat (first | exact le_nil | refine le_eq rfl rfl ?_ | (refine le_eq rfl (congrArg AV.i ?_) ?_; (focus (omega; done))))); done)); (focus ((repeat (first | exact lo_nil | refine lo_dead ?_ | refine lo_eq rfl ?_ | refine lo_eq (congrArg (AO.slr _) (bL_ren _ _)) ?_)); done))))
    repeat' (first
  | (apply AOps.nil; try simp only [List.nil_append, List.cons_append, List.set_cons_zero, List.set_cons_succ, List.length_cons, List.length_nil, Nat.reduceAdd, AV.sh, AV.sh1, AV.sh0, AO.sh, List.map_cons, List.map_nil, Nat.zero_add, Nat.add_zero, setAll])
  | ((apply AOps.splitP; exact rfl; exact rfl) <;> intro h)
  | ((apply AOps.splitN; exact rfl; exact rfl) <;> intro h)
  | (apply w_move; exact rfl; exact rfl)
  | (apply w_assign; exact rfl; exact rfl)
  | apply AWp.seq
  | apply AWp.region
  | ((apply AWp.condP; exact rfl) <;> intro h)
  | ((apply AWp.condN; exact rfl) <;> intro h)
  | (apply AWp.condT; exact rfl)
  | (apply AWp.condF; exact rfl)
  | ((apply AWp.condB; exact rfl) <;> intro h)
  | apply AWp.block
  | apply AWp.ret
  | apply AWp.exit
  | apply AWp.skip
  | (apply if_pos'; exact rfl)
  | (apply if_neg'; decide)
  | (apply w_skip; exact rfl)
  | (apply w_pickT; exact rfl; exact rfl; exact rfl)
  | (apply w_pickF; exact rfl; exact rfl; exact rfl)
  | (apply w_len; exact rfl; exact rfl; first | exact .ints _ | exact .intss _ | exact .sli rfl | exact .sls rfl | exact .slr rfl | exact .orow rfl | exact .nil)
  | omega
  | ((first | apply w_lss | apply w_leq | apply w_gtr | apply w_geq | apply w_eql | apply w_neq | apply w_add | apply w_sub | apply w_mul | apply w_idx | apply w_ld | apply w_fld | apply w_fa | apply w_extv | apply w_min | apply w_max | apply w_slhi | apply w_sllo | apply w_bs2); iterate 3 exact rfl)
  | ((first | apply w_eqlb | apply w_neqb | apply w_idxs | apply w_lds | apply w_ext); iterate 3 exact rfl)
  | (apply w_rem; exact rfl; exact rfl; exact rfl; (focus (omega; done)); (focus (omega; done)))
  | (apply w_quo; exact rfl; exact rfl; exact rfl; (focus (omega; done)); (focus (omega; done)))
  | (apply w_remT; exact rfl; exact rfl; exact rfl)
  | (apply w_quoT; exact rfl; exact rfl; exact rfl)
  | ((first | apply w_not | apply w_neg | apply w_conv | apply w_build0 | apply w_bs1 | apply w_boxa); iterate 2 exact rfl)
  | (apply w_idxo; exact rfl; exact rfl; (first | exact .sli rfl | exact .sls rfl | exact .slr rfl); exact rfl)
  | ((first | apply w_idxr | apply w_ldr); iterate 4 exact rfl)
  | (apply w_ldo; iterate 4 exact rfl)
  | (apply w_ldls; iterate 4 exact rfl)
  | (apply w_ldrp; iterate 4 exact rfl)
  | (apply w_ldb; iterate 5 exact rfl)
  | (apply w_ldst; iterate 5 exact rfl)
  | ((first | apply w_sllh | apply w_stbi); iterate 4 exact rfl)
  | ((first | apply w_oslo | apply w_oshi | apply w_stbii); iterate 4 exact rfl)
  | (apply w_build1; exact rfl; exact rfl; (first | exact one_val rfl rfl | exact one_ints | exact one_intss | exact one_own rfl True.intro))
  | (apply w_build2; exact rfl; exact rfl; exact rfl; (first | exact one_val rfl rfl | exact one_ints | exact one_intss | exact one_own rfl True.intro); (first | exact one_val rfl rfl | exact one_ints | exact one_intss | exact one_own rfl True.intro))
  | (apply w_bs0; iterate 1 exact rfl)
  | (apply w_appn; exact rfl; exact rfl; (first | exact .ints _ | exact .sli rfl | exact .orow rfl | exact .nil | exact .osub rfl (by simp; omega)); exact rfl)
  | (apply w_app; exact rfl; exact rfl; exact rfl; exact rfl; (first | exact .ints _ | exact .sli rfl | exact .orow rfl | exact .nil | exact .osub rfl (by simp; omega)); rotate_left 1; simp only [Env.mp, List.map_cons, List.map_nil, List.set_cons_zero, List.set_cons_succ, AV.kill, AV.kill1, AO.kill, AV.noRow, AV.noRow1, AO.via, reduceIte, Nat.reduceEqDiff, Nat.reduceLT, Env.up, Nat.zero_ne_one, Nat.one_ne_zero, Nat.reduceAdd, List.cons_append, List.nil_append]; rotate_left 1)
  | (apply w_alst; iterate 2 exact rfl)
  | (apply w_alone; iterate 3 exact rfl)
  | (apply w_mki; exact rfl; exact rfl; rotate_left 3; exact rfl; rotate_left 1)
  | (apply w_mkr; exact rfl; exact rfl; rotate_left 3; exact rfl; rotate_left 1)
  | (apply w_sti; exact rfl; exact rfl; rotate_left 1; exact rfl; rotate_left 2)
  | (apply w_stst; iterate 5 exact rfl)
  | (apply w_stbv; iterate 6 exact rfl)
  | (apply w_stbo; exact rfl; exact rfl; exact rfl; exact rfl; exact rfl; exact True.intro)
  | ((apply AOps.splitB; exact rfl; exact rfl) <;> intro h)
  | apply AllOf.nil
  | (apply AllOf.cons; exact rfl)
  | (apply AAny.take; exact rfl; exact rfl; kernel_rfl; kernel_rfl)
  | (apply AAny.all; exact rfl)
  | (apply AAny.done; exact rfl)
  | (apply inI_of <;> omega)
  | omega
  | (simp <;> omega))
    refine ⟨_, _, .tup [.own 0, .own 1, .own 2, .b (!(brF W.length (nearL E) W W.length).1.l)], Turns.refl, ResIs.a4 rfl rfl rfl rfl rfl, ?_, ⟨rfl, rfl⟩, ?_⟩
    · exact all_cons trivial (all_cons trivial (all_cons trivial (all_cons trivial all_nil)))
    · intro o ho
      simp only [List.mem_cons, List.not_mem_nil, or_false] at ho
      rcases ho with rfl | rfl | rfl
      · trivial
      · trivial
      · trivial
end Go.Proofs.Ytbalbiliejjnoaa
/-
  Determinants, walked: the program. No condition on the graph.
-/
namespace Go.Proofs.Ytbalbiliejjnoaa
open Go Go.RowKit
attribute [local irreducible] AWp AOps ResIs Ret1 QOp LOp COp AFnV AFn Imms LeE LeO
set_option maxHeartbeats 1000000
set_option linter.unusedSimpArgs false
set_option linter.unusedVariables false

section
variable {W : List Int} {E : List (List Int)}
theorem implBranch_bad (W : List Int) (E : List (List Int)) (h : gok W E = false) : AFnV Try.prog 13 [.agg [.ints W, .intss E]] (.tuple #[.slice none 0 0, .slice none 0 0, .int .i64 1]) := by
  have hg := isGraph_c W E
  rw [h] at hg
  (refine AFnV.start Try.func13 Try.ntmps13 rfl (by kernel_rfl) fun hk => ?_; simp only [Env.start, enumF, List.length_cons, List.length_nil, Nat.reduceAdd, Nat.reduceSub, List.cons_append, List.nil_append])
  repeat' (first | (apply AOps.nil; try simp only [List.nil_append, List.cons_append, List.set_cons_zero, List.set_cons_succ, List.length_cons, List.length_nil, Nat.reduceAdd, AV.sh, AV.sh1, AV.sh0, AO.sh, List.map_cons, List.map_nil, Nat.zero_add, Nat.add_zero, setAll]) | (apply w_assign; exact rfl; exact rfl) | apply AWp.seq | apply AWp.region | (apply AWp.condT; exact rfl) | apply AWp.ret | (apply w_call (hg); exact rfl; exact rfl; focus ((repeat (first | exact im_nil | refine im_cons rfl (im_agg2 (.ints _) (.intss _)) ?_)); done)) | ((first | apply w_not | apply w_boxa); iterate 2 exact rfl) | (apply w_ldst; iterate 5 exact rfl))
  all_goals exact .vv3 Try.results13 rfl rfl rfl
theorem implBranch_lim (W : List Int) (E : List (List Int)) (h : gok W E = true) (hl : ¬ bdOk W.length (nearL E) W) : AFnV Try.prog 13 [.agg [.ints W, .intss E]] (.tuple #[.slice none 0 0, .slice none 0 0, .int .i64 3]) := by
  have hg := isGraph_c W E
  have hh := (gok_iff.1 h).gr
  have hb := branchDeterminants_c W E hh
  have hl' := (br_end (W := W) hh.fo.fst hh.w).2.1.2 hl
  rw [h] at hg
  rw [hl'] at hb
  generalize (brF W.length (nearL E) W W.length).1.f = F at *
  generalize (brF W.length (nearL E) W W.length).1.g = G at *
  generalize (brF W.length (nearL E) W W.length).2 = R at *
  (refine AFnV.start Try.func13 Try.ntmps13 rfl (by kernel_rfl) fun hk => ?_; simp only [Env.start, enumF, List.length_cons, List.length_nil, Nat.reduceAdd, Nat.reduceSub, List.cons_append, List.nil_append])
  repeat' (first | (apply AOps.nil; try simp only [List.nil_append, List.cons_append, List.set_cons_zero, List.set_cons_succ, List.length_cons, List.length_nil, Nat.reduceAdd, AV.sh, AV.sh1, AV.sh0, AO.sh, List.map_cons, List.map_nil, Nat.zero_add, Nat.add_zero, setAll]) | (apply w_move; exact rfl; exact rfl) | (apply w_assign; exact rfl; exact rfl) | apply AWp.seq | apply AWp.region | (apply AWp.condT; exact rfl) | (apply AWp.condF; exact rfl) | apply AWp.ret | apply AWp.skip | (apply w_call (hg); exact rfl; exact rfl; focus ((repeat (first | exact im_nil | refine im_cons rfl (im_agg2 (.ints _) (.intss _)) ?_)); done)) | (apply w_callc [] (hb); exact rfl; (exact handed0); (focus ((repeat (first | exact imu_nil | refine imu_cons rfl (imu_agg2 (.ints _) (.intss _)) ?_)); done)); rintro r os0 ⟨rfl, rfl⟩; try simp only [List.nil_append, List.cons_append, List.set_cons_zero, List.set_cons_succ, List.length_cons, List.length_nil, Nat.reduceAdd, AV.sh, AV.sh1, AV.sh0, AO.sh, List.map_cons, List.map_nil, Nat.zero_add, Nat.add_zero, setAll]) | ((apply w_ext); iterate 3 exact rfl) | ((first | apply w_not | apply w_boxa); iterate 2 exact rfl) | (apply w_ldst; iterate 5 exact rfl))
  all_goals exact .vv3 Try.results13 rfl rfl rfl
theorem implBranch_ok (W : List Int) (E : List (List Int)) (h : gok W E = true) (hl : bdOk W.length (nearL E) W) : AFnC Try.prog 13 [.agg [.ints W, .intss E]] [] (fun r os => r = .tup [.own 0, .own 1, .i 0] ∧
      os = [.sli 2 (bdF W.length (nearL E) W), .sli 2 (bdG W.length (nearL E) W)]) := by
  have hg := isGraph_c W E
  have hh := (gok_iff.1 h).gr
  have hb := branchDeterminants_c W E hh
  have hend := br_end (W := W) hh.fo.fst hh.w
  have hl' : (brF W.length (nearL E) W W.length).1.l = false := by
    cases e : (brF W.length (nearL E) W W.length).1.l with
    | false => rfl
    | true => exact absurd hl (hend.2.1.1 e)
  rw [h] at hg
  rw [hl', (hend.2.2 hl).1, (hend.2.2 hl).2] at hb
  generalize bdF W.length (nearL E) W = F at *
  generalize bdG W.length (nearL E) W = G at *
  generalize (brF W.length (nearL E) W W.length).2 = R at *
  (refine AFnC.start Try.func13 Try.ntmps13 rfl (by kernel_rfl) fun K => ?_; simp only [Env.start, enumF, List.map_cons, List.map_nil, AV.sh, List.length_cons, List.length_nil, Nat.reduceAdd, Nat.reduceSub, List.cons_append, List.nil_append])
  repeat' (first | (apply AOps.nil; try simp only [List.nil_append, List.cons_append, List.set_cons_zero, List.set_cons_succ, List.length_cons, List.length_nil, Nat.reduceAdd, AV.sh, AV.sh1, AV.sh0, AO.sh, List.map_cons, List.map_nil, Nat.zero_add, Nat.add_zero, setAll]) | (apply w_move; exact rfl; exact rfl) | (apply w_assign; exact rfl; exact rfl) | apply AWp.seq | apply AWp.region | (apply AWp.condF; exact rfl) | apply AWp.ret | apply AWp.skip | (apply w_call (hg); exact rfl; exact rfl; focus ((repeat (first | exact im_nil | refine im_cons rfl (im_agg2 (.ints _) (.intss _)) ?_)); done)) | (apply w_callc [] (hb); exact rfl; (exact handed0); (focus ((repeat (first | exact imu_nil | refine imu_cons rfl (imu_agg2 (.ints _) (.intss _)) ?_)); done)); rintro r os0 ⟨rfl, rfl⟩; try simp only [List.nil_append, List.cons_append, List.set_cons_zero, List.set_cons_succ, List.length_cons, List.length_nil, Nat.reduceAdd, AV.sh, AV.sh1, AV.sh0, AO.sh, List.map_cons, List.map_nil, Nat.zero_add, Nat.add_zero, setAll]) | ((apply w_ext); iterate 3 exact rfl) | ((first | apply w_not | apply w_boxa); iterate 2 exact rfl) | (apply w_ldst; iterate 5 exact rfl))
  refine ⟨⟨23, [(2, .own 1), (3, .own 2), (4, .i 0)]⟩, [.sli 2 F, .sli 2 G], .tup [.own 0, .own 1, .i 0], Turns.or ?_, ResIs.a3 rfl rfl rfl rfl, all_cons trivial (all_cons trivial (all_cons trivial all_nil)), ⟨rfl, rfl⟩, all_cons trivial (all_cons trivial all_nil)⟩
  (apply Or.inr; refine ⟨[0, 2, 3], ⟨by decide, fun x hx => Nat.lt_of_lt_of_le ((by decide : ∀ x ∈ ([0, 2, 3] : List Nat), x < 4) x hx) (Nat.le_of_ble_eq_true rfl)⟩, lee rfl ?_, ?_, rfl, (by first | exact rfl | (simp [AO.lim, AV.lim, bL_lim]; done))⟩; (focus ((repeat (first | exact le_nil | refine le_eq rfl rfl ?_)); done)); (focus ((repeat (first | exact lo_nil | refine lo_eq rfl ?_)); done)))

end
end Go.Proofs.Ytbalbiliejjnoaa
/-
  Determinants, walked: the reference. No condition on the graph.
-/
namespace Go.Proofs.Ytbalbiliejjnoaa
open Go Go.RowKit
attribute [local irreducible] AWp AOps ResIs Ret1 QOp LOp COp AFnV AFn Imms LeE LeO
set_option maxHeartbeats 1000000
set_option linter.unusedSimpArgs false
set_option linter.unusedVariables false

theorem AFnC.mono {P : Program} {f : FuncId} {args : List AV} {objs : List AO} {Q Q' : AV → List AO → Prop} (h : AFnC P f args objs Q) (hq : ∀ r os, Q r os → Q' r os) : AFnC P f args objs Q' :=
  ⟨h.1, fun base w gs vs h1 h2 h3 h4 => (h.2 base w gs vs h1 h2 h3 h4).mono fun e w' ⟨v, r, os', gs', k1, k2, k3⟩ => ⟨v, r, os', gs', k1, hq _ _ k2, k3⟩⟩
theorem l11Branches_ok (W : List Int) (E : List (List Int)) (h : GrF W E) (hl : bdOk W.length (nearL E) W) : AFnC Try.prog 36 [.agg [.ints W, .intss E]] [] (fun r os => r = .tup [.own 0, .own 1, .b true] ∧ os = [.sli 2 (bdF W.length (nearL E) W), .sli 2 (bdG W.length (nearL E) W)]) :=
  (l11Branches_q W E h).mono fun r os hq => by
    rcases hq with ⟨_, h1, h2⟩ | ⟨h0, _⟩
    · exact ⟨h1, h2⟩
    · exact absurd hl h0
theorem l11Branches_lim (W : List Int) (E : List (List Int)) (h : GrF W E) (hl : ¬ bdOk W.length (nearL E) W) : AFnC Try.prog 36 [.agg [.ints W, .intss E]] [] (fun r os => r = .tup [.val (.slice none 0 0), .val (.slice none 0 0), .b false] ∧ os = []) :=
  (l11Branches_q W E h).mono fun r os hq => by
    rcases hq with ⟨h0, _⟩ | ⟨_, h1, h2⟩
    · exact absurd h0 hl
    · exact ⟨h1, h2⟩
theorem specBranch_bad (W : List Int) (E : List (List Int)) (h : gok W E = false) : AFnV Try.prog 12 [.agg [.ints W, .intss E]] (.tuple #[.slice none 0 0, .slice none 0 0, .int .i64 1]) := by
  have hg := l11Is_c W E
  rw [h] at hg
  (refine AFnV.start Try.func12 Try.ntmps12 rfl (by kernel_rfl) fun hk => ?_; simp only [Env.start, enumF, List.length_cons, List.length_nil, Nat.reduceAdd, Nat.reduceSub, List.cons_append, List.nil_append])
  repeat' (first
  | (apply AOps.nil; try simp only [List.nil_append, List.cons_append, List.set_cons_zero, List.set_cons_succ, List.length_cons, List.length_nil, Nat.reduceAdd, AV.sh, AV.sh1, AV.sh0, AO.sh, List.map_cons, List.map_nil, Nat.zero_add, Nat.add_zero, setAll])
  | ((apply AOps.splitP; exact rfl; exact rfl) <;> intro h)
  | ((apply AOps.splitN; exact rfl; exact rfl) <;> intro h)
  | (apply w_move; exact rfl; exact rfl)
  | (apply w_assign; exact rfl; exact rfl)
  | apply AWp.seq
  | apply AWp.region
  | ((apply AWp.condP; exact rfl) <;> intro h)
  | ((apply AWp.condN; exact rfl) <;> intro h)
  | (apply AWp.condT; exact rfl)
  | (apply AWp.condF; exact rfl)
  | ((apply AWp.condB; exact rfl) <;> intro h)
  | apply AWp.block
  | apply AWp.ret
  | apply AWp.exit
  | apply AWp.skip
  | (apply if_pos'; exact rfl)
  | (apply if_neg'; decide)
  | (apply w_skip; exact rfl)
  | (apply w_pickT; exact rfl; exact rfl; exact rfl)
  | (apply w_pickF; exact rfl; exact rfl; exact rfl)
  | (apply w_len; exact rfl; exact rfl; first | exact .ints _ | exact .intss _ | exact .sli rfl | exact .sls rfl | exact .slr rfl | exact .orow rfl | exact .nil)
  | (apply w_call (hg); exact rfl; exact rfl; focus ((repeat (first | exact im_nil | refine im_cons rfl (im_agg2 (.ints _) (.intss _)) ?_ | refine im_cons rfl (im_agg2 (.sli rfl) (.sls rfl)) ?_ | refine im_cons rfl (.val _) ?_ | refine im_cons rfl (.ints _) ?_ | refine im_cons rfl (.intss _) ?_ | refine im_cons rfl (.sli rfl) ?_ | refine im_cons rfl (.sls rfl) ?_ | refine im_cons rfl (.orow rfl) ?_ | refine im_cons rfl (.osub rfl (by simp; omega)) ?_ | refine im_cons rfl (.nil) ?_ | refine im_cons rfl (.nils) ?_ | refine im_cons rfl (im_agg2 (.val _) (.ints _)) ?_ | refine im_cons rfl (im_agg2 (.val _) (.sli rfl)) ?_ | refine im_cons rfl (im_agg2 (.val _) (.nil)) ?_ | refine im_cons rfl (im_agg2 (.ints _) (.intss _)) ?_ | refine im_cons rfl (im_agg2 (.ints _) (.sls rfl)) ?_ | refine im_cons rfl (im_agg2 (.sli rfl) (.intss _)) ?_ | refine im_cons rfl (im_agg2 (.sli rfl) (.sls rfl)) ?_ | refine im_cons rfl (im_agg1 (.ints _)) ?_ | refine im_cons rfl (im_agg1 (.sli rfl)) ?_ | refine im_cons rfl (im_agg1 (.intss _)) ?_ | refine im_cons rfl (im_agg1 (.sls rfl)) ?_ | refine im_cons rfl (im_agg1 (.nil)) ?_ | refine im_cons rfl (im_agg1 (.nils)) ?_)); done))
  | omega
  | ((first | apply w_lss | apply w_leq | apply w_gtr | apply w_geq | apply w_eql | apply w_neq | apply w_add | apply w_sub | apply w_mul | apply w_idx | apply w_ld | apply w_fld | apply w_fa | apply w_extv | apply w_min | apply w_max | apply w_slhi | apply w_sllo | apply w_bs2); iterate 3 exact rfl)
  | ((first | apply w_eqlb | apply w_neqb | apply w_idxs | apply w_lds | apply w_ext); iterate 3 exact rfl)
  | (apply w_rem; exact rfl; exact rfl; exact rfl; (focus (omega; done)); (focus (omega; done)))
  | (apply w_quo; exact rfl; exact rfl; exact rfl; (focus (omega; done)); (focus (omega; done)))
  | (apply w_remT; exact rfl; exact rfl; exact rfl)
  | (apply w_quoT; exact rfl; exact rfl; exact rfl)
  | ((first | apply w_not | apply w_neg | apply w_conv | apply w_build0 | apply w_bs1 | apply w_boxa); iterate 2 exact rfl)
  | (apply w_idxo; exact rfl; exact rfl; (first | exact .sli rfl | exact .sls rfl | exact .slr rfl); exact rfl)
  | ((first | apply w_idxr | apply w_ldr); iterate 4 exact rfl)
  | (apply w_ldo; iterate 4 exact rfl)
  | (apply w_ldls; iterate 4 exact rfl)
  | (apply w_ldrp; iterate 4 exact rfl)
  | (apply w_ldb; iterate 5 exact rfl)
  | (apply w_ldst; iterate 5 exact rfl)
  | ((first | apply w_sllh | apply w_stbi); iterate 4 exact rfl)
  | ((first | apply w_oslo | apply w_oshi | apply w_stbii); iterate 4 exact rfl)
  | (apply w_build1; exact rfl; exact rfl; (first | exact one_val rfl rfl | exact one_ints | exact one_intss | exact one_own rfl True.intro))
  | (apply w_build2; exact rfl; exact rfl; exact rfl; (first | exact one_val rfl rfl | exact one_ints | exact one_intss | exact one_own rfl True.intro); (first | exact one_val rfl rfl | exact one_ints | exact one_intss | exact one_own rfl True.intro))
  | (apply w_bs0; iterate 1 exact rfl)
  | (apply w_appn; exact rfl; exact rfl; (first | exact .ints _ | exact .sli rfl | exact .orow rfl | exact .nil | exact .osub rfl (by simp; omega)); exact rfl)
  | (apply w_app; exact rfl; exact rfl; exact rfl; exact rfl; (first | exact .ints _ | exact .sli rfl | exact .orow rfl | exact .nil | exact .osub rfl (by simp; omega)); rotate_left 1; simp only [Env.mp, List.map_cons, List.map_nil, List.set_cons_zero, List.set_cons_succ, AV.kill, AV.kill1, AO.kill, AV.noRow, AV.noRow1, AO.via, reduceIte, Nat.reduceEqDiff, Nat.reduceLT, Env.up, Nat.zero_ne_one, Nat.one_ne_zero, Nat.reduceAdd, List.cons_append, List.nil_append]; rotate_left 1)
  | (apply w_alst; iterate 2 exact rfl)
  | (apply w_alone; iterate 3 exact rfl)
  | (apply w_mki; exact rfl; exact rfl; rotate_left 3; exact rfl; rotate_left 1)
  | (apply w_mkr; exact rfl; exact rfl; rotate_left 3; exact rfl; rotate_left 1)
  | (apply w_sti; exact rfl; exact rfl; rotate_left 1; exact rfl; rotate_left 2)
  | (apply w_stst; iterate 5 exact rfl)
  | (apply w_stbv; iterate 6 exact rfl)
  | (apply w_stbo; exact rfl; exact rfl; exact rfl; exact rfl; exact rfl; exact True.intro)
  | ((apply AOps.splitB; exact rfl; exact rfl) <;> intro h)
  | apply AllOf.nil
  | (apply AllOf.cons; exact rfl)
  | (apply AAny.take; exact rfl; exact rfl; kernel_rfl; kernel_rfl)
  | (apply AAny.all; exact rfl)
  | (apply AAny.done; exact rfl)
  | (apply inI_of <;> omega)
  | omega
  | (simp <;> omega))
  all_goals exact .vv3 Try.results12 rfl rfl rfl
theorem specBranch_lim (W : List Int) (E : List (List Int)) (h : gok W E = true) (hl : ¬ bdOk W.length (nearL E) W) : AFnV Try.prog 12 [.agg [.ints W, .intss E]] (.tuple #[.slice none 0 0, .slice none 0 0, .int .i64 3]) := by
  have hg := l11Is_c W E
  have hh := (gok_iff.1 h).gr
  have hb := l11Branches_lim W E hh hl
  rw [h] at hg
  (refine AFnV.start Try.func12 Try.ntmps12 rfl (by kernel_rfl) fun hk => ?_; simp only [Env.start, enumF, List.length_cons, List.length_nil, Nat.reduceAdd, Nat.reduceSub, List.cons_append, List.nil_append])
  repeat' (first
  | (apply AOps.nil; try simp only [List.nil_append, List.cons_append, List.set_cons_zero, List.set_cons_succ, List.length_cons, List.length_nil, Nat.reduceAdd, AV.sh, AV.sh1, AV.sh0, AO.sh, List.map_cons, List.map_nil, Nat.zero_add, Nat.add_zero, setAll])
  | ((apply AOps.splitP; exact rfl; exact rfl) <;> intro h)
  | ((apply AOps.splitN; exact rfl; exact rfl) <;> intro h)
  | (apply w_move; exact rfl; exact rfl)
  | (apply w_assign; exact rfl; exact rfl)
  | apply AWp.seq
  | apply AWp.region
  | ((apply AWp.condP; exact rfl) <;> intro h)
  | ((apply AWp.condN; exact rfl) <;> intro h)
  | (apply AWp.condT; exact rfl)
  | (apply AWp.condF; exact rfl)
  | ((apply AWp.condB; exact rfl) <;> intro h)
  | apply AWp.block
  | apply AWp.ret
  | apply AWp.exit
  | apply AWp.skip
  | (apply if_pos'; exact rfl)
  | (apply if_neg'; decide)
  | (apply w_skip; exact rfl)
  | (apply w_pickT; exact rfl; exact rfl; exact rfl)
  | (apply w_pickF; exact rfl; exact rfl; exact rfl)
  | (apply w_len; exact rfl; exact rfl; first | exact .ints _ | exact .intss _ | exact .sli rfl | exact .sls rfl | exact .slr rfl | exact .orow rfl | exact .nil)
  | (apply w_call (hg); exact rfl; exact rfl; focus ((repeat (first | exact im_nil | refine im_cons rfl (im_agg2 (.ints _) (.intss _)) ?_ | refine im_cons rfl (im_agg2 (.sli rfl) (.sls rfl)) ?_ | refine im_cons rfl (.val _) ?_ | refine im_cons rfl (.ints _) ?_ | refine im_cons rfl (.intss _) ?_ | refine im_cons rfl (.sli rfl) ?_ | refine im_cons rfl (.sls rfl) ?_ | refine im_cons rfl (.orow rfl) ?_ | refine im_cons rfl (.osub rfl (by simp; omega)) ?_ | refine im_cons rfl (.nil) ?_ | refine im_cons rfl (.nils) ?_ | refine im_cons rfl (im_agg2 (.val _) (.ints _)) ?_ | refine im_cons rfl (im_agg2 (.val _) (.sli rfl)) ?_ | refine im_cons rfl (im_agg2 (.val _) (.nil)) ?_ | refine im_cons rfl (im_agg2 (.ints _) (.intss _)) ?_ | refine im_cons rfl (im_agg2 (.ints _) (.sls rfl)) ?_ | refine im_cons rfl (im_agg2 (.sli rfl) (.intss _)) ?_ | refine im_cons rfl (im_agg2 (.sli rfl) (.sls rfl)) ?_ | refine im_cons rfl (im_agg1 (.ints _)) ?_ | refine im_cons rfl (im_agg1 (.sli rfl)) ?_ | refine im_cons rfl (im_agg1 (.intss _)) ?_ | refine im_cons rfl (im_agg1 (.sls rfl)) ?_ | refine im_cons rfl (im_agg1 (.nil)) ?_ | refine im_cons rfl (im_agg1 (.nils)) ?_)); done))
  | (apply w_callc [] (hb); exact rfl; (first | (first | exact handed0 | exact handed1 rfl True.intro | exact handed2 rfl rfl rfl True.intro True.intro) | exact handed3 rfl rfl rfl rfl True.intro True.intro True.intro); (focus ((repeat (first | exact imu_nil | refine imu_cons rfl (imu_agg2 (.ints _) (.intss _)) ?_ | refine imu_cons rfl (imu_agg2 (.sli rfl (by decide)) (.sls rfl (by decide))) ?_ | refine imu_cons rfl (.val _) ?_ | refine imu_cons rfl (.ints _) ?_ | refine imu_cons rfl (.own rfl) ?_ | refine imu_cons rfl (.sli rfl (by decide)) ?_ | refine imu_cons rfl (.intss _) ?_ | refine imu_cons rfl (.sls rfl (by decide)) ?_ | refine imu_cons rfl (imu_agg2 (.val _) (.own rfl)) ?_ | refine imu_cons rfl (imu_agg2 (.own rfl) (.own rfl)) ?_ | refine imu_cons rfl (imu_agg1 (.own rfl)) ?_)); done)); rintro r os0 ⟨rfl, rfl⟩; try simp only [List.nil_append, List.cons_append, List.set_cons_zero, List.set_cons_succ, List.length_cons, List.length_nil, Nat.reduceAdd, AV.sh, AV.sh1, AV.sh0, AO.sh, List.map_cons, List.map_nil, Nat.zero_add, Nat.add_zero, setAll])
  | omega
  | ((first | apply w_lss | apply w_leq | apply w_gtr | apply w_geq | apply w_eql | apply w_neq | apply w_add | apply w_sub | apply w_mul | apply w_idx | apply w_ld | apply w_fld | apply w_fa | apply w_extv | apply w_min | apply w_max | apply w_slhi | apply w_sllo | apply w_bs2); iterate 3 exact rfl)
  | ((first | apply w_eqlb | apply w_neqb | apply w_idxs | apply w_lds | apply w_ext); iterate 3 exact rfl)
  | (apply w_rem; exact rfl; exact rfl; exact rfl; (focus (omega; done)); (focus (omega; done)))
  | (apply w_quo; exact rfl; exact rfl; exact rfl; (focus (omega; done)); (focus (omega; done)))
  | (apply w_remT; exact rfl; exact rfl; exact rfl)
  | (apply w_quoT; exact rfl; exact rfl; exact rfl)
  | ((first | apply w_not | apply w_neg | apply w_conv | apply w_build0 | apply w_bs1 | apply w_boxa); iterate 2 exact rfl)
  | (apply w_idxo; exact rfl; exact rfl; (first | exact .sli rfl | exact .sls rfl | exact .slr rfl); exact rfl)
  | ((first | apply w_idxr | apply w_ldr); iterate 4 exact rfl)
  | (apply w_ldo; iterate 4 exact rfl)
  | (apply w_ldls; iterate 4 exact rfl)
  | (apply w_ldrp; iterate 4 exact rfl)
  | (apply w_ldb; iterate 5 exact rfl)
  | (apply w_ldst; iterate 5 exact rfl)
  | ((first | apply w_sllh | apply w_stbi); iterate 4 exact rfl)
  | ((first | apply w_oslo | apply w_oshi | apply w_stbii); iterate 4 exact rfl)
  | (apply w_build1; exact rfl; exact rfl; (first | exact one_val rfl rfl | exact one_ints | exact one_intss | exact one_own rfl True.intro))
  | (apply w_build2; exact rfl; exact rfl; exact rfl; (first | exact one_val rfl rfl | exact one_ints | exact one_intss | exact one_own rfl True.intro); (first | exact one_val rfl rfl | exact one_ints | exact one_intss | exact one_own rfl True.intro))
  | (apply w_bs0; iterate 1 exact rfl)
  | (apply w_appn; exact rfl; exact rfl; (first | exact .ints _ | exact .sli rfl | exact .orow rfl | exact .nil | exact .osub rfl (by simp; omega)); exact rfl)
  | (apply w_app; exact rfl; exact rfl; exact rfl; exact rfl; (first | exact .ints _ | exact .sli rfl | exact .orow rfl | exact .nil | exact .osub rfl (by simp; omega)); rotate_left 1; simp only [Env.mp, List.map_cons, List.map_nil, List.set_cons_zero, List.set_cons_succ, AV.kill, AV.kill1, AO.kill, AV.noRow, AV.noRow1, AO.via, reduceIte, Nat.reduceEqDiff, Nat.reduceLT, Env.up, Nat.zero_ne_one, Nat.one_ne_zero, Nat.reduceAdd, List.cons_append, List.nil_append]; rotate_left 1)
  | (apply w_alst; iterate 2 exact rfl)
  | (apply w_alone; iterate 3 exact rfl)
  | (apply w_mki; exact rfl; exact rfl; rotate_left 3; exact rfl; rotate_left 1)
  | (apply w_mkr; exact rfl; exact rfl; rotate_left 3; exact rfl; rotate_left 1)
  | (apply w_sti; exact rfl; exact rfl; rotate_left 1; exact rfl; rotate_left 2)
  | (apply w_stst; iterate 5 exact rfl)
  | (apply w_stbv; iterate 6 exact rfl)
  | (apply w_stbo; exact rfl; exact rfl; exact rfl; exact rfl; exact rfl; exact True.intro)
  | ((apply AOps.splitB; exact rfl; exact rfl) <;> intro h)
  | apply AllOf.nil
  | (apply AllOf.cons; exact rfl)
  | (apply AAny.take; exact rfl; exact rfl; kernel_rfl; kernel_rfl)
  | (apply AAny.all; exact rfl)
  | (apply AAny.done; exact rfl)
  | (apply inI_of <;> omega)
  | omega
  | (simp <;> omega))
  all_goals exact .vv3 Try.results12 rfl rfl rfl
theorem specBranch_ok (W : List Int) (E : List (List Int)) (h : gok W E = true) (hl : bdOk W.length (nearL E) W) : AFnC Try.prog 12 [.agg [.ints W, .intss E]] [] (fun r os => r = .tup [.own 0, .own 1, .i 0] ∧
      os = [.sli 2 (bdF W.length (nearL E) W), .sli 2 (bdG W.length (nearL E) W)]) := by
  have hg := l11Is_c W E
  have hh := (gok_iff.1 h).gr
  have hb := l11Branches_ok W E hh hl
  rw [h] at hg
  generalize bdF W.length (nearL E) W = F at *
  generalize bdG W.length (nearL E) W = G at *
  (refine AFnC.start Try.func12 Try.ntmps12 rfl (by kernel_rfl) fun K => ?_; simp only [Env.start, enumF, List.map_cons, List.map_nil, AV.sh, List.length_cons, List.length_nil, Nat.reduceAdd, Nat.reduceSub, List.cons_append, List.nil_append])
  repeat' (first
  | (apply AOps.nil; try simp only [List.nil_append, List.cons_append, List.set_cons_zero, List.set_cons_succ, List.length_cons, List.length_nil, Nat.reduceAdd, AV.sh, AV.sh1, AV.sh0, AO.sh, List.map_cons, List.map_nil, Nat.zero_add, Nat.add_zero, setAll])
  | ((apply AOps.splitP; exact rfl; exact rfl) <;> intro h)
  | ((apply AOps.splitN; exact rfl; exact rfl) <;> intro h)
  | (apply w_move; exact rfl; exact rfl)
  | (apply w_assign; exact rfl; exact rfl)
  | apply AWp.seq
  | apply AWp.region
  | ((apply AWp.condP; exact rfl) <;> intro h)
  | ((apply AWp.condN; exact rfl) <;> intro h)
  | (apply AWp.condT; exact rfl)
  | (apply AWp.condF; exact rfl)
  | ((apply AWp.condB; exact rfl) <;> intro h)
  | apply AWp.block
  | apply AWp.ret
  | apply AWp.exit
  | apply AWp.skip
  | (apply if_pos'; exact rfl)
  | (apply if_neg'; decide)
  | (apply w_skip; exact rfl)
  | (apply w_pickT; exact rfl; exact rfl; exact rfl)
  | (apply w_pickF; exact rfl; exact rfl; exact rfl)
  | (apply w_len; exact rfl; exact rfl; first | exact .ints _ | exact .intss _ | exact .sli rfl | exact .sls rfl | exact .slr rfl | exact .orow rfl | exact .nil)
  | (apply w_call (hg); exact rfl; exact rfl; focus ((repeat (first | exact im_nil | refine im_cons rfl (im_agg2 (.ints _) (.intss _)) ?_ | refine im_cons rfl (im_agg2 (.sli rfl) (.sls rfl)) ?_ | refine im_cons rfl (.val _) ?_ | refine im_cons rfl (.ints _) ?_ | refine im_cons rfl (.intss _) ?_ | refine im_cons rfl (.sli rfl) ?_ | refine im_cons rfl (.sls rfl) ?_ | refine im_cons rfl (.orow rfl) ?_ | refine im_cons rfl (.osub rfl (by simp; omega)) ?_ | refine im_cons rfl (.nil) ?_ | refine im_cons rfl (.nils) ?_ | refine im_cons rfl (im_agg2 (.val _) (.ints _)) ?_ | refine im_cons rfl (im_agg2 (.val _) (.sli rfl)) ?_ | refine im_cons rfl (im_agg2 (.val _) (.nil)) ?_ | refine im_cons rfl (im_agg2 (.ints _) (.intss _)) ?_ | refine im_cons rfl (im_agg2 (.ints _) (.sls rfl)) ?_ | refine im_cons rfl (im_agg2 (.sli rfl) (.intss _)) ?_ | refine im_cons rfl (im_agg2 (.sli rfl) (.sls rfl)) ?_ | refine im_cons rfl (im_agg1 (.ints _)) ?_ | refine im_cons rfl (im_agg1 (.sli rfl)) ?_ | refine im_cons rfl (im_agg1 (.intss _)) ?_ | refine im_cons rfl (im_agg1 (.sls rfl)) ?_ | refine im_cons rfl (im_agg1 (.nil)) ?_ | refine im_cons rfl (im_agg1 (.nils)) ?_)); done))
  | (apply w_callc [] (hb); exact rfl; (first | (first | exact handed0 | exact handed1 rfl True.intro | exact handed2 rfl rfl rfl True.intro True.intro) | exact handed3 rfl rfl rfl rfl True.intro True.intro True.intro); (focus ((repeat (first | exact imu_nil | refine imu_cons rfl (imu_agg2 (.ints _) (.intss _)) ?_ | refine imu_cons rfl (imu_agg2 (.sli rfl (by decide)) (.sls rfl (by decide))) ?_ | refine imu_cons rfl (.val _) ?_ | refine imu_cons rfl (.ints _) ?_ | refine imu_cons rfl (.own rfl) ?_ | refine imu_cons rfl (.sli rfl (by decide)) ?_ | refine imu_cons rfl (.intss _) ?_ | refine imu_cons rfl (.sls rfl (by decide)) ?_ | refine imu_cons rfl (imu_agg2 (.val _) (.own rfl)) ?_ | refine imu_cons rfl (imu_agg2 (.own rfl) (.own rfl)) ?_ | refine imu_cons rfl (imu_agg1 (.own rfl)) ?_)); done)); rintro r os0 ⟨rfl, rfl⟩; try simp only [List.nil_append, List.cons_append, List.set_cons_zero, List.set_cons_succ, List.length_cons, List.length_nil, Nat.reduceAdd, AV.sh, AV.sh1, AV.sh0, AO.sh, List.map_cons, List.map_nil, Nat.zero_add, Nat.add_zero, setAll])
  | omega
  | ((first | apply w_lss | apply w_leq | apply w_gtr | apply w_geq | apply w_eql | apply w_neq | apply w_add | apply w_sub | apply w_mul | apply w_idx | apply w_ld | apply w_fld | apply w_fa | apply w_extv | apply w_min | apply w_max | apply w_slhi | apply w_sllo | apply w_bs2); iterate 3 exact rfl)
  | ((first | apply w_eqlb | apply w_neqb | apply w_idxs | apply w_lds | apply w_ext); iterate 3 exact rfl)
  | (apply w_rem; exact rfl; exact rfl; exact rfl; (focus (omega; done)); (focus (omega; done)))
  | (apply w_quo; exact rfl; exact rfl; exact rfl; (focus (omega; done)); (focus (omega; done)))
  | (apply w_remT; exact rfl; exact rfl; exact rfl)
  | (apply w_quoT; exact rfl; exact rfl; exact rfl)
  | ((first | apply w_not | apply w_neg | apply w_conv | apply w_build0 | apply w_bs1 | apply w_boxa); iterate 2 exact rfl)
  | (apply w_idxo; exact rfl; exact rfl; (first | exact .sli rfl | exact .sls rfl | exact .slr rfl); exact rfl)
  | ((first | apply w_idxr | apply w_ldr); iterate 4 exact rfl)
  | (apply w_ldo; iterate 4 exact rfl)
  | (apply w_ldls; iterate 4 exact rfl)
  | (apply w_ldrp; iterate 4 exact rfl)
  | (apply w_ldb; iterate 5 exact rfl)
  | (apply w_ldst; iterate 5 exact rfl)
  | ((first | apply w_sllh | apply w_stbi); iterate 4 exact rfl)
  | ((first | apply w_oslo | apply w_oshi | apply w_stbii); iterate 4 exact rfl)
  | (apply w_build1; exact rfl; exact rfl; (first | exact one_val rfl rfl | exact one_ints | exact one_intss | exact one_own rfl True.intro))
  | (apply w_build2; exact rfl; exact rfl; exact rfl; (first | exact one_val rfl rfl | exact one_ints | exact one_intss | exact one_own rfl True.intro); (first | exact one_val rfl rfl | exact one_ints | exact one_intss | exact one_own rfl True.intro))
  | (apply w_bs0; iterate 1 exact rfl)
  | (apply w_appn; exact rfl; exact rfl; (first | exact .ints _ | exact .sli rfl | exact .orow rfl | exact .nil | exact .osub rfl (by simp; omega)); exact rfl)
  | (apply w_app; exact rfl; exact rfl; exact rfl; exact rfl; (first | exact .ints _ | exact .sli rfl | exact .orow rfl | exact .nil | exact .osub rfl (by simp; omega)); rotate_left 1; simp only [Env.mp, List.map_cons, List.map_nil, List.set_cons_zero, List.set_cons_succ, AV.kill, AV.kill1, AO.kill, AV.noRow, AV.noRow1, AO.via, reduceIte, Nat.reduceEqDiff, Nat.reduceLT, Env.up, Nat.zero_ne_one, Nat.one_ne_zero, Nat.reduceAdd, List.cons_append, List.nil_append]; rotate_left 1)
  | (apply w_alst; iterate 2 exact rfl)
  | (apply w_alone; iterate 3 exact rfl)
  | (apply w_mki; exact rfl; exact rfl; rotate_left 3; exact rfl; rotate_left 1)
  | (apply w_mkr; exact rfl; exact rfl; rotate_left 3; exact rfl; rotate_left 1)
  | (apply w_sti; exact rfl; exact rfl; rotate_left 1; exact rfl; rotate_left 2)
  | (apply w_stst; iterate 5 exact rfl)
  | (apply w_stbv; iterate 6 exact rfl)
  | (apply w_stbo; exact rfl; exact rfl; exact rfl; exact rfl; exact rfl; exact True.intro)
  | ((apply AOps.splitB; exact rfl; exact rfl) <;> intro h)
  | apply AllOf.nil
  | (apply AllOf.cons; exact rfl)
  | (apply AAny.take; exact rfl; exact rfl; kernel_rfl; kernel_rfl)
  | (apply AAny.all; exact rfl)
  | (apply AAny.done; exact rfl)
  | (apply inI_of <;> omega)
  | omega
  | (simp <;> omega))
  refine ⟨⟨21, [(2, .own 1), (3, .own 2), (4, .i 0)]⟩, [.sli 2 F, .sli 2 G], .tup [.own 0, .own 1, .i 0], Turns.or ?_, ResIs.a3 rfl rfl rfl rfl, all_cons' trivial (all_cons' trivial (all_cons' trivial all_nil')), ⟨rfl, rfl⟩, all_cons' trivial (all_cons' trivial all_nil')⟩
  (first | (apply Or.inl; refine ⟨lee rfl ?_, ?_, rfl, (by first | exact rfl | (simp [AO.lim, AV.lim, bL_lim]; done))⟩; (focus ((repeat (first | exact le_nil | refine le_eq rfl rfl ?_ | (refine le_eq rfl (congrArg AV.i ?_) ?_; (focus (omega; done))))); done)); (focus ((repeat (first | exact lo_nil | refine lo_dead ?_ | refine lo_eq rfl ?_ | refine lo_eq (congrArg (AO.slr _) (bL_ren _ _)) ?_)); done))) | (apply Or.inr; refine ⟨[0, 2, 3], ⟨by decide, fun x hx => Nat.lt_of_lt_of_le ((by decide : ∀ x ∈ ([0, 2, 3] : List Nat), x < 4) x hx) (Nat.le_of_ble_eq_true rfl)⟩, lee rfl ?_, ?_, rfl, (by first | exact rfl | (simp [AO.lim, AV.lim, bL_lim]; done))⟩; (focus ((repeat (first | exact le_nil | refine le_eq rfl rfl ?_ | (refine le_eq rfl (congrArg AV.i ?_) ?_; (focus (omega; done))))); done)); (focus ((repeat (first | exact lo_nil | refine lo_dead ?_ | refine lo_eq rfl ?_ | refine lo_eq (congrArg (AO.slr _) (bL_ren _ _)) ?_)); done))))

end Go.Proofs.Ytbalbiliejjnoaa
/-
  Laws on graphs: sizes, copies. No condition but sizes.
-/
namespace Go.Proofs.Ytbalbiliejjnoaa
open Go Go.RowKit
attribute [local irreducible] AWp AOps ResIs Ret1 QOp LOp COp AFnV AFn Imms LeE LeO
set_option maxHeartbeats 1000000
set_option linter.unusedSimpArgs false
set_option linter.unusedVariables false

theorem plain_ne {o : AO} (h : o.plain) : o ≠ .dead := by rintro rfl; exact h
theorem NewObjs.two {base : Nat} {w : World} {ok : Nat → Prop} {gs0 : List Gh} {g1 g2 : Gh} {o1 o2 : AO} (p1 : o1.plain) (p2 : o2.plain) (h1 : RO base w ok gs0 g1 o1) (h2 : RO base w ok gs0 g2 o2) (hd : ∀ b, b ∈ g1.bl → b ∉ g2.bl)
    (n1 : ∀ b, b ∈ g1.bl → base ≤ b ∧ b < w.heap.size) (n2 : ∀ b, b ∈ g2.bl → base ≤ b ∧ b < w.heap.size) : NewObjs base w [g1, g2] [o1, o2] where
  hl := rfl
  ho h g o hg ho := by
    match h with
    | 0 => simp at hg ho; subst hg; subst ho; exact p1.ro h1
    | 1 => simp at hg ho; subst hg; subst ho; exact p2.ro h2
    | h + 2 => simp at hg
  hd h k g g' o o' hne hg hg' ho ho' _ _ b hb := by
    match h, k with
    | 0, 0 => exact absurd rfl hne
    | 1, 1 => exact absurd rfl hne
    | 0, 1 => simp at hg hg'; subst hg; subst hg'; exact hd b hb
    | 1, 0 => simp at hg hg'; subst hg; subst hg'; exact fun h => hd b h hb
    | h + 2, _ => simp at hg
    | _, k + 2 => simp at hg'
  hn h g o hg ho _ b hb := by
    match h with
    | 0 => simp at hg; subst hg; exact n1 b hb
    | 1 => simp at hg; subst hg; exact n2 b hb
    | h + 2 => simp at hg
theorem Ret1.oo {os : List AO} {i j : Nat} {o1 o2 : AO} (h1 : os[i]? = some o1) (h2 : os[j]? = some o2) (p1 : o1.plain) (p2 : o2.plain) (hne : i ≠ j) : Ret1 os (.agg [.own i, .own j]) (.agg [.own 0, .own 1]) [o1, o2] := by
  unfold Ret1
  intro base w gs env tm hr u hu
  cases hu with
  | @agg vs _ k1 ko k2 =>
    match vs, k1, ko with
    | [x, y], _, ko =>
      have a1 := k2 0
      have a2 := k2 1
      simp at a1 a2
      cases a1 with
      | @own _ g hg =>
        cases a2 with
        | @own _ g' hg' =>
          refine ⟨[g, g'], .two p1 p2 (hr.ho _ _ _ hg h1) (hr.ho _ _ _ hg' h2) (hr.hd _ _ _ _ _ _ hne hg hg' h1 h2 (plain_ne p1) (plain_ne p2)) (hr.hn _ _ _ hg h1 (plain_ne p1)) (hr.hn _ _ _ hg' h2 (plain_ne p2)), ?_⟩
          refine .agg (vs := [g.v, g'.v]) rfl ko fun q => ?_
          match q with
          | 0 => exact .own rfl
          | 1 => exact .own rfl
          | q + 2 => exact .any _
def szGr (W : List Int) (E : List (List Int)) (left : Int) : Int := if szI W left < 0 then -1 else if szSS E (szI W left) < 0 then -1 else szSS E (szI W left)
theorem szGraph_c (W : List Int) (E : List (List Int)) : AFnV Try.prog 7 [.agg [.ints W, .intss E], .i 1048576] (.int .i64 (szGr W E 1048576)) := by
  have s1 := szInt64S_c W 1048576 (by omega) (by omega)
  have h0 : -1 ≤ szI W 1048576 ∧ szI W 1048576 ≤ 1048576 := by unfold szI; split <;> omega
  have s2 := szInt64SS_c E (szI W 1048576) h0.1 h0.2
  unfold szGr
  generalize hb : szSS E (szI W 1048576) = b at *
  generalize ha : szI W 1048576 = a at *
  by_cases c1 : a < 0
  · rw [if_pos c1]
    (refine AFnV.start Try.func7 Try.ntmps7 rfl (by kernel_rfl) fun hk => ?_; simp only [Env.start, enumF, List.length_cons, List.length_nil, Nat.reduceAdd, Nat.reduceSub, List.cons_append, List.nil_append])
    repeat' (first
  | (apply AOps.nil; try simp only [List.nil_append, List.cons_append, List.set_cons_zero, List.set_cons_succ, List.length_cons, List.length_nil, Nat.reduceAdd, AV.sh, AV.sh1, AV.sh0, AO.sh, List.map_cons, List.map_nil, Nat.zero_add, Nat.add_zero, setAll])
  | ((apply AOps.splitP; exact rfl; exact rfl) <;> intro h)
  | ((apply AOps.splitN; exact rfl; exact rfl) <;> intro h)
  | (apply w_move; exact rfl; exact rfl)
  | (apply w_assign; exact rfl; exact rfl)
  | apply AWp.seq
  | apply AWp.region
  | ((apply AWp.condP; exact rfl) <;> intro h)
  | ((apply AWp.condN; exact rfl) <;> intro h)
  | (apply AWp.condT; exact rfl)
  | (apply AWp.condF; exact rfl)
  | ((apply AWp.condB; exact rfl) <;> intro h)
  | apply AWp.block
  | apply AWp.ret
  | apply AWp.exit
  | apply AWp.skip
  | (apply if_pos'; exact rfl)
  | (apply if_neg'; decide)
  | (apply w_skip; exact rfl)
  | (apply w_pickT; exact rfl; exact rfl; exact rfl)
  | (apply w_pickF; exact rfl; exact rfl; exact rfl)
  | (apply w_len; exact rfl; exact rfl; first | exact .ints _ | exact .intss _ | exact .sli rfl | exact .sls rfl | exact .slr rfl | exact .orow rfl | exact .nil)
  | (apply w_call (s1); exact rfl; exact rfl; focus ((repeat (first | exact im_nil | refine im_cons rfl (im_agg2 (.ints _) (.intss _)) ?_ | refine im_cons rfl (im_agg2 (.sli rfl) (.sls rfl)) ?_ | refine im_cons rfl (.val _) ?_ | refine im_cons rfl (.ints _) ?_ | refine im_cons rfl (.intss _) ?_ | refine im_cons rfl (.sli rfl) ?_ | refine im_cons rfl (.sls rfl) ?_ | refine im_cons rfl (.orow rfl) ?_ | refine im_cons rfl (.osub rfl (by simp; omega)) ?_ | refine im_cons rfl (.nil) ?_ | refine im_cons rfl (.nils) ?_ | refine im_cons rfl (im_agg2 (.val _) (.ints _)) ?_ | refine im_cons rfl (im_agg2 (.val _) (.sli rfl)) ?_ | refine im_cons rfl (im_agg2 (.val _) (.nil)) ?_ | refine im_cons rfl (im_agg2 (.ints _) (.intss _)) ?_ | refine im_cons rfl (im_agg2 (.ints _) (.sls rfl)) ?_ | refine im_cons rfl (im_agg2 (.sli rfl) (.intss _)) ?_ | refine im_cons rfl (im_agg2 (.sli rfl) (.sls rfl)) ?_ | refine im_cons rfl (im_agg1 (.ints _)) ?_ | refine im_cons rfl (im_agg1 (.sli rfl)) ?_ | refine im_cons rfl (im_agg1 (.intss _)) ?_ | refine im_cons rfl (im_agg1 (.sls rfl)) ?_ | refine im_cons rfl (im_agg1 (.nil)) ?_ | refine im_cons rfl (im_agg1 (.nils)) ?_)); done))
  | (apply w_call (s2); exact rfl; exact rfl; focus ((repeat (first | exact im_nil | refine im_cons rfl (im_agg2 (.ints _) (.intss _)) ?_ | refine im_cons rfl (im_agg2 (.sli rfl) (.sls rfl)) ?_ | refine im_cons rfl (.val _) ?_ | refine im_cons rfl (.ints _) ?_ | refine im_cons rfl (.intss _) ?_ | refine im_cons rfl (.sli rfl) ?_ | refine im_cons rfl (.sls rfl) ?_ | refine im_cons rfl (.orow rfl) ?_ | refine im_cons rfl (.osub rfl (by simp; omega)) ?_ | refine im_cons rfl (.nil) ?_ | refine im_cons rfl (.nils) ?_ | refine im_cons rfl (im_agg2 (.val _) (.ints _)) ?_ | refine im_cons rfl (im_agg2 (.val _) (.sli rfl)) ?_ | refine im_cons rfl (im_agg2 (.val _) (.nil)) ?_ | refine im_cons rfl (im_agg2 (.ints _) (.intss _)) ?_ | refine im_cons rfl (im_agg2 (.ints _) (.sls rfl)) ?_ | refine im_cons rfl (im_agg2 (.sli rfl) (.intss _)) ?_ | refine im_cons rfl (im_agg2 (.sli rfl) (.sls rfl)) ?_ | refine im_cons rfl (im_agg1 (.ints _)) ?_ | refine im_cons rfl (im_agg1 (.sli rfl)) ?_ | refine im_cons rfl (im_agg1 (.intss _)) ?_ | refine im_cons rfl (im_agg1 (.sls rfl)) ?_ | refine im_cons rfl (im_agg1 (.nil)) ?_ | refine im_cons rfl (im_agg1 (.nils)) ?_)); done))
  | omega
  | ((first | apply w_lss | apply w_leq | apply w_gtr | apply w_geq | apply w_eql | apply w_neq | apply w_add | apply w_sub | apply w_mul | apply w_idx | apply w_ld | apply w_fld | apply w_fa | apply w_extv | apply w_min | apply w_max | apply w_slhi | apply w_sllo | apply w_bs2); iterate 3 exact rfl)
  | ((first | apply w_eqlb | apply w_neqb | apply w_idxs | apply w_lds | apply w_ext); iterate 3 exact rfl)
  | (apply w_rem; exact rfl; exact rfl; exact rfl; (focus (omega; done)); (focus (omega; done)))
  | (apply w_quo; exact rfl; exact rfl; exact rfl; (focus (omega; done)); (focus (omega; done)))
  | (apply w_remT; exact rfl; exact rfl; exact rfl)
  | (apply w_quoT; exact rfl; exact rfl; exact rfl)
  | ((first | apply w_not | apply w_neg | apply w_conv | apply w_build0 | apply w_bs1 | apply w_boxa); iterate 2 exact rfl)
  | (apply w_idxo; exact rfl; exact rfl; (first | exact .sli rfl | exact .sls rfl | exact .slr rfl); exact rfl)
  | ((first | apply w_idxr | apply w_ldr); iterate 4 exact rfl)
  | (apply w_ldo; iterate 4 exact rfl)
  | (apply w_ldls; iterate 4 exact rfl)
  | (apply w_ldrp; iterate 4 exact rfl)
  | (apply w_ldb; iterate 5 exact rfl)
  | (apply w_ldst; iterate 5 exact rfl)
  | ((first | apply w_sllh | apply w_stbi); iterate 4 exact rfl)
  | ((first | apply w_oslo | apply w_oshi | apply w_stbii); iterate 4 exact rfl)
  | (apply w_build1; exact rfl; exact rfl; (first | exact one_val rfl rfl | exact one_ints | exact one_intss | exact one_own rfl True.intro))
  | (apply w_build2; exact rfl; exact rfl; exact rfl; (first | exact one_val rfl rfl | exact one_ints | exact one_intss | exact one_own rfl True.intro); (first | exact one_val rfl rfl | exact one_ints | exact one_intss | exact one_own rfl True.intro))
  | (apply w_bs0; iterate 1 exact rfl)
  | (apply w_appn; exact rfl; exact rfl; (first | exact .ints _ | exact .sli rfl | exact .orow rfl | exact .nil | exact .osub rfl (by simp; omega)); exact rfl)
  | (apply w_app; exact rfl; exact rfl; exact rfl; exact rfl; (first | exact .ints _ | exact .sli rfl | exact .orow rfl | exact .nil | exact .osub rfl (by simp; omega)); rotate_left 1; simp only [Env.mp, List.map_cons, List.map_nil, List.set_cons_zero, List.set_cons_succ, AV.kill, AV.kill1, AO.kill, AV.noRow, AV.noRow1, AO.via, reduceIte, Nat.reduceEqDiff, Nat.reduceLT, Env.up, Nat.zero_ne_one, Nat.one_ne_zero, Nat.reduceAdd, List.cons_append, List.nil_append]; rotate_left 1)
  | (apply w_alst; iterate 2 exact rfl)
  | (apply w_alone; iterate 3 exact rfl)
  | (apply w_mki; exact rfl; exact rfl; rotate_left 3; exact rfl; rotate_left 1)
  | (apply w_mkr; exact rfl; exact rfl; rotate_left 3; exact rfl; rotate_left 1)
  | (apply w_sti; exact rfl; exact rfl; rotate_left 1; exact rfl; rotate_left 2)
  | (apply w_stst; iterate 5 exact rfl)
  | (apply w_stbv; iterate 6 exact rfl)
  | (apply w_stbo; exact rfl; exact rfl; exact rfl; exact rfl; exact rfl; exact True.intro)
  | ((apply AOps.splitB; exact rfl; exact rfl) <;> intro h)
  | apply AllOf.nil
  | (apply AllOf.cons; exact rfl)
  | (apply AAny.take; exact rfl; exact rfl; kernel_rfl; kernel_rfl)
  | (apply AAny.all; exact rfl)
  | (apply AAny.done; exact rfl)
  | (apply inI_of <;> omega)
  | omega
  | (simp <;> omega))
    all_goals try (exfalso; omega)
    all_goals exact .int Try.results7 rfl rfl
  · rw [if_neg c1]
    by_cases c2 : b < 0
    · rw [if_pos c2]
      (refine AFnV.start Try.func7 Try.ntmps7 rfl (by kernel_rfl) fun hk => ?_; simp only [Env.start, enumF, List.length_cons, List.length_nil, Nat.reduceAdd, Nat.reduceSub, List.cons_append, List.nil_append])
      repeat' (first
  | (apply AOps.nil; try simp only [List.nil_append, List.cons_append, List.set_cons_zero, List.set_cons_succ, List.length_cons, List.length_nil, Nat.reduceAdd, AV.sh, AV.sh1, AV.sh0, AO.sh, List.map_cons, List.map_nil, Nat.zero_add, Nat.add_zero, setAll])
  | ((apply AOps.splitP; exact rfl; exact rfl) <;> intro h)
  | ((apply AOps.splitN; exact rfl; exact rfl) <;> intro h)
  | (apply w_move; exact rfl; exact rfl)
  | (apply w_assign; exact rfl; exact rfl)
  | apply AWp.seq
  | apply AWp.region
  | ((apply AWp.condP; exact rfl) <;> intro h)
  | ((apply AWp.condN; exact rfl) <;> intro h)
  | (apply AWp.condT; exact rfl)
  | (apply AWp.condF; exact rfl)
  | ((apply AWp.condB; exact rfl) <;> intro h)
  | apply AWp.block
  | apply AWp.ret
  | apply AWp.exit
  | apply AWp.skip
  | (apply if_pos'; exact rfl)
  | (apply if_neg'; decide)
  | (apply w_skip; exact rfl)
  | (apply w_pickT; exact rfl; exact rfl; exact rfl)
  | (apply w_pickF; exact rfl; exact rfl; exact rfl)
  | (apply w_len; exact rfl; exact rfl; first | exact .ints _ | exact .intss _ | exact .sli rfl | exact .sls rfl | exact .slr rfl | exact .orow rfl | exact .nil)
  | (apply w_call (s1); exact rfl; exact rfl; focus ((repeat (first | exact im_nil | refine im_cons rfl (im_agg2 (.ints _) (.intss _)) ?_ | refine im_cons rfl (im_agg2 (.sli rfl) (.sls rfl)) ?_ | refine im_cons rfl (.val _) ?_ | refine im_cons rfl (.ints _) ?_ | refine im_cons rfl (.intss _) ?_ | refine im_cons rfl (.sli rfl) ?_ | refine im_cons rfl (.sls rfl) ?_ | refine im_cons rfl (.orow rfl) ?_ | refine im_cons rfl (.osub rfl (by simp; omega)) ?_ | refine im_cons rfl (.nil) ?_ | refine im_cons rfl (.nils) ?_ | refine im_cons rfl (im_agg2 (.val _) (.ints _)) ?_ | refine im_cons rfl (im_agg2 (.val _) (.sli rfl)) ?_ | refine im_cons rfl (im_agg2 (.val _) (.nil)) ?_ | refine im_cons rfl (im_agg2 (.ints _) (.intss _)) ?_ | refine im_cons rfl (im_agg2 (.ints _) (.sls rfl)) ?_ | refine im_cons rfl (im_agg2 (.sli rfl) (.intss _)) ?_ | refine im_cons rfl (im_agg2 (.sli rfl) (.sls rfl)) ?_ | refine im_cons rfl (im_agg1 (.ints _)) ?_ | refine im_cons rfl (im_agg1 (.sli rfl)) ?_ | refine im_cons rfl (im_agg1 (.intss _)) ?_ | refine im_cons rfl (im_agg1 (.sls rfl)) ?_ | refine im_cons rfl (im_agg1 (.nil)) ?_ | refine im_cons rfl (im_agg1 (.nils)) ?_)); done))
  | (apply w_call (s2); exact rfl; exact rfl; focus ((repeat (first | exact im_nil | refine im_cons rfl (im_agg2 (.ints _) (.intss _)) ?_ | refine im_cons rfl (im_agg2 (.sli rfl) (.sls rfl)) ?_ | refine im_cons rfl (.val _) ?_ | refine im_cons rfl (.ints _) ?_ | refine im_cons rfl (.intss _) ?_ | refine im_cons rfl (.sli rfl) ?_ | refine im_cons rfl (.sls rfl) ?_ | refine im_cons rfl (.orow rfl) ?_ | refine im_cons rfl (.osub rfl (by simp; omega)) ?_ | refine im_cons rfl (.nil) ?_ | refine im_cons rfl (.nils) ?_ | refine im_cons rfl (im_agg2 (.val _) (.ints _)) ?_ | refine im_cons rfl (im_agg2 (.val _) (.sli rfl)) ?_ | refine im_cons rfl (im_agg2 (.val _) (.nil)) ?_ | refine im_cons rfl (im_agg2 (.ints _) (.intss _)) ?_ | refine im_cons rfl (im_agg2 (.ints _) (.sls rfl)) ?_ | refine im_cons rfl (im_agg2 (.sli rfl) (.intss _)) ?_ | refine im_cons rfl (im_agg2 (.sli rfl) (.sls rfl)) ?_ | refine im_cons rfl (im_agg1 (.ints _)) ?_ | refine im_cons rfl (im_agg1 (.sli rfl)) ?_ | refine im_cons rfl (im_agg1 (.intss _)) ?_ | refine im_cons rfl (im_agg1 (.sls rfl)) ?_ | refine im_cons rfl (im_agg1 (.nil)) ?_ | refine im_cons rfl (im_agg1 (.nils)) ?_)); done))
  | omega
  | ((first | apply w_lss | apply w_leq | apply w_gtr | apply w_geq | apply w_eql | apply w_neq | apply w_add | apply w_sub | apply w_mul | apply w_idx | apply w_ld | apply w_fld | apply w_fa | apply w_extv | apply w_min | apply w_max | apply w_slhi | apply w_sllo | apply w_bs2); iterate 3 exact rfl)
  | ((first | apply w_eqlb | apply w_neqb | apply w_idxs | apply w_lds | apply w_ext); iterate 3 exact rfl)
  | (apply w_rem; exact rfl; exact rfl; exact rfl; (focus (omega; done)); (focus (omega; done)))
  | (apply w_quo; exact rfl; exact rfl; exact rfl; (focus (omega; done)); (focus (omega; done)))
  | (apply w_remT; exact rfl; exact rfl; exact rfl)
  | (apply w_quoT; exact rfl; exact rfl; exact rfl)
  | ((first | apply w_not | apply w_neg | apply w_conv | apply w_build0 | apply w_bs1 | apply w_boxa); iterate 2 exact rfl)
  | (apply w_idxo; exact rfl; exact rfl; (first | exact .sli rfl | exact .sls rfl | exact .slr rfl); exact rfl)
  | ((first | apply w_idxr | apply w_ldr); iterate 4 exact rfl)
  | (apply w_ldo; iterate 4 exact rfl)
  | (apply w_ldls; iterate 4 exact rfl)
  | (apply w_ldrp; iterate 4 exact rfl)
  | (apply w_ldb; iterate 5 exact rfl)
  | (apply w_ldst; iterate 5 exact rfl)
  | ((first | apply w_sllh | apply w_stbi); iterate 4 exact rfl)
  | ((first | apply w_oslo | apply w_oshi | apply w_stbii); iterate 4 exact rfl)
  | (apply w_build1; exact rfl; exact rfl; (first | exact one_val rfl rfl | exact one_ints | exact one_intss | exact one_own rfl True.intro))
  | (apply w_build2; exact rfl; exact rfl; exact rfl; (first | exact one_val rfl rfl | exact one_ints | exact one_intss | exact one_own rfl True.intro); (first | exact one_val rfl rfl | exact one_ints | exact one_intss | exact one_own rfl True.intro))
  | (apply w_bs0; iterate 1 exact rfl)
  | (apply w_appn; exact rfl; exact rfl; (first | exact .ints _ | exact .sli rfl | exact .orow rfl | exact .nil | exact .osub rfl (by simp; omega)); exact rfl)
  | (apply w_app; exact rfl; exact rfl; exact rfl; exact rfl; (first | exact .ints _ | exact .sli rfl | exact .orow rfl | exact .nil | exact .osub rfl (by simp; omega)); rotate_left 1; simp only [Env.mp, List.map_cons, List.map_nil, List.set_cons_zero, List.set_cons_succ, AV.kill, AV.kill1, AO.kill, AV.noRow, AV.noRow1, AO.via, reduceIte, Nat.reduceEqDiff, Nat.reduceLT, Env.up, Nat.zero_ne_one, Nat.one_ne_zero, Nat.reduceAdd, List.cons_append, List.nil_append]; rotate_left 1)
  | (apply w_alst; iterate 2 exact rfl)
  | (apply w_alone; iterate 3 exact rfl)
  | (apply w_mki; exact rfl; exact rfl; rotate_left 3; exact rfl; rotate_left 1)
  | (apply w_mkr; exact rfl; exact rfl; rotate_left 3; exact rfl; rotate_left 1)
  | (apply w_sti; exact rfl; exact rfl; rotate_left 1; exact rfl; rotate_left 2)
  | (apply w_stst; iterate 5 exact rfl)
  | (apply w_stbv; iterate 6 exact rfl)
  | (apply w_stbo; exact rfl; exact rfl; exact rfl; exact rfl; exact rfl; exact True.intro)
  | ((apply AOps.splitB; exact rfl; exact rfl) <;> intro h)
  | apply AllOf.nil
  | (apply AllOf.cons; exact rfl)
  | (apply AAny.take; exact rfl; exact rfl; kernel_rfl; kernel_rfl)
  | (apply AAny.all; exact rfl)
  | (apply AAny.done; exact rfl)
  | (apply inI_of <;> omega)
  | omega
  | (simp <;> omega))
      all_goals try (exfalso; omega)
      all_goals exact .int Try.results7 rfl rfl
    · rw [if_neg c2]
      (refine AFnV.start Try.func7 Try.ntmps7 rfl (by kernel_rfl) fun hk => ?_; simp only [Env.start, enumF, List.length_cons, List.length_nil, Nat.reduceAdd, Nat.reduceSub, List.cons_append, List.nil_append])
      repeat' (first
  | (apply AOps.nil; try simp only [List.nil_append, List.cons_append, List.set_cons_zero, List.set_cons_succ, List.length_cons, List.length_nil, Nat.reduceAdd, AV.sh, AV.sh1, AV.sh0, AO.sh, List.map_cons, List.map_nil, Nat.zero_add, Nat.add_zero, setAll])
  | ((apply AOps.splitP; exact rfl; exact rfl) <;> intro h)
  | ((apply AOps.splitN; exact rfl; exact rfl) <;> intro h)
  | (apply w_move; exact rfl; exact rfl)
  | (apply w_assign; exact rfl; exact rfl)
  | apply AWp.seq
  | apply AWp.region
  | ((apply AWp.condP; exact rfl) <;> intro h)
  | ((apply AWp.condN; exact rfl) <;> intro h)
  | (apply AWp.condT; exact rfl)
  | (apply AWp.condF; exact rfl)
  | ((apply AWp.condB; exact rfl) <;> intro h)
  | apply AWp.block
  | apply AWp.ret
  | apply AWp.exit
  | apply AWp.skip
  | (apply if_pos'; exact rfl)
  | (apply if_neg'; decide)
  | (apply w_skip; exact rfl)
  | (apply w_pickT; exact rfl; exact rfl; exact rfl)
  | (apply w_pickF; exact rfl; exact rfl; exact rfl)
  | (apply w_len; exact rfl; exact rfl; first | exact .ints _ | exact .intss _ | exact .sli rfl | exact .sls rfl | exact .slr rfl | exact .orow rfl | exact .nil)
  | (apply w_call (s1); exact rfl; exact rfl; focus ((repeat (first | exact im_nil | refine im_cons rfl (im_agg2 (.ints _) (.intss _)) ?_ | refine im_cons rfl (im_agg2 (.sli rfl) (.sls rfl)) ?_ | refine im_cons rfl (.val _) ?_ | refine im_cons rfl (.ints _) ?_ | refine im_cons rfl (.intss _) ?_ | refine im_cons rfl (.sli rfl) ?_ | refine im_cons rfl (.sls rfl) ?_ | refine im_cons rfl (.orow rfl) ?_ | refine im_cons rfl (.osub rfl (by simp; omega)) ?_ | refine im_cons rfl (.nil) ?_ | refine im_cons rfl (.nils) ?_ | refine im_cons rfl (im_agg2 (.val _) (.ints _)) ?_ | refine im_cons rfl (im_agg2 (.val _) (.sli rfl)) ?_ | refine im_cons rfl (im_agg2 (.val _) (.nil)) ?_ | refine im_cons rfl (im_agg2 (.ints _) (.intss _)) ?_ | refine im_cons rfl (im_agg2 (.ints _) (.sls rfl)) ?_ | refine im_cons rfl (im_agg2 (.sli rfl) (.intss _)) ?_ | refine im_cons rfl (im_agg2 (.sli rfl) (.sls rfl)) ?_ | refine im_cons rfl (im_agg1 (.ints _)) ?_ | refine im_cons rfl (im_agg1 (.sli rfl)) ?_ | refine im_cons rfl (im_agg1 (.intss _)) ?_ | refine im_cons rfl (im_agg1 (.sls rfl)) ?_ | refine im_cons rfl (im_agg1 (.nil)) ?_ | refine im_cons rfl (im_agg1 (.nils)) ?_)); done))
  | (apply w_call (s2); exact rfl; exact rfl; focus ((repeat (first | exact im_nil | refine im_cons rfl (im_agg2 (.ints _) (.intss _)) ?_ | refine im_cons rfl (im_agg2 (.sli rfl) (.sls rfl)) ?_ | refine im_cons rfl (.val _) ?_ | refine im_cons rfl (.ints _) ?_ | refine im_cons rfl (.intss _) ?_ | refine im_cons rfl (.sli rfl) ?_ | refine im_cons rfl (.sls rfl) ?_ | refine im_cons rfl (.orow rfl) ?_ | refine im_cons rfl (.osub rfl (by simp; omega)) ?_ | refine im_cons rfl (.nil) ?_ | refine im_cons rfl (.nils) ?_ | refine im_cons rfl (im_agg2 (.val _) (.ints _)) ?_ | refine im_cons rfl (im_agg2 (.val _) (.sli rfl)) ?_ | refine im_cons rfl (im_agg2 (.val _) (.nil)) ?_ | refine im_cons rfl (im_agg2 (.ints _) (.intss _)) ?_ | refine im_cons rfl (im_agg2 (.ints _) (.sls rfl)) ?_ | refine im_cons rfl (im_agg2 (.sli rfl) (.intss _)) ?_ | refine im_cons rfl (im_agg2 (.sli rfl) (.sls rfl)) ?_ | refine im_cons rfl (im_agg1 (.ints _)) ?_ | refine im_cons rfl (im_agg1 (.sli rfl)) ?_ | refine im_cons rfl (im_agg1 (.intss _)) ?_ | refine im_cons rfl (im_agg1 (.sls rfl)) ?_ | refine im_cons rfl (im_agg1 (.nil)) ?_ | refine im_cons rfl (im_agg1 (.nils)) ?_)); done))
  | omega
  | ((first | apply w_lss | apply w_leq | apply w_gtr | apply w_geq | apply w_eql | apply w_neq | apply w_add | apply w_sub | apply w_mul | apply w_idx | apply w_ld | apply w_fld | apply w_fa | apply w_extv | apply w_min | apply w_max | apply w_slhi | apply w_sllo | apply w_bs2); iterate 3 exact rfl)
  | ((first | apply w_eqlb | apply w_neqb | apply w_idxs | apply w_lds | apply w_ext); iterate 3 exact rfl)
  | (apply w_rem; exact rfl; exact rfl; exact rfl; (focus (omega; done)); (focus (omega; done)))
  | (apply w_quo; exact rfl; exact rfl; exact rfl; (focus (omega; done)); (focus (omega; done)))
  | (apply w_remT; exact rfl; exact rfl; exact rfl)
  | (apply w_quoT; exact rfl; exact rfl; exact rfl)
  | ((first | apply w_not | apply w_neg | apply w_conv | apply w_build0 | apply w_bs1 | apply w_boxa); iterate 2 exact rfl)
  | (apply w_idxo; exact rfl; exact rfl; (first | exact .sli rfl | exact .sls rfl | exact .slr rfl); exact rfl)
  | ((first | apply w_idxr | apply w_ldr); iterate 4 exact rfl)
  | (apply w_ldo; iterate 4 exact rfl)
  | (apply w_ldls; iterate 4 exact rfl)
  | (apply w_ldrp; iterate 4 exact rfl)
  | (apply w_ldb; iterate 5 exact rfl)
  | (apply w_ldst; iterate 5 exact rfl)
  | ((first | apply w_sllh | apply w_stbi); iterate 4 exact rfl)
  | ((first | apply w_oslo | apply w_oshi | apply w_stbii); iterate 4 exact rfl)
  | (apply w_build1; exact rfl; exact rfl; (first | exact one_val rfl rfl | exact one_ints | exact one_intss | exact one_own rfl True.intro))
  | (apply w_build2; exact rfl; exact rfl; exact rfl; (first | exact one_val rfl rfl | exact one_ints | exact one_intss | exact one_own rfl True.intro); (first | exact one_val rfl rfl | exact one_ints | exact one_intss | exact one_own rfl True.intro))
  | (apply w_bs0; iterate 1 exact rfl)
  | (apply w_appn; exact rfl; exact rfl; (first | exact .ints _ | exact .sli rfl | exact .orow rfl | exact .nil | exact .osub rfl (by simp; omega)); exact rfl)
  | (apply w_app; exact rfl; exact rfl; exact rfl; exact rfl; (first | exact .ints _ | exact .sli rfl | exact .orow rfl | exact .nil | exact .osub rfl (by simp; omega)); rotate_left 1; simp only [Env.mp, List.map_cons, List.map_nil, List.set_cons_zero, List.set_cons_succ, AV.kill, AV.kill1, AO.kill, AV.noRow, AV.noRow1, AO.via, reduceIte, Nat.reduceEqDiff, Nat.reduceLT, Env.up, Nat.zero_ne_one, Nat.one_ne_zero, Nat.reduceAdd, List.cons_append, List.nil_append]; rotate_left 1)
  | (apply w_alst; iterate 2 exact rfl)
  | (apply w_alone; iterate 3 exact rfl)
  | (apply w_mki; exact rfl; exact rfl; rotate_left 3; exact rfl; rotate_left 1)
  | (apply w_mkr; exact rfl; exact rfl; rotate_left 3; exact rfl; rotate_left 1)
  | (apply w_sti; exact rfl; exact rfl; rotate_left 1; exact rfl; rotate_left 2)
  | (apply w_stst; iterate 5 exact rfl)
  | (apply w_stbv; iterate 6 exact rfl)
  | (apply w_stbo; exact rfl; exact rfl; exact rfl; exact rfl; exact rfl; exact True.intro)
  | ((apply AOps.splitB; exact rfl; exact rfl) <;> intro h)
  | apply AllOf.nil
  | (apply AllOf.cons; exact rfl)
  | (apply AAny.take; exact rfl; exact rfl; kernel_rfl; kernel_rfl)
  | (apply AAny.all; exact rfl)
  | (apply AAny.done; exact rfl)
  | (apply inI_of <;> omega)
  | omega
  | (simp <;> omega))
      all_goals try (exfalso; omega)
      all_goals exact .int Try.results7 rfl rfl
theorem toGraph_c (W : List Int) (E : List (List Int)) (hw : W.length ≤ 1048576) (hb : E.length ≤ 1048576) (hr : ∀ xs ∈ E, xs.length ≤ 1048576) :
    AFn Try.prog 9 [.agg [.ints W, .intss E]] (fun r os => r = .agg [.own 0, .own 1] ∧ os = [.sli 2 W, .sls 22 2 E]) := by
  have t1 := toInt64S_c W hw
  have t2 := toInt64SS_c E hb hr
  (refine AFn.start Try.func9 Try.ntmps9 rfl (by kernel_rfl) fun hk => ?_; simp only [Env.start, enumF, List.length_cons, List.length_nil, Nat.reduceAdd, Nat.reduceSub, List.cons_append, List.nil_append])
  repeat' (first
  | (apply AOps.nil; try simp only [List.nil_append, List.cons_append, List.set_cons_zero, List.set_cons_succ, List.length_cons, List.length_nil, Nat.reduceAdd, AV.sh, AV.sh1, AV.sh0, AO.sh, List.map_cons, List.map_nil, Nat.zero_add, Nat.add_zero, setAll])
  | ((apply AOps.splitP; exact rfl; exact rfl) <;> intro h)
  | ((apply AOps.splitN; exact rfl; exact rfl) <;> intro h)
  | (apply w_move; exact rfl; exact rfl)
  | (apply w_assign; exact rfl; exact rfl)
  | apply AWp.seq
  | apply AWp.region
  | ((apply AWp.condP; exact rfl) <;> intro h)
  | ((apply AWp.condN; exact rfl) <;> intro h)
  | (apply AWp.condT; exact rfl)
  | (apply AWp.condF; exact rfl)
  | ((apply AWp.condB; exact rfl) <;> intro h)
  | apply AWp.block
  | apply AWp.ret
  | apply AWp.exit
  | apply AWp.skip
  | (apply if_pos'; exact rfl)
  | (apply if_neg'; decide)
  | (apply w_skip; exact rfl)
  | (apply w_pickT; exact rfl; exact rfl; exact rfl)
  | (apply w_pickF; exact rfl; exact rfl; exact rfl)
  | (apply w_len; exact rfl; exact rfl; first | exact .ints _ | exact .intss _ | exact .sli rfl | exact .sls rfl | exact .slr rfl | exact .orow rfl | exact .nil)
  | (apply w_callm (t1); (focus ((repeat (first | exact im_nil | refine im_cons rfl (im_agg2 (.ints _) (.intss _)) ?_ | refine im_cons rfl (im_agg2 (.sli rfl) (.sls rfl)) ?_ | refine im_cons rfl (.val _) ?_ | refine im_cons rfl (.ints _) ?_ | refine im_cons rfl (.intss _) ?_ | refine im_cons rfl (.sli rfl) ?_ | refine im_cons rfl (.sls rfl) ?_ | refine im_cons rfl (.orow rfl) ?_ | refine im_cons rfl (.osub rfl (by simp; omega)) ?_ | refine im_cons rfl (.nil) ?_ | refine im_cons rfl (.nils) ?_ | refine im_cons rfl (im_agg2 (.val _) (.ints _)) ?_ | refine im_cons rfl (im_agg2 (.val _) (.sli rfl)) ?_ | refine im_cons rfl (im_agg2 (.val _) (.nil)) ?_ | refine im_cons rfl (im_agg2 (.ints _) (.intss _)) ?_ | refine im_cons rfl (im_agg2 (.ints _) (.sls rfl)) ?_ | refine im_cons rfl (im_agg2 (.sli rfl) (.intss _)) ?_ | refine im_cons rfl (im_agg2 (.sli rfl) (.sls rfl)) ?_ | refine im_cons rfl (im_agg1 (.ints _)) ?_ | refine im_cons rfl (im_agg1 (.sli rfl)) ?_ | refine im_cons rfl (im_agg1 (.intss _)) ?_ | refine im_cons rfl (im_agg1 (.sls rfl)) ?_ | refine im_cons rfl (im_agg1 (.nil)) ?_ | refine im_cons rfl (im_agg1 (.nils)) ?_)); done)); rintro r os0 ⟨rfl, rfl⟩; try simp only [List.nil_append, List.cons_append, List.set_cons_zero, List.set_cons_succ, List.length_cons, List.length_nil, Nat.reduceAdd, AV.sh, AV.sh1, AV.sh0, AO.sh, List.map_cons, List.map_nil, Nat.zero_add, Nat.add_zero, setAll])
  | (apply w_callm (t2); (focus ((repeat (first | exact im_nil | refine im_cons rfl (im_agg2 (.ints _) (.intss _)) ?_ | refine im_cons rfl (im_agg2 (.sli rfl) (.sls rfl)) ?_ | refine im_cons rfl (.val _) ?_ | refine im_cons rfl (.ints _) ?_ | refine im_cons rfl (.intss _) ?_ | refine im_cons rfl (.sli rfl) ?_ | refine im_cons rfl (.sls rfl) ?_ | refine im_cons rfl (.orow rfl) ?_ | refine im_cons rfl (.osub rfl (by simp; omega)) ?_ | refine im_cons rfl (.nil) ?_ | refine im_cons rfl (.nils) ?_ | refine im_cons rfl (im_agg2 (.val _) (.ints _)) ?_ | refine im_cons rfl (im_agg2 (.val _) (.sli rfl)) ?_ | refine im_cons rfl (im_agg2 (.val _) (.nil)) ?_ | refine im_cons rfl (im_agg2 (.ints _) (.intss _)) ?_ | refine im_cons rfl (im_agg2 (.ints _) (.sls rfl)) ?_ | refine im_cons rfl (im_agg2 (.sli rfl) (.intss _)) ?_ | refine im_cons rfl (im_agg2 (.sli rfl) (.sls rfl)) ?_ | refine im_cons rfl (im_agg1 (.ints _)) ?_ | refine im_cons rfl (im_agg1 (.sli rfl)) ?_ | refine im_cons rfl (im_agg1 (.intss _)) ?_ | refine im_cons rfl (im_agg1 (.sls rfl)) ?_ | refine im_cons rfl (im_agg1 (.nil)) ?_ | refine im_cons rfl (im_agg1 (.nils)) ?_)); done)); rintro r os0 ⟨rfl, rfl⟩; try simp only [List.nil_append, List.cons_append, List.set_cons_zero, List.set_cons_succ, List.length_cons, List.length_nil, Nat.reduceAdd, AV.sh, AV.sh1, AV.sh0, AO.sh, List.map_cons, List.map_nil, Nat.zero_add, Nat.add_zero, setAll])
  | omega
  | ((first | apply w_lss | apply w_leq | apply w_gtr | apply w_geq | apply w_eql | apply w_neq | apply w_add | apply w_sub | apply w_mul | apply w_idx | apply w_ld | apply w_fld | apply w_fa | apply w_extv | apply w_min | apply w_max | apply w_slhi | apply w_sllo | apply w_bs2); iterate 3 exact rfl)
  | ((first | apply w_eqlb | apply w_neqb | apply w_idxs | apply w_lds | apply w_ext); iterate 3 exact rfl)
  | (apply w_rem; exact rfl; exact rfl; exact rfl; (focus (omega; done)); (focus (omega; done)))
  | (apply w_quo; exact rfl; exact rfl; exact rfl; (focus (omega; done)); (focus (omega; done)))
  | (apply w_remT; exact rfl; exact rfl; exact rfl)
  | (apply w_quoT; exact rfl; exact rfl; exact rfl)
  | ((first | apply w_not | apply w_neg | apply w_conv | apply w_build0 | apply w_bs1 | apply w_boxa); iterate 2 exact rfl)
  | (apply w_idxo; exact rfl; exact rfl; (first | exact .sli rfl | exact .sls rfl | exact .slr rfl); exact rfl)
  | ((first | apply w_idxr | apply w_ldr); iterate 4 exact rfl)
  | (apply w_ldo; iterate 4 exact rfl)
  | (apply w_ldls; iterate 4 exact rfl)
  | (apply w_ldrp; iterate 4 exact rfl)
  | (apply w_ldb; iterate 5 exact rfl)
  | (apply w_ldst; iterate 5 exact rfl)
  | ((first | apply w_sllh | apply w_stbi); iterate 4 exact rfl)
  | ((first | apply w_oslo | apply w_oshi | apply w_stbii); iterate 4 exact rfl)
  | (apply w_build1; exact rfl; exact rfl; (first | exact one_val rfl rfl | exact one_ints | exact one_intss | exact one_own rfl True.intro))
  | (apply w_build2; exact rfl; exact rfl; exact rfl; (first | exact one_val rfl rfl | exact one_ints | exact one_intss | exact one_own rfl True.intro); (first | exact one_val rfl rfl | exact one_ints | exact one_intss | exact one_own rfl True.intro))
  | (apply w_bs0; iterate 1 exact rfl)
  | (apply w_appn; exact rfl; exact rfl; (first | exact .ints _ | exact .sli rfl | exact .orow rfl | exact .nil | exact .osub rfl (by simp; omega)); exact rfl)
  | (apply w_app; exact rfl; exact rfl; exact rfl; exact rfl; (first | exact .ints _ | exact .sli rfl | exact .orow rfl | exact .nil | exact .osub rfl (by simp; omega)); rotate_left 1; simp only [Env.mp, List.map_cons, List.map_nil, List.set_cons_zero, List.set_cons_succ, AV.kill, AV.kill1, AO.kill, AV.noRow, AV.noRow1, AO.via, reduceIte, Nat.reduceEqDiff, Nat.reduceLT, Env.up, Nat.zero_ne_one, Nat.one_ne_zero, Nat.reduceAdd, List.cons_append, List.nil_append]; rotate_left 1)
  | (apply w_alst; iterate 2 exact rfl)
  | (apply w_alone; iterate 3 exact rfl)
  | (apply w_mki; exact rfl; exact rfl; rotate_left 3; exact rfl; rotate_left 1)
  | (apply w_mkr; exact rfl; exact rfl; rotate_left 3; exact rfl; rotate_left 1)
  | (apply w_sti; exact rfl; exact rfl; rotate_left 1; exact rfl; rotate_left 2)
  | (apply w_stst; iterate 5 exact rfl)
  | (apply w_stbv; iterate 6 exact rfl)
  | (apply w_stbo; exact rfl; exact rfl; exact rfl; exact rfl; exact rfl; exact True.intro)
  | ((apply AOps.splitB; exact rfl; exact rfl) <;> intro h)
  | apply AllOf.nil
  | (apply AllOf.cons; exact rfl)
  | (apply AAny.take; exact rfl; exact rfl; kernel_rfl; kernel_rfl)
  | (apply AAny.all; exact rfl)
  | (apply AAny.done; exact rfl)
  | (apply inI_of <;> omega)
  | omega
  | (simp <;> omega))
  exact ⟨_, _, _, .c1 Try.results9 rfl rfl rfl, .oo rfl rfl trivial trivial (by decide), rfl, rfl⟩
theorem eqGraph_t (W : List Int) (E : List (List Int)) : AFnV Try.prog 11 [.agg [.ints W, .intss E], .agg [.ints W, .intss E]] (.bool true) := by
  have e1 := eqInt64S_c W W
  have e2 := eqInt64SS_t E
  rw [decide_eq_true rfl] at e1
  (refine AFnV.start Try.func11 Try.ntmps11 rfl (by kernel_rfl) fun hk => ?_; simp only [Env.start, enumF, List.length_cons, List.length_nil, Nat.reduceAdd, Nat.reduceSub, List.cons_append, List.nil_append])
  repeat' (first
  | (apply AOps.nil; try simp only [List.nil_append, List.cons_append, List.set_cons_zero, List.set_cons_succ, List.length_cons, List.length_nil, Nat.reduceAdd, AV.sh, AV.sh1, AV.sh0, AO.sh, List.map_cons, List.map_nil, Nat.zero_add, Nat.add_zero, setAll])
  | ((apply AOps.splitP; exact rfl; exact rfl) <;> intro h)
  | ((apply AOps.splitN; exact rfl; exact rfl) <;> intro h)
  | (apply w_move; exact rfl; exact rfl)
  | (apply w_assign; exact rfl; exact rfl)
  | apply AWp.seq
  | apply AWp.region
  | ((apply AWp.condP; exact rfl) <;> intro h)
  | ((apply AWp.condN; exact rfl) <;> intro h)
  | (apply AWp.condT; exact rfl)
  | (apply AWp.condF; exact rfl)
  | ((apply AWp.condB; exact rfl) <;> intro h)
  | apply AWp.block
  | apply AWp.ret
  | apply AWp.exit
  | apply AWp.skip
  | (apply if_pos'; exact rfl)
  | (apply if_neg'; decide)
  | (apply w_skip; exact rfl)
  | (apply w_pickT; exact rfl; exact rfl; exact rfl)
  | (apply w_pickF; exact rfl; exact rfl; exact rfl)
  | (apply w_len; exact rfl; exact rfl; first | exact .ints _ | exact .intss _ | exact .sli rfl | exact .sls rfl | exact .slr rfl | exact .orow rfl | exact .nil)
  | (apply w_call (e1); exact rfl; exact rfl; focus ((repeat (first | exact im_nil | refine im_cons rfl (im_agg2 (.ints _) (.intss _)) ?_ | refine im_cons rfl (im_agg2 (.sli rfl) (.sls rfl)) ?_ | refine im_cons rfl (.val _) ?_ | refine im_cons rfl (.ints _) ?_ | refine im_cons rfl (.intss _) ?_ | refine im_cons rfl (.sli rfl) ?_ | refine im_cons rfl (.sls rfl) ?_ | refine im_cons rfl (.orow rfl) ?_ | refine im_cons rfl (.osub rfl (by simp; omega)) ?_ | refine im_cons rfl (.nil) ?_ | refine im_cons rfl (.nils) ?_ | refine im_cons rfl (im_agg2 (.val _) (.ints _)) ?_ | refine im_cons rfl (im_agg2 (.val _) (.sli rfl)) ?_ | refine im_cons rfl (im_agg2 (.val _) (.nil)) ?_ | refine im_cons rfl (im_agg2 (.ints _) (.intss _)) ?_ | refine im_cons rfl (im_agg2 (.ints _) (.sls rfl)) ?_ | refine im_cons rfl (im_agg2 (.sli rfl) (.intss _)) ?_ | refine im_cons rfl (im_agg2 (.sli rfl) (.sls rfl)) ?_ | refine im_cons rfl (im_agg1 (.ints _)) ?_ | refine im_cons rfl (im_agg1 (.sli rfl)) ?_ | refine im_cons rfl (im_agg1 (.intss _)) ?_ | refine im_cons rfl (im_agg1 (.sls rfl)) ?_ | refine im_cons rfl (im_agg1 (.nil)) ?_ | refine im_cons rfl (im_agg1 (.nils)) ?_)); done))
  | (apply w_call (e2); exact rfl; exact rfl; focus ((repeat (first | exact im_nil | refine im_cons rfl (im_agg2 (.ints _) (.intss _)) ?_ | refine im_cons rfl (im_agg2 (.sli rfl) (.sls rfl)) ?_ | refine im_cons rfl (.val _) ?_ | refine im_cons rfl (.ints _) ?_ | refine im_cons rfl (.intss _) ?_ | refine im_cons rfl (.sli rfl) ?_ | refine im_cons rfl (.sls rfl) ?_ | refine im_cons rfl (.orow rfl) ?_ | refine im_cons rfl (.osub rfl (by simp; omega)) ?_ | refine im_cons rfl (.nil) ?_ | refine im_cons rfl (.nils) ?_ | refine im_cons rfl (im_agg2 (.val _) (.ints _)) ?_ | refine im_cons rfl (im_agg2 (.val _) (.sli rfl)) ?_ | refine im_cons rfl (im_agg2 (.val _) (.nil)) ?_ | refine im_cons rfl (im_agg2 (.ints _) (.intss _)) ?_ | refine im_cons rfl (im_agg2 (.ints _) (.sls rfl)) ?_ | refine im_cons rfl (im_agg2 (.sli rfl) (.intss _)) ?_ | refine im_cons rfl (im_agg2 (.sli rfl) (.sls rfl)) ?_ | refine im_cons rfl (im_agg1 (.ints _)) ?_ | refine im_cons rfl (im_agg1 (.sli rfl)) ?_ | refine im_cons rfl (im_agg1 (.intss _)) ?_ | refine im_cons rfl (im_agg1 (.sls rfl)) ?_ | refine im_cons rfl (im_agg1 (.nil)) ?_ | refine im_cons rfl (im_agg1 (.nils)) ?_)); done))
  | omega
  | ((first | apply w_lss | apply w_leq | apply w_gtr | apply w_geq | apply w_eql | apply w_neq | apply w_add | apply w_sub | apply w_mul | apply w_idx | apply w_ld | apply w_fld | apply w_fa | apply w_extv | apply w_min | apply w_max | apply w_slhi | apply w_sllo | apply w_bs2); iterate 3 exact rfl)
  | ((first | apply w_eqlb | apply w_neqb | apply w_idxs | apply w_lds | apply w_ext); iterate 3 exact rfl)
  | (apply w_rem; exact rfl; exact rfl; exact rfl; (focus (omega; done)); (focus (omega; done)))
  | (apply w_quo; exact rfl; exact rfl; exact rfl; (focus (omega; done)); (focus (omega; done)))
  | (apply w_remT; exact rfl; exact rfl; exact rfl)
  | (apply w_quoT; exact rfl; exact rfl; exact rfl)
  | ((first | apply w_not | apply w_neg | apply w_conv | apply w_build0 | apply w_bs1 | apply w_boxa); iterate 2 exact rfl)
  | (apply w_idxo; exact rfl; exact rfl; (first | exact .sli rfl | exact .sls rfl | exact .slr rfl); exact rfl)
  | ((first | apply w_idxr | apply w_ldr); iterate 4 exact rfl)
  | (apply w_ldo; iterate 4 exact rfl)
  | (apply w_ldls; iterate 4 exact rfl)
  | (apply w_ldrp; iterate 4 exact rfl)
  | (apply w_ldb; iterate 5 exact rfl)
  | (apply w_ldst; iterate 5 exact rfl)
  | ((first | apply w_sllh | apply w_stbi); iterate 4 exact rfl)
  | ((first | apply w_oslo | apply w_oshi | apply w_stbii); iterate 4 exact rfl)
  | (apply w_build1; exact rfl; exact rfl; (first | exact one_val rfl rfl | exact one_ints | exact one_intss | exact one_own rfl True.intro))
  | (apply w_build2; exact rfl; exact rfl; exact rfl; (first | exact one_val rfl rfl | exact one_ints | exact one_intss | exact one_own rfl True.intro); (first | exact one_val rfl rfl | exact one_ints | exact one_intss | exact one_own rfl True.intro))
  | (apply w_bs0; iterate 1 exact rfl)
  | (apply w_appn; exact rfl; exact rfl; (first | exact .ints _ | exact .sli rfl | exact .orow rfl | exact .nil | exact .osub rfl (by simp; omega)); exact rfl)
  | (apply w_app; exact rfl; exact rfl; exact rfl; exact rfl; (first | exact .ints _ | exact .sli rfl | exact .orow rfl | exact .nil | exact .osub rfl (by simp; omega)); rotate_left 1; simp only [Env.mp, List.map_cons, List.map_nil, List.set_cons_zero, List.set_cons_succ, AV.kill, AV.kill1, AO.kill, AV.noRow, AV.noRow1, AO.via, reduceIte, Nat.reduceEqDiff, Nat.reduceLT, Env.up, Nat.zero_ne_one, Nat.one_ne_zero, Nat.reduceAdd, List.cons_append, List.nil_append]; rotate_left 1)
  | (apply w_alst; iterate 2 exact rfl)
  | (apply w_alone; iterate 3 exact rfl)
  | (apply w_mki; exact rfl; exact rfl; rotate_left 3; exact rfl; rotate_left 1)
  | (apply w_mkr; exact rfl; exact rfl; rotate_left 3; exact rfl; rotate_left 1)
  | (apply w_sti; exact rfl; exact rfl; rotate_left 1; exact rfl; rotate_left 2)
  | (apply w_stst; iterate 5 exact rfl)
  | (apply w_stbv; iterate 6 exact rfl)
  | (apply w_stbo; exact rfl; exact rfl; exact rfl; exact rfl; exact rfl; exact True.intro)
  | ((apply AOps.splitB; exact rfl; exact rfl) <;> intro h)
  | apply AllOf.nil
  | (apply AllOf.cons; exact rfl)
  | (apply AAny.take; exact rfl; exact rfl; kernel_rfl; kernel_rfl)
  | (apply AAny.all; exact rfl)
  | (apply AAny.done; exact rfl)
  | (apply inI_of <;> omega)
  | omega
  | (simp <;> omega))
  all_goals exact .bool Try.results11 rfl rfl
end Go.Proofs.Ytbalbiliejjnoaa
/-
  The law of negative definite graphs. No condition.
-/
namespace Go.Proofs.Ytbalbiliejjnoaa
open Go Go.RowKit
attribute [local irreducible] AWp AOps ResIs Ret1 QOp LOp COp AFnV AFn Imms LeE LeO
set_option maxHeartbeats 1000000
set_option linter.unusedSimpArgs false
set_option linter.unusedVariables false

theorem szGr_ok {W : List Int} {E : List (List Int)} (h : ¬ szGr W E 1048576 < 0) : W.length ≤ 1048576 ∧ E.length ≤ 1048576 ∧ ∀ xs ∈ E, xs.length ≤ 1048576 := by
  unfold szGr at h
  by_cases c1 : szI W 1048576 < 0
  · rw [if_pos c1] at h; omega
  · rw [if_neg c1] at h
    by_cases c2 : szSS E (szI W 1048576) < 0
    · rw [if_pos c2] at h; omega
    · have hs : szI W 1048576 = 1048576 - W.length := by unfold szI at c1 ⊢; split at c1 <;> simp_all <;> omega
      obtain ⟨h1, h2⟩ := szSS_ok (xss := E) (left := szI W 1048576) (by omega) (by omega)
      exact ⟨by omega, by omega, fun xs hx => by have := h2 xs hx; omega⟩

end Go.Proofs.Ytbalbiliejjnoaa
/-
  The laws' helpers that write marks into a result and look for them. No condition but a bound on the sizes.
-/
namespace Go.Proofs.Ytbalbiliejjnoaa
open Go Go.RowKit
attribute [local irreducible] AWp AOps ResIs Ret1 QOp LOp COp AFnV AFn Imms LeE LeO
set_option maxHeartbeats 1000000
set_option linter.unusedSimpArgs false
set_option linter.unusedVariables false

/-- k, k + 1, .. -/
def iota (k : Int) (n : Nat) : List Int := (List.range n).map fun i => k + (i : Nat)
theorem iota_len (k : Int) (n : Nat) : (iota k n).length = n := by simp [iota]
theorem iota_get (k : Int) (n i : Nat) (h : i < n) : geti (iota k n) i = k + i := by simp [geti, iota, h]

theorem mark_step (k : Int) (xs : List Int) (i : Nat) (h : i < xs.length) : (iota k i ++ xs.drop i).set i (k + i) = iota k (i + 1) ++ xs.drop (i + 1) := by
  rw [List.set_append_right _ _ (by rw [iota_len]; exact Nat.le_refl _), iota_len, Nat.sub_self, List.drop_eq_getElem_cons h, List.set_cons_zero]
  simp [iota, List.range_succ]

theorem markInt64S_c (T : TypeId) (xs : List Int) (k : Int) (hq : 0 ≤ k ∧ k ≤ 9007199254740992) (hl : xs.length ≤ 9007199254740992) : AFnU Try.prog 16 [.own 0, .i k] [.sli T xs] (fun v os => v = .int .i64 (k + xs.length) ∧ os = [.sli T (iota k xs.length)]) := by
  (refine AFnU.start Try.func16 Try.ntmps16 rfl (by kernel_rfl) fun K => ?_; simp only [Env.start, enumF, List.length_cons, List.length_nil, Nat.reduceAdd, Nat.reduceSub, List.cons_append, List.nil_append])
  repeat' (first
  | (apply AOps.nil; try simp only [List.nil_append, List.cons_append, List.set_cons_zero, List.set_cons_succ, List.length_cons, List.length_nil, Nat.reduceAdd, AV.sh, AV.sh1, AV.sh0, AO.sh, List.map_cons, List.map_nil, Nat.zero_add, Nat.add_zero, setAll])
  | ((apply AOps.splitP; exact rfl; exact rfl) <;> intro h)
  | ((apply AOps.splitN; exact rfl; exact rfl) <;> intro h)
  | (apply w_move; exact rfl; exact rfl)
  | (apply w_assign; exact rfl; exact rfl)
  | apply AWp.seq
  | apply AWp.region
  | ((apply AWp.condP; exact rfl) <;> intro h)
  | ((apply AWp.condN; exact rfl) <;> intro h)
  | (apply AWp.condT; exact rfl)
  | (apply AWp.condF; exact rfl)
  | ((apply AWp.condB; exact rfl) <;> intro h)
  | apply AWp.block
  | apply AWp.ret
  | apply AWp.exit
  | apply AWp.skip
  | (apply AWp.regionQ; kernel_rfl; kernel_rfl)
  | (apply if_pos'; exact rfl)
  | (apply if_neg'; decide)
  | (apply w_skip; exact rfl)
  | (apply w_pickT; exact rfl; exact rfl; exact rfl)
  | (apply w_pickF; exact rfl; exact rfl; exact rfl)
  | (apply w_len; exact rfl; exact rfl; first | exact .ints _ | exact .intss _ | exact .sli rfl | exact .sls rfl | exact .slr rfl | exact .orow rfl | exact .nil)
  | ((first | apply w_lss | apply w_leq | apply w_gtr | apply w_geq | apply w_eql | apply w_neq | apply w_add | apply w_sub | apply w_mul | apply w_idx | apply w_ld | apply w_fld | apply w_fa | apply w_extv | apply w_min | apply w_max | apply w_slhi | apply w_sllo | apply w_bs2); iterate 3 exact rfl)
  | ((first | apply w_eqlb | apply w_neqb | apply w_idxs | apply w_lds | apply w_ext); iterate 3 exact rfl)
  | (apply w_rem; exact rfl; exact rfl; exact rfl; (focus (omega; done)); (focus (omega; done)))
  | (apply w_quo; exact rfl; exact rfl; exact rfl; (focus (omega; done)); (focus (omega; done)))
  | (apply w_remT; exact rfl; exact rfl; exact rfl)
  | (apply w_quoT; exact rfl; exact rfl; exact rfl)
  | ((first | apply w_not | apply w_neg | apply w_conv | apply w_build0 | apply w_bs1 | apply w_boxa); iterate 2 exact rfl)
  | (apply w_idxo; exact rfl; exact rfl; (first | exact .sli rfl | exact .sls rfl | exact .slr rfl); exact rfl)
  | ((first | apply w_idxr | apply w_ldr); iterate 4 exact rfl)
  | (apply w_ldo; iterate 4 exact rfl)
  | (apply w_ldls; iterate 4 exact rfl)
  | (apply w_ldrp; iterate 4 exact rfl)
  | (apply w_ldb; iterate 5 exact rfl)
  | (apply w_ldst; iterate 5 exact rfl)
  | ((first | apply w_sllh | apply w_stbi); iterate 4 exact rfl)
  | ((first | apply w_oslo | apply w_oshi | apply w_stbii); iterate 4 exact rfl)
  | (apply w_copy; exact rfl; (first | exact .own rfl rfl rfl | exact .osub); exact rfl; rotate_left 1; exact rfl; (first | exact .ints _ | exact .sli rfl | exact .orow rfl | exact .nil | exact .osub rfl (by simp; omega)))
  | (apply w_build1; exact rfl; exact rfl; (first | exact one_val rfl rfl | exact one_ints | exact one_intss | exact one_own rfl True.intro))
  | (apply w_build2; exact rfl; exact rfl; exact rfl; (first | exact one_val rfl rfl | exact one_ints | exact one_intss | exact one_own rfl True.intro); (first | exact one_val rfl rfl | exact one_ints | exact one_intss | exact one_own rfl True.intro))
  | (apply w_bs0; iterate 1 exact rfl)
  | (apply w_appn; exact rfl; exact rfl; (first | exact .ints _ | exact .sli rfl | exact .orow rfl | exact .nil | exact .osub rfl (by simp; omega)); exact rfl)
  | (apply w_app; exact rfl; exact rfl; exact rfl; exact rfl; (first | exact .ints _ | exact .sli rfl | exact .orow rfl | exact .nil | exact .osub rfl (by simp; omega)); rotate_left 1; simp only [Env.mp, List.map_cons, List.map_nil, List.set_cons_zero, List.set_cons_succ, AV.kill, AV.kill1, AO.kill, AV.noRow, AV.noRow1, AO.via, reduceIte, Nat.reduceEqDiff, Nat.reduceLT, Env.up, Nat.zero_ne_one, Nat.one_ne_zero, Nat.reduceAdd, List.cons_append, List.nil_append]; rotate_left 1)
  | (apply w_alst; iterate 2 exact rfl)
  | (apply w_alone; iterate 3 exact rfl)
  | (apply w_mki; exact rfl; exact rfl; rotate_left 3; exact rfl; rotate_left 1)
  | (apply w_mkr; exact rfl; exact rfl; rotate_left 3; exact rfl; rotate_left 1)
  | (apply w_strow; exact rfl; exact rfl; rotate_left 1; exact rfl; exact rfl; exact rfl; exact rfl; simp only [Env.mp, List.map_cons, List.map_nil, List.set_cons_zero, List.set_cons_succ, AV.kill, AV.kill1, AO.kill, AV.noRow, AV.noRow1, AO.via, reduceIte, Nat.reduceEqDiff, Nat.reduceLT, Env.up, Nat.zero_ne_one, Nat.one_ne_zero, Nat.reduceAdd, List.cons_append, List.nil_append]; rotate_left 1)
  | (apply w_sti; exact rfl; exact rfl; rotate_left 1; exact rfl; rotate_left 2)
  | (apply w_stst; iterate 5 exact rfl)
  | (apply w_stbv; iterate 6 exact rfl)
  | (apply w_stbo; exact rfl; exact rfl; exact rfl; exact rfl; exact rfl; exact True.intro)
  | ((apply AOps.splitB; exact rfl; exact rfl) <;> intro h)
  | apply AllOf.nil
  | (apply AllOf.cons; exact rfl)
  | (apply AAny.take; exact rfl; exact rfl; kernel_rfl; kernel_rfl)
  | (apply AAny.all; exact rfl)
  | (apply AAny.done; exact rfl)
  | (apply inI_of <;> omega)
  | omega
  | (simp <;> omega))
  refine AWp.loop (ι := Nat) (fun i => ⟨19, [(0, .own 0), (1, .i (k + i)), (5, .i i)]⟩) (fun i => [.sli T (iota k i ++ xs.drop i), .keep 2 K]) (fun i => i ≤ xs.length) (fun i => xs.length - i) 0 (by omega) ⟨lee rfl (le_eq rfl rfl (le_eq rfl (congrArg AV.i (by omega)) (le_eq rfl rfl le_nil))), lo_eq (by simp [iota]) (lo_eq rfl lo_nil), rfl, rfl⟩ ?_
  rintro i h0
  have e1 : (iota k i ++ xs.drop i).length = xs.length := by simp [iota_len]; omega
  repeat' (first
  | (apply AOps.nil; try simp only [List.nil_append, List.cons_append, List.set_cons_zero, List.set_cons_succ, List.length_cons, List.length_nil, Nat.reduceAdd, AV.sh, AV.sh1, AV.sh0, AO.sh, List.map_cons, List.map_nil, Nat.zero_add, Nat.add_zero, setAll])
  | ((apply AOps.splitP; exact rfl; exact rfl) <;> intro h)
  | ((apply AOps.splitN; exact rfl; exact rfl) <;> intro h)
  | (apply w_move; exact rfl; exact rfl)
  | (apply w_assign; exact rfl; exact rfl)
  | apply AWp.seq
  | apply AWp.region
  | ((apply AWp.condP; exact rfl) <;> intro h)
  | ((apply AWp.condN; exact rfl) <;> intro h)
  | (apply AWp.condT; exact rfl)
  | (apply AWp.condF; exact rfl)
  | ((apply AWp.condB; exact rfl) <;> intro h)
  | apply AWp.block
  | apply AWp.ret
  | apply AWp.exit
  | apply AWp.skip
  | (apply AWp.regionQ; kernel_rfl; kernel_rfl)
  | (apply if_pos'; exact rfl)
  | (apply if_neg'; decide)
  | (apply w_skip; exact rfl)
  | (apply w_pickT; exact rfl; exact rfl; exact rfl)
  | (apply w_pickF; exact rfl; exact rfl; exact rfl)
  | (apply w_len; exact rfl; exact rfl; first | exact .ints _ | exact .intss _ | exact .sli rfl | exact .sls rfl | exact .slr rfl | exact .orow rfl | exact .nil)
  | ((first | apply w_lss | apply w_leq | apply w_gtr | apply w_geq | apply w_eql | apply w_neq | apply w_add | apply w_sub | apply w_mul | apply w_idx | apply w_ld | apply w_fld | apply w_fa | apply w_extv | apply w_min | apply w_max | apply w_slhi | apply w_sllo | apply w_bs2); iterate 3 exact rfl)
  | ((first | apply w_eqlb | apply w_neqb | apply w_idxs | apply w_lds | apply w_ext); iterate 3 exact rfl)
  | (apply w_rem; exact rfl; exact rfl; exact rfl; (focus (omega; done)); (focus (omega; done)))
  | (apply w_quo; exact rfl; exact rfl; exact rfl; (focus (omega; done)); (focus (omega; done)))
  | (apply w_remT; exact rfl; exact rfl; exact rfl)
  | (apply w_quoT; exact rfl; exact rfl; exact rfl)
  | ((first | apply w_not | apply w_neg | apply w_conv | apply w_build0 | apply w_bs1 | apply w_boxa); iterate 2 exact rfl)
  | (apply w_idxo; exact rfl; exact rfl; (first | exact .sli rfl | exact .sls rfl | exact .slr rfl); exact rfl)
  | ((first | apply w_idxr | apply w_ldr); iterate 4 exact rfl)
  | (apply w_ldo; iterate 4 exact rfl)
  | (apply w_ldls; iterate 4 exact rfl)
  | (apply w_ldrp; iterate 4 exact rfl)
  | (apply w_ldb; iterate 5 exact rfl)
  | (apply w_ldst; iterate 5 exact rfl)
  | ((first | apply w_sllh | apply w_stbi); iterate 4 exact rfl)
  | ((first | apply w_oslo | apply w_oshi | apply w_stbii); iterate 4 exact rfl)
  | (apply w_copy; exact rfl; (first | exact .own rfl rfl rfl | exact .osub); exact rfl; rotate_left 1; exact rfl; (first | exact .ints _ | exact .sli rfl | exact .orow rfl | exact .nil | exact .osub rfl (by simp; omega)))
  | (apply w_build1; exact rfl; exact rfl; (first | exact one_val rfl rfl | exact one_ints | exact one_intss | exact one_own rfl True.intro))
  | (apply w_build2; exact rfl; exact rfl; exact rfl; (first | exact one_val rfl rfl | exact one_ints | exact one_intss | exact one_own rfl True.intro); (first | exact one_val rfl rfl | exact one_ints | exact one_intss | exact one_own rfl True.intro))
  | (apply w_bs0; iterate 1 exact rfl)
  | (apply w_appn; exact rfl; exact rfl; (first | exact .ints _ | exact .sli rfl | exact .orow rfl | exact .nil | exact .osub rfl (by simp; omega)); exact rfl)
  | (apply w_app; exact rfl; exact rfl; exact rfl; exact rfl; (first | exact .ints _ | exact .sli rfl | exact .orow rfl | exact .nil | exact .osub rfl (by simp; omega)); rotate_left 1; simp only [Env.mp, List.map_cons, List.map_nil, List.set_cons_zero, List.set_cons_succ, AV.kill, AV.kill1, AO.kill, AV.noRow, AV.noRow1, AO.via, reduceIte, Nat.reduceEqDiff, Nat.reduceLT, Env.up, Nat.zero_ne_one, Nat.one_ne_zero, Nat.reduceAdd, List.cons_append, List.nil_append]; rotate_left 1)
  | (apply w_alst; iterate 2 exact rfl)
  | (apply w_alone; iterate 3 exact rfl)
  | (apply w_mki; exact rfl; exact rfl; rotate_left 3; exact rfl; rotate_left 1)
  | (apply w_mkr; exact rfl; exact rfl; rotate_left 3; exact rfl; rotate_left 1)
  | (apply w_strow; exact rfl; exact rfl; rotate_left 1; exact rfl; exact rfl; exact rfl; exact rfl; simp only [Env.mp, List.map_cons, List.map_nil, List.set_cons_zero, List.set_cons_succ, AV.kill, AV.kill1, AO.kill, AV.noRow, AV.noRow1, AO.via, reduceIte, Nat.reduceEqDiff, Nat.reduceLT, Env.up, Nat.zero_ne_one, Nat.one_ne_zero, Nat.reduceAdd, List.cons_append, List.nil_append]; rotate_left 1)
  | (apply w_sti; exact rfl; exact rfl; rotate_left 1; exact rfl; rotate_left 2)
  | (apply w_stst; iterate 5 exact rfl)
  | (apply w_stbv; iterate 6 exact rfl)
  | (apply w_stbo; exact rfl; exact rfl; exact rfl; exact rfl; exact rfl; exact True.intro)
  | ((apply AOps.splitB; exact rfl; exact rfl) <;> intro h)
  | apply AllOf.nil
  | (apply AllOf.cons; exact rfl)
  | (apply AAny.take; exact rfl; exact rfl; kernel_rfl; kernel_rfl)
  | (apply AAny.all; exact rfl)
  | (apply AAny.done; exact rfl)
  | (apply inI_of <;> omega)
  | omega
  | (simp <;> omega))
  · have e2 : (iota k i ++ xs.drop i).set ((i : Int)).toNat (k + i) = iota k (i + 1) ++ xs.drop (i + 1) := mark_step k xs i (by omega)
    exact ⟨i + 1, by omega, by omega, ⟨lee rfl (by (repeat (first | exact le_nil | refine le_eq rfl rfl ?_ | refine le_eq rfl (congrArg AV.i (by omega)) ?_ | refine le_eq rfl (congrArg AV.i (e2)) ?_))), by (repeat (first | exact lo_nil | refine lo_dead ?_ | refine lo_eq rfl ?_ | refine lo_eq (congrArg (AO.sli _) (e2)) ?_ | refine lo_eq (congrArg (AO.sls _ _) (e2)) ?_)), rfl, rfl⟩⟩
  · have e : i = xs.length := by omega
    subst e
    exact ⟨_, _, .int Try.results16 rfl rfl, ⟨rfl, rfl⟩, by simp, rfl, by simp [AO.plain]⟩

theorem heldInt64S_c (n : Nat) (k : Int) (hq : 0 ≤ k ∧ k ≤ 9007199254740992) (hl : n ≤ 9007199254740992) : AFnV Try.prog 17 [.ints (iota k n), .i k] (.int .i64 (k + n)) := by
  (refine AFnV.start Try.func17 Try.ntmps17 rfl (by kernel_rfl) fun hk => ?_; simp only [Env.start, enumF, List.length_cons, List.length_nil, Nat.reduceAdd, Nat.reduceSub, List.cons_append, List.nil_append])
  repeat' (first
  | (apply AOps.nil; try simp only [List.nil_append, List.cons_append, List.set_cons_zero, List.set_cons_succ, List.length_cons, List.length_nil, Nat.reduceAdd, AV.sh, AV.sh1, AV.sh0, AO.sh, List.map_cons, List.map_nil, Nat.zero_add, Nat.add_zero, setAll])
  | ((apply AOps.splitP; exact rfl; exact rfl) <;> intro h)
  | ((apply AOps.splitN; exact rfl; exact rfl) <;> intro h)
  | (apply w_move; exact rfl; exact rfl)
  | (apply w_assign; exact rfl; exact rfl)
  | apply AWp.seq
  | apply AWp.region
  | ((apply AWp.condP; exact rfl) <;> intro h)
  | ((apply AWp.condN; exact rfl) <;> intro h)
  | (apply AWp.condT; exact rfl)
  | (apply AWp.condF; exact rfl)
  | ((apply AWp.condB; exact rfl) <;> intro h)
  | apply AWp.block
  | apply AWp.ret
  | apply AWp.exit
  | apply AWp.skip
  | (apply AWp.regionQ; kernel_rfl; kernel_rfl)
  | (apply if_pos'; exact rfl)
  | (apply if_neg'; decide)
  | (apply w_skip; exact rfl)
  | (apply w_pickT; exact rfl; exact rfl; exact rfl)
  | (apply w_pickF; exact rfl; exact rfl; exact rfl)
  | (apply w_len; exact rfl; exact rfl; first | exact .ints _ | exact .intss _ | exact .sli rfl | exact .sls rfl | exact .slr rfl | exact .orow rfl | exact .nil)
  | ((first | apply w_lss | apply w_leq | apply w_gtr | apply w_geq | apply w_eql | apply w_neq | apply w_add | apply w_sub | apply w_mul | apply w_idx | apply w_ld | apply w_fld | apply w_fa | apply w_extv | apply w_min | apply w_max | apply w_slhi | apply w_sllo | apply w_bs2); iterate 3 exact rfl)
  | ((first | apply w_eqlb | apply w_neqb | apply w_idxs | apply w_lds | apply w_ext); iterate 3 exact rfl)
  | (apply w_rem; exact rfl; exact rfl; exact rfl; (focus (omega; done)); (focus (omega; done)))
  | (apply w_quo; exact rfl; exact rfl; exact rfl; (focus (omega; done)); (focus (omega; done)))
  | (apply w_remT; exact rfl; exact rfl; exact rfl)
  | (apply w_quoT; exact rfl; exact rfl; exact rfl)
  | ((first | apply w_not | apply w_neg | apply w_conv | apply w_build0 | apply w_bs1 | apply w_boxa); iterate 2 exact rfl)
  | (apply w_idxo; exact rfl; exact rfl; (first | exact .sli rfl | exact .sls rfl | exact .slr rfl); exact rfl)
  | ((first | apply w_idxr | apply w_ldr); iterate 4 exact rfl)
  | (apply w_ldo; iterate 4 exact rfl)
  | (apply w_ldls; iterate 4 exact rfl)
  | (apply w_ldrp; iterate 4 exact rfl)
  | (apply w_ldb; iterate 5 exact rfl)
  | (apply w_ldst; iterate 5 exact rfl)
  | ((first | apply w_sllh | apply w_stbi); iterate 4 exact rfl)
  | ((first | apply w_oslo | apply w_oshi | apply w_stbii); iterate 4 exact rfl)
  | (apply w_copy; exact rfl; (first | exact .own rfl rfl rfl | exact .osub); exact rfl; rotate_left 1; exact rfl; (first | exact .ints _ | exact .sli rfl | exact .orow rfl | exact .nil | exact .osub rfl (by simp; omega)))
  | (apply w_build1; exact rfl; exact rfl; (first | exact one_val rfl rfl | exact one_ints | exact one_intss | exact one_own rfl True.intro))
  | (apply w_build2; exact rfl; exact rfl; exact rfl; (first | exact one_val rfl rfl | exact one_ints | exact one_intss | exact one_own rfl True.intro); (first | exact one_val rfl rfl | exact one_ints | exact one_intss | exact one_own rfl True.intro))
  | (apply w_bs0; iterate 1 exact rfl)
  | (apply w_appn; exact rfl; exact rfl; (first | exact .ints _ | exact .sli rfl | exact .orow rfl | exact .nil | exact .osub rfl (by simp; omega)); exact rfl)
  | (apply w_app; exact rfl; exact rfl; exact rfl; exact rfl; (first | exact .ints _ | exact .sli rfl | exact .orow rfl | exact .nil | exact .osub rfl (by simp; omega)); rotate_left 1; simp only [Env.mp, List.map_cons, List.map_nil, List.set_cons_zero, List.set_cons_succ, AV.kill, AV.kill1, AO.kill, AV.noRow, AV.noRow1, AO.via, reduceIte, Nat.reduceEqDiff, Nat.reduceLT, Env.up, Nat.zero_ne_one, Nat.one_ne_zero, Nat.reduceAdd, List.cons_append, List.nil_append]; rotate_left 1)
  | (apply w_alst; iterate 2 exact rfl)
  | (apply w_alone; iterate 3 exact rfl)
  | (apply w_mki; exact rfl; exact rfl; rotate_left 3; exact rfl; rotate_left 1)
  | (apply w_mkr; exact rfl; exact rfl; rotate_left 3; exact rfl; rotate_left 1)
  | (apply w_strow; exact rfl; exact rfl; rotate_left 1; exact rfl; exact rfl; exact rfl; exact rfl; simp only [Env.mp, List.map_cons, List.map_nil, List.set_cons_zero, List.set_cons_succ, AV.kill, AV.kill1, AO.kill, AV.noRow, AV.noRow1, AO.via, reduceIte, Nat.reduceEqDiff, Nat.reduceLT, Env.up, Nat.zero_ne_one, Nat.one_ne_zero, Nat.reduceAdd, List.cons_append, List.nil_append]; rotate_left 1)
  | (apply w_sti; exact rfl; exact rfl; rotate_left 1; exact rfl; rotate_left 2)
  | (apply w_stst; iterate 5 exact rfl)
  | (apply w_stbv; iterate 6 exact rfl)
  | (apply w_stbo; exact rfl; exact rfl; exact rfl; exact rfl; exact rfl; exact True.intro)
  | ((apply AOps.splitB; exact rfl; exact rfl) <;> intro h)
  | apply AllOf.nil
  | (apply AllOf.cons; exact rfl)
  | (apply AAny.take; exact rfl; exact rfl; kernel_rfl; kernel_rfl)
  | (apply AAny.all; exact rfl)
  | (apply AAny.done; exact rfl)
  | (apply inI_of <;> omega)
  | omega
  | (simp <;> omega))
  refine AWp.loop (ι := Nat) (fun i => ⟨21, [(0, .ints (iota k n)), (1, .i (k + i)), (5, .i i)]⟩) (fun i => []) (fun i => i ≤ n) (fun i => n - i) 0 (by omega) ⟨lee rfl (by (repeat (first | exact le_nil | refine le_eq rfl rfl ?_ | refine le_eq rfl (congrArg AV.i (by omega)) ?_))), by (repeat (first | exact lo_nil | refine lo_dead ?_ | refine lo_eq rfl ?_)), rfl, rfl⟩ ?_
  rintro i h0
  have e1 := iota_len k n
  repeat' (first
  | (apply AOps.nil; try simp only [List.nil_append, List.cons_append, List.set_cons_zero, List.set_cons_succ, List.length_cons, List.length_nil, Nat.reduceAdd, AV.sh, AV.sh1, AV.sh0, AO.sh, List.map_cons, List.map_nil, Nat.zero_add, Nat.add_zero, setAll])
  | ((apply AOps.splitP; exact rfl; exact rfl) <;> intro h)
  | ((apply AOps.splitN; exact rfl; exact rfl) <;> intro h)
  | (apply w_move; exact rfl; exact rfl)
  | (apply w_assign; exact rfl; exact rfl)
  | apply AWp.seq
  | apply AWp.region
  | ((apply AWp.condP; exact rfl) <;> intro h)
  | ((apply AWp.condN; exact rfl) <;> intro h)
  | (apply AWp.condT; exact rfl)
  | (apply AWp.condF; exact rfl)
  | ((apply AWp.condB; exact rfl) <;> intro h)
  | apply AWp.block
  | apply AWp.ret
  | apply AWp.exit
  | apply AWp.skip
  | (apply AWp.regionQ; kernel_rfl; kernel_rfl)
  | (apply if_pos'; exact rfl)
  | (apply if_neg'; decide)
  | (apply w_skip; exact rfl)
  | (apply w_pickT; exact rfl; exact rfl; exact rfl)
  | (apply w_pickF; exact rfl; exact rfl; exact rfl)
  | (apply w_len; exact rfl; exact rfl; first | exact .ints _ | exact .intss _ | exact .sli rfl | exact .sls rfl | exact .slr rfl | exact .orow rfl | exact .nil)
  | ((first | apply w_lss | apply w_leq | apply w_gtr | apply w_geq | apply w_eql | apply w_neq | apply w_add | apply w_sub | apply w_mul | apply w_idx | apply w_ld | apply w_fld | apply w_fa | apply w_extv | apply w_min | apply w_max | apply w_slhi | apply w_sllo | apply w_bs2); iterate 3 exact rfl)
  | ((first | apply w_eqlb | apply w_neqb | apply w_idxs | apply w_lds | apply w_ext); iterate 3 exact rfl)
  | (apply w_rem; exact rfl; exact rfl; exact rfl; (focus (omega; done)); (focus (omega; done)))
  | (apply w_quo; exact rfl; exact rfl; exact rfl; (focus (omega; done)); (focus (omega; done)))
  | (apply w_remT; exact rfl; exact rfl; exact rfl)
  | (apply w_quoT; exact rfl; exact rfl; exact rfl)
  | ((first | apply w_not | apply w_neg | apply w_conv | apply w_build0 | apply w_bs1 | apply w_boxa); iterate 2 exact rfl)
  | (apply w_idxo; exact rfl; exact rfl; (first | exact .sli rfl | exact .sls rfl | exact .slr rfl); exact rfl)
  | ((first | apply w_idxr | apply w_ldr); iterate 4 exact rfl)
  | (apply w_ldo; iterate 4 exact rfl)
  | (apply w_ldls; iterate 4 exact rfl)
  | (apply w_ldrp; iterate 4 exact rfl)
  | (apply w_ldb; iterate 5 exact rfl)
  | (apply w_ldst; iterate 5 exact rfl)
  | ((first | apply w_sllh | apply w_stbi); iterate 4 exact rfl)
  | ((first | apply w_oslo | apply w_oshi | apply w_stbii); iterate 4 exact rfl)
  | (apply w_copy; exact rfl; (first | exact .own rfl rfl rfl | exact .osub); exact rfl; rotate_left 1; exact rfl; (first | exact .ints _ | exact .sli rfl | exact .orow rfl | exact .nil | exact .osub rfl (by simp; omega)))
  | (apply w_build1; exact rfl; exact rfl; (first | exact one_val rfl rfl | exact one_ints | exact one_intss | exact one_own rfl True.intro))
  | (apply w_build2; exact rfl; exact rfl; exact rfl; (first | exact one_val rfl rfl | exact one_ints | exact one_intss | exact one_own rfl True.intro); (first | exact one_val rfl rfl | exact one_ints | exact one_intss | exact one_own rfl True.intro))
  | (apply w_bs0; iterate 1 exact rfl)
  | (apply w_appn; exact rfl; exact rfl; (first | exact .ints _ | exact .sli rfl | exact .orow rfl | exact .nil | exact .osub rfl (by simp; omega)); exact rfl)
  | (apply w_app; exact rfl; exact rfl; exact rfl; exact rfl; (first | exact .ints _ | exact .sli rfl | exact .orow rfl | exact .nil | exact .osub rfl (by simp; omega)); rotate_left 1; simp only [Env.mp, List.map_cons, List.map_nil, List.set_cons_zero, List.set_cons_succ, AV.kill, AV.kill1, AO.kill, AV.noRow, AV.noRow1, AO.via, reduceIte, Nat.reduceEqDiff, Nat.reduceLT, Env.up, Nat.zero_ne_one, Nat.one_ne_zero, Nat.reduceAdd, List.cons_append, List.nil_append]; rotate_left 1)
  | (apply w_alst; iterate 2 exact rfl)
  | (apply w_alone; iterate 3 exact rfl)
  | (apply w_mki; exact rfl; exact rfl; rotate_left 3; exact rfl; rotate_left 1)
  | (apply w_mkr; exact rfl; exact rfl; rotate_left 3; exact rfl; rotate_left 1)
  | (apply w_strow; exact rfl; exact rfl; rotate_left 1; exact rfl; exact rfl; exact rfl; exact rfl; simp only [Env.mp, List.map_cons, List.map_nil, List.set_cons_zero, List.set_cons_succ, AV.kill, AV.kill1, AO.kill, AV.noRow, AV.noRow1, AO.via, reduceIte, Nat.reduceEqDiff, Nat.reduceLT, Env.up, Nat.zero_ne_one, Nat.one_ne_zero, Nat.reduceAdd, List.cons_append, List.nil_append]; rotate_left 1)
  | (apply w_sti; exact rfl; exact rfl; rotate_left 1; exact rfl; rotate_left 2)
  | (apply w_stst; iterate 5 exact rfl)
  | (apply w_stbv; iterate 6 exact rfl)
  | (apply w_stbo; exact rfl; exact rfl; exact rfl; exact rfl; exact rfl; exact True.intro)
  | ((apply AOps.splitB; exact rfl; exact rfl) <;> intro h)
  | apply AllOf.nil
  | (apply AllOf.cons; exact rfl)
  | (apply AAny.take; exact rfl; exact rfl; kernel_rfl; kernel_rfl)
  | (apply AAny.all; exact rfl)
  | (apply AAny.done; exact rfl)
  | (apply inI_of <;> omega)
  | omega
  | (simp <;> omega))
  · exact absurd (iota_get k n i (by omega)) (by assumption)
  · exact ⟨i + 1, by omega, by omega, ⟨lee rfl (by (repeat (first | exact le_nil | refine le_eq rfl rfl ?_ | refine le_eq rfl (congrArg AV.i (by omega)) ?_))), by (repeat (first | exact lo_nil | refine lo_dead ?_ | refine lo_eq rfl ?_)), rfl, rfl⟩⟩
  · have e : i = n := by omega
    subst e
    exact .int Try.results17 rfl rfl

end Go.Proofs.Ytbalbiliejjnoaa
/-
  Marks written into lists of lists. No condition but a bound on the sizes.
-/
namespace Go.Proofs.Ytbalbiliejjnoaa
open Go Go.RowKit
attribute [local irreducible] AWp AOps ResIs Ret1 QOp LOp COp AFnV AFn Imms LeE LeO
set_option maxHeartbeats 1000000
set_option linter.unusedSimpArgs false
set_option linter.unusedVariables false

/-! ### Marks -/
/-- How many entries the first i rows have. -/
def cnt (xss : List (List Int)) : Nat → Nat
  | 0 => 0
  | i + 1 => cnt xss i + (gets xss i).length
/-- The first i rows marked, from k on. -/
def mrk (xss : List (List Int)) (k : Int) (i : Nat) : List (List Int) := (List.range xss.length).map fun j => if j < i then iota (k + cnt xss j) (gets xss j).length else gets xss j

theorem mrk_len (xss : List (List Int)) (k : Int) (i : Nat) : (mrk xss k i).length = xss.length := by simp [mrk]
theorem mrk_zero (xss : List (List Int)) (k : Int) : mrk xss k 0 = xss := by
  apply List.ext_getElem?
  intro j
  simp only [mrk, List.getElem?_map, Nat.not_lt_zero, if_false]
  by_cases h : j < xss.length
  · simp [h, gets]
  · rw [List.getElem?_eq_none (by simp; omega), List.getElem?_eq_none (by omega)]; rfl
theorem mrk_get (xss : List (List Int)) (k : Int) (i j : Nat) (h : j < xss.length) : (mrk xss k i).getD j [] = if j < i then iota (k + cnt xss j) (gets xss j).length else gets xss j := by
  simp [mrk, List.getD_eq_getElem?_getD, h]
theorem mrk_set (xss : List (List Int)) (k : Int) (i : Nat) (h : i < xss.length) : (mrk xss k i).set i (iota (k + cnt xss i) (gets xss i).length) = mrk xss k (i + 1) := by
  apply List.ext_getElem?
  intro j
  rw [List.getElem?_set, mrk_len]
  by_cases e : i = j
  · subst e
    simp [h, mrk]
  · rw [if_neg e]
    simp only [mrk, List.getElem?_map]
    by_cases h2 : j < xss.length
    · simp only [List.getElem?_range h2, Option.map_some]
      by_cases h3 : j < i
      · rw [if_pos h3, if_pos (by omega)]
      · rw [if_neg h3, if_neg (by omega)]
    · rw [List.getElem?_eq_none (by simp; omega)]
      rfl
theorem cnt_mono (xss : List (List Int)) (i : Nat) : ∀ j, cnt xss i ≤ cnt xss (i + j)
  | 0 => Nat.le_refl _
  | j + 1 => by have := cnt_mono xss i j; rw [← Nat.add_assoc, cnt]; omega

theorem markInt64SS_c (T T2 : TypeId) (xss : List (List Int)) (k : Int) (hq : 0 ≤ k ∧ k ≤ 4503599627370496) (hl : cnt xss xss.length ≤ 4503599627370496) (hx : xss.length ≤ 4503599627370496) :
    AFnU Try.prog 39 [.own 0, .i k] [.sls T T2 xss] (fun v os => v = .int .i64 (k + cnt xss xss.length) ∧ os = [.sls T T2 (mrk xss k xss.length)]) := by
  (refine AFnU.start Try.func39 Try.ntmps39 rfl (by kernel_rfl) fun K => ?_; simp only [Env.start, enumF, List.length_cons, List.length_nil, Nat.reduceAdd, Nat.reduceSub, List.cons_append, List.nil_append])
  repeat' (first
  | (apply AOps.nil; try simp only [List.nil_append, List.cons_append, List.set_cons_zero, List.set_cons_succ, List.length_cons, List.length_nil, Nat.reduceAdd, AV.sh, AV.sh1, AV.sh0, AO.sh, List.map_cons, List.map_nil, Nat.zero_add, Nat.add_zero, setAll])
  | ((apply AOps.splitP; exact rfl; exact rfl) <;> intro h)
  | ((apply AOps.splitN; exact rfl; exact rfl) <;> intro h)
  | (apply w_move; exact rfl; exact rfl)
  | (apply w_assign; exact rfl; exact rfl)
  | apply AWp.seq
  | apply AWp.region
  | ((apply AWp.condP; exact rfl) <;> intro h)
  | ((apply AWp.condN; exact rfl) <;> intro h)
  | (apply AWp.condT; exact rfl)
  | (apply AWp.condF; exact rfl)
  | ((apply AWp.condB; exact rfl) <;> intro h)
  | apply AWp.block
  | apply AWp.ret
  | apply AWp.exit
  | apply AWp.skip
  | (apply AWp.regionQ; kernel_rfl; kernel_rfl)
  | (apply if_pos'; exact rfl)
  | (apply if_neg'; decide)
  | (apply w_skip; exact rfl)
  | (apply w_pickT; exact rfl; exact rfl; exact rfl)
  | (apply w_pickF; exact rfl; exact rfl; exact rfl)
  | (apply w_len; exact rfl; exact rfl; first | exact .ints _ | exact .intss _ | exact .sli rfl | exact .sls rfl | exact .slr rfl | exact .orow rfl | exact .nil)
  | ((first | apply w_lss | apply w_leq | apply w_gtr | apply w_geq | apply w_eql | apply w_neq | apply w_add | apply w_sub | apply w_mul | apply w_idx | apply w_ld | apply w_fld | apply w_fa | apply w_extv | apply w_min | apply w_max | apply w_slhi | apply w_sllo | apply w_bs2); iterate 3 exact rfl)
  | ((first | apply w_eqlb | apply w_neqb | apply w_idxs | apply w_lds | apply w_ext); iterate 3 exact rfl)
  | (apply w_rem; exact rfl; exact rfl; exact rfl; (focus (omega; done)); (focus (omega; done)))
  | (apply w_quo; exact rfl; exact rfl; exact rfl; (focus (omega; done)); (focus (omega; done)))
  | (apply w_remT; exact rfl; exact rfl; exact rfl)
  | (apply w_quoT; exact rfl; exact rfl; exact rfl)
  | ((first | apply w_not | apply w_neg | apply w_conv | apply w_build0 | apply w_bs1 | apply w_boxa); iterate 2 exact rfl)
  | (apply w_idxo; exact rfl; exact rfl; (first | exact .sli rfl | exact .sls rfl | exact .slr rfl); exact rfl)
  | ((first | apply w_idxr | apply w_ldr); iterate 4 exact rfl)
  | (apply w_ldo; iterate 4 exact rfl)
  | (apply w_ldls; iterate 4 exact rfl)
  | (apply w_ldrp; iterate 4 exact rfl)
  | (apply w_ldb; iterate 5 exact rfl)
  | (apply w_ldst; iterate 5 exact rfl)
  | ((first | apply w_sllh | apply w_stbi); iterate 4 exact rfl)
  | ((first | apply w_oslo | apply w_oshi | apply w_stbii); iterate 4 exact rfl)
  | (apply w_copy; exact rfl; (first | exact .own rfl rfl rfl | exact .osub); exact rfl; rotate_left 1; exact rfl; (first | exact .ints _ | exact .sli rfl | exact .orow rfl | exact .nil | exact .osub rfl (by simp; omega)))
  | (apply w_build1; exact rfl; exact rfl; (first | exact one_val rfl rfl | exact one_ints | exact one_intss | exact one_own rfl True.intro))
  | (apply w_build2; exact rfl; exact rfl; exact rfl; (first | exact one_val rfl rfl | exact one_ints | exact one_intss | exact one_own rfl True.intro); (first | exact one_val rfl rfl | exact one_ints | exact one_intss | exact one_own rfl True.intro))
  | (apply w_bs0; iterate 1 exact rfl)
  | (apply w_appn; exact rfl; exact rfl; (first | exact .ints _ | exact .sli rfl | exact .orow rfl | exact .nil | exact .osub rfl (by simp; omega)); exact rfl)
  | (apply w_app; exact rfl; exact rfl; exact rfl; exact rfl; (first | exact .ints _ | exact .sli rfl | exact .orow rfl | exact .nil | exact .osub rfl (by simp; omega)); rotate_left 1; simp only [Env.mp, List.map_cons, List.map_nil, List.set_cons_zero, List.set_cons_succ, AV.kill, AV.kill1, AO.kill, AV.noRow, AV.noRow1, AO.via, reduceIte, Nat.reduceEqDiff, Nat.reduceLT, Env.up, Nat.zero_ne_one, Nat.one_ne_zero, Nat.reduceAdd, List.cons_append, List.nil_append]; rotate_left 1)
  | (apply w_alst; iterate 2 exact rfl)
  | (apply w_alone; iterate 3 exact rfl)
  | (apply w_mki; exact rfl; exact rfl; rotate_left 3; exact rfl; rotate_left 1)
  | (apply w_mkr; exact rfl; exact rfl; rotate_left 3; exact rfl; rotate_left 1)
  | (apply w_strow; exact rfl; exact rfl; rotate_left 1; exact rfl; exact rfl; exact rfl; exact rfl; simp only [Env.mp, List.map_cons, List.map_nil, List.set_cons_zero, List.set_cons_succ, AV.kill, AV.kill1, AO.kill, AV.noRow, AV.noRow1, AO.via, reduceIte, Nat.reduceEqDiff, Nat.reduceLT, Env.up, Nat.zero_ne_one, Nat.one_ne_zero, Nat.reduceAdd, List.cons_append, List.nil_append]; rotate_left 1)
  | (apply w_sti; exact rfl; exact rfl; rotate_left 1; exact rfl; rotate_left 2)
  | (apply w_stst; iterate 5 exact rfl)
  | (apply w_stbv; iterate 6 exact rfl)
  | (apply w_stbo; exact rfl; exact rfl; exact rfl; exact rfl; exact rfl; exact True.intro)
  | ((apply AOps.splitB; exact rfl; exact rfl) <;> intro h)
  | apply AllOf.nil
  | (apply AllOf.cons; exact rfl)
  | (apply AAny.take; exact rfl; exact rfl; kernel_rfl; kernel_rfl)
  | (apply AAny.all; exact rfl)
  | (apply AAny.done; exact rfl)
  | (apply inI_of <;> omega)
  | omega
  | (simp <;> omega))
  refine AWp.loop (ι := Nat) (fun i => ⟨19, [(0, .own 0), (1, .i (k + cnt xss i)), (5, .i i)]⟩) (fun i => [.sls T T2 (mrk xss k i), .keep 2 K]) (fun i => i ≤ xss.length) (fun i => xss.length - i) 0 (by omega) ⟨lee rfl (by (repeat (first | exact le_nil | refine le_eq rfl rfl ?_ | refine le_eq rfl (congrArg AV.i (by omega)) ?_ | refine le_eq rfl (congrArg AV.i ((mrk_zero xss k).symm)) ?_ | refine le_eq rfl (congrArg AV.i ((Int.add_zero k).symm)) ?_))), by (repeat (first | exact lo_nil | refine lo_dead ?_ | refine lo_eq rfl ?_ | refine lo_eq (congrArg (AO.sli _) ((mrk_zero xss k).symm)) ?_ | refine lo_eq (congrArg (AO.sls _ _) ((mrk_zero xss k).symm)) ?_ | refine lo_eq (congrArg (AO.sli _) ((Int.add_zero k).symm)) ?_ | refine lo_eq (congrArg (AO.sls _ _) ((Int.add_zero k).symm)) ?_)), rfl, rfl⟩ ?_
  rintro i h0
  have e1 := mrk_len xss k i
  by_cases hi : i < xss.length
  · have c1 : cnt xss i ≤ cnt xss xss.length := by have := cnt_mono xss i (xss.length - i); rwa [show i + (xss.length - i) = xss.length by omega] at this
    have c2 : cnt xss (i + 1) ≤ cnt xss xss.length := by have := cnt_mono xss (i + 1) (xss.length - (i + 1)); rwa [show i + 1 + (xss.length - (i + 1)) = xss.length by omega] at this
    have c3 : cnt xss (i + 1) = cnt xss i + (gets xss i).length := rfl
    have e2 : (mrk xss k i).getD i [] = gets xss i := by rw [mrk_get xss k i i hi, if_neg (by omega)]
    have e2' : (mrk xss k i).getD ((i : Int)).toNat [] = gets xss i := e2
    have hm := markInt64S_c T2 ((mrk xss k i).getD ((i : Int)).toNat []) (k + cnt xss i) (by omega) (by rw [e2']; omega)
    have e3 : (mrk xss k i).set ((i : Int)).toNat (iota (k + cnt xss i) ((mrk xss k i).getD ((i : Int)).toNat []).length) = mrk xss k (i + 1) := by rw [e2']; exact mrk_set xss k i hi
    have e4 : k + (cnt xss i : Int) + (((mrk xss k i).getD ((i : Int)).toNat []).length : Int) = k + (cnt xss (i + 1) : Int) := by rw [e2', c3]; omega
    repeat' (first
  | (apply AOps.nil; try simp only [List.nil_append, List.cons_append, List.set_cons_zero, List.set_cons_succ, List.length_cons, List.length_nil, Nat.reduceAdd, AV.sh, AV.sh1, AV.sh0, AO.sh, List.map_cons, List.map_nil, Nat.zero_add, Nat.add_zero, setAll])
  | ((apply AOps.splitP; exact rfl; exact rfl) <;> intro h)
  | ((apply AOps.splitN; exact rfl; exact rfl) <;> intro h)
  | (apply w_move; exact rfl; exact rfl)
  | (apply w_assign; exact rfl; exact rfl)
  | apply AWp.seq
  | apply AWp.region
  | ((apply AWp.condP; exact rfl) <;> intro h)
  | ((apply AWp.condN; exact rfl) <;> intro h)
  | (apply AWp.condT; exact rfl)
  | (apply AWp.condF; exact rfl)
  | ((apply AWp.condB; exact rfl) <;> intro h)
  | apply AWp.block
  | apply AWp.ret
  | apply AWp.exit
  | apply AWp.skip
  | (apply AWp.regionQ; kernel_rfl; kernel_rfl)
  | (apply if_pos'; exact rfl)
  | (apply if_neg'; decide)
  | (apply w_skip; exact rfl)
  | (apply w_pickT; exact rfl; exact rfl; exact rfl)
  | (apply w_pickF; exact rfl; exact rfl; exact rfl)
  | (apply w_len; exact rfl; exact rfl; first | exact .ints _ | exact .intss _ | exact .sli rfl | exact .sls rfl | exact .slr rfl | exact .orow rfl | exact .nil)
  | (apply w_callrow; exact rfl; exact rfl; exact rfl; exact (hm); (focus (rintro v os0 ⟨rfl, rfl⟩; exact ⟨_, rfl⟩)); rintro v row0 ⟨rfl, hrow0⟩; cases hrow0; try simp only [List.nil_append, List.cons_append, List.set_cons_zero, List.set_cons_succ, List.length_cons, List.length_nil, Nat.reduceAdd, AV.sh, AV.sh1, AV.sh0, AO.sh, List.map_cons, List.map_nil, Nat.zero_add, Nat.add_zero, setAll])
  | ((first | apply w_lss | apply w_leq | apply w_gtr | apply w_geq | apply w_eql | apply w_neq | apply w_add | apply w_sub | apply w_mul | apply w_idx | apply w_ld | apply w_fld | apply w_fa | apply w_extv | apply w_min | apply w_max | apply w_slhi | apply w_sllo | apply w_bs2); iterate 3 exact rfl)
  | ((first | apply w_eqlb | apply w_neqb | apply w_idxs | apply w_lds | apply w_ext); iterate 3 exact rfl)
  | (apply w_rem; exact rfl; exact rfl; exact rfl; (focus (omega; done)); (focus (omega; done)))
  | (apply w_quo; exact rfl; exact rfl; exact rfl; (focus (omega; done)); (focus (omega; done)))
  | (apply w_remT; exact rfl; exact rfl; exact rfl)
  | (apply w_quoT; exact rfl; exact rfl; exact rfl)
  | ((first | apply w_not | apply w_neg | apply w_conv | apply w_build0 | apply w_bs1 | apply w_boxa); iterate 2 exact rfl)
  | (apply w_idxo; exact rfl; exact rfl; (first | exact .sli rfl | exact .sls rfl | exact .slr rfl); exact rfl)
  | ((first | apply w_idxr | apply w_ldr); iterate 4 exact rfl)
  | (apply w_ldo; iterate 4 exact rfl)
  | (apply w_ldls; iterate 4 exact rfl)
  | (apply w_ldrp; iterate 4 exact rfl)
  | (apply w_ldb; iterate 5 exact rfl)
  | (apply w_ldst; iterate 5 exact rfl)
  | ((first | apply w_sllh | apply w_stbi); iterate 4 exact rfl)
  | ((first | apply w_oslo | apply w_oshi | apply w_stbii); iterate 4 exact rfl)
  | (apply w_copy; exact rfl; (first | exact .own rfl rfl rfl | exact .osub); exact rfl; rotate_left 1; exact rfl; (first | exact .ints _ | exact .sli rfl | exact .orow rfl | exact .nil | exact .osub rfl (by simp; omega)))
  | (apply w_build1; exact rfl; exact rfl; (first | exact one_val rfl rfl | exact one_ints | exact one_intss | exact one_own rfl True.intro))
  | (apply w_build2; exact rfl; exact rfl; exact rfl; (first | exact one_val rfl rfl | exact one_ints | exact one_intss | exact one_own rfl True.intro); (first | exact one_val rfl rfl | exact one_ints | exact one_intss | exact one_own rfl True.intro))
  | (apply w_bs0; iterate 1 exact rfl)
  | (apply w_appn; exact rfl; exact rfl; (first | exact .ints _ | exact .sli rfl | exact .orow rfl | exact .nil | exact .osub rfl (by simp; omega)); exact rfl)
  | (apply w_app; exact rfl; exact rfl; exact rfl; exact rfl; (first | exact .ints _ | exact .sli rfl | exact .orow rfl | exact .nil | exact .osub rfl (by simp; omega)); rotate_left 1; simp only [Env.mp, List.map_cons, List.map_nil, List.set_cons_zero, List.set_cons_succ, AV.kill, AV.kill1, AO.kill, AV.noRow, AV.noRow1, AO.via, reduceIte, Nat.reduceEqDiff, Nat.reduceLT, Env.up, Nat.zero_ne_one, Nat.one_ne_zero, Nat.reduceAdd, List.cons_append, List.nil_append]; rotate_left 1)
  | (apply w_alst; iterate 2 exact rfl)
  | (apply w_alone; iterate 3 exact rfl)
  | (apply w_mki; exact rfl; exact rfl; rotate_left 3; exact rfl; rotate_left 1)
  | (apply w_mkr; exact rfl; exact rfl; rotate_left 3; exact rfl; rotate_left 1)
  | (apply w_strow; exact rfl; exact rfl; rotate_left 1; exact rfl; exact rfl; exact rfl; exact rfl; simp only [Env.mp, List.map_cons, List.map_nil, List.set_cons_zero, List.set_cons_succ, AV.kill, AV.kill1, AO.kill, AV.noRow, AV.noRow1, AO.via, reduceIte, Nat.reduceEqDiff, Nat.reduceLT, Env.up, Nat.zero_ne_one, Nat.one_ne_zero, Nat.reduceAdd, List.cons_append, List.nil_append]; rotate_left 1)
  | (apply w_sti; exact rfl; exact rfl; rotate_left 1; exact rfl; rotate_left 2)
  | (apply w_stst; iterate 5 exact rfl)
  | (apply w_stbv; iterate 6 exact rfl)
  | (apply w_stbo; exact rfl; exact rfl; exact rfl; exact rfl; exact rfl; exact True.intro)
  | ((apply AOps.splitB; exact rfl; exact rfl) <;> intro h)
  | apply AllOf.nil
  | (apply AllOf.cons; exact rfl)
  | (apply AAny.take; exact rfl; exact rfl; kernel_rfl; kernel_rfl)
  | (apply AAny.all; exact rfl)
  | (apply AAny.done; exact rfl)
  | (apply inI_of <;> omega)
  | omega
  | (simp <;> omega))
    all_goals exact ⟨i + 1, by omega, by omega, ⟨lee rfl (by (repeat (first | exact le_nil | refine le_eq rfl rfl ?_ | refine le_eq rfl (congrArg AV.i (by omega)) ?_ | refine le_eq rfl (congrArg AV.i (e4)) ?_ | refine le_eq rfl (congrArg AV.i (e3)) ?_))), by (repeat (first | exact lo_nil | refine lo_dead ?_ | refine lo_eq rfl ?_ | refine lo_eq (congrArg (AO.sli _) (e4)) ?_ | refine lo_eq (congrArg (AO.sls _ _) (e4)) ?_ | refine lo_eq (congrArg (AO.sli _) (e3)) ?_ | refine lo_eq (congrArg (AO.sls _ _) (e3)) ?_)), rfl, rfl⟩⟩
  · repeat' (first
  | (apply AOps.nil; try simp only [List.nil_append, List.cons_append, List.set_cons_zero, List.set_cons_succ, List.length_cons, List.length_nil, Nat.reduceAdd, AV.sh, AV.sh1, AV.sh0, AO.sh, List.map_cons, List.map_nil, Nat.zero_add, Nat.add_zero, setAll])
  | ((apply AOps.splitP; exact rfl; exact rfl) <;> intro h)
  | ((apply AOps.splitN; exact rfl; exact rfl) <;> intro h)
  | (apply w_move; exact rfl; exact rfl)
  | (apply w_assign; exact rfl; exact rfl)
  | apply AWp.seq
  | apply AWp.region
  | ((apply AWp.condP; exact rfl) <;> intro h)
  | ((apply AWp.condN; exact rfl) <;> intro h)
  | (apply AWp.condT; exact rfl)
  | (apply AWp.condF; exact rfl)
  | ((apply AWp.condB; exact rfl) <;> intro h)
  | apply AWp.block
  | apply AWp.ret
  | apply AWp.exit
  | apply AWp.skip
  | (apply AWp.regionQ; kernel_rfl; kernel_rfl)
  | (apply if_pos'; exact rfl)
  | (apply if_neg'; decide)
  | (apply w_skip; exact rfl)
  | (apply w_pickT; exact rfl; exact rfl; exact rfl)
  | (apply w_pickF; exact rfl; exact rfl; exact rfl)
  | (apply w_len; exact rfl; exact rfl; first | exact .ints _ | exact .intss _ | exact .sli rfl | exact .sls rfl | exact .slr rfl | exact .orow rfl | exact .nil)
  | omega
  | ((first | apply w_lss | apply w_leq | apply w_gtr | apply w_geq | apply w_eql | apply w_neq | apply w_add | apply w_sub | apply w_mul | apply w_idx | apply w_ld | apply w_fld | apply w_fa | apply w_extv | apply w_min | apply w_max | apply w_slhi | apply w_sllo | apply w_bs2); iterate 3 exact rfl)
  | ((first | apply w_eqlb | apply w_neqb | apply w_idxs | apply w_lds | apply w_ext); iterate 3 exact rfl)
  | (apply w_rem; exact rfl; exact rfl; exact rfl; (focus (omega; done)); (focus (omega; done)))
  | (apply w_quo; exact rfl; exact rfl; exact rfl; (focus (omega; done)); (focus (omega; done)))
  | (apply w_remT; exact rfl; exact rfl; exact rfl)
  | (apply w_quoT; exact rfl; exact rfl; exact rfl)
  | ((first | apply w_not | apply w_neg | apply w_conv | apply w_build0 | apply w_bs1 | apply w_boxa); iterate 2 exact rfl)
  | (apply w_idxo; exact rfl; exact rfl; (first | exact .sli rfl | exact .sls rfl | exact .slr rfl); exact rfl)
  | ((first | apply w_idxr | apply w_ldr); iterate 4 exact rfl)
  | (apply w_ldo; iterate 4 exact rfl)
  | (apply w_ldls; iterate 4 exact rfl)
  | (apply w_ldrp; iterate 4 exact rfl)
  | (apply w_ldb; iterate 5 exact rfl)
  | (apply w_ldst; iterate 5 exact rfl)
  | ((first | apply w_sllh | apply w_stbi); iterate 4 exact rfl)
  | ((first | apply w_oslo | apply w_oshi | apply w_stbii); iterate 4 exact rfl)
  | (apply w_copy; exact rfl; (first | exact .own rfl rfl rfl | exact .osub); exact rfl; rotate_left 1; exact rfl; (first | exact .ints _ | exact .sli rfl | exact .orow rfl | exact .nil | exact .osub rfl (by simp; omega)))
  | (apply w_build1; exact rfl; exact rfl; (first | exact one_val rfl rfl | exact one_ints | exact one_intss | exact one_own rfl True.intro))
  | (apply w_build2; exact rfl; exact rfl; exact rfl; (first | exact one_val rfl rfl | exact one_ints | exact one_intss | exact one_own rfl True.intro); (first | exact one_val rfl rfl | exact one_ints | exact one_intss | exact one_own rfl True.intro))
  | (apply w_bs0; iterate 1 exact rfl)
  | (apply w_appn; exact rfl; exact rfl; (first | exact .ints _ | exact .sli rfl | exact .orow rfl | exact .nil | exact .osub rfl (by simp; omega)); exact rfl)
  | (apply w_app; exact rfl; exact rfl; exact rfl; exact rfl; (first | exact .ints _ | exact .sli rfl | exact .orow rfl | exact .nil | exact .osub rfl (by simp; omega)); rotate_left 1; simp only [Env.mp, List.map_cons, List.map_nil, List.set_cons_zero, List.set_cons_succ, AV.kill, AV.kill1, AO.kill, AV.noRow, AV.noRow1, AO.via, reduceIte, Nat.reduceEqDiff, Nat.reduceLT, Env.up, Nat.zero_ne_one, Nat.one_ne_zero, Nat.reduceAdd, List.cons_append, List.nil_append]; rotate_left 1)
  | (apply w_alst; iterate 2 exact rfl)
  | (apply w_alone; iterate 3 exact rfl)
  | (apply w_mki; exact rfl; exact rfl; rotate_left 3; exact rfl; rotate_left 1)
  | (apply w_mkr; exact rfl; exact rfl; rotate_left 3; exact rfl; rotate_left 1)
  | (apply w_strow; exact rfl; exact rfl; rotate_left 1; exact rfl; exact rfl; exact rfl; exact rfl; simp only [Env.mp, List.map_cons, List.map_nil, List.set_cons_zero, List.set_cons_succ, AV.kill, AV.kill1, AO.kill, AV.noRow, AV.noRow1, AO.via, reduceIte, Nat.reduceEqDiff, Nat.reduceLT, Env.up, Nat.zero_ne_one, Nat.one_ne_zero, Nat.reduceAdd, List.cons_append, List.nil_append]; rotate_left 1)
  | (apply w_sti; exact rfl; exact rfl; rotate_left 1; exact rfl; rotate_left 2)
  | (apply w_stst; iterate 5 exact rfl)
  | (apply w_stbv; iterate 6 exact rfl)
  | (apply w_stbo; exact rfl; exact rfl; exact rfl; exact rfl; exact rfl; exact True.intro)
  | ((apply AOps.splitB; exact rfl; exact rfl) <;> intro h)
  | apply AllOf.nil
  | (apply AllOf.cons; exact rfl)
  | (apply AAny.take; exact rfl; exact rfl; kernel_rfl; kernel_rfl)
  | (apply AAny.all; exact rfl)
  | (apply AAny.done; exact rfl)
  | (apply inI_of <;> omega)
  | omega
  | (simp <;> omega))
    have e : i = xss.length := by omega
    subst e
    exact ⟨_, _, .int Try.results39 rfl rfl, ⟨rfl, rfl⟩, by simp, rfl, by simp [AO.plain]⟩

theorem cnt_le {xss : List (List Int)} {B : Nat} (h : ∀ xs ∈ xss, xs.length ≤ B) : ∀ i, cnt xss i ≤ i * B
  | 0 => by simp [cnt]
  | i + 1 => by
    have ih := cnt_le h i
    have : (gets xss i).length ≤ B := by
      by_cases hi : i < xss.length
      · exact h _ (gets_mem (by omega) (by omega))
      · simp [gets, List.getElem?_eq_none (show xss.length ≤ i by omega)]
    rw [cnt, Nat.add_mul]
    omega

end Go.Proofs.Ytbalbiliejjnoaa
/-
  The law of branch determinants. No condition.
-/
namespace Go.Proofs.Ytbalbiliejjnoaa
open Go Go.RowKit
attribute [local irreducible] AWp AOps ResIs Ret1 QOp LOp COp AFnV AFn Imms LeE LeO
set_option maxHeartbeats 1000000
set_option linter.unusedSimpArgs false
set_option linter.unusedVariables false

theorem markNil_c (k : Int) : AFnV Try.prog 16 [.ints [], .i k] (.int .i64 k) := by
  (refine AFnV.start Try.func16 Try.ntmps16 rfl (by kernel_rfl) fun hk => ?_; simp only [Env.start, enumF, List.length_cons, List.length_nil, Nat.reduceAdd, Nat.reduceSub, List.cons_append, List.nil_append])
  repeat' (first | (apply AOps.nil; try simp only [List.nil_append, List.cons_append, List.set_cons_zero, List.set_cons_succ, List.length_cons, List.length_nil, Nat.reduceAdd, AV.sh, AV.sh1, AV.sh0, AO.sh, List.map_cons, List.map_nil, Nat.zero_add, Nat.add_zero, setAll]) | (apply w_assign; exact rfl; exact rfl) | apply AWp.seq | apply AWp.region | apply AWp.block)
  refine AWp.loop (ι := Unit) (fun i => ⟨19, [(0, .ints []), (1, .i k), (5, .i 0)]⟩) (fun i => []) (fun i => True) (fun i => 0) () trivial ⟨lee rfl (by (repeat (first | exact le_nil | refine le_eq rfl rfl ?_))), by (repeat (exact lo_nil)), rfl, rfl⟩ ?_
  rintro i h0
  repeat' (first | (apply AOps.nil; try simp only [List.nil_append, List.cons_append, List.set_cons_zero, List.set_cons_succ, List.length_cons, List.length_nil, Nat.reduceAdd, AV.sh, AV.sh1, AV.sh0, AO.sh, List.map_cons, List.map_nil, Nat.zero_add, Nat.add_zero, setAll]) | (apply w_move; exact rfl; exact rfl) | (apply w_assign; exact rfl; exact rfl) | apply AWp.seq | apply AWp.region | ((apply AWp.condP; exact rfl) <;> intro h) | apply AWp.block | apply AWp.ret | apply AWp.exit | apply AWp.skip | (apply w_len; exact rfl; exact rfl; first | exact .ints _ | exact .intss _ | exact .sli rfl | exact .sls rfl | exact .slr rfl | exact .orow rfl | exact .nil) | omega | ((apply w_lss); iterate 3 exact rfl))
  all_goals exact .int Try.results16 rfl rfl
theorem markGraph_c (W : List Int) (E : List (List Int)) (k : Int) (hk : 0 ≤ k ∧ k ≤ 1000000) (hw : W.length ≤ 1048576) (hc : cnt E E.length ≤ 4503599627370496) (he : E.length ≤ 1048576) :
    AFnU Try.prog 15 [.agg [.own 0, .own 1], .i k] [.sli 2 W, .sls 22 2 E] (fun v os => v = .int .i64 (k + W.length + cnt E E.length) ∧ os = [.sli 2 (iota k W.length), .sls 22 2 (mrk E (k + W.length) E.length)]) := by
  have m1 := markInt64S_c 2 W k (by omega) (by omega)
  have m2 := markInt64SS_c 22 2 E (k + W.length) (by omega) hc (by omega)
  (refine AFnU.start Try.func15 Try.ntmps15 rfl (by kernel_rfl) fun K => ?_; simp only [Env.start, enumF, List.length_cons, List.length_nil, Nat.reduceAdd, Nat.reduceSub, List.cons_append, List.nil_append])
  repeat' (first | (apply AOps.nil; try simp only [List.nil_append, List.cons_append, List.set_cons_zero, List.set_cons_succ, List.length_cons, List.length_nil, Nat.reduceAdd, AV.sh, AV.sh1, AV.sh0, AO.sh, List.map_cons, List.map_nil, Nat.zero_add, Nat.add_zero, setAll]) | (apply w_move; exact rfl; exact rfl) | (apply w_assign; exact rfl; exact rfl) | apply AWp.seq | apply AWp.region | apply AWp.ret | (apply w_callu [0] (m1); (exact handed1 rfl True.intro); (focus ((repeat (first | exact imu_nil | refine imu_cons rfl (.val _) ?_ | refine imu_cons rfl (.own rfl) ?_)); done)); rintro v os0 ⟨rfl, rfl⟩; try simp only [List.nil_append, List.cons_append, List.set_cons_zero, List.set_cons_succ, List.length_cons, List.length_nil, Nat.reduceAdd, AV.sh, AV.sh1, AV.sh0, AO.sh, List.map_cons, List.map_nil, Nat.zero_add, Nat.add_zero, setAll]) | (apply w_callu [1] (m2); (exact handed1 rfl True.intro); (focus ((repeat (first | exact imu_nil | refine imu_cons rfl (.val _) ?_ | refine imu_cons rfl (.own rfl) ?_)); done)); rintro v os0 ⟨rfl, rfl⟩; try simp only [List.nil_append, List.cons_append, List.set_cons_zero, List.set_cons_succ, List.length_cons, List.length_nil, Nat.reduceAdd, AV.sh, AV.sh1, AV.sh0, AO.sh, List.map_cons, List.map_nil, Nat.zero_add, Nat.add_zero, setAll]) | ((first | apply w_ld | apply w_fa); iterate 3 exact rfl) | ((apply w_boxa); iterate 2 exact rfl) | (apply w_ldb; iterate 5 exact rfl))
  all_goals exact ⟨_, _, .int Try.results15 rfl rfl, ⟨rfl, rfl⟩, rfl, rfl, by simp [AO.plain]⟩
theorem heldInt64S_k (n : Nat) (k : Int) (hq : 0 ≤ k ∧ k ≤ 9007199254740992) (hl : n ≤ 9007199254740992) : AFnV Try.prog 17 [.ints (iota k n), .i k] (.int .i64 (k + n)) := heldInt64S_c n k hq hl

set_option maxHeartbeats 32000000 in
theorem lawBranch_nil (W : List Int) (E : List (List Int)) (b1 : W.length ≤ 1048576) (b2 : E.length ≤ 1048576) (b3 : ∀ xs ∈ E, xs.length ≤ 1048576) (hcnt : cnt E E.length ≤ 4503599627370496) (hz : ¬ szGr W E 1048576 < 0) (c : Int)
    (hs : AFnV Try.prog 12 [.agg [.ints W, .intss E]] (.tuple #[.slice none 0 0, .slice none 0 0, .int .i64 c])) (hi : AFnV Try.prog 13 [.agg [.ints W, .intss E]] (.tuple #[.slice none 0 0, .slice none 0 0, .int .i64 c])) :
    AFnV Try.prog 4 [.agg [.ints W, .intss E]] (.bool true) := by
  have hsz := szGraph_c W E
  have heq := eqGraph_t W E
  have tg := toGraph_c W E b1 b2 b3
  have en := eqInt64S_c [] []
  rw [decide_eq_true rfl] at en
  have mg := markGraph_c W E 1 (by omega) b1 hcnt b2
  have mn := markNil_c
  have hn := heldInt64S_k 0 1 (by omega) (by omega)
  rw [show iota 1 0 = [] from rfl, show (1 : Int) + ((0 : Nat) : Int) = 1 from rfl] at hn
  (refine AFnV.start Try.func4 Try.ntmps4 rfl (by kernel_rfl) fun hk => ?_; simp only [Env.start, enumF, List.length_cons, List.length_nil, Nat.reduceAdd, Nat.reduceSub, List.cons_append, List.nil_append])
  repeat' (first | (apply AOps.nil; try simp only [List.nil_append, List.cons_append, List.set_cons_zero, List.set_cons_succ, List.length_cons, List.length_nil, Nat.reduceAdd, AV.sh, AV.sh1, AV.sh0, AO.sh, List.map_cons, List.map_nil, Nat.zero_add, Nat.add_zero, setAll]) | (apply w_move; exact rfl; exact rfl) | (apply w_assign; exact rfl; exact rfl) | apply AWp.seq | apply AWp.region | ((apply AWp.condP; exact rfl) <;> intro h) | apply AWp.ret | apply AWp.skip | (apply w_pickF; exact rfl; exact rfl; exact rfl) | (apply w_call (hsz); exact rfl; exact rfl; focus ((repeat (first | exact im_nil | refine im_cons rfl (im_agg2 (.ints _) (.intss _)) ?_ | refine im_cons rfl (.val _) ?_)); done)) | (apply w_callm (tg); (focus ((repeat (first | exact im_nil | refine im_cons rfl (im_agg2 (.ints _) (.intss _)) ?_)); done)); rintro r os0 ⟨rfl, rfl⟩; try simp only [List.nil_append, List.cons_append, List.set_cons_zero, List.set_cons_succ, List.length_cons, List.length_nil, Nat.reduceAdd, AV.sh, AV.sh1, AV.sh0, AO.sh, List.map_cons, List.map_nil, Nat.zero_add, Nat.add_zero, setAll]) | (apply w_call (hs); exact rfl; exact rfl; focus ((repeat (first | exact im_nil | refine im_cons rfl (im_agg2 (.sli rfl) (.sls rfl)) ?_)); done)) | (apply w_call (hi); exact rfl; exact rfl; focus ((repeat (first | exact im_nil | refine im_cons rfl (im_agg2 (.sli rfl) (.sls rfl)) ?_)); done)) | (apply w_call (en); exact rfl; exact rfl; focus ((repeat (first | exact im_nil | refine im_cons rfl (.nil) ?_)); done)) | omega | ((first | apply w_lss | apply w_neq | apply w_extv); iterate 3 exact rfl) | ((first | apply w_not | apply w_boxa); iterate 2 exact rfl) | (apply w_ldst; iterate 5 exact rfl) | (apply w_alst; iterate 2 exact rfl) | (apply w_stst; iterate 5 exact rfl))
  all_goals try (exfalso; first | exact absurd rfl (by assumption : c ≠ c) | omega)
  refine AWp.regionG [] (by kernel_rfl) (envC := ⟨133, [(1, .optr 0 0), (4, .val (.slice none 0 0)), (5, .val (.slice none 0 0)), (6, .i c), (7, .optr 3 0), (8, .val (.slice none 0 0)), (9, .val (.slice none 0 0)), (10, .i c), (56, .b false)]⟩) (osC := [.bx 25 [.ints W, .intss E], .sli 2 W, .sls 22 2 E, .bx 29 [.own 1, .own 2]]) rfl rfl ?_ ?_
  · repeat' (first | (apply AOps.nil; try simp only [List.nil_append, List.cons_append, List.set_cons_zero, List.set_cons_succ, List.length_cons, List.length_nil, Nat.reduceAdd, AV.sh, AV.sh1, AV.sh0, AO.sh, List.map_cons, List.map_nil, Nat.zero_add, Nat.add_zero, setAll]) | apply AllOfG.nil | (apply AllOfG.consQ; exact rfl; exact rfl) | (apply AllOfG.consS; exact rfl; exact rfl) | (apply AAnyG.takeW; exact rfl; exact rfl; kernel_rfl; kernel_rfl) | (apply AAnyG.takeL; exact rfl; exact rfl; kernel_rfl) | (apply AAnyG.all; exact rfl) | (apply AAnyG.done; exact rfl) | (apply w_callm (tg); (focus ((repeat (first | exact im_nil | refine im_cons rfl (im_agg2 (.ints _) (.intss _)) ?_)); done)); rintro r os0 ⟨rfl, rfl⟩; try simp only [List.nil_append, List.cons_append, List.set_cons_zero, List.set_cons_succ, List.length_cons, List.length_nil, Nat.reduceAdd, AV.sh, AV.sh1, AV.sh0, AO.sh, List.map_cons, List.map_nil, Nat.zero_add, Nat.add_zero, setAll]) | (apply w_call (heq); exact rfl; exact rfl; focus ((repeat (first | exact im_nil | refine im_cons rfl (im_agg2 (.sli rfl) (.sls rfl)) ?_)); done)) | ((apply w_not); iterate 2 exact rfl) | (apply w_ldst; iterate 5 exact rfl))
    all_goals (apply Or.inr; refine ⟨[0, 3, 4, 5], ⟨by decide, fun x hx => Nat.lt_of_lt_of_le ((by decide : ∀ x ∈ ([0, 3, 4, 5] : List Nat), x < 6) x hx) (Nat.le_of_ble_eq_true rfl)⟩, lee rfl ?_, ?_, rfl, rfl⟩; (focus ((repeat (first | exact le_nil | refine le_eq rfl rfl ?_)); done)); (focus ((repeat (first | exact lo_nil | refine lo_eq rfl ?_)); done)))
  repeat' (first | (apply AOps.nil; try simp only [List.nil_append, List.cons_append, List.set_cons_zero, List.set_cons_succ, List.length_cons, List.length_nil, Nat.reduceAdd, AV.sh, AV.sh1, AV.sh0, AO.sh, List.map_cons, List.map_nil, Nat.zero_add, Nat.add_zero, setAll]) | ((apply AOps.splitP; exact rfl; exact rfl) <;> intro h) | (apply w_move; exact rfl; exact rfl) | (apply w_assign; exact rfl; exact rfl) | apply AWp.seq | apply AWp.region | ((apply AWp.condP; exact rfl) <;> intro h) | (apply AWp.condT; exact rfl) | (apply AWp.condF; exact rfl) | apply AWp.ret | apply AWp.skip | (apply w_skip; exact rfl) | (apply w_pickT; exact rfl; exact rfl; exact rfl) | (apply w_pickF; exact rfl; exact rfl; exact rfl) | (apply w_callu [1, 2] (mg); (exact handed2 rfl rfl rfl True.intro True.intro); (focus ((repeat (first | exact imu_nil | refine imu_cons rfl (.val _) ?_ | refine imu_cons rfl (imu_agg2 (.own rfl) (.own rfl)) ?_)); done)); rintro v os0 ⟨rfl, rfl⟩; try simp only [List.nil_append, List.cons_append, List.set_cons_zero, List.set_cons_succ, List.length_cons, List.length_nil, Nat.reduceAdd, AV.sh, AV.sh1, AV.sh0, AO.sh, List.map_cons, List.map_nil, Nat.zero_add, Nat.add_zero, setAll]) | (apply w_call (en); exact rfl; exact rfl; focus ((repeat (first | exact im_nil | refine im_cons rfl (.nil) ?_)); done)) | (apply w_call (mn 1); exact rfl; exact rfl; focus ((repeat (first | exact im_nil | refine im_cons rfl (.val _) ?_ | refine im_cons rfl (.nil) ?_)); done)) | (apply w_call (hn); exact rfl; exact rfl; focus ((repeat (first | exact im_nil | refine im_cons rfl (.val _) ?_ | refine im_cons rfl (.nil) ?_)); done)) | (apply w_callm (tg); (focus ((repeat (first | exact im_nil | refine im_cons rfl (im_agg2 (.ints _) (.intss _)) ?_)); done)); rintro r os0 ⟨rfl, rfl⟩; try simp only [List.nil_append, List.cons_append, List.set_cons_zero, List.set_cons_succ, List.length_cons, List.length_nil, Nat.reduceAdd, AV.sh, AV.sh1, AV.sh0, AO.sh, List.map_cons, List.map_nil, Nat.zero_add, Nat.add_zero, setAll]) | (apply w_call (hi); exact rfl; exact rfl; focus ((repeat (first | exact im_nil | refine im_cons rfl (im_agg2 (.sli rfl) (.sls rfl)) ?_)); done)) | omega | ((first | apply w_lss | apply w_neq | apply w_extv); iterate 3 exact rfl) | ((apply w_not); iterate 2 exact rfl) | (apply w_ldst; iterate 5 exact rfl))
  all_goals try (exfalso; first | exact absurd rfl (by assumption : c ≠ c) | omega)
  all_goals exact .bool Try.results4 rfl rfl

set_option maxHeartbeats 32000000 in
theorem lawBranch_own (W : List Int) (E : List (List Int)) (b1 : W.length ≤ 1048576) (b2 : E.length ≤ 1048576) (b3 : ∀ xs ∈ E, xs.length ≤ 1048576) (hcnt : cnt E E.length ≤ 4503599627370496) (hz : ¬ szGr W E 1048576 < 0) (F G : List Int) (lf : F.length = W.length) (lg : G.length = W.length)
    (hs : AFnC Try.prog 12 [.agg [.ints W, .intss E]] [] (fun r os => r = .tup [.own 0, .own 1, .i 0] ∧ os = [.sli 2 F, .sli 2 G])) (hi : AFnC Try.prog 13 [.agg [.ints W, .intss E]] [] (fun r os => r = .tup [.own 0, .own 1, .i 0] ∧ os = [.sli 2 F, .sli 2 G])) :
    AFnV Try.prog 4 [.agg [.ints W, .intss E]] (.bool true) := by
  have hsz := szGraph_c W E
  have heq := eqGraph_t W E
  have tg := toGraph_c W E b1 b2 b3
  have ef := eqInt64S_c F F
  have eg := eqInt64S_c G G
  rw [decide_eq_true rfl] at ef eg
  have mg := markGraph_c W E 1 (by omega) b1 hcnt b2
  have mf := markInt64S_c 2 F 1 (by omega) (by omega)
  have mh := markInt64S_c 2 G (1 + F.length) (by omega) (by omega)
  have hf := heldInt64S_k F.length 1 (by omega) (by omega)
  have hg := heldInt64S_k G.length (1 + F.length) (by omega) (by omega)
  (refine AFnV.start Try.func4 Try.ntmps4 rfl (by kernel_rfl) fun hk => ?_; simp only [Env.start, enumF, List.length_cons, List.length_nil, Nat.reduceAdd, Nat.reduceSub, List.cons_append, List.nil_append])
  repeat' (first | (apply AOps.nil; try simp only [List.nil_append, List.cons_append, List.set_cons_zero, List.set_cons_succ, List.length_cons, List.length_nil, Nat.reduceAdd, AV.sh, AV.sh1, AV.sh0, AO.sh, List.map_cons, List.map_nil, Nat.zero_add, Nat.add_zero, setAll]) | (apply w_move; exact rfl; exact rfl) | (apply w_assign; exact rfl; exact rfl) | apply AWp.seq | apply AWp.region | ((apply AWp.condP; exact rfl) <;> intro h) | apply AWp.ret | apply AWp.skip | (apply w_pickF; exact rfl; exact rfl; exact rfl) | (apply w_call (hsz); exact rfl; exact rfl; focus ((repeat (first | exact im_nil | refine im_cons rfl (im_agg2 (.ints _) (.intss _)) ?_ | refine im_cons rfl (.val _) ?_)); done)) | (apply w_callm (tg); (focus ((repeat (first | exact im_nil | refine im_cons rfl (im_agg2 (.ints _) (.intss _)) ?_)); done)); rintro r os0 ⟨rfl, rfl⟩; try simp only [List.nil_append, List.cons_append, List.set_cons_zero, List.set_cons_succ, List.length_cons, List.length_nil, Nat.reduceAdd, AV.sh, AV.sh1, AV.sh0, AO.sh, List.map_cons, List.map_nil, Nat.zero_add, Nat.add_zero, setAll]) | (apply w_callc [] (hs); exact rfl; (exact handed0); (focus ((repeat (first | exact imu_nil | refine imu_cons rfl (imu_agg2 (.sli rfl (by decide)) (.sls rfl (by decide))) ?_)); done)); rintro r os0 ⟨rfl, rfl⟩; try simp only [List.nil_append, List.cons_append, List.set_cons_zero, List.set_cons_succ, List.length_cons, List.length_nil, Nat.reduceAdd, AV.sh, AV.sh1, AV.sh0, AO.sh, List.map_cons, List.map_nil, Nat.zero_add, Nat.add_zero, setAll]) | (apply w_callc [] (hi); exact rfl; (exact handed0); (focus ((repeat (first | exact imu_nil | refine imu_cons rfl (imu_agg2 (.sli rfl (by decide)) (.sls rfl (by decide))) ?_)); done)); rintro r os0 ⟨rfl, rfl⟩; try simp only [List.nil_append, List.cons_append, List.set_cons_zero, List.set_cons_succ, List.length_cons, List.length_nil, Nat.reduceAdd, AV.sh, AV.sh1, AV.sh0, AO.sh, List.map_cons, List.map_nil, Nat.zero_add, Nat.add_zero, setAll]) | (apply w_call (ef); exact rfl; exact rfl; focus ((repeat (first | exact im_nil | refine im_cons rfl (.sli rfl) ?_)); done)) | (apply w_call (eg); exact rfl; exact rfl; focus ((repeat (first | exact im_nil | refine im_cons rfl (.sli rfl) ?_)); done)) | omega | ((first | apply w_lss | apply w_neq | apply w_extv); iterate 3 exact rfl) | ((apply w_ext); iterate 3 exact rfl) | ((first | apply w_not | apply w_boxa); iterate 2 exact rfl) | (apply w_ldst; iterate 5 exact rfl) | (apply w_alst; iterate 2 exact rfl) | (apply w_stst; iterate 5 exact rfl))
  all_goals try (exfalso; omega)
  refine AWp.regionG [] (by kernel_rfl) (envC := ⟨133, [(1, .optr 0 0), (4, .own 1), (5, .own 2), (6, .i 0), (7, .optr 5 0), (8, .own 6), (9, .own 7), (10, .i 0), (56, .b false)]⟩) (osC := [.bx 25 [.ints W, .intss E], .sli 2 F, .sli 2 G, .sli 2 W, .sls 22 2 E, .bx 29 [.own 3, .own 4], .sli 2 F, .sli 2 G]) rfl rfl ?_ ?_
  · repeat' (first | (apply AOps.nil; try simp only [List.nil_append, List.cons_append, List.set_cons_zero, List.set_cons_succ, List.length_cons, List.length_nil, Nat.reduceAdd, AV.sh, AV.sh1, AV.sh0, AO.sh, List.map_cons, List.map_nil, Nat.zero_add, Nat.add_zero, setAll]) | apply AllOfG.nil | (apply AllOfG.consQ; exact rfl; exact rfl) | (apply AllOfG.consS; exact rfl; exact rfl) | (apply AAnyG.takeW; exact rfl; exact rfl; kernel_rfl; kernel_rfl) | (apply AAnyG.takeL; exact rfl; exact rfl; kernel_rfl) | (apply AAnyG.all; exact rfl) | (apply AAnyG.done; exact rfl) | (apply w_callm (tg); (focus ((repeat (first | exact im_nil | refine im_cons rfl (im_agg2 (.ints _) (.intss _)) ?_)); done)); rintro r os0 ⟨rfl, rfl⟩; try simp only [List.nil_append, List.cons_append, List.set_cons_zero, List.set_cons_succ, List.length_cons, List.length_nil, Nat.reduceAdd, AV.sh, AV.sh1, AV.sh0, AO.sh, List.map_cons, List.map_nil, Nat.zero_add, Nat.add_zero, setAll]) | (apply w_call (heq); exact rfl; exact rfl; focus ((repeat (first | exact im_nil | refine im_cons rfl (im_agg2 (.sli rfl) (.sls rfl)) ?_)); done)) | ((apply w_not); iterate 2 exact rfl) | (apply w_ldst; iterate 5 exact rfl))
    all_goals (apply Or.inr; refine ⟨[0, 3, 4, 5, 6, 7, 8, 9], ⟨by decide, fun x hx => Nat.lt_of_lt_of_le ((by decide : ∀ x ∈ ([0, 3, 4, 5, 6, 7, 8, 9] : List Nat), x < 10) x hx) (Nat.le_of_ble_eq_true rfl)⟩, lee rfl ?_, ?_, rfl, rfl⟩; (focus ((repeat (first | exact le_nil | refine le_eq rfl rfl ?_)); done)); (focus ((repeat (first | exact lo_nil | refine lo_eq rfl ?_)); done)))
  repeat' (first | (apply AOps.nil; try simp only [List.nil_append, List.cons_append, List.set_cons_zero, List.set_cons_succ, List.length_cons, List.length_nil, Nat.reduceAdd, AV.sh, AV.sh1, AV.sh0, AO.sh, List.map_cons, List.map_nil, Nat.zero_add, Nat.add_zero, setAll]) | ((apply AOps.splitP; exact rfl; exact rfl) <;> intro h) | (apply w_move; exact rfl; exact rfl) | (apply w_assign; exact rfl; exact rfl) | apply AWp.seq | apply AWp.region | ((apply AWp.condP; exact rfl) <;> intro h) | (apply AWp.condT; exact rfl) | (apply AWp.condF; exact rfl) | apply AWp.ret | apply AWp.skip | (apply w_skip; exact rfl) | (apply w_pickT; exact rfl; exact rfl; exact rfl) | (apply w_pickF; exact rfl; exact rfl; exact rfl) | (apply w_callu [3, 4] (mg); (exact handed2 rfl rfl rfl True.intro True.intro); (focus ((repeat (first | exact imu_nil | refine imu_cons rfl (.val _) ?_ | refine imu_cons rfl (imu_agg2 (.own rfl) (.own rfl)) ?_)); done)); rintro v os0 ⟨rfl, rfl⟩; try simp only [List.nil_append, List.cons_append, List.set_cons_zero, List.set_cons_succ, List.length_cons, List.length_nil, Nat.reduceAdd, AV.sh, AV.sh1, AV.sh0, AO.sh, List.map_cons, List.map_nil, Nat.zero_add, Nat.add_zero, setAll]) | (apply w_callu [6] (mf); (exact handed1 rfl True.intro); (focus ((repeat (first | exact imu_nil | refine imu_cons rfl (.val _) ?_ | refine imu_cons rfl (.own rfl) ?_)); done)); rintro v os0 ⟨rfl, rfl⟩; try simp only [List.nil_append, List.cons_append, List.set_cons_zero, List.set_cons_succ, List.length_cons, List.length_nil, Nat.reduceAdd, AV.sh, AV.sh1, AV.sh0, AO.sh, List.map_cons, List.map_nil, Nat.zero_add, Nat.add_zero, setAll]) | (apply w_callu [7] (mh); (exact handed1 rfl True.intro); (focus ((repeat (first | exact imu_nil | refine imu_cons rfl (.val _) ?_ | refine imu_cons rfl (.own rfl) ?_)); done)); rintro v os0 ⟨rfl, rfl⟩; try simp only [List.nil_append, List.cons_append, List.set_cons_zero, List.set_cons_succ, List.length_cons, List.length_nil, Nat.reduceAdd, AV.sh, AV.sh1, AV.sh0, AO.sh, List.map_cons, List.map_nil, Nat.zero_add, Nat.add_zero, setAll]) | (apply w_call (ef); exact rfl; exact rfl; focus ((repeat (first | exact im_nil | refine im_cons rfl (.sli rfl) ?_)); done)) | (apply w_call (eg); exact rfl; exact rfl; focus ((repeat (first | exact im_nil | refine im_cons rfl (.sli rfl) ?_)); done)) | (apply w_call (hf); exact rfl; exact rfl; focus ((repeat (first | exact im_nil | refine im_cons rfl (.val _) ?_ | refine im_cons rfl (.sli rfl) ?_)); done)) | (apply w_call (hg); exact rfl; exact rfl; focus ((repeat (first | exact im_nil | refine im_cons rfl (.val _) ?_ | refine im_cons rfl (.sli rfl) ?_)); done)) | (apply w_callm (tg); (focus ((repeat (first | exact im_nil | refine im_cons rfl (im_agg2 (.ints _) (.intss _)) ?_)); done)); rintro r os0 ⟨rfl, rfl⟩; try simp only [List.nil_append, List.cons_append, List.set_cons_zero, List.set_cons_succ, List.length_cons, List.length_nil, Nat.reduceAdd, AV.sh, AV.sh1, AV.sh0, AO.sh, List.map_cons, List.map_nil, Nat.zero_add, Nat.add_zero, setAll]) | (apply w_callc [] (hi); exact rfl; (exact handed0); (focus ((repeat (first | exact imu_nil | refine imu_cons rfl (imu_agg2 (.sli rfl (by decide)) (.sls rfl (by decide))) ?_)); done)); rintro r os0 ⟨rfl, rfl⟩; try simp only [List.nil_append, List.cons_append, List.set_cons_zero, List.set_cons_succ, List.length_cons, List.length_nil, Nat.reduceAdd, AV.sh, AV.sh1, AV.sh0, AO.sh, List.map_cons, List.map_nil, Nat.zero_add, Nat.add_zero, setAll]) | omega | ((first | apply w_lss | apply w_neq | apply w_extv); iterate 3 exact rfl) | ((apply w_ext); iterate 3 exact rfl) | ((apply w_not); iterate 2 exact rfl) | (apply w_ldst; iterate 5 exact rfl))
  all_goals try (exfalso; omega)
  all_goals exact .bool Try.results4 rfl rfl
theorem lawBranchDet_c (W : List Int) (E : List (List Int)) : AFnV Try.prog 4 [.agg [.ints W, .intss E]] (.bool true) := by
  by_cases hz : szGr W E 1048576 < 0
  · have hsz := szGraph_c W E
    (refine AFnV.start Try.func4 Try.ntmps4 rfl (by kernel_rfl) fun hk => ?_; simp only [Env.start, enumF, List.length_cons, List.length_nil, Nat.reduceAdd, Nat.reduceSub, List.cons_append, List.nil_append])
    repeat' (first | (apply AOps.nil; try simp only [List.nil_append, List.cons_append, List.set_cons_zero, List.set_cons_succ, List.length_cons, List.length_nil, Nat.reduceAdd, AV.sh, AV.sh1, AV.sh0, AO.sh, List.map_cons, List.map_nil, Nat.zero_add, Nat.add_zero, setAll]) | (apply w_move; exact rfl; exact rfl) | (apply w_assign; exact rfl; exact rfl) | apply AWp.seq | apply AWp.region | ((apply AWp.condP; exact rfl) <;> intro h) | apply AWp.ret | apply AWp.skip | (apply w_call (hsz); exact rfl; exact rfl; focus ((repeat (first | exact im_nil | refine im_cons rfl (im_agg2 (.ints _) (.intss _)) ?_ | refine im_cons rfl (.val _) ?_)); done)) | omega | ((apply w_lss); iterate 3 exact rfl) | ((apply w_boxa); iterate 2 exact rfl) | (apply w_ldst; iterate 5 exact rfl))
    all_goals try (exfalso; omega)
    all_goals exact .bool Try.results4 rfl rfl
  · obtain ⟨b1, b2, b3⟩ := szGr_ok hz
    have hcnt : cnt E E.length ≤ 4503599627370496 := by
      have c2 := cnt_le b3 E.length
      have : E.length * 1048576 ≤ 1048576 * 1048576 := Nat.mul_le_mul_right _ b2
      omega
    cases hv : gok W E with
    | false => exact lawBranch_nil W E b1 b2 b3 hcnt hz 1 (specBranch_bad W E hv) (implBranch_bad W E hv)
    | true =>
      by_cases hb : bdOk W.length (nearL E) W
      · exact lawBranch_own W E b1 b2 b3 hcnt hz _ _ (by simp [bdF]) (by simp [bdG]) (specBranch_ok W E hv hb) (implBranch_ok W E hv hb)
      · exact lawBranch_nil W E b1 b2 b3 hcnt hz 3 (specBranch_lim W E hv hb) (implBranch_lim W E hv hb)
end Go.Proofs.Ytbalbiliejjnoaa
