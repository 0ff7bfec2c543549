/-
  Parts of the proof, one behind the other: contracts of functions and plain laws. No condition.
-/
import Derived.Shelf.Small.Bits
import Derived.Test.YtkickbnahajpoaaProg
import Derived.Test.YtkickbnahajpoaaPt4LinearChange
/-
  A row of an own slice of rows is handed to a function that writes to it. No condition.
-/
namespace Go.Proofs.Ytkickbnahajpoaa
open Go Go.RowKit

theorem flatten_disj {bs : List (List Nat)} (h : bs.flatten.Nodup) {i j : Nat} (hij : i ≠ j) {c : Nat} (hi : c ∈ bs.getD i []) (hj : c ∈ bs.getD j []) : False := by
  have lt : ∀ {k : Nat}, c ∈ bs.getD k [] → k < bs.length := fun {k} hk => by
    rcases Nat.lt_or_ge k bs.length with h1 | h1
    · exact h1
    · rw [List.getD_eq_getElem?_getD, List.getElem?_eq_none h1] at hk; simp at hk
  have hil := lt hi
  have hjl := lt hj
  have ej : bs.getD j [] = bs[j] := by simp [List.getD_eq_getElem?_getD, hjl]
  rw [flatten_at hil] at h
  simp only [List.nodup_append, List.mem_append] at h
  obtain ⟨_, ⟨_, _, h2⟩, h3⟩ := h
  rcases Nat.lt_or_ge j i with h1 | h1
  · have : c ∈ (bs.take i).flatten := List.mem_flatten.2 ⟨bs[j], by rw [List.mem_take_iff_getElem]; exact ⟨j, by omega, rfl⟩, by rw [← ej]; exact hj⟩
    exact h3 c this c (.inl hi) rfl
  · have : c ∈ (bs.drop (i + 1)).flatten := List.mem_flatten.2 ⟨bs[j], by rw [List.mem_drop_iff_getElem]; exact ⟨j - (i + 1), by omega, by congr 1; omega⟩, by rw [← ej]; exact hj⟩
    exact h2 c hi c this rfl

section
variable {P : Program} {env : Env} {os : List AO} {d : Tmp} {ty : TypeId} {pos : String} {af : Array Edge} {l rest : List Oper} {K : APost}
theorem w_callrow {f : FuncId} {ats : Array TypeId} {v0 : Value} {h i : Nat} {e e2 : TypeId} {xss : List (List Int)} {Q : Value → List AO → Prop} {x y : Operand} (hx : evo env x = some (.orow h i)) (hs : os[h]? = some (.sls e e2 xss)) (hy : evo env y = some (.val v0))
    (hc : AFnU P f [.own 0, .val v0] [.sli e2 (xss.getD i [])] Q)
    (hQ : ∀ v os', Q v os' → ∃ row', os' = [.sli e2 row'])
    (h' : ∀ v row', Q v [.sli e2 row'] → AOps P .seq l rest K (env.up d (.val v)) (os.set h (.sls e e2 (xss.set i row')))) :
    AOps P .seq l (⟨some d, .call { callee := .value (.func f), args := #[x, y], argTypes := ats }, ty, pos, af, none⟩ :: rest) K env os := by
  refine AOps.ca (Q := fun r en o => ∃ v row', Q v [.sli e2 row'] ∧ r = .val v ∧ en = env ∧ o = os.set h (.sls e e2 (xss.set i row'))) ?_ fun r en o ⟨v, row', h0, h1, h2, h3⟩ => by subst h1; subst h2; subst h3; exact h' v row' h0
  intro base w gs tm hr
  have hev := hr.ev x
  rw [ev_of hx] at hev
  generalize hv : Act.eval ⟨tm, []⟩ x = u at hev
  cases hev with
  | @orow _ _ gh _ hg hrow =>
    obtain ⟨vs, bs, mb, a1, a2, a3, a4, a5, a6, a7, a8⟩ := hr.ho _ _ _ hg hs
    rw [a4] at hrow
    obtain ⟨r1, r2, r3⟩ := a5 _ _ hrow
    have hiv : i < vs.length := (List.getElem?_eq_some_iff.1 hrow).1
    let gr : Gh := ⟨u, u.ownBlock.getD 0, u.ownBlock.toList, []⟩
    have hgr : GB gr := by
      show (u.ownBlock = none ∧ u.ownBlock.toList = []) ∨ (u.ownBlock = some (u.ownBlock.getD 0) ∧ u.ownBlock.toList = [u.ownBlock.getD 0])
      cases u.ownBlock with
      | none => exact .inl ⟨rfl, rfl⟩
      | some b => exact .inr ⟨rfl, rfl⟩
    have sub : ∀ b, b ∈ gr.bl → b ∈ gh.bl := by
      intro b hb
      have hb' : b ∈ bs.getD i [] := by rw [← r3]; exact hb
      rw [a7]
      refine List.mem_append.2 (.inr (List.mem_flatten.2 ⟨bs.getD i [], ?_, hb'⟩))
      have hib : i < bs.length := by omega
      rw [List.getD_eq_getElem?_getD, List.getElem?_eq_getElem hib]; simp
    have one : ∀ {k : Nat} {g : Gh}, [gr][k]? = some g → k = 0 ∧ g = gr := by
      intro k g hk
      have := (List.getElem?_eq_some_iff.1 hk).1
      simp at this
      subst this
      simp at hk
      exact ⟨rfl, hk.symm⟩
    have hO : Objs base w [gr] [.sli e2 (xss.getD i [])] := by
      refine ⟨rfl, fun o ho => by simp at ho; subst ho; trivial, ?_, ?_, ?_⟩
      · intro k g o hk ho
        obtain ⟨rfl, rfl⟩ := one hk
        simp at ho
        subst ho
        exact ⟨r1, r2, hgr⟩
      · intro k m g g' hkm hk hm
        obtain ⟨rfl, _⟩ := one hk
        obtain ⟨rfl, _⟩ := one hm
        exact absurd rfl hkm
      · intro k g hk b hb
        obtain ⟨_, rfl⟩ := one hk
        exact hr.hn _ _ _ hg hs (by simp) b (sub b hb)
    refine ⟨f, _, run_call hc.1 [x, y] ats _ rfl w, (hc.2 base w [gr] _ hr.hb hO (by simp) fun k => ?_).mono ?_⟩
    · match k with
      | 0 =>
        have : RV w (okOf [gr] [.sli e2 (xss.getD i [])]) [gr] u (.own 0) := RV.own (g := gr) (by simp)
        simpa [hv] using this
      | 1 =>
        have hyv := hr.evv (ev_of hy)
        have : RV w (okOf [gr] [.sli e2 (xss.getD i [])]) [gr] (Act.eval ⟨tm, []⟩ y) (.val v0) := by rw [hyv]; exact .val _
        simpa using this
      | k + 2 => exact .any _
    · rintro en w' ⟨v, os', rfl, hq, hO', hbel, hw⟩
      obtain ⟨row', rfl⟩ := hQ v os' hq
      have hunch : ∀ c, c < w.heap.size → c ∉ gr.bl → w'.heap[c]? = w.heap[c]? := fun c hc hn => hw c hc fun k g hk => by
        obtain ⟨_, rfl⟩ := one hk
        exact hn
      have hother : ∀ c, c < w.heap.size → c ∉ gh.bl → w'.heap[c]? = w.heap[c]? := fun c hc hn => hunch c hc fun h1 => hn (sub c h1)
      have a8' : (mb ++ bs.flatten).Nodup := by rw [← a7]; exact a8
      have grb : ∀ c, c ∈ gr.bl → c ∈ bs.getD i [] := fun c hc => by rw [← r3]; exact hc
      have inbl : ∀ c, c ∈ gh.bl → c < w.heap.size := fun c hc => (hr.hn _ _ _ hg hs (by simp) c hc).2
      have memfl : ∀ {k : Nat} {c : Nat}, c ∈ bs.getD k [] → c ∈ bs.flatten := by
        intro k c hc
        have hkb : k < bs.length := by
          rcases Nat.lt_or_ge k bs.length with h1 | h1
          · exact h1
          · rw [List.getD_eq_getElem?_getD, List.getElem?_eq_none h1] at hc; simp at hc
        exact List.mem_flatten.2 ⟨bs.getD k [], by rw [List.getD_eq_getElem?_getD, List.getElem?_eq_getElem hkb]; simp, hc⟩
      refine ⟨v, .val v, env, os.set h (.sls e e2 (xss.set i row')), gs, rfl, ⟨v, row', hq, rfl, rfl, rfl⟩, hr.upd hg hs trivial _ trivial hother hbel.size (fun _ => ?_), .val v, hbel⟩
      refine ⟨vs, bs, mb, ?_, by simp [a2], by simp [a3], a4, fun j z hj => ?_, a6, a7, a8⟩
      · refine ownsRow_of_block a1 fun c hc => ?_
        have hcm : c ∈ mb := by
          rcases a6 with ⟨c1, _⟩ | ⟨c1, c2⟩
          · rw [c1] at hc; cases hc
          · rw [c1] at hc; cases hc; rw [c2]; simp
        have hcg : c ∈ gh.bl := by rw [a7]; exact List.mem_append.2 (.inl hcm)
        exact hunch c (inbl c hcg) fun h1 => (List.nodup_append.1 a8').2.2 c hcm c (memfl (grb c h1)) rfl
      · have egd : (xss.set i row').getD j [] = if i = j then row' else xss.getD j [] := by
          simp only [List.getD_eq_getElem?_getD, List.getElem?_set]
          by_cases e1 : i = j
          · subst e1
            have : i < xss.length := by omega
            simp [this]
          · simp [e1]
        rw [egd]
        by_cases e1 : i = j
        · subst e1
          rw [if_pos rfl]
          have h0 := hO'.ho 0 gr (.sli e2 row') (by simp) (by simp)
          obtain ⟨q1, q2, q3⟩ := h0
          have ez : z = u := by rw [hrow] at hj; exact (Option.some.inj hj).symm
          rw [ez]
          exact ⟨q1, q2, r3⟩
        · rw [if_neg e1]
          obtain ⟨q1, q2, q3⟩ := a5 j z hj
          refine ⟨ownsRow_of_block q1 fun c hc => ?_, q2, q3⟩
          have hcj : c ∈ bs.getD j [] := by rw [← q3, hc]; simp
          have hcg : c ∈ gh.bl := by rw [a7]; exact List.mem_append.2 (.inr (memfl hcj))
          exact hunch c (inbl c hcg) fun h1 => flatten_disj (List.nodup_append.1 a8').2.1 e1 (grb c h1) hcj
end

end Go.Proofs.Ytkickbnahajpoaa
/-
  Marks written into lists of lists. No condition but a bound on the sizes.
-/
namespace Go.Proofs.Ytkickbnahajpoaa
open Go Go.RowKit
attribute [local irreducible] AWp AOps ResIs Ret1 QOp LOp COp AFnV AFn Imms LeE LeO
set_option maxHeartbeats 1000000
set_option linter.unusedSimpArgs false
set_option linter.unusedVariables false

/-! ### Marks -/
/-- How many entries the first i rows have. -/
def cnt (xss : List (List Int)) : Nat → Nat
  | 0 => 0
  | i + 1 => cnt xss i + (gets xss i).length
/-- The first i rows marked, from k on. -/
def mrk (xss : List (List Int)) (k : Int) (i : Nat) : List (List Int) := (List.range xss.length).map fun j => if j < i then iota (k + cnt xss j) (gets xss j).length else gets xss j

theorem mrk_len (xss : List (List Int)) (k : Int) (i : Nat) : (mrk xss k i).length = xss.length := by simp [mrk]
theorem mrk_zero (xss : List (List Int)) (k : Int) : mrk xss k 0 = xss := by
  apply List.ext_getElem?
  intro j
  simp only [mrk, List.getElem?_map, Nat.not_lt_zero, if_false]
  by_cases h : j < xss.length
  · simp [h, gets]
  · rw [List.getElem?_eq_none (by simp; omega), List.getElem?_eq_none (by omega)]; rfl
theorem mrk_get (xss : List (List Int)) (k : Int) (i j : Nat) (h : j < xss.length) : (mrk xss k i).getD j [] = if j < i then iota (k + cnt xss j) (gets xss j).length else gets xss j := by
  simp [mrk, List.getD_eq_getElem?_getD, h]
theorem mrk_gets (xss : List (List Int)) (k : Int) (i j : Nat) (h : j < xss.length) : gets (mrk xss k i) (j : Nat) = if j < i then iota (k + cnt xss j) (gets xss j).length else gets xss j := by
  unfold gets
  rw [Int.toNat_natCast]
  exact mrk_get xss k i j h
theorem mrk_set (xss : List (List Int)) (k : Int) (i : Nat) (h : i < xss.length) : (mrk xss k i).set i (iota (k + cnt xss i) (gets xss i).length) = mrk xss k (i + 1) := by
  apply List.ext_getElem?
  intro j
  rw [List.getElem?_set, mrk_len]
  by_cases e : i = j
  · subst e
    simp [h, mrk]
  · rw [if_neg e]
    simp only [mrk, List.getElem?_map]
    by_cases h2 : j < xss.length
    · simp only [List.getElem?_range h2, Option.map_some]
      by_cases h3 : j < i
      · rw [if_pos h3, if_pos (by omega)]
      · rw [if_neg h3, if_neg (by omega)]
    · rw [List.getElem?_eq_none (by simp; omega)]
      rfl
theorem cnt_mono (xss : List (List Int)) (i : Nat) : ∀ j, cnt xss i ≤ cnt xss (i + j)
  | 0 => Nat.le_refl _
  | j + 1 => by have := cnt_mono xss i j; rw [← Nat.add_assoc, cnt]; omega

theorem markInt64SS_c (T T2 : TypeId) (xss : List (List Int)) (k : Int) (hq : 0 ≤ k ∧ k ≤ 4503599627370496) (hl : cnt xss xss.length ≤ 4503599627370496) (hx : xss.length ≤ 4503599627370496) :
    AFnU Try.prog 29 [.own 0, .i k] [.sls T T2 xss] (fun v os => v = .int .i64 (k + cnt xss xss.length) ∧ os = [.sls T T2 (mrk xss k xss.length)]) := by
  (refine AFnU.start Try.func29 Try.ntmps29 rfl (by kernel_rfl) fun K => ?_; simp only [Env.start, enumF, List.length_cons, List.length_nil, Nat.reduceAdd, Nat.reduceSub, List.cons_append, List.nil_append])
  repeat' (first
  | (apply AOps.nil; try simp only [List.nil_append, List.cons_append, List.set_cons_zero, List.set_cons_succ, List.length_cons, List.length_nil, Nat.reduceAdd, AV.sh, AV.sh1, AV.sh0, AO.sh, List.map_cons, List.map_nil, Nat.zero_add, Nat.add_zero, setAll])
  | ((apply AOps.splitP; exact rfl; exact rfl) <;> intro h)
  | ((apply AOps.splitN; exact rfl; exact rfl) <;> intro h)
  | (apply w_move; exact rfl; exact rfl)
  | (apply w_assign; exact rfl; exact rfl)
  | apply AWp.seq
  | apply AWp.region
  | ((apply AWp.condP; exact rfl) <;> intro h)
  | ((apply AWp.condN; exact rfl) <;> intro h)
  | (apply AWp.condT; exact rfl)
  | (apply AWp.condF; exact rfl)
  | ((apply AWp.condB; exact rfl) <;> intro h)
  | apply AWp.block
  | apply AWp.ret
  | apply AWp.exit
  | apply AWp.skip
  | (apply AWp.regionQ; kernel_rfl; kernel_rfl)
  | (apply if_pos'; exact rfl)
  | (apply if_neg'; decide)
  | (apply w_skip; exact rfl)
  | (apply w_pickT; exact rfl; exact rfl; exact rfl)
  | (apply w_pickF; exact rfl; exact rfl; exact rfl)
  | (apply w_len; exact rfl; exact rfl; first | exact .ints _ | exact .intss _ | exact .sli rfl | exact .sls rfl | exact .slr rfl | exact .orow rfl | exact .nil)
  | ((first | apply w_lss | apply w_leq | apply w_gtr | apply w_geq | apply w_eql | apply w_neq | apply w_add | apply w_sub | apply w_mul | apply w_idx | apply w_ld | apply w_fld | apply w_fa | apply w_extv | apply w_min | apply w_max | apply w_slhi | apply w_sllo | apply w_bs2); iterate 3 exact rfl)
  | ((first | apply w_eqlb | apply w_neqb | apply w_idxs | apply w_lds | apply w_ext); iterate 3 exact rfl)
  | (apply w_rem; exact rfl; exact rfl; exact rfl; (focus (omega; done)); (focus (omega; done)))
  | (apply w_quo; exact rfl; exact rfl; exact rfl; (focus (omega; done)); (focus (omega; done)))
  | (apply w_remT; exact rfl; exact rfl; exact rfl)
  | (apply w_quoT; exact rfl; exact rfl; exact rfl)
  | ((first | apply w_not | apply w_neg | apply w_conv | apply w_build0 | apply w_bs1 | apply w_boxa); iterate 2 exact rfl)
  | (apply w_idxo; exact rfl; exact rfl; (first | exact .sli rfl | exact .sls rfl | exact .slr rfl); exact rfl)
  | ((first | apply w_idxr | apply w_ldr); iterate 4 exact rfl)
  | (apply w_ldo; iterate 4 exact rfl)
  | (apply w_ldls; iterate 4 exact rfl)
  | (apply w_ldrp; iterate 4 exact rfl)
  | (apply w_ldb; iterate 5 exact rfl)
  | (apply w_ldst; iterate 5 exact rfl)
  | ((first | apply w_sllh | apply w_stbi); iterate 4 exact rfl)
  | ((first | apply w_oslo | apply w_oshi | apply w_stbii); iterate 4 exact rfl)
  | (apply w_copy; exact rfl; (first | exact .own rfl rfl rfl | exact .osub); exact rfl; rotate_left 1; exact rfl; (first | exact .ints _ | exact .sli rfl | exact .orow rfl | exact .nil | exact .osub rfl (by simp; omega)))
  | (apply w_build1; exact rfl; exact rfl; (first | exact one_val rfl rfl | exact one_ints | exact one_intss | exact one_own rfl True.intro))
  | (apply w_build2; exact rfl; exact rfl; exact rfl; (first | exact one_val rfl rfl | exact one_ints | exact one_intss | exact one_own rfl True.intro); (first | exact one_val rfl rfl | exact one_ints | exact one_intss | exact one_own rfl True.intro))
  | (apply w_bs0; iterate 1 exact rfl)
  | (apply w_appn; exact rfl; exact rfl; (first | exact .ints _ | exact .sli rfl | exact .orow rfl | exact .nil | exact .osub rfl (by simp; omega)); exact rfl)
  | (apply w_app; exact rfl; exact rfl; exact rfl; exact rfl; (first | exact .ints _ | exact .sli rfl | exact .orow rfl | exact .nil | exact .osub rfl (by simp; omega)); rotate_left 1; simp only [Env.mp, List.map_cons, List.map_nil, List.set_cons_zero, List.set_cons_succ, AV.kill, AV.kill1, AO.kill, AV.noRow, AV.noRow1, AO.via, reduceIte, Nat.reduceEqDiff, Nat.reduceLT, Env.up, Nat.zero_ne_one, Nat.one_ne_zero, Nat.reduceAdd, List.cons_append, List.nil_append]; rotate_left 1)
  | (apply w_alst; iterate 2 exact rfl)
  | (apply w_alone; iterate 3 exact rfl)
  | (apply w_mki; exact rfl; exact rfl; rotate_left 3; exact rfl; rotate_left 1)
  | (apply w_mkr; exact rfl; exact rfl; rotate_left 3; exact rfl; rotate_left 1)
  | (apply w_strow; exact rfl; exact rfl; rotate_left 1; exact rfl; exact rfl; exact rfl; exact rfl; simp only [Env.mp, List.map_cons, List.map_nil, List.set_cons_zero, List.set_cons_succ, AV.kill, AV.kill1, AO.kill, AV.noRow, AV.noRow1, AO.via, reduceIte, Nat.reduceEqDiff, Nat.reduceLT, Env.up, Nat.zero_ne_one, Nat.one_ne_zero, Nat.reduceAdd, List.cons_append, List.nil_append]; rotate_left 1)
  | (apply w_sti; exact rfl; exact rfl; rotate_left 1; exact rfl; rotate_left 2)
  | (apply w_stst; iterate 5 exact rfl)
  | (apply w_stbv; iterate 6 exact rfl)
  | (apply w_stbo; exact rfl; exact rfl; exact rfl; exact rfl; exact rfl; exact True.intro)
  | ((apply AOps.splitB; exact rfl; exact rfl) <;> intro h)
  | apply AllOf.nil
  | (apply AllOf.cons; exact rfl)
  | (apply AAny.take; exact rfl; exact rfl; kernel_rfl; kernel_rfl)
  | (apply AAny.all; exact rfl)
  | (apply AAny.done; exact rfl)
  | (apply inI_of <;> omega)
  | omega
  | (simp <;> omega))
  refine AWp.loop (ι := Nat) (fun i => ⟨19, [(0, .own 0), (1, .i (k + cnt xss i)), (5, .i i)]⟩) (fun i => [.sls T T2 (mrk xss k i), .keep 2 K]) (fun i => i ≤ xss.length) (fun i => xss.length - i) 0 (by omega) ⟨lee rfl (by (repeat (first | exact le_nil | refine le_eq rfl rfl ?_ | refine le_eq rfl (congrArg AV.i (by omega)) ?_ | refine le_eq rfl (congrArg AV.i ((mrk_zero xss k).symm)) ?_ | refine le_eq rfl (congrArg AV.i ((Int.add_zero k).symm)) ?_))), by (repeat (first | exact lo_nil | refine lo_dead ?_ | refine lo_eq rfl ?_ | refine lo_eq (congrArg (AO.sli _) ((mrk_zero xss k).symm)) ?_ | refine lo_eq (congrArg (AO.sls _ _) ((mrk_zero xss k).symm)) ?_ | refine lo_eq (congrArg (AO.sli _) ((Int.add_zero k).symm)) ?_ | refine lo_eq (congrArg (AO.sls _ _) ((Int.add_zero k).symm)) ?_)), rfl, rfl⟩ ?_
  rintro i h0
  have e1 := mrk_len xss k i
  by_cases hi : i < xss.length
  · have c1 : cnt xss i ≤ cnt xss xss.length := by have := cnt_mono xss i (xss.length - i); rwa [show i + (xss.length - i) = xss.length by omega] at this
    have c2 : cnt xss (i + 1) ≤ cnt xss xss.length := by have := cnt_mono xss (i + 1) (xss.length - (i + 1)); rwa [show i + 1 + (xss.length - (i + 1)) = xss.length by omega] at this
    have c3 : cnt xss (i + 1) = cnt xss i + (gets xss i).length := rfl
    have e2 : (mrk xss k i).getD i [] = gets xss i := by rw [mrk_get xss k i i hi, if_neg (by omega)]
    have e2' : (mrk xss k i).getD ((i : Int)).toNat [] = gets xss i := e2
    have hm := markInt64S_c T2 ((mrk xss k i).getD ((i : Int)).toNat []) (k + cnt xss i) (by omega) (by rw [e2']; omega)
    have e3 : (mrk xss k i).set ((i : Int)).toNat (iota (k + cnt xss i) ((mrk xss k i).getD ((i : Int)).toNat []).length) = mrk xss k (i + 1) := by rw [e2']; exact mrk_set xss k i hi
    have e4 : k + (cnt xss i : Int) + (((mrk xss k i).getD ((i : Int)).toNat []).length : Int) = k + (cnt xss (i + 1) : Int) := by rw [e2', c3]; omega
    repeat' (first
  | (apply AOps.nil; try simp only [List.nil_append, List.cons_append, List.set_cons_zero, List.set_cons_succ, List.length_cons, List.length_nil, Nat.reduceAdd, AV.sh, AV.sh1, AV.sh0, AO.sh, List.map_cons, List.map_nil, Nat.zero_add, Nat.add_zero, setAll])
  | ((apply AOps.splitP; exact rfl; exact rfl) <;> intro h)
  | ((apply AOps.splitN; exact rfl; exact rfl) <;> intro h)
  | (apply w_move; exact rfl; exact rfl)
  | (apply w_assign; exact rfl; exact rfl)
  | apply AWp.seq
  | apply AWp.region
  | ((apply AWp.condP; exact rfl) <;> intro h)
  | ((apply AWp.condN; exact rfl) <;> intro h)
  | (apply AWp.condT; exact rfl)
  | (apply AWp.condF; exact rfl)
  | ((apply AWp.condB; exact rfl) <;> intro h)
  | apply AWp.block
  | apply AWp.ret
  | apply AWp.exit
  | apply AWp.skip
  | (apply AWp.regionQ; kernel_rfl; kernel_rfl)
  | (apply if_pos'; exact rfl)
  | (apply if_neg'; decide)
  | (apply w_skip; exact rfl)
  | (apply w_pickT; exact rfl; exact rfl; exact rfl)
  | (apply w_pickF; exact rfl; exact rfl; exact rfl)
  | (apply w_len; exact rfl; exact rfl; first | exact .ints _ | exact .intss _ | exact .sli rfl | exact .sls rfl | exact .slr rfl | exact .orow rfl | exact .nil)
  | (apply w_callrow; exact rfl; exact rfl; exact rfl; exact (hm); (focus (rintro v os0 ⟨rfl, rfl⟩; exact ⟨_, rfl⟩)); rintro v row0 ⟨rfl, hrow0⟩; cases hrow0; try simp only [List.nil_append, List.cons_append, List.set_cons_zero, List.set_cons_succ, List.length_cons, List.length_nil, Nat.reduceAdd, AV.sh, AV.sh1, AV.sh0, AO.sh, List.map_cons, List.map_nil, Nat.zero_add, Nat.add_zero, setAll])
  | ((first | apply w_lss | apply w_leq | apply w_gtr | apply w_geq | apply w_eql | apply w_neq | apply w_add | apply w_sub | apply w_mul | apply w_idx | apply w_ld | apply w_fld | apply w_fa | apply w_extv | apply w_min | apply w_max | apply w_slhi | apply w_sllo | apply w_bs2); iterate 3 exact rfl)
  | ((first | apply w_eqlb | apply w_neqb | apply w_idxs | apply w_lds | apply w_ext); iterate 3 exact rfl)
  | (apply w_rem; exact rfl; exact rfl; exact rfl; (focus (omega; done)); (focus (omega; done)))
  | (apply w_quo; exact rfl; exact rfl; exact rfl; (focus (omega; done)); (focus (omega; done)))
  | (apply w_remT; exact rfl; exact rfl; exact rfl)
  | (apply w_quoT; exact rfl; exact rfl; exact rfl)
  | ((first | apply w_not | apply w_neg | apply w_conv | apply w_build0 | apply w_bs1 | apply w_boxa); iterate 2 exact rfl)
  | (apply w_idxo; exact rfl; exact rfl; (first | exact .sli rfl | exact .sls rfl | exact .slr rfl); exact rfl)
  | ((first | apply w_idxr | apply w_ldr); iterate 4 exact rfl)
  | (apply w_ldo; iterate 4 exact rfl)
  | (apply w_ldls; iterate 4 exact rfl)
  | (apply w_ldrp; iterate 4 exact rfl)
  | (apply w_ldb; iterate 5 exact rfl)
  | (apply w_ldst; iterate 5 exact rfl)
  | ((first | apply w_sllh | apply w_stbi); iterate 4 exact rfl)
  | ((first | apply w_oslo | apply w_oshi | apply w_stbii); iterate 4 exact rfl)
  | (apply w_copy; exact rfl; (first | exact .own rfl rfl rfl | exact .osub); exact rfl; rotate_left 1; exact rfl; (first | exact .ints _ | exact .sli rfl | exact .orow rfl | exact .nil | exact .osub rfl (by simp; omega)))
  | (apply w_build1; exact rfl; exact rfl; (first | exact one_val rfl rfl | exact one_ints | exact one_intss | exact one_own rfl True.intro))
  | (apply w_build2; exact rfl; exact rfl; exact rfl; (first | exact one_val rfl rfl | exact one_ints | exact one_intss | exact one_own rfl True.intro); (first | exact one_val rfl rfl | exact one_ints | exact one_intss | exact one_own rfl True.intro))
  | (apply w_bs0; iterate 1 exact rfl)
  | (apply w_appn; exact rfl; exact rfl; (first | exact .ints _ | exact .sli rfl | exact .orow rfl | exact .nil | exact .osub rfl (by simp; omega)); exact rfl)
  | (apply w_app; exact rfl; exact rfl; exact rfl; exact rfl; (first | exact .ints _ | exact .sli rfl | exact .orow rfl | exact .nil | exact .osub rfl (by simp; omega)); rotate_left 1; simp only [Env.mp, List.map_cons, List.map_nil, List.set_cons_zero, List.set_cons_succ, AV.kill, AV.kill1, AO.kill, AV.noRow, AV.noRow1, AO.via, reduceIte, Nat.reduceEqDiff, Nat.reduceLT, Env.up, Nat.zero_ne_one, Nat.one_ne_zero, Nat.reduceAdd, List.cons_append, List.nil_append]; rotate_left 1)
  | (apply w_alst; iterate 2 exact rfl)
  | (apply w_alone; iterate 3 exact rfl)
  | (apply w_mki; exact rfl; exact rfl; rotate_left 3; exact rfl; rotate_left 1)
  | (apply w_mkr; exact rfl; exact rfl; rotate_left 3; exact rfl; rotate_left 1)
  | (apply w_strow; exact rfl; exact rfl; rotate_left 1; exact rfl; exact rfl; exact rfl; exact rfl; simp only [Env.mp, List.map_cons, List.map_nil, List.set_cons_zero, List.set_cons_succ, AV.kill, AV.kill1, AO.kill, AV.noRow, AV.noRow1, AO.via, reduceIte, Nat.reduceEqDiff, Nat.reduceLT, Env.up, Nat.zero_ne_one, Nat.one_ne_zero, Nat.reduceAdd, List.cons_append, List.nil_append]; rotate_left 1)
  | (apply w_sti; exact rfl; exact rfl; rotate_left 1; exact rfl; rotate_left 2)
  | (apply w_stst; iterate 5 exact rfl)
  | (apply w_stbv; iterate 6 exact rfl)
  | (apply w_stbo; exact rfl; exact rfl; exact rfl; exact rfl; exact rfl; exact True.intro)
  | ((apply AOps.splitB; exact rfl; exact rfl) <;> intro h)
  | apply AllOf.nil
  | (apply AllOf.cons; exact rfl)
  | (apply AAny.take; exact rfl; exact rfl; kernel_rfl; kernel_rfl)
  | (apply AAny.all; exact rfl)
  | (apply AAny.done; exact rfl)
  | (apply inI_of <;> omega)
  | omega
  | (simp <;> omega))
    all_goals exact ⟨i + 1, by omega, by omega, ⟨lee rfl (by (repeat (first | exact le_nil | refine le_eq rfl rfl ?_ | refine le_eq rfl (congrArg AV.i (by omega)) ?_ | refine le_eq rfl (congrArg AV.i (e4)) ?_ | refine le_eq rfl (congrArg AV.i (e3)) ?_))), by (repeat (first | exact lo_nil | refine lo_dead ?_ | refine lo_eq rfl ?_ | refine lo_eq (congrArg (AO.sli _) (e4)) ?_ | refine lo_eq (congrArg (AO.sls _ _) (e4)) ?_ | refine lo_eq (congrArg (AO.sli _) (e3)) ?_ | refine lo_eq (congrArg (AO.sls _ _) (e3)) ?_)), rfl, rfl⟩⟩
  · repeat' (first
  | (apply AOps.nil; try simp only [List.nil_append, List.cons_append, List.set_cons_zero, List.set_cons_succ, List.length_cons, List.length_nil, Nat.reduceAdd, AV.sh, AV.sh1, AV.sh0, AO.sh, List.map_cons, List.map_nil, Nat.zero_add, Nat.add_zero, setAll])
  | ((apply AOps.splitP; exact rfl; exact rfl) <;> intro h)
  | ((apply AOps.splitN; exact rfl; exact rfl) <;> intro h)
  | (apply w_move; exact rfl; exact rfl)
  | (apply w_assign; exact rfl; exact rfl)
  | apply AWp.seq
  | apply AWp.region
  | ((apply AWp.condP; exact rfl) <;> intro h)
  | ((apply AWp.condN; exact rfl) <;> intro h)
  | (apply AWp.condT; exact rfl)
  | (apply AWp.condF; exact rfl)
  | ((apply AWp.condB; exact rfl) <;> intro h)
  | apply AWp.block
  | apply AWp.ret
  | apply AWp.exit
  | apply AWp.skip
  | (apply AWp.regionQ; kernel_rfl; kernel_rfl)
  | (apply if_pos'; exact rfl)
  | (apply if_neg'; decide)
  | (apply w_skip; exact rfl)
  | (apply w_pickT; exact rfl; exact rfl; exact rfl)
  | (apply w_pickF; exact rfl; exact rfl; exact rfl)
  | (apply w_len; exact rfl; exact rfl; first | exact .ints _ | exact .intss _ | exact .sli rfl | exact .sls rfl | exact .slr rfl | exact .orow rfl | exact .nil)
  | omega
  | ((first | apply w_lss | apply w_leq | apply w_gtr | apply w_geq | apply w_eql | apply w_neq | apply w_add | apply w_sub | apply w_mul | apply w_idx | apply w_ld | apply w_fld | apply w_fa | apply w_extv | apply w_min | apply w_max | apply w_slhi | apply w_sllo | apply w_bs2); iterate 3 exact rfl)
  | ((first | apply w_eqlb | apply w_neqb | apply w_idxs | apply w_lds | apply w_ext); iterate 3 exact rfl)
  | (apply w_rem; exact rfl; exact rfl; exact rfl; (focus (omega; done)); (focus (omega; done)))
  | (apply w_quo; exact rfl; exact rfl; exact rfl; (focus (omega; done)); (focus (omega; done)))
  | (apply w_remT; exact rfl; exact rfl; exact rfl)
  | (apply w_quoT; exact rfl; exact rfl; exact rfl)
  | ((first | apply w_not | apply w_neg | apply w_conv | apply w_build0 | apply w_bs1 | apply w_boxa); iterate 2 exact rfl)
  | (apply w_idxo; exact rfl; exact rfl; (first | exact .sli rfl | exact .sls rfl | exact .slr rfl); exact rfl)
  | ((first | apply w_idxr | apply w_ldr); iterate 4 exact rfl)
  | (apply w_ldo; iterate 4 exact rfl)
  | (apply w_ldls; iterate 4 exact rfl)
  | (apply w_ldrp; iterate 4 exact rfl)
  | (apply w_ldb; iterate 5 exact rfl)
  | (apply w_ldst; iterate 5 exact rfl)
  | ((first | apply w_sllh | apply w_stbi); iterate 4 exact rfl)
  | ((first | apply w_oslo | apply w_oshi | apply w_stbii); iterate 4 exact rfl)
  | (apply w_copy; exact rfl; (first | exact .own rfl rfl rfl | exact .osub); exact rfl; rotate_left 1; exact rfl; (first | exact .ints _ | exact .sli rfl | exact .orow rfl | exact .nil | exact .osub rfl (by simp; omega)))
  | (apply w_build1; exact rfl; exact rfl; (first | exact one_val rfl rfl | exact one_ints | exact one_intss | exact one_own rfl True.intro))
  | (apply w_build2; exact rfl; exact rfl; exact rfl; (first | exact one_val rfl rfl | exact one_ints | exact one_intss | exact one_own rfl True.intro); (first | exact one_val rfl rfl | exact one_ints | exact one_intss | exact one_own rfl True.intro))
  | (apply w_bs0; iterate 1 exact rfl)
  | (apply w_appn; exact rfl; exact rfl; (first | exact .ints _ | exact .sli rfl | exact .orow rfl | exact .nil | exact .osub rfl (by simp; omega)); exact rfl)
  | (apply w_app; exact rfl; exact rfl; exact rfl; exact rfl; (first | exact .ints _ | exact .sli rfl | exact .orow rfl | exact .nil | exact .osub rfl (by simp; omega)); rotate_left 1; simp only [Env.mp, List.map_cons, List.map_nil, List.set_cons_zero, List.set_cons_succ, AV.kill, AV.kill1, AO.kill, AV.noRow, AV.noRow1, AO.via, reduceIte, Nat.reduceEqDiff, Nat.reduceLT, Env.up, Nat.zero_ne_one, Nat.one_ne_zero, Nat.reduceAdd, List.cons_append, List.nil_append]; rotate_left 1)
  | (apply w_alst; iterate 2 exact rfl)
  | (apply w_alone; iterate 3 exact rfl)
  | (apply w_mki; exact rfl; exact rfl; rotate_left 3; exact rfl; rotate_left 1)
  | (apply w_mkr; exact rfl; exact rfl; rotate_left 3; exact rfl; rotate_left 1)
  | (apply w_strow; exact rfl; exact rfl; rotate_left 1; exact rfl; exact rfl; exact rfl; exact rfl; simp only [Env.mp, List.map_cons, List.map_nil, List.set_cons_zero, List.set_cons_succ, AV.kill, AV.kill1, AO.kill, AV.noRow, AV.noRow1, AO.via, reduceIte, Nat.reduceEqDiff, Nat.reduceLT, Env.up, Nat.zero_ne_one, Nat.one_ne_zero, Nat.reduceAdd, List.cons_append, List.nil_append]; rotate_left 1)
  | (apply w_sti; exact rfl; exact rfl; rotate_left 1; exact rfl; rotate_left 2)
  | (apply w_stst; iterate 5 exact rfl)
  | (apply w_stbv; iterate 6 exact rfl)
  | (apply w_stbo; exact rfl; exact rfl; exact rfl; exact rfl; exact rfl; exact True.intro)
  | ((apply AOps.splitB; exact rfl; exact rfl) <;> intro h)
  | apply AllOf.nil
  | (apply AllOf.cons; exact rfl)
  | (apply AAny.take; exact rfl; exact rfl; kernel_rfl; kernel_rfl)
  | (apply AAny.all; exact rfl)
  | (apply AAny.done; exact rfl)
  | (apply inI_of <;> omega)
  | omega
  | (simp <;> omega))
    have e : i = xss.length := by omega
    subst e
    exact ⟨_, _, .int Try.results29 rfl rfl, ⟨rfl, rfl⟩, by simp, rfl, by simp [AO.plain]⟩

theorem heldInt64SS_c (xss : List (List Int)) (k : Int) (hq : 0 ≤ k ∧ k ≤ 4503599627370496) (hl : cnt xss xss.length ≤ 4503599627370496) (hx : xss.length ≤ 4503599627370496) :
    AFnV Try.prog 30 [.intss (mrk xss k xss.length), .i k] (.int .i64 (k + cnt xss xss.length)) := by
  (refine AFnV.start Try.func30 Try.ntmps30 rfl (by kernel_rfl) fun hk => ?_; simp only [Env.start, enumF, List.length_cons, List.length_nil, Nat.reduceAdd, Nat.reduceSub, List.cons_append, List.nil_append])
  repeat' (first
  | (apply AOps.nil; try simp only [List.nil_append, List.cons_append, List.set_cons_zero, List.set_cons_succ, List.length_cons, List.length_nil, Nat.reduceAdd, AV.sh, AV.sh1, AV.sh0, AO.sh, List.map_cons, List.map_nil, Nat.zero_add, Nat.add_zero, setAll])
  | ((apply AOps.splitP; exact rfl; exact rfl) <;> intro h)
  | ((apply AOps.splitN; exact rfl; exact rfl) <;> intro h)
  | (apply w_move; exact rfl; exact rfl)
  | (apply w_assign; exact rfl; exact rfl)
  | apply AWp.seq
  | apply AWp.region
  | ((apply AWp.condP; exact rfl) <;> intro h)
  | ((apply AWp.condN; exact rfl) <;> intro h)
  | (apply AWp.condT; exact rfl)
  | (apply AWp.condF; exact rfl)
  | ((apply AWp.condB; exact rfl) <;> intro h)
  | apply AWp.block
  | apply AWp.ret
  | apply AWp.exit
  | apply AWp.skip
  | (apply AWp.regionQ; kernel_rfl; kernel_rfl)
  | (apply if_pos'; exact rfl)
  | (apply if_neg'; decide)
  | (apply w_skip; exact rfl)
  | (apply w_pickT; exact rfl; exact rfl; exact rfl)
  | (apply w_pickF; exact rfl; exact rfl; exact rfl)
  | (apply w_len; exact rfl; exact rfl; first | exact .ints _ | exact .intss _ | exact .sli rfl | exact .sls rfl | exact .slr rfl | exact .orow rfl | exact .nil)
  | ((first | apply w_lss | apply w_leq | apply w_gtr | apply w_geq | apply w_eql | apply w_neq | apply w_add | apply w_sub | apply w_mul | apply w_idx | apply w_ld | apply w_fld | apply w_fa | apply w_extv | apply w_min | apply w_max | apply w_slhi | apply w_sllo | apply w_bs2); iterate 3 exact rfl)
  | ((first | apply w_eqlb | apply w_neqb | apply w_idxs | apply w_lds | apply w_ext); iterate 3 exact rfl)
  | (apply w_rem; exact rfl; exact rfl; exact rfl; (focus (omega; done)); (focus (omega; done)))
  | (apply w_quo; exact rfl; exact rfl; exact rfl; (focus (omega; done)); (focus (omega; done)))
  | (apply w_remT; exact rfl; exact rfl; exact rfl)
  | (apply w_quoT; exact rfl; exact rfl; exact rfl)
  | ((first | apply w_not | apply w_neg | apply w_conv | apply w_build0 | apply w_bs1 | apply w_boxa); iterate 2 exact rfl)
  | (apply w_idxo; exact rfl; exact rfl; (first | exact .sli rfl | exact .sls rfl | exact .slr rfl); exact rfl)
  | ((first | apply w_idxr | apply w_ldr); iterate 4 exact rfl)
  | (apply w_ldo; iterate 4 exact rfl)
  | (apply w_ldls; iterate 4 exact rfl)
  | (apply w_ldrp; iterate 4 exact rfl)
  | (apply w_ldb; iterate 5 exact rfl)
  | (apply w_ldst; iterate 5 exact rfl)
  | ((first | apply w_sllh | apply w_stbi); iterate 4 exact rfl)
  | ((first | apply w_oslo | apply w_oshi | apply w_stbii); iterate 4 exact rfl)
  | (apply w_copy; exact rfl; (first | exact .own rfl rfl rfl | exact .osub); exact rfl; rotate_left 1; exact rfl; (first | exact .ints _ | exact .sli rfl | exact .orow rfl | exact .nil | exact .osub rfl (by simp; omega)))
  | (apply w_build1; exact rfl; exact rfl; (first | exact one_val rfl rfl | exact one_ints | exact one_intss | exact one_own rfl True.intro))
  | (apply w_build2; exact rfl; exact rfl; exact rfl; (first | exact one_val rfl rfl | exact one_ints | exact one_intss | exact one_own rfl True.intro); (first | exact one_val rfl rfl | exact one_ints | exact one_intss | exact one_own rfl True.intro))
  | (apply w_bs0; iterate 1 exact rfl)
  | (apply w_appn; exact rfl; exact rfl; (first | exact .ints _ | exact .sli rfl | exact .orow rfl | exact .nil | exact .osub rfl (by simp; omega)); exact rfl)
  | (apply w_app; exact rfl; exact rfl; exact rfl; exact rfl; (first | exact .ints _ | exact .sli rfl | exact .orow rfl | exact .nil | exact .osub rfl (by simp; omega)); rotate_left 1; simp only [Env.mp, List.map_cons, List.map_nil, List.set_cons_zero, List.set_cons_succ, AV.kill, AV.kill1, AO.kill, AV.noRow, AV.noRow1, AO.via, reduceIte, Nat.reduceEqDiff, Nat.reduceLT, Env.up, Nat.zero_ne_one, Nat.one_ne_zero, Nat.reduceAdd, List.cons_append, List.nil_append]; rotate_left 1)
  | (apply w_alst; iterate 2 exact rfl)
  | (apply w_alone; iterate 3 exact rfl)
  | (apply w_mki; exact rfl; exact rfl; rotate_left 3; exact rfl; rotate_left 1)
  | (apply w_mkr; exact rfl; exact rfl; rotate_left 3; exact rfl; rotate_left 1)
  | (apply w_strow; exact rfl; exact rfl; rotate_left 1; exact rfl; exact rfl; exact rfl; exact rfl; simp only [Env.mp, List.map_cons, List.map_nil, List.set_cons_zero, List.set_cons_succ, AV.kill, AV.kill1, AO.kill, AV.noRow, AV.noRow1, AO.via, reduceIte, Nat.reduceEqDiff, Nat.reduceLT, Env.up, Nat.zero_ne_one, Nat.one_ne_zero, Nat.reduceAdd, List.cons_append, List.nil_append]; rotate_left 1)
  | (apply w_sti; exact rfl; exact rfl; rotate_left 1; exact rfl; rotate_left 2)
  | (apply w_stst; iterate 5 exact rfl)
  | (apply w_stbv; iterate 6 exact rfl)
  | (apply w_stbo; exact rfl; exact rfl; exact rfl; exact rfl; exact rfl; exact True.intro)
  | ((apply AOps.splitB; exact rfl; exact rfl) <;> intro h)
  | apply AllOf.nil
  | (apply AllOf.cons; exact rfl)
  | (apply AAny.take; exact rfl; exact rfl; kernel_rfl; kernel_rfl)
  | (apply AAny.all; exact rfl)
  | (apply AAny.done; exact rfl)
  | (apply inI_of <;> omega)
  | omega
  | (simp <;> omega))
  refine AWp.loop (ι := Nat) (fun i => ⟨21, [(0, .intss (mrk xss k xss.length)), (1, .i (k + cnt xss i)), (5, .i i)]⟩) (fun i => []) (fun i => i ≤ xss.length) (fun i => xss.length - i) 0 (by omega) ⟨lee rfl (by (repeat (first | exact le_nil | refine le_eq rfl rfl ?_ | refine le_eq rfl (congrArg AV.i (by omega)) ?_ | refine le_eq rfl (congrArg AV.i ((Int.add_zero k).symm)) ?_))), by (repeat (first | exact lo_nil | refine lo_dead ?_ | refine lo_eq rfl ?_ | refine lo_eq (congrArg (AO.sli _) ((Int.add_zero k).symm)) ?_ | refine lo_eq (congrArg (AO.sls _ _) ((Int.add_zero k).symm)) ?_)), rfl, rfl⟩ ?_
  rintro i h0
  have e1 := mrk_len xss k xss.length
  by_cases hi : i < xss.length
  · have c1 : cnt xss i ≤ cnt xss xss.length := by have := cnt_mono xss i (xss.length - i); rwa [show i + (xss.length - i) = xss.length by omega] at this
    have c2 : cnt xss (i + 1) ≤ cnt xss xss.length := by have := cnt_mono xss (i + 1) (xss.length - (i + 1)); rwa [show i + 1 + (xss.length - (i + 1)) = xss.length by omega] at this
    have c3 : cnt xss (i + 1) = cnt xss i + (gets xss i).length := rfl
    have e2 := mrk_gets xss k xss.length i hi
    rw [if_pos hi] at e2
    have hm := heldInt64S_c (gets xss i).length (k + cnt xss i) (by omega) (by omega)
    rw [← e2] at hm
    have e4 : k + (cnt xss i : Int) + ((gets xss i).length : Int) = k + (cnt xss (i + 1) : Int) := by rw [c3]; omega
    repeat' (first
  | (apply AOps.nil; try simp only [List.nil_append, List.cons_append, List.set_cons_zero, List.set_cons_succ, List.length_cons, List.length_nil, Nat.reduceAdd, AV.sh, AV.sh1, AV.sh0, AO.sh, List.map_cons, List.map_nil, Nat.zero_add, Nat.add_zero, setAll])
  | ((apply AOps.splitP; exact rfl; exact rfl) <;> intro h)
  | ((apply AOps.splitN; exact rfl; exact rfl) <;> intro h)
  | (apply w_move; exact rfl; exact rfl)
  | (apply w_assign; exact rfl; exact rfl)
  | apply AWp.seq
  | apply AWp.region
  | ((apply AWp.condP; exact rfl) <;> intro h)
  | ((apply AWp.condN; exact rfl) <;> intro h)
  | (apply AWp.condT; exact rfl)
  | (apply AWp.condF; exact rfl)
  | ((apply AWp.condB; exact rfl) <;> intro h)
  | apply AWp.block
  | apply AWp.ret
  | apply AWp.exit
  | apply AWp.skip
  | (apply AWp.regionQ; kernel_rfl; kernel_rfl)
  | (apply if_pos'; exact rfl)
  | (apply if_neg'; decide)
  | (apply w_skip; exact rfl)
  | (apply w_pickT; exact rfl; exact rfl; exact rfl)
  | (apply w_pickF; exact rfl; exact rfl; exact rfl)
  | (apply w_len; exact rfl; exact rfl; first | exact .ints _ | exact .intss _ | exact .sli rfl | exact .sls rfl | exact .slr rfl | exact .orow rfl | exact .nil)
  | (apply w_call (hm); exact rfl; exact rfl; focus ((repeat (first | exact im_nil | refine im_cons rfl (.val _) ?_ | refine im_cons rfl (.ints _) ?_ | refine im_cons rfl (.intss _) ?_ | refine im_cons rfl (.sli rfl) ?_ | refine im_cons rfl (.sls rfl) ?_ | refine im_cons rfl (.orow rfl) ?_ | refine im_cons rfl (.osub rfl (by simp; omega)) ?_ | refine im_cons rfl (.nil) ?_ | refine im_cons rfl (.nils) ?_ | refine im_cons rfl (im_agg2 (.val _) (.ints _)) ?_ | refine im_cons rfl (im_agg2 (.val _) (.sli rfl)) ?_ | refine im_cons rfl (im_agg2 (.val _) (.nil)) ?_ | refine im_cons rfl (im_agg2 (.ints _) (.intss _)) ?_ | refine im_cons rfl (im_agg2 (.ints _) (.sls rfl)) ?_ | refine im_cons rfl (im_agg2 (.sli rfl) (.intss _)) ?_ | refine im_cons rfl (im_agg2 (.sli rfl) (.sls rfl)) ?_ | refine im_cons rfl (im_agg1 (.ints _)) ?_ | refine im_cons rfl (im_agg1 (.sli rfl)) ?_ | refine im_cons rfl (im_agg1 (.intss _)) ?_ | refine im_cons rfl (im_agg1 (.sls rfl)) ?_ | refine im_cons rfl (im_agg1 (.nil)) ?_ | refine im_cons rfl (im_agg1 (.nils)) ?_)); done))
  | omega
  | ((first | apply w_lss | apply w_leq | apply w_gtr | apply w_geq | apply w_eql | apply w_neq | apply w_add | apply w_sub | apply w_mul | apply w_idx | apply w_ld | apply w_fld | apply w_fa | apply w_extv | apply w_min | apply w_max | apply w_slhi | apply w_sllo | apply w_bs2); iterate 3 exact rfl)
  | ((first | apply w_eqlb | apply w_neqb | apply w_idxs | apply w_lds | apply w_ext); iterate 3 exact rfl)
  | (apply w_rem; exact rfl; exact rfl; exact rfl; (focus (omega; done)); (focus (omega; done)))
  | (apply w_quo; exact rfl; exact rfl; exact rfl; (focus (omega; done)); (focus (omega; done)))
  | (apply w_remT; exact rfl; exact rfl; exact rfl)
  | (apply w_quoT; exact rfl; exact rfl; exact rfl)
  | ((first | apply w_not | apply w_neg | apply w_conv | apply w_build0 | apply w_bs1 | apply w_boxa); iterate 2 exact rfl)
  | (apply w_idxo; exact rfl; exact rfl; (first | exact .sli rfl | exact .sls rfl | exact .slr rfl); exact rfl)
  | ((first | apply w_idxr | apply w_ldr); iterate 4 exact rfl)
  | (apply w_ldo; iterate 4 exact rfl)
  | (apply w_ldls; iterate 4 exact rfl)
  | (apply w_ldrp; iterate 4 exact rfl)
  | (apply w_ldb; iterate 5 exact rfl)
  | (apply w_ldst; iterate 5 exact rfl)
  | ((first | apply w_sllh | apply w_stbi); iterate 4 exact rfl)
  | ((first | apply w_oslo | apply w_oshi | apply w_stbii); iterate 4 exact rfl)
  | (apply w_copy; exact rfl; (first | exact .own rfl rfl rfl | exact .osub); exact rfl; rotate_left 1; exact rfl; (first | exact .ints _ | exact .sli rfl | exact .orow rfl | exact .nil | exact .osub rfl (by simp; omega)))
  | (apply w_build1; exact rfl; exact rfl; (first | exact one_val rfl rfl | exact one_ints | exact one_intss | exact one_own rfl True.intro))
  | (apply w_build2; exact rfl; exact rfl; exact rfl; (first | exact one_val rfl rfl | exact one_ints | exact one_intss | exact one_own rfl True.intro); (first | exact one_val rfl rfl | exact one_ints | exact one_intss | exact one_own rfl True.intro))
  | (apply w_bs0; iterate 1 exact rfl)
  | (apply w_appn; exact rfl; exact rfl; (first | exact .ints _ | exact .sli rfl | exact .orow rfl | exact .nil | exact .osub rfl (by simp; omega)); exact rfl)
  | (apply w_app; exact rfl; exact rfl; exact rfl; exact rfl; (first | exact .ints _ | exact .sli rfl | exact .orow rfl | exact .nil | exact .osub rfl (by simp; omega)); rotate_left 1; simp only [Env.mp, List.map_cons, List.map_nil, List.set_cons_zero, List.set_cons_succ, AV.kill, AV.kill1, AO.kill, AV.noRow, AV.noRow1, AO.via, reduceIte, Nat.reduceEqDiff, Nat.reduceLT, Env.up, Nat.zero_ne_one, Nat.one_ne_zero, Nat.reduceAdd, List.cons_append, List.nil_append]; rotate_left 1)
  | (apply w_alst; iterate 2 exact rfl)
  | (apply w_alone; iterate 3 exact rfl)
  | (apply w_mki; exact rfl; exact rfl; rotate_left 3; exact rfl; rotate_left 1)
  | (apply w_mkr; exact rfl; exact rfl; rotate_left 3; exact rfl; rotate_left 1)
  | (apply w_strow; exact rfl; exact rfl; rotate_left 1; exact rfl; exact rfl; exact rfl; exact rfl; simp only [Env.mp, List.map_cons, List.map_nil, List.set_cons_zero, List.set_cons_succ, AV.kill, AV.kill1, AO.kill, AV.noRow, AV.noRow1, AO.via, reduceIte, Nat.reduceEqDiff, Nat.reduceLT, Env.up, Nat.zero_ne_one, Nat.one_ne_zero, Nat.reduceAdd, List.cons_append, List.nil_append]; rotate_left 1)
  | (apply w_sti; exact rfl; exact rfl; rotate_left 1; exact rfl; rotate_left 2)
  | (apply w_stst; iterate 5 exact rfl)
  | (apply w_stbv; iterate 6 exact rfl)
  | (apply w_stbo; exact rfl; exact rfl; exact rfl; exact rfl; exact rfl; exact True.intro)
  | ((apply AOps.splitB; exact rfl; exact rfl) <;> intro h)
  | apply AllOf.nil
  | (apply AllOf.cons; exact rfl)
  | (apply AAny.take; exact rfl; exact rfl; kernel_rfl; kernel_rfl)
  | (apply AAny.all; exact rfl)
  | (apply AAny.done; exact rfl)
  | (apply inI_of <;> omega)
  | omega
  | (simp <;> omega))
    all_goals exact ⟨i + 1, by omega, by omega, ⟨lee rfl (by (repeat (first | exact le_nil | refine le_eq rfl rfl ?_ | refine le_eq rfl (congrArg AV.i (by omega)) ?_ | refine le_eq rfl (congrArg AV.i (e4)) ?_))), by (repeat (first | exact lo_nil | refine lo_dead ?_ | refine lo_eq rfl ?_ | refine lo_eq (congrArg (AO.sli _) (e4)) ?_ | refine lo_eq (congrArg (AO.sls _ _) (e4)) ?_)), rfl, rfl⟩⟩
  · repeat' (first
  | (apply AOps.nil; try simp only [List.nil_append, List.cons_append, List.set_cons_zero, List.set_cons_succ, List.length_cons, List.length_nil, Nat.reduceAdd, AV.sh, AV.sh1, AV.sh0, AO.sh, List.map_cons, List.map_nil, Nat.zero_add, Nat.add_zero, setAll])
  | ((apply AOps.splitP; exact rfl; exact rfl) <;> intro h)
  | ((apply AOps.splitN; exact rfl; exact rfl) <;> intro h)
  | (apply w_move; exact rfl; exact rfl)
  | (apply w_assign; exact rfl; exact rfl)
  | apply AWp.seq
  | apply AWp.region
  | ((apply AWp.condP; exact rfl) <;> intro h)
  | ((apply AWp.condN; exact rfl) <;> intro h)
  | (apply AWp.condT; exact rfl)
  | (apply AWp.condF; exact rfl)
  | ((apply AWp.condB; exact rfl) <;> intro h)
  | apply AWp.block
  | apply AWp.ret
  | apply AWp.exit
  | apply AWp.skip
  | (apply AWp.regionQ; kernel_rfl; kernel_rfl)
  | (apply if_pos'; exact rfl)
  | (apply if_neg'; decide)
  | (apply w_skip; exact rfl)
  | (apply w_pickT; exact rfl; exact rfl; exact rfl)
  | (apply w_pickF; exact rfl; exact rfl; exact rfl)
  | (apply w_len; exact rfl; exact rfl; first | exact .ints _ | exact .intss _ | exact .sli rfl | exact .sls rfl | exact .slr rfl | exact .orow rfl | exact .nil)
  | omega
  | ((first | apply w_lss | apply w_leq | apply w_gtr | apply w_geq | apply w_eql | apply w_neq | apply w_add | apply w_sub | apply w_mul | apply w_idx | apply w_ld | apply w_fld | apply w_fa | apply w_extv | apply w_min | apply w_max | apply w_slhi | apply w_sllo | apply w_bs2); iterate 3 exact rfl)
  | ((first | apply w_eqlb | apply w_neqb | apply w_idxs | apply w_lds | apply w_ext); iterate 3 exact rfl)
  | (apply w_rem; exact rfl; exact rfl; exact rfl; (focus (omega; done)); (focus (omega; done)))
  | (apply w_quo; exact rfl; exact rfl; exact rfl; (focus (omega; done)); (focus (omega; done)))
  | (apply w_remT; exact rfl; exact rfl; exact rfl)
  | (apply w_quoT; exact rfl; exact rfl; exact rfl)
  | ((first | apply w_not | apply w_neg | apply w_conv | apply w_build0 | apply w_bs1 | apply w_boxa); iterate 2 exact rfl)
  | (apply w_idxo; exact rfl; exact rfl; (first | exact .sli rfl | exact .sls rfl | exact .slr rfl); exact rfl)
  | ((first | apply w_idxr | apply w_ldr); iterate 4 exact rfl)
  | (apply w_ldo; iterate 4 exact rfl)
  | (apply w_ldls; iterate 4 exact rfl)
  | (apply w_ldrp; iterate 4 exact rfl)
  | (apply w_ldb; iterate 5 exact rfl)
  | (apply w_ldst; iterate 5 exact rfl)
  | ((first | apply w_sllh | apply w_stbi); iterate 4 exact rfl)
  | ((first | apply w_oslo | apply w_oshi | apply w_stbii); iterate 4 exact rfl)
  | (apply w_copy; exact rfl; (first | exact .own rfl rfl rfl | exact .osub); exact rfl; rotate_left 1; exact rfl; (first | exact .ints _ | exact .sli rfl | exact .orow rfl | exact .nil | exact .osub rfl (by simp; omega)))
  | (apply w_build1; exact rfl; exact rfl; (first | exact one_val rfl rfl | exact one_ints | exact one_intss | exact one_own rfl True.intro))
  | (apply w_build2; exact rfl; exact rfl; exact rfl; (first | exact one_val rfl rfl | exact one_ints | exact one_intss | exact one_own rfl True.intro); (first | exact one_val rfl rfl | exact one_ints | exact one_intss | exact one_own rfl True.intro))
  | (apply w_bs0; iterate 1 exact rfl)
  | (apply w_appn; exact rfl; exact rfl; (first | exact .ints _ | exact .sli rfl | exact .orow rfl | exact .nil | exact .osub rfl (by simp; omega)); exact rfl)
  | (apply w_app; exact rfl; exact rfl; exact rfl; exact rfl; (first | exact .ints _ | exact .sli rfl | exact .orow rfl | exact .nil | exact .osub rfl (by simp; omega)); rotate_left 1; simp only [Env.mp, List.map_cons, List.map_nil, List.set_cons_zero, List.set_cons_succ, AV.kill, AV.kill1, AO.kill, AV.noRow, AV.noRow1, AO.via, reduceIte, Nat.reduceEqDiff, Nat.reduceLT, Env.up, Nat.zero_ne_one, Nat.one_ne_zero, Nat.reduceAdd, List.cons_append, List.nil_append]; rotate_left 1)
  | (apply w_alst; iterate 2 exact rfl)
  | (apply w_alone; iterate 3 exact rfl)
  | (apply w_mki; exact rfl; exact rfl; rotate_left 3; exact rfl; rotate_left 1)
  | (apply w_mkr; exact rfl; exact rfl; rotate_left 3; exact rfl; rotate_left 1)
  | (apply w_strow; exact rfl; exact rfl; rotate_left 1; exact rfl; exact rfl; exact rfl; exact rfl; simp only [Env.mp, List.map_cons, List.map_nil, List.set_cons_zero, List.set_cons_succ, AV.kill, AV.kill1, AO.kill, AV.noRow, AV.noRow1, AO.via, reduceIte, Nat.reduceEqDiff, Nat.reduceLT, Env.up, Nat.zero_ne_one, Nat.one_ne_zero, Nat.reduceAdd, List.cons_append, List.nil_append]; rotate_left 1)
  | (apply w_sti; exact rfl; exact rfl; rotate_left 1; exact rfl; rotate_left 2)
  | (apply w_stst; iterate 5 exact rfl)
  | (apply w_stbv; iterate 6 exact rfl)
  | (apply w_stbo; exact rfl; exact rfl; exact rfl; exact rfl; exact rfl; exact True.intro)
  | ((apply AOps.splitB; exact rfl; exact rfl) <;> intro h)
  | apply AllOf.nil
  | (apply AllOf.cons; exact rfl)
  | (apply AAny.take; exact rfl; exact rfl; kernel_rfl; kernel_rfl)
  | (apply AAny.all; exact rfl)
  | (apply AAny.done; exact rfl)
  | (apply inI_of <;> omega)
  | omega
  | (simp <;> omega))
    have e : i = xss.length := by omega
    subst e
    exact .int Try.results30 rfl rfl

theorem cnt_le {xss : List (List Int)} {B : Nat} (h : ∀ xs ∈ xss, xs.length ≤ B) : ∀ i, cnt xss i ≤ i * B
  | 0 => by simp [cnt]
  | i + 1 => by
    have ih := cnt_le h i
    have : (gets xss i).length ≤ B := by
      by_cases hi : i < xss.length
      · exact h _ (gets_mem (by omega) (by omega))
      · simp [gets, List.getElem?_eq_none (show xss.length ≤ i by omega)]
    rw [cnt, Nat.add_mul]
    omega

end Go.Proofs.Ytkickbnahajpoaa
/-
  Marks in polynomials. No condition.
-/
namespace Go.Proofs.Ytkickbnahajpoaa
open Go Go.RowKit
attribute [local irreducible] AWp AOps ResIs Ret1 QOp LOp COp AFnV AFn Imms LeE LeO
set_option maxHeartbeats 1000000
set_option linter.unusedSimpArgs false
set_option linter.unusedVariables false

/-- A new polynomial and a code. -/
def IsPolC (T T2 : TypeId) (xss : List (List Int)) (e : Int) (r : AV) (os : List AO) : Prop := r = .tup [.agg [.own 0], .i e] ∧ os = [.sls T T2 xss]

theorem markPoly_c (T T2 : TypeId) (xss : List (List Int)) (k : Int) (hq : 0 ≤ k ∧ k ≤ 4503599627370496) (hl : cnt xss xss.length ≤ 4503599627370496) (hx : xss.length ≤ 4503599627370496) :
    AFnU Try.prog 12 [.agg [.own 0], .i k] [.sls T T2 xss] (fun v os => v = .int .i64 (k + cnt xss xss.length) ∧ os = [.sls T T2 (mrk xss k xss.length)]) := by
  (refine AFnU.start Try.func12 Try.ntmps12 rfl (by kernel_rfl) fun K => ?_; simp only [Env.start, enumF, List.length_cons, List.length_nil, Nat.reduceAdd, Nat.reduceSub, List.cons_append, List.nil_append])
  repeat' (first
  | (apply AOps.nil; try simp only [List.nil_append, List.cons_append, List.set_cons_zero, List.set_cons_succ, List.length_cons, List.length_nil, Nat.reduceAdd, AV.sh, AV.sh1, AV.sh0, AO.sh, List.map_cons, List.map_nil, Nat.zero_add, Nat.add_zero, setAll])
  | ((apply AOps.splitP; exact rfl; exact rfl) <;> intro h)
  | ((apply AOps.splitN; exact rfl; exact rfl) <;> intro h)
  | (apply w_move; exact rfl; exact rfl)
  | (apply w_assign; exact rfl; exact rfl)
  | apply AWp.seq
  | apply AWp.region
  | ((apply AWp.condP; exact rfl) <;> intro h)
  | ((apply AWp.condN; exact rfl) <;> intro h)
  | (apply AWp.condT; exact rfl)
  | (apply AWp.condF; exact rfl)
  | ((apply AWp.condB; exact rfl) <;> intro h)
  | apply AWp.block
  | apply AWp.ret
  | apply AWp.exit
  | apply AWp.skip
  | (apply AWp.regionQ; kernel_rfl; kernel_rfl)
  | (apply if_pos'; exact rfl)
  | (apply if_neg'; decide)
  | (apply w_skip; exact rfl)
  | (apply w_pickT; exact rfl; exact rfl; exact rfl)
  | (apply w_pickF; exact rfl; exact rfl; exact rfl)
  | (apply w_len; exact rfl; exact rfl; first | exact .ints _ | exact .intss _ | exact .sli rfl | exact .sls rfl | exact .slr rfl | exact .orow rfl | exact .nil)
  | (apply w_callu [0] (markInt64SS_c _ _ _ _ hq hl hx); (first | exact handed1 rfl True.intro | exact handed2 rfl rfl rfl True.intro True.intro); (focus ((repeat (first | exact imu_nil | refine imu_cons rfl (.val _) ?_ | refine imu_cons rfl (.ints _) ?_ | refine imu_cons rfl (.own rfl) ?_ | refine imu_cons rfl (.sli rfl (by decide)) ?_ | refine imu_cons rfl (.intss _) ?_ | refine imu_cons rfl (.sls rfl (by decide)) ?_ | refine imu_cons rfl (imu_agg2 (.val _) (.own rfl)) ?_ | refine imu_cons rfl (imu_agg2 (.own rfl) (.own rfl)) ?_ | refine imu_cons rfl (imu_agg1 (.own rfl)) ?_)); done)); rintro v os0 ⟨rfl, rfl⟩; try simp only [List.nil_append, List.cons_append, List.set_cons_zero, List.set_cons_succ, List.length_cons, List.length_nil, Nat.reduceAdd, AV.sh, AV.sh1, AV.sh0, AO.sh, List.map_cons, List.map_nil, Nat.zero_add, Nat.add_zero, setAll])
  | ((first | apply w_lss | apply w_leq | apply w_gtr | apply w_geq | apply w_eql | apply w_neq | apply w_add | apply w_sub | apply w_mul | apply w_idx | apply w_ld | apply w_fld | apply w_fa | apply w_extv | apply w_min | apply w_max | apply w_slhi | apply w_sllo | apply w_bs2); iterate 3 exact rfl)
  | ((first | apply w_eqlb | apply w_neqb | apply w_idxs | apply w_lds | apply w_ext); iterate 3 exact rfl)
  | (apply w_rem; exact rfl; exact rfl; exact rfl; (focus (omega; done)); (focus (omega; done)))
  | (apply w_quo; exact rfl; exact rfl; exact rfl; (focus (omega; done)); (focus (omega; done)))
  | (apply w_remT; exact rfl; exact rfl; exact rfl)
  | (apply w_quoT; exact rfl; exact rfl; exact rfl)
  | ((first | apply w_not | apply w_neg | apply w_conv | apply w_build0 | apply w_bs1 | apply w_boxa); iterate 2 exact rfl)
  | (apply w_idxo; exact rfl; exact rfl; (first | exact .sli rfl | exact .sls rfl | exact .slr rfl); exact rfl)
  | ((first | apply w_idxr | apply w_ldr); iterate 4 exact rfl)
  | (apply w_ldo; iterate 4 exact rfl)
  | (apply w_ldls; iterate 4 exact rfl)
  | (apply w_ldrp; iterate 4 exact rfl)
  | (apply w_ldb; iterate 5 exact rfl)
  | (apply w_ldst; iterate 5 exact rfl)
  | ((first | apply w_sllh | apply w_stbi); iterate 4 exact rfl)
  | ((first | apply w_oslo | apply w_oshi | apply w_stbii); iterate 4 exact rfl)
  | (apply w_build1; exact rfl; exact rfl; (first | exact one_val rfl rfl | exact one_ints | exact one_intss | exact one_own rfl True.intro))
  | (apply w_build2; exact rfl; exact rfl; exact rfl; (first | exact one_val rfl rfl | exact one_ints | exact one_intss | exact one_own rfl True.intro); (first | exact one_val rfl rfl | exact one_ints | exact one_intss | exact one_own rfl True.intro))
  | (apply w_bs0; iterate 1 exact rfl)
  | (apply w_appn; exact rfl; exact rfl; (first | exact .ints _ | exact .sli rfl | exact .orow rfl | exact .nil | exact .osub rfl (by simp; omega)); exact rfl)
  | (apply w_alst; iterate 2 exact rfl)
  | (apply w_alone; iterate 3 exact rfl)
  | (apply w_mki; exact rfl; exact rfl; rotate_left 3; exact rfl; rotate_left 1)
  | (apply w_sti; exact rfl; exact rfl; rotate_left 1; exact rfl; rotate_left 2)
  | (apply w_stst; iterate 5 exact rfl)
  | (apply w_stbv; iterate 6 exact rfl)
  | (apply w_stbo; exact rfl; exact rfl; exact rfl; exact rfl; exact rfl; exact True.intro)
  | ((apply AOps.splitB; exact rfl; exact rfl) <;> intro h)
  | apply AllOf.nil
  | (apply AllOf.cons; exact rfl)
  | (apply AAny.take; exact rfl; exact rfl; kernel_rfl; kernel_rfl)
  | (apply AAny.all; exact rfl)
  | (apply AAny.done; exact rfl)
  | (apply inI_of <;> omega)
  | omega
  | (simp <;> omega))
  all_goals exact ⟨_, _, .int Try.results12 rfl rfl, ⟨rfl, rfl⟩, rfl, rfl, by simp [AO.plain]⟩
theorem heldPoly_c (xss : List (List Int)) (k : Int) (hq : 0 ≤ k ∧ k ≤ 4503599627370496) (hl : cnt xss xss.length ≤ 4503599627370496) (hx : xss.length ≤ 4503599627370496) :
    AFnV Try.prog 13 [.agg [.intss (mrk xss k xss.length)], .i k] (.int .i64 (k + cnt xss xss.length)) := by
  (refine AFnV.start Try.func13 Try.ntmps13 rfl (by kernel_rfl) fun hk => ?_; simp only [Env.start, enumF, List.length_cons, List.length_nil, Nat.reduceAdd, Nat.reduceSub, List.cons_append, List.nil_append])
  repeat' (first
  | (apply AOps.nil; try simp only [List.nil_append, List.cons_append, List.set_cons_zero, List.set_cons_succ, List.length_cons, List.length_nil, Nat.reduceAdd, AV.sh, AV.sh1, AV.sh0, AO.sh, List.map_cons, List.map_nil, Nat.zero_add, Nat.add_zero, setAll])
  | ((apply AOps.splitP; exact rfl; exact rfl) <;> intro h)
  | ((apply AOps.splitN; exact rfl; exact rfl) <;> intro h)
  | (apply w_move; exact rfl; exact rfl)
  | (apply w_assign; exact rfl; exact rfl)
  | apply AWp.seq
  | apply AWp.region
  | ((apply AWp.condP; exact rfl) <;> intro h)
  | ((apply AWp.condN; exact rfl) <;> intro h)
  | (apply AWp.condT; exact rfl)
  | (apply AWp.condF; exact rfl)
  | ((apply AWp.condB; exact rfl) <;> intro h)
  | apply AWp.block
  | apply AWp.ret
  | apply AWp.exit
  | apply AWp.skip
  | (apply AWp.regionQ; kernel_rfl; kernel_rfl)
  | (apply if_pos'; exact rfl)
  | (apply if_neg'; decide)
  | (apply w_skip; exact rfl)
  | (apply w_pickT; exact rfl; exact rfl; exact rfl)
  | (apply w_pickF; exact rfl; exact rfl; exact rfl)
  | (apply w_len; exact rfl; exact rfl; first | exact .ints _ | exact .intss _ | exact .sli rfl | exact .sls rfl | exact .slr rfl | exact .orow rfl | exact .nil)
  | (apply w_call (heldInt64SS_c xss k hq hl hx); exact rfl; exact rfl; focus ((repeat (first | exact im_nil | refine im_cons rfl (.val _) ?_ | refine im_cons rfl (.ints _) ?_ | refine im_cons rfl (.intss _) ?_ | refine im_cons rfl (.sli rfl) ?_ | refine im_cons rfl (.sls rfl) ?_ | refine im_cons rfl (.orow rfl) ?_ | refine im_cons rfl (.osub rfl (by simp; omega)) ?_ | refine im_cons rfl (.nil) ?_ | refine im_cons rfl (.nils) ?_ | refine im_cons rfl (im_agg2 (.val _) (.ints _)) ?_ | refine im_cons rfl (im_agg2 (.val _) (.sli rfl)) ?_ | refine im_cons rfl (im_agg2 (.val _) (.nil)) ?_ | refine im_cons rfl (im_agg2 (.ints _) (.intss _)) ?_ | refine im_cons rfl (im_agg2 (.ints _) (.sls rfl)) ?_ | refine im_cons rfl (im_agg2 (.sli rfl) (.intss _)) ?_ | refine im_cons rfl (im_agg2 (.sli rfl) (.sls rfl)) ?_ | refine im_cons rfl (im_agg1 (.ints _)) ?_ | refine im_cons rfl (im_agg1 (.sli rfl)) ?_ | refine im_cons rfl (im_agg1 (.intss _)) ?_ | refine im_cons rfl (im_agg1 (.sls rfl)) ?_ | refine im_cons rfl (im_agg1 (.nil)) ?_ | refine im_cons rfl (im_agg1 (.nils)) ?_)); done))
  | ((first | apply w_lss | apply w_leq | apply w_gtr | apply w_geq | apply w_eql | apply w_neq | apply w_add | apply w_sub | apply w_mul | apply w_idx | apply w_ld | apply w_fld | apply w_fa | apply w_extv | apply w_min | apply w_max | apply w_slhi | apply w_sllo | apply w_bs2); iterate 3 exact rfl)
  | ((first | apply w_eqlb | apply w_neqb | apply w_idxs | apply w_lds | apply w_ext); iterate 3 exact rfl)
  | (apply w_rem; exact rfl; exact rfl; exact rfl; (focus (omega; done)); (focus (omega; done)))
  | (apply w_quo; exact rfl; exact rfl; exact rfl; (focus (omega; done)); (focus (omega; done)))
  | (apply w_remT; exact rfl; exact rfl; exact rfl)
  | (apply w_quoT; exact rfl; exact rfl; exact rfl)
  | ((first | apply w_not | apply w_neg | apply w_conv | apply w_build0 | apply w_bs1 | apply w_boxa); iterate 2 exact rfl)
  | (apply w_idxo; exact rfl; exact rfl; (first | exact .sli rfl | exact .sls rfl | exact .slr rfl); exact rfl)
  | ((first | apply w_idxr | apply w_ldr); iterate 4 exact rfl)
  | (apply w_ldo; iterate 4 exact rfl)
  | (apply w_ldls; iterate 4 exact rfl)
  | (apply w_ldrp; iterate 4 exact rfl)
  | (apply w_ldb; iterate 5 exact rfl)
  | (apply w_ldst; iterate 5 exact rfl)
  | ((first | apply w_sllh | apply w_stbi); iterate 4 exact rfl)
  | ((first | apply w_oslo | apply w_oshi | apply w_stbii); iterate 4 exact rfl)
  | (apply w_build1; exact rfl; exact rfl; (first | exact one_val rfl rfl | exact one_ints | exact one_intss | exact one_own rfl True.intro))
  | (apply w_build2; exact rfl; exact rfl; exact rfl; (first | exact one_val rfl rfl | exact one_ints | exact one_intss | exact one_own rfl True.intro); (first | exact one_val rfl rfl | exact one_ints | exact one_intss | exact one_own rfl True.intro))
  | (apply w_bs0; iterate 1 exact rfl)
  | (apply w_appn; exact rfl; exact rfl; (first | exact .ints _ | exact .sli rfl | exact .orow rfl | exact .nil | exact .osub rfl (by simp; omega)); exact rfl)
  | (apply w_alst; iterate 2 exact rfl)
  | (apply w_alone; iterate 3 exact rfl)
  | (apply w_mki; exact rfl; exact rfl; rotate_left 3; exact rfl; rotate_left 1)
  | (apply w_sti; exact rfl; exact rfl; rotate_left 1; exact rfl; rotate_left 2)
  | (apply w_stst; iterate 5 exact rfl)
  | (apply w_stbv; iterate 6 exact rfl)
  | (apply w_stbo; exact rfl; exact rfl; exact rfl; exact rfl; exact rfl; exact True.intro)
  | ((apply AOps.splitB; exact rfl; exact rfl) <;> intro h)
  | apply AllOf.nil
  | (apply AllOf.cons; exact rfl)
  | (apply AAny.take; exact rfl; exact rfl; kernel_rfl; kernel_rfl)
  | (apply AAny.all; exact rfl)
  | (apply AAny.done; exact rfl)
  | (apply inI_of <;> omega)
  | omega
  | (simp <;> omega))
  all_goals exact .int Try.results13 rfl rfl

end Go.Proofs.Ytkickbnahajpoaa
/-
  bits.Len, by the library's own contract laid at this dump in plain words. No condition.
-/
namespace Go.Proofs.Ytkickbnahajpoaa
open Go Go.RowKit Go.Shelf
def lays125_ren : Go.Shelf.Ren := ⟨fun | 125 => 55 | 128 => 64 | 129 => 65 | n => n, fun | 46 => 74 | 3 => 3 | 51 => 84 | 53 => 86 | 4 => 4 | 5 => 5 | 9 => 9 | n => n, fun | n => n⟩
theorem lays125 : Go.Proofs.Lays.n125 Try.prog lays125_ren := {
  mixed := by kernel_rfl
  f125 := Try.func55.trans (congrArg some (by kernel_rfl))
  f128 := Try.func64.trans (congrArg some (by kernel_rfl))
  f129 := Try.func65.trans (congrArg some (by kernel_rfl))
  t3 := Try.underlying3
  a3 := Try.isAgg3
  z3 := Try.sizeOf3
  v3 := Try.zeroValue3
  t4 := Try.underlying4
  a4 := Try.isAgg4
  z4 := Try.sizeOf4
  v4 := Try.zeroValue4
  t5 := Try.underlying5
  a5 := Try.isAgg5
  z5 := Try.sizeOf5
  v5 := Try.zeroValue5
  t9 := Try.underlying9
  a9 := Try.isAgg9
  z9 := Try.sizeOf9
  v9 := Try.zeroValue9
  t46 := Try.underlying74
  a46 := Try.isAgg74
  z46 := Try.sizeOf74
  v46 := Try.zeroValue74
  t51 := Try.underlying84
  a51 := Try.isAgg84
  z51 := Try.sizeOf84
  v51 := Try.zeroValue84
  t53 := Try.underlying86
  a53 := Try.isAgg86
  z53 := Try.sizeOf86
  v53 := Try.zeroValue86 }
theorem bits_Len (x : Int) (w : World) (h0 : 0 ≤ x) (h1 : x ≤ 18446744073709551615) :
    Calls Try.prog 55 #[.int .u64 x] w fun e w' => e = .returned (.int .i64 (Lib.bitLen x.toNat)) ∧ w' = w := Any.bits_Len lays125 x w h0 h1
theorem bitsLen_c (n : Int) (h0 : 0 ≤ n) (h1 : n ≤ 18446744073709551615) : AFnV Try.prog 55 [.val (.int .u64 n)] (.int .i64 (Lib.bitLen n.toNat)) := by
  refine ⟨⟨_, _, Try.func55, by kernel_rfl, rfl⟩, fun w vs ⟨h2, h3⟩ => ?_⟩
  have e0 := h3 0
  obtain ⟨l⟩ := vs
  match l, h2 with
  | [v], _ =>
    have e1 : RV w (fun _ => True) [] v (.val (.int .u64 n)) := by simpa using e0
    cases e1
    exact (bits_Len n w h0 h1).mono fun e w' ⟨he, hw⟩ => ⟨he, hw ▸ Below.refl _ _⟩
end Go.Proofs.Ytkickbnahajpoaa
/-
  slices.SortFunc at an empty slice of rows. No condition.
-/
namespace Go.Proofs.Ytkickbnahajpoaa
open Go Go.RowKit

theorem q_convu {P : Program} {env : Env} {os : List AO} {d : Option Tmp} {ty : TypeId} {pos : String} {af : Array Edge} {g : Option (Nat × Bool)} {wl : Bool} {src dst : TypeId} [hs : TKind P src .i64] [hd : TKind P dst .u64] {x : Operand} {a : Int} (ha : AV.ev env x = .i a) (h0 : 0 ≤ a) (h1 : a ≤ 9223372036854775807) :
    QOp P wl ⟨d, .convert src dst x, ty, pos, af, g⟩ env os (.val (.int .u64 a)) :=
  .of_run fun _ _ _ tm hr => ⟨_, .val _, fun w' _ => by
    have e : IntKind.u64.wrap a = a := by simp [IntKind.wrap, IntKind.bits, IntKind.signed]; omega
    simp [execOp, hr.evv ha, convert, run_underlying hs.und, run_underlying hd.und, Conv.intToInt, e]⟩
theorem w_convu {P : Program} {env : Env} {os : List AO} {d : Tmp} {ty : TypeId} {pos : String} {af : Array Edge} {g : Option (Nat × Bool)} {l rest : List Oper} {K : APost} {q : Md} {src dst : TypeId} [TKind P src .i64] [TKind P dst .u64] {x : Operand} {a : Int}
    (hw : wantedA l env ⟨some d, .convert src dst x, ty, pos, af, g⟩ = some true) (ha : evo env x = some (.i a)) (h0 : 0 ≤ a) (h1 : a ≤ 9223372036854775807) (h' : AOps P q l rest K (env.up d (.val (.int .u64 a))) os) :
    AOps P q l (⟨some d, .convert src dst x, ty, pos, af, g⟩ :: rest) K env os := AOps.qo hw (q_convu (ev_of ha) h0 h1) h'

attribute [local irreducible] AWp AOps ResIs Ret1 QOp LOp COp AFnV AFn Imms LeE LeO
set_option maxHeartbeats 1000000
set_option linter.unusedSimpArgs false
set_option linter.unusedVariables false

theorem insertionSortZ_c (T T2 : TypeId) (F : Value) : AFnU Try.prog 56 [.own 0, .i 0, .i 0, .val F] [.sls T T2 []] (fun v os => v = .tuple #[] ∧ os = [.sls T T2 []]) := by
  (refine AFnUN.start Try.func56 Try.ntmps56 rfl (by kernel_rfl) fun K => ?_; simp only [Env.start, enumF, List.length_cons, List.length_nil, Nat.reduceAdd, Nat.reduceSub, List.cons_append, List.nil_append])
  repeat' (first
  | (apply AOps.nil; try simp only [List.nil_append, List.cons_append, List.set_cons_zero, List.set_cons_succ, List.length_cons, List.length_nil, Nat.reduceAdd, AV.sh, AV.sh1, AV.sh0, AO.sh, List.map_cons, List.map_nil, Nat.zero_add, Nat.add_zero, setAll])
  | ((apply AOps.splitP; exact rfl; exact rfl) <;> intro h)
  | ((apply AOps.splitN; exact rfl; exact rfl) <;> intro h)
  | (apply w_move; exact rfl; exact rfl)
  | (apply w_assign; exact rfl; exact rfl)
  | apply AWp.seq
  | apply AWp.region
  | ((apply AWp.condP; exact rfl) <;> intro h)
  | ((apply AWp.condN; exact rfl) <;> intro h)
  | (apply AWp.condT; exact rfl)
  | (apply AWp.condF; exact rfl)
  | ((apply AWp.condB; exact rfl) <;> intro h)
  | apply AWp.block
  | apply AWp.ret
  | apply AWp.exit
  | apply AWp.skip
  | (apply AWp.regionQ; kernel_rfl; kernel_rfl)
  | (apply if_pos'; exact rfl)
  | (apply if_neg'; decide)
  | (apply w_skip; exact rfl)
  | (apply w_pickT; exact rfl; exact rfl; exact rfl)
  | (apply w_pickF; exact rfl; exact rfl; exact rfl)
  | (apply w_len; exact rfl; exact rfl; first | exact .ints _ | exact .intss _ | exact .sli rfl | exact .sls rfl | exact .slr rfl | exact .orow rfl | exact .nil)
  | ((first | apply w_lss | apply w_leq | apply w_gtr | apply w_geq | apply w_eql | apply w_neq | apply w_add | apply w_sub | apply w_mul | apply w_idx | apply w_ld | apply w_fld | apply w_fa | apply w_extv | apply w_min | apply w_max | apply w_slhi | apply w_sllo | apply w_bs2); iterate 3 exact rfl)
  | ((first | apply w_eqlb | apply w_neqb | apply w_idxs | apply w_lds | apply w_ext); iterate 3 exact rfl)
  | (apply w_rem; exact rfl; exact rfl; exact rfl; (focus (omega; done)); (focus (omega; done)))
  | (apply w_quo; exact rfl; exact rfl; exact rfl; (focus (omega; done)); (focus (omega; done)))
  | (apply w_remT; exact rfl; exact rfl; exact rfl)
  | (apply w_quoT; exact rfl; exact rfl; exact rfl)
  | ((first | apply w_not | apply w_neg | apply w_conv | apply w_build0 | apply w_bs1 | apply w_boxa); iterate 2 exact rfl)
  | (apply w_idxo; exact rfl; exact rfl; (first | exact .sli rfl | exact .sls rfl | exact .slr rfl); exact rfl)
  | ((first | apply w_idxr | apply w_ldr); iterate 4 exact rfl)
  | (apply w_ldo; iterate 4 exact rfl)
  | (apply w_ldls; iterate 4 exact rfl)
  | (apply w_ldrp; iterate 4 exact rfl)
  | (apply w_ldb; iterate 5 exact rfl)
  | (apply w_ldst; iterate 5 exact rfl)
  | ((first | apply w_sllh | apply w_stbi); iterate 4 exact rfl)
  | ((first | apply w_oslo | apply w_oshi | apply w_stbii); iterate 4 exact rfl)
  | (apply w_build1; exact rfl; exact rfl; (first | exact one_val rfl rfl | exact one_ints | exact one_intss | exact one_own rfl True.intro))
  | (apply w_build2; exact rfl; exact rfl; exact rfl; (first | exact one_val rfl rfl | exact one_ints | exact one_intss | exact one_own rfl True.intro); (first | exact one_val rfl rfl | exact one_ints | exact one_intss | exact one_own rfl True.intro))
  | (apply w_bs0; iterate 1 exact rfl)
  | (apply w_appn; exact rfl; exact rfl; (first | exact .ints _ | exact .sli rfl | exact .orow rfl | exact .nil | exact .osub rfl (by simp; omega)); exact rfl)
  | (apply w_app; exact rfl; exact rfl; exact rfl; exact rfl; (first | exact .ints _ | exact .sli rfl | exact .orow rfl | exact .nil | exact .osub rfl (by simp; omega)); rotate_left 1; simp only [Env.mp, List.map_cons, List.map_nil, List.set_cons_zero, List.set_cons_succ, AV.kill, AV.kill1, AO.kill, AV.noRow, AV.noRow1, AO.via, reduceIte, Nat.reduceEqDiff, Nat.reduceLT, Env.up, Nat.zero_ne_one, Nat.one_ne_zero, Nat.reduceAdd, List.cons_append, List.nil_append]; rotate_left 1)
  | (apply w_alst; iterate 2 exact rfl)
  | (apply w_alone; iterate 3 exact rfl)
  | (apply w_mki; exact rfl; exact rfl; rotate_left 3; exact rfl; rotate_left 1)
  | (apply w_sti; exact rfl; exact rfl; rotate_left 1; exact rfl; rotate_left 2)
  | (apply w_stst; iterate 5 exact rfl)
  | (apply w_stbv; iterate 6 exact rfl)
  | (apply w_stbo; exact rfl; exact rfl; exact rfl; exact rfl; exact rfl; exact True.intro)
  | ((apply AOps.splitB; exact rfl; exact rfl) <;> intro h)
  | apply AllOf.nil
  | (apply AllOf.cons; exact rfl)
  | (apply AAny.take; exact rfl; exact rfl; kernel_rfl; kernel_rfl)
  | (apply AAny.all; exact rfl)
  | (apply AAny.done; exact rfl)
  | (apply inI_of <;> omega)
  | omega
  | (simp <;> omega))
  refine AWp.loop (ι := Unit) (fun _ => ⟨53, [(2, .i 0), (8, .i 1)]⟩) (fun _ => [.sls T T2 [], .keep 2 K]) (fun _ => True) (fun _ => 0) () trivial ⟨lee rfl (by (repeat (first | exact le_nil | refine le_eq rfl rfl ?_ | refine le_eq rfl (congrArg AV.i (by omega)) ?_))), by (repeat (first | exact lo_nil | refine lo_dead ?_ | refine lo_eq rfl ?_)), rfl, rfl⟩ ?_
  rintro _ _
  repeat' (first
  | (apply AOps.nil; try simp only [List.nil_append, List.cons_append, List.set_cons_zero, List.set_cons_succ, List.length_cons, List.length_nil, Nat.reduceAdd, AV.sh, AV.sh1, AV.sh0, AO.sh, List.map_cons, List.map_nil, Nat.zero_add, Nat.add_zero, setAll])
  | ((apply AOps.splitP; exact rfl; exact rfl) <;> intro h)
  | ((apply AOps.splitN; exact rfl; exact rfl) <;> intro h)
  | (apply w_move; exact rfl; exact rfl)
  | (apply w_assign; exact rfl; exact rfl)
  | apply AWp.seq
  | apply AWp.region
  | ((apply AWp.condP; exact rfl) <;> intro h)
  | ((apply AWp.condN; exact rfl) <;> intro h)
  | (apply AWp.condT; exact rfl)
  | (apply AWp.condF; exact rfl)
  | ((apply AWp.condB; exact rfl) <;> intro h)
  | apply AWp.block
  | apply AWp.ret
  | apply AWp.exit
  | apply AWp.skip
  | (apply if_pos'; exact rfl)
  | (apply if_neg'; decide)
  | (apply w_skip; exact rfl)
  | (apply w_pickT; exact rfl; exact rfl; exact rfl)
  | (apply w_pickF; exact rfl; exact rfl; exact rfl)
  | (apply w_len; exact rfl; exact rfl; first | exact .ints _ | exact .intss _ | exact .sli rfl | exact .sls rfl | exact .slr rfl | exact .orow rfl | exact .nil)
  | omega
  | ((first | apply w_lss | apply w_leq | apply w_gtr | apply w_geq | apply w_eql | apply w_neq | apply w_add | apply w_sub | apply w_mul | apply w_idx | apply w_ld | apply w_fld | apply w_fa | apply w_extv | apply w_min | apply w_max | apply w_slhi | apply w_sllo | apply w_bs2); iterate 3 exact rfl)
  | ((first | apply w_eqlb | apply w_neqb | apply w_idxs | apply w_lds | apply w_ext); iterate 3 exact rfl)
  | (apply w_rem; exact rfl; exact rfl; exact rfl; (focus (omega; done)); (focus (omega; done)))
  | (apply w_quo; exact rfl; exact rfl; exact rfl; (focus (omega; done)); (focus (omega; done)))
  | (apply w_remT; exact rfl; exact rfl; exact rfl)
  | (apply w_quoT; exact rfl; exact rfl; exact rfl)
  | ((first | apply w_not | apply w_neg | apply w_conv | apply w_build0 | apply w_bs1 | apply w_boxa); iterate 2 exact rfl)
  | (apply w_idxo; exact rfl; exact rfl; (first | exact .sli rfl | exact .sls rfl | exact .slr rfl); exact rfl)
  | ((first | apply w_idxr | apply w_ldr); iterate 4 exact rfl)
  | (apply w_ldo; iterate 4 exact rfl)
  | (apply w_ldls; iterate 4 exact rfl)
  | (apply w_ldrp; iterate 4 exact rfl)
  | (apply w_ldb; iterate 5 exact rfl)
  | (apply w_ldst; iterate 5 exact rfl)
  | ((first | apply w_sllh | apply w_stbi); iterate 4 exact rfl)
  | ((first | apply w_oslo | apply w_oshi | apply w_stbii); iterate 4 exact rfl)
  | (apply w_build1; exact rfl; exact rfl; (first | exact one_val rfl rfl | exact one_ints | exact one_intss | exact one_own rfl True.intro))
  | (apply w_build2; exact rfl; exact rfl; exact rfl; (first | exact one_val rfl rfl | exact one_ints | exact one_intss | exact one_own rfl True.intro); (first | exact one_val rfl rfl | exact one_ints | exact one_intss | exact one_own rfl True.intro))
  | (apply w_bs0; iterate 1 exact rfl)
  | (apply w_appn; exact rfl; exact rfl; (first | exact .ints _ | exact .sli rfl | exact .orow rfl | exact .nil | exact .osub rfl (by simp; omega)); exact rfl)
  | (apply w_app; exact rfl; exact rfl; exact rfl; exact rfl; (first | exact .ints _ | exact .sli rfl | exact .orow rfl | exact .nil | exact .osub rfl (by simp; omega)); rotate_left 1; simp only [Env.mp, List.map_cons, List.map_nil, List.set_cons_zero, List.set_cons_succ, AV.kill, AV.kill1, AO.kill, AV.noRow, AV.noRow1, AO.via, reduceIte, Nat.reduceEqDiff, Nat.reduceLT, Env.up, Nat.zero_ne_one, Nat.one_ne_zero, Nat.reduceAdd, List.cons_append, List.nil_append]; rotate_left 1)
  | (apply w_alst; iterate 2 exact rfl)
  | (apply w_alone; iterate 3 exact rfl)
  | (apply w_mki; exact rfl; exact rfl; rotate_left 3; exact rfl; rotate_left 1)
  | (apply w_sti; exact rfl; exact rfl; rotate_left 1; exact rfl; rotate_left 2)
  | (apply w_stst; iterate 5 exact rfl)
  | (apply w_stbv; iterate 6 exact rfl)
  | (apply w_stbo; exact rfl; exact rfl; exact rfl; exact rfl; exact rfl; exact True.intro)
  | ((apply AOps.splitB; exact rfl; exact rfl) <;> intro h)
  | apply AllOf.nil
  | (apply AllOf.cons; exact rfl)
  | (apply AAny.take; exact rfl; exact rfl; kernel_rfl; kernel_rfl)
  | (apply AAny.all; exact rfl)
  | (apply AAny.done; exact rfl)
  | (apply inI_of <;> omega)
  | omega
  | (simp <;> omega))
  all_goals exact ⟨_, _, .unit Try.results56, ⟨rfl, rfl⟩, rfl, rfl, by simp [AO.plain]⟩
theorem pdqsortZ_c (T T2 : TypeId) (lim : Int) (F : Value) : AFnU Try.prog 54 [.own 0, .i 0, .i 0, .i lim, .val F] [.sls T T2 []] (fun v os => v = .tuple #[] ∧ os = [.sls T T2 []]) := by
  (refine AFnUN.start Try.func54 Try.ntmps54 rfl (by kernel_rfl) fun K => ?_; simp only [Env.start, enumF, List.length_cons, List.length_nil, Nat.reduceAdd, Nat.reduceSub, List.cons_append, List.nil_append])
  repeat' (first
  | (apply AOps.nil; try simp only [List.nil_append, List.cons_append, List.set_cons_zero, List.set_cons_succ, List.length_cons, List.length_nil, Nat.reduceAdd, AV.sh, AV.sh1, AV.sh0, AO.sh, List.map_cons, List.map_nil, Nat.zero_add, Nat.add_zero, setAll])
  | ((apply AOps.splitP; exact rfl; exact rfl) <;> intro h)
  | ((apply AOps.splitN; exact rfl; exact rfl) <;> intro h)
  | (apply w_move; exact rfl; exact rfl)
  | (apply w_assign; exact rfl; exact rfl)
  | apply AWp.seq
  | apply AWp.region
  | ((apply AWp.condP; exact rfl) <;> intro h)
  | ((apply AWp.condN; exact rfl) <;> intro h)
  | (apply AWp.condT; exact rfl)
  | (apply AWp.condF; exact rfl)
  | ((apply AWp.condB; exact rfl) <;> intro h)
  | apply AWp.block
  | apply AWp.ret
  | apply AWp.exit
  | apply AWp.skip
  | (apply AWp.regionQ; kernel_rfl; kernel_rfl)
  | (apply if_pos'; exact rfl)
  | (apply if_neg'; decide)
  | (apply w_skip; exact rfl)
  | (apply w_pickT; exact rfl; exact rfl; exact rfl)
  | (apply w_pickF; exact rfl; exact rfl; exact rfl)
  | (apply w_len; exact rfl; exact rfl; first | exact .ints _ | exact .intss _ | exact .sli rfl | exact .sls rfl | exact .slr rfl | exact .orow rfl | exact .nil)
  | ((first | apply w_lss | apply w_leq | apply w_gtr | apply w_geq | apply w_eql | apply w_neq | apply w_add | apply w_sub | apply w_mul | apply w_idx | apply w_ld | apply w_fld | apply w_fa | apply w_extv | apply w_min | apply w_max | apply w_slhi | apply w_sllo | apply w_bs2); iterate 3 exact rfl)
  | ((first | apply w_eqlb | apply w_neqb | apply w_idxs | apply w_lds | apply w_ext); iterate 3 exact rfl)
  | (apply w_rem; exact rfl; exact rfl; exact rfl; (focus (omega; done)); (focus (omega; done)))
  | (apply w_quo; exact rfl; exact rfl; exact rfl; (focus (omega; done)); (focus (omega; done)))
  | (apply w_remT; exact rfl; exact rfl; exact rfl)
  | (apply w_quoT; exact rfl; exact rfl; exact rfl)
  | ((first | apply w_not | apply w_neg | apply w_conv | apply w_build0 | apply w_bs1 | apply w_boxa); iterate 2 exact rfl)
  | (apply w_idxo; exact rfl; exact rfl; (first | exact .sli rfl | exact .sls rfl | exact .slr rfl); exact rfl)
  | ((first | apply w_idxr | apply w_ldr); iterate 4 exact rfl)
  | (apply w_ldo; iterate 4 exact rfl)
  | (apply w_ldls; iterate 4 exact rfl)
  | (apply w_ldrp; iterate 4 exact rfl)
  | (apply w_ldb; iterate 5 exact rfl)
  | (apply w_ldst; iterate 5 exact rfl)
  | ((first | apply w_sllh | apply w_stbi); iterate 4 exact rfl)
  | ((first | apply w_oslo | apply w_oshi | apply w_stbii); iterate 4 exact rfl)
  | (apply w_build1; exact rfl; exact rfl; (first | exact one_val rfl rfl | exact one_ints | exact one_intss | exact one_own rfl True.intro))
  | (apply w_build2; exact rfl; exact rfl; exact rfl; (first | exact one_val rfl rfl | exact one_ints | exact one_intss | exact one_own rfl True.intro); (first | exact one_val rfl rfl | exact one_ints | exact one_intss | exact one_own rfl True.intro))
  | (apply w_bs0; iterate 1 exact rfl)
  | (apply w_appn; exact rfl; exact rfl; (first | exact .ints _ | exact .sli rfl | exact .orow rfl | exact .nil | exact .osub rfl (by simp; omega)); exact rfl)
  | (apply w_app; exact rfl; exact rfl; exact rfl; exact rfl; (first | exact .ints _ | exact .sli rfl | exact .orow rfl | exact .nil | exact .osub rfl (by simp; omega)); rotate_left 1; simp only [Env.mp, List.map_cons, List.map_nil, List.set_cons_zero, List.set_cons_succ, AV.kill, AV.kill1, AO.kill, AV.noRow, AV.noRow1, AO.via, reduceIte, Nat.reduceEqDiff, Nat.reduceLT, Env.up, Nat.zero_ne_one, Nat.one_ne_zero, Nat.reduceAdd, List.cons_append, List.nil_append]; rotate_left 1)
  | (apply w_alst; iterate 2 exact rfl)
  | (apply w_alone; iterate 3 exact rfl)
  | (apply w_mki; exact rfl; exact rfl; rotate_left 3; exact rfl; rotate_left 1)
  | (apply w_sti; exact rfl; exact rfl; rotate_left 1; exact rfl; rotate_left 2)
  | (apply w_stst; iterate 5 exact rfl)
  | (apply w_stbv; iterate 6 exact rfl)
  | (apply w_stbo; exact rfl; exact rfl; exact rfl; exact rfl; exact rfl; exact True.intro)
  | ((apply AOps.splitB; exact rfl; exact rfl) <;> intro h)
  | apply AllOf.nil
  | (apply AllOf.cons; exact rfl)
  | (apply AAny.take; exact rfl; exact rfl; kernel_rfl; kernel_rfl)
  | (apply AAny.all; exact rfl)
  | (apply AAny.done; exact rfl)
  | (apply inI_of <;> omega)
  | omega
  | (simp <;> omega))
  refine AWp.loop (ι := Unit) (fun _ => ⟨148, [(0, .own 0), (1, .i 0), (2, .i 0), (4, .val F)]⟩) (fun _ => [.sls T T2 [], .keep 2 K]) (fun _ => True) (fun _ => 0) () trivial ⟨lee rfl (by (repeat (first | exact le_nil | refine le_eq rfl rfl ?_ | refine le_eq rfl (congrArg AV.i (by omega)) ?_))), by (repeat (first | exact lo_nil | refine lo_dead ?_ | refine lo_eq rfl ?_)), rfl, rfl⟩ ?_
  rintro _ _
  repeat' (first
  | (apply AOps.nil; try simp only [List.nil_append, List.cons_append, List.set_cons_zero, List.set_cons_succ, List.length_cons, List.length_nil, Nat.reduceAdd, AV.sh, AV.sh1, AV.sh0, AO.sh, List.map_cons, List.map_nil, Nat.zero_add, Nat.add_zero, setAll])
  | ((apply AOps.splitP; exact rfl; exact rfl) <;> intro h)
  | ((apply AOps.splitN; exact rfl; exact rfl) <;> intro h)
  | (apply w_move; exact rfl; exact rfl)
  | (apply w_assign; exact rfl; exact rfl)
  | apply AWp.seq
  | apply AWp.region
  | ((apply AWp.condP; exact rfl) <;> intro h)
  | ((apply AWp.condN; exact rfl) <;> intro h)
  | (apply AWp.condT; exact rfl)
  | (apply AWp.condF; exact rfl)
  | ((apply AWp.condB; exact rfl) <;> intro h)
  | apply AWp.block
  | apply AWp.ret
  | apply AWp.exit
  | apply AWp.skip
  | (apply if_pos'; exact rfl)
  | (apply if_neg'; decide)
  | (apply w_skip; exact rfl)
  | (apply w_pickT; exact rfl; exact rfl; exact rfl)
  | (apply w_pickF; exact rfl; exact rfl; exact rfl)
  | (apply w_len; exact rfl; exact rfl; first | exact .ints _ | exact .intss _ | exact .sli rfl | exact .sls rfl | exact .slr rfl | exact .orow rfl | exact .nil)
  | (apply w_callu [0] (insertionSortZ_c _ _ F); (first | exact handed1 rfl True.intro | exact handed2 rfl rfl rfl True.intro True.intro); (focus ((repeat (first | exact imu_nil | refine imu_cons rfl (.val _) ?_ | refine imu_cons rfl (.ints _) ?_ | refine imu_cons rfl (.own rfl) ?_ | refine imu_cons rfl (.sli rfl (by decide)) ?_ | refine imu_cons rfl (.intss _) ?_ | refine imu_cons rfl (.sls rfl (by decide)) ?_ | refine imu_cons rfl (imu_agg2 (.val _) (.own rfl)) ?_ | refine imu_cons rfl (imu_agg2 (.own rfl) (.own rfl)) ?_ | refine imu_cons rfl (imu_agg1 (.own rfl)) ?_)); done)); rintro v os0 ⟨rfl, rfl⟩; try simp only [List.nil_append, List.cons_append, List.set_cons_zero, List.set_cons_succ, List.length_cons, List.length_nil, Nat.reduceAdd, AV.sh, AV.sh1, AV.sh0, AO.sh, List.map_cons, List.map_nil, Nat.zero_add, Nat.add_zero, setAll])
  | omega
  | ((first | apply w_lss | apply w_leq | apply w_gtr | apply w_geq | apply w_eql | apply w_neq | apply w_add | apply w_sub | apply w_mul | apply w_idx | apply w_ld | apply w_fld | apply w_fa | apply w_extv | apply w_min | apply w_max | apply w_slhi | apply w_sllo | apply w_bs2); iterate 3 exact rfl)
  | ((first | apply w_eqlb | apply w_neqb | apply w_idxs | apply w_lds | apply w_ext); iterate 3 exact rfl)
  | (apply w_rem; exact rfl; exact rfl; exact rfl; (focus (omega; done)); (focus (omega; done)))
  | (apply w_quo; exact rfl; exact rfl; exact rfl; (focus (omega; done)); (focus (omega; done)))
  | (apply w_remT; exact rfl; exact rfl; exact rfl)
  | (apply w_quoT; exact rfl; exact rfl; exact rfl)
  | ((first | apply w_not | apply w_neg | apply w_conv | apply w_build0 | apply w_bs1 | apply w_boxa); iterate 2 exact rfl)
  | (apply w_idxo; exact rfl; exact rfl; (first | exact .sli rfl | exact .sls rfl | exact .slr rfl); exact rfl)
  | ((first | apply w_idxr | apply w_ldr); iterate 4 exact rfl)
  | (apply w_ldo; iterate 4 exact rfl)
  | (apply w_ldls; iterate 4 exact rfl)
  | (apply w_ldrp; iterate 4 exact rfl)
  | (apply w_ldb; iterate 5 exact rfl)
  | (apply w_ldst; iterate 5 exact rfl)
  | ((first | apply w_sllh | apply w_stbi); iterate 4 exact rfl)
  | ((first | apply w_oslo | apply w_oshi | apply w_stbii); iterate 4 exact rfl)
  | (apply w_build1; exact rfl; exact rfl; (first | exact one_val rfl rfl | exact one_ints | exact one_intss | exact one_own rfl True.intro))
  | (apply w_build2; exact rfl; exact rfl; exact rfl; (first | exact one_val rfl rfl | exact one_ints | exact one_intss | exact one_own rfl True.intro); (first | exact one_val rfl rfl | exact one_ints | exact one_intss | exact one_own rfl True.intro))
  | (apply w_bs0; iterate 1 exact rfl)
  | (apply w_appn; exact rfl; exact rfl; (first | exact .ints _ | exact .sli rfl | exact .orow rfl | exact .nil | exact .osub rfl (by simp; omega)); exact rfl)
  | (apply w_app; exact rfl; exact rfl; exact rfl; exact rfl; (first | exact .ints _ | exact .sli rfl | exact .orow rfl | exact .nil | exact .osub rfl (by simp; omega)); rotate_left 1; simp only [Env.mp, List.map_cons, List.map_nil, List.set_cons_zero, List.set_cons_succ, AV.kill, AV.kill1, AO.kill, AV.noRow, AV.noRow1, AO.via, reduceIte, Nat.reduceEqDiff, Nat.reduceLT, Env.up, Nat.zero_ne_one, Nat.one_ne_zero, Nat.reduceAdd, List.cons_append, List.nil_append]; rotate_left 1)
  | (apply w_alst; iterate 2 exact rfl)
  | (apply w_alone; iterate 3 exact rfl)
  | (apply w_mki; exact rfl; exact rfl; rotate_left 3; exact rfl; rotate_left 1)
  | (apply w_sti; exact rfl; exact rfl; rotate_left 1; exact rfl; rotate_left 2)
  | (apply w_stst; iterate 5 exact rfl)
  | (apply w_stbv; iterate 6 exact rfl)
  | (apply w_stbo; exact rfl; exact rfl; exact rfl; exact rfl; exact rfl; exact True.intro)
  | ((apply AOps.splitB; exact rfl; exact rfl) <;> intro h)
  | apply AllOf.nil
  | (apply AllOf.cons; exact rfl)
  | (apply AAny.take; exact rfl; exact rfl; kernel_rfl; kernel_rfl)
  | (apply AAny.all; exact rfl)
  | (apply AAny.done; exact rfl)
  | (apply inI_of <;> omega)
  | omega
  | (simp <;> omega))
  all_goals exact ⟨_, _, .unit Try.results54, ⟨rfl, rfl⟩, rfl, rfl, by simp [AO.plain]⟩
theorem sortZ_c (T T2 : TypeId) (F : Value) : AFnU Try.prog 48 [.own 0, .val F] [.sls T T2 []] (fun v os => v = .tuple #[] ∧ os = [.sls T T2 []]) := by
  have hbl := bitsLen_c ((0 : Nat) : Int) (by omega) (by omega)
  (refine AFnUN.start Try.func48 Try.ntmps48 rfl (by kernel_rfl) fun K => ?_; simp only [Env.start, enumF, List.length_cons, List.length_nil, Nat.reduceAdd, Nat.reduceSub, List.cons_append, List.nil_append])
  repeat' (first
  | (apply AOps.nil; try simp only [List.nil_append, List.cons_append, List.set_cons_zero, List.set_cons_succ, List.length_cons, List.length_nil, Nat.reduceAdd, AV.sh, AV.sh1, AV.sh0, AO.sh, List.map_cons, List.map_nil, Nat.zero_add, Nat.add_zero, setAll])
  | ((apply AOps.splitP; exact rfl; exact rfl) <;> intro h)
  | ((apply AOps.splitN; exact rfl; exact rfl) <;> intro h)
  | (apply w_move; exact rfl; exact rfl)
  | (apply w_assign; exact rfl; exact rfl)
  | apply AWp.seq
  | apply AWp.region
  | ((apply AWp.condP; exact rfl) <;> intro h)
  | ((apply AWp.condN; exact rfl) <;> intro h)
  | (apply AWp.condT; exact rfl)
  | (apply AWp.condF; exact rfl)
  | ((apply AWp.condB; exact rfl) <;> intro h)
  | apply AWp.block
  | apply AWp.ret
  | apply AWp.exit
  | apply AWp.skip
  | (apply AWp.regionQ; kernel_rfl; kernel_rfl)
  | (apply if_pos'; exact rfl)
  | (apply if_neg'; decide)
  | (apply w_skip; exact rfl)
  | (apply w_pickT; exact rfl; exact rfl; exact rfl)
  | (apply w_pickF; exact rfl; exact rfl; exact rfl)
  | (apply w_len; exact rfl; exact rfl; first | exact .ints _ | exact .intss _ | exact .sli rfl | exact .sls rfl | exact .slr rfl | exact .orow rfl | exact .nil)
  | ((first | apply w_convu | apply w_not | apply w_neg | apply w_conv | apply w_build0 | apply w_bs1 | apply w_boxa); iterate 2 exact rfl)
  | (apply w_call (hbl); exact rfl; exact rfl; focus ((repeat (first | exact im_nil | refine im_cons rfl (.val _) ?_ | refine im_cons rfl (.ints _) ?_ | refine im_cons rfl (.intss _) ?_ | refine im_cons rfl (.sli rfl) ?_ | refine im_cons rfl (.sls rfl) ?_ | refine im_cons rfl (.orow rfl) ?_ | refine im_cons rfl (.osub rfl (by simp; omega)) ?_ | refine im_cons rfl (.nil) ?_ | refine im_cons rfl (.nils) ?_ | refine im_cons rfl (im_agg2 (.val _) (.ints _)) ?_ | refine im_cons rfl (im_agg2 (.val _) (.sli rfl)) ?_ | refine im_cons rfl (im_agg2 (.val _) (.nil)) ?_ | refine im_cons rfl (im_agg2 (.ints _) (.intss _)) ?_ | refine im_cons rfl (im_agg2 (.ints _) (.sls rfl)) ?_ | refine im_cons rfl (im_agg2 (.sli rfl) (.intss _)) ?_ | refine im_cons rfl (im_agg2 (.sli rfl) (.sls rfl)) ?_ | refine im_cons rfl (im_agg1 (.ints _)) ?_ | refine im_cons rfl (im_agg1 (.sli rfl)) ?_ | refine im_cons rfl (im_agg1 (.intss _)) ?_ | refine im_cons rfl (im_agg1 (.sls rfl)) ?_ | refine im_cons rfl (im_agg1 (.nil)) ?_ | refine im_cons rfl (im_agg1 (.nils)) ?_)); done))
  | (apply w_callu [0] (pdqsortZ_c _ _ _ F); (first | exact handed1 rfl True.intro | exact handed2 rfl rfl rfl True.intro True.intro); (focus ((repeat (first | exact imu_nil | refine imu_cons rfl (.val _) ?_ | refine imu_cons rfl (.ints _) ?_ | refine imu_cons rfl (.own rfl) ?_ | refine imu_cons rfl (.sli rfl (by decide)) ?_ | refine imu_cons rfl (.intss _) ?_ | refine imu_cons rfl (.sls rfl (by decide)) ?_ | refine imu_cons rfl (imu_agg2 (.val _) (.own rfl)) ?_ | refine imu_cons rfl (imu_agg2 (.own rfl) (.own rfl)) ?_ | refine imu_cons rfl (imu_agg1 (.own rfl)) ?_)); done)); rintro v os0 ⟨rfl, rfl⟩; try simp only [List.nil_append, List.cons_append, List.set_cons_zero, List.set_cons_succ, List.length_cons, List.length_nil, Nat.reduceAdd, AV.sh, AV.sh1, AV.sh0, AO.sh, List.map_cons, List.map_nil, Nat.zero_add, Nat.add_zero, setAll])
  | omega
  | ((first | apply w_lss | apply w_leq | apply w_gtr | apply w_geq | apply w_eql | apply w_neq | apply w_add | apply w_sub | apply w_mul | apply w_idx | apply w_ld | apply w_fld | apply w_fa | apply w_extv | apply w_min | apply w_max | apply w_slhi | apply w_sllo | apply w_bs2); iterate 3 exact rfl)
  | ((first | apply w_eqlb | apply w_neqb | apply w_idxs | apply w_lds | apply w_ext); iterate 3 exact rfl)
  | (apply w_rem; exact rfl; exact rfl; exact rfl; (focus (omega; done)); (focus (omega; done)))
  | (apply w_quo; exact rfl; exact rfl; exact rfl; (focus (omega; done)); (focus (omega; done)))
  | (apply w_remT; exact rfl; exact rfl; exact rfl)
  | (apply w_quoT; exact rfl; exact rfl; exact rfl)
  | (apply w_idxo; exact rfl; exact rfl; (first | exact .sli rfl | exact .sls rfl | exact .slr rfl); exact rfl)
  | ((first | apply w_idxr | apply w_ldr); iterate 4 exact rfl)
  | (apply w_ldo; iterate 4 exact rfl)
  | (apply w_ldls; iterate 4 exact rfl)
  | (apply w_ldrp; iterate 4 exact rfl)
  | (apply w_ldb; iterate 5 exact rfl)
  | (apply w_ldst; iterate 5 exact rfl)
  | ((first | apply w_sllh | apply w_stbi); iterate 4 exact rfl)
  | ((first | apply w_oslo | apply w_oshi | apply w_stbii); iterate 4 exact rfl)
  | (apply w_build1; exact rfl; exact rfl; (first | exact one_val rfl rfl | exact one_ints | exact one_intss | exact one_own rfl True.intro))
  | (apply w_build2; exact rfl; exact rfl; exact rfl; (first | exact one_val rfl rfl | exact one_ints | exact one_intss | exact one_own rfl True.intro); (first | exact one_val rfl rfl | exact one_ints | exact one_intss | exact one_own rfl True.intro))
  | (apply w_bs0; iterate 1 exact rfl)
  | (apply w_appn; exact rfl; exact rfl; (first | exact .ints _ | exact .sli rfl | exact .orow rfl | exact .nil | exact .osub rfl (by simp; omega)); exact rfl)
  | (apply w_app; exact rfl; exact rfl; exact rfl; exact rfl; (first | exact .ints _ | exact .sli rfl | exact .orow rfl | exact .nil | exact .osub rfl (by simp; omega)); rotate_left 1; simp only [Env.mp, List.map_cons, List.map_nil, List.set_cons_zero, List.set_cons_succ, AV.kill, AV.kill1, AO.kill, AV.noRow, AV.noRow1, AO.via, reduceIte, Nat.reduceEqDiff, Nat.reduceLT, Env.up, Nat.zero_ne_one, Nat.one_ne_zero, Nat.reduceAdd, List.cons_append, List.nil_append]; rotate_left 1)
  | (apply w_alst; iterate 2 exact rfl)
  | (apply w_alone; iterate 3 exact rfl)
  | (apply w_mki; exact rfl; exact rfl; rotate_left 3; exact rfl; rotate_left 1)
  | (apply w_sti; exact rfl; exact rfl; rotate_left 1; exact rfl; rotate_left 2)
  | (apply w_stst; iterate 5 exact rfl)
  | (apply w_stbv; iterate 6 exact rfl)
  | (apply w_stbo; exact rfl; exact rfl; exact rfl; exact rfl; exact rfl; exact True.intro)
  | ((apply AOps.splitB; exact rfl; exact rfl) <;> intro h)
  | apply AllOf.nil
  | (apply AllOf.cons; exact rfl)
  | (apply AAny.take; exact rfl; exact rfl; kernel_rfl; kernel_rfl)
  | (apply AAny.all; exact rfl)
  | (apply AAny.done; exact rfl)
  | (apply inI_of <;> omega)
  | omega
  | (simp <;> omega))
  all_goals exact ⟨_, _, .unit Try.results48, ⟨rfl, rfl⟩, rfl, rfl, by simp [AO.plain]⟩
end Go.Proofs.Ytkickbnahajpoaa
/-
  Sums of polynomials: the plain law. No program.
-/
namespace Go.Proofs.Ytkickbnahajpoaa
open Go Go.RowKit
attribute [local irreducible] AWp AOps ResIs Ret1 QOp LOp COp AFnV AFn Imms LeE LeO
set_option maxHeartbeats 1000000
set_option linter.unusedSimpArgs false
set_option linter.unusedVariables false

/-- The map holds keys of moderate size. -/
def BdK (L : List (Int × Int × Int)) : Prop := ∀ t ∈ L, (0 ≤ t.1 ∧ t.1 ≤ 100000) ∧ (0 ≤ t.2.1 ∧ t.2.1 ≤ 100000)
/-- f and k times the first n terms of g. -/
def adL (f : List (List Int)) (k : Int) (g : List (List Int)) : Nat → List (List Int)
  | 0 => f
  | n + 1 => putT (adL f k g n) (geti (gets g (n : Nat)) 0) (geti (gets g (n : Nat)) 1) (k * geti (gets g (n : Nat)) 2 % 55441)
theorem put_len (ts : List (List Int)) (i j c : Int) : (putT ts i j c).length ≤ ts.length + 1 := by
  induction ts with
  | nil => rw [putT_nil]; split <;> simp
  | cons t ts ih =>
    by_cases hb : bef i j t
    · rw [putT_bef hb]; simp; omega
    · rw [putT_nbef hb]
      repeat' split
      all_goals simp only [List.length_cons]
      all_goals omega
theorem putM_len (L : List (Int × Int × Int)) (i j c : Int) : (putM L i j c).length ≤ L.length + 1 := by
  induction L with
  | nil => rw [putM_nil]; simp
  | cons t L ih =>
    rw [putM_cons]
    split
    · simp
    · simp; omega
/-- Terms within the bounds of polynomials. -/
def In60 (ts : List (List Int)) : Prop := ∀ t ∈ ts, (geti t 0 ≤ 60 ∧ geti t 1 ≤ 60) ∧ geti t 2 ≤ 55440
theorem po_iff {ts : List (List Int)} (hs : Srt ts) (hz : TNz ts) (hi : In60 ts) : isPo ts = decide (ts.length ≤ 200) := by
  refine isPo_all fun j hj => ?_
  have e : gets ts (j : Nat) = ts[j] := by simp [gets, List.getD_eq_getElem?_getD, hj]
  have hm : ts[j] ∈ ts := List.getElem_mem hj
  obtain ⟨⟨a1, a2, a3, _⟩, a4⟩ := hz _ hm
  have a5 := hi _ hm
  refine ⟨by rw [e]; exact a1, by rw [e]; omega, by rw [e]; omega, by rw [e]; omega, fun hpos => ?_⟩
  have hs' := hs
  unfold Srt at hs'
  rw [List.pairwise_iff_getElem] at hs'
  have := hs' (j - 1) j (by omega) hj (by omega)
  have e2 : gets ts ((j : Int) - 1) = ts[j - 1] := by
    rw [show ((j : Int) - 1) = ((j - 1 : Nat) : Int) by omega]
    simp [gets, List.getD_eq_getElem?_getD, show j - 1 < ts.length by omega]
  rw [e, e2]
  unfold bef at this
  unfold Bef
  omega

structure AdI (ts : List (List Int)) (L : List (Int × Int × Int)) (n : Nat) : Prop where
  srt : Srt ts
  nz : TNz ts
  in60 : In60 ts
  len : ts.length ≤ 200 + n
  keys : KeysN L
  co : CoOk L
  bd : BdK L
  lenM : L.length ≤ 200 + n
  eq : ∀ a b, cof ts a b = lookM L a b
end Go.Proofs.Ytkickbnahajpoaa
/-
  Sparse polynomials: brought to a list. No condition.
-/
namespace Go.Proofs.Ytkickbnahajpoaa
open Go Go.RowKit
attribute [local irreducible] AWp AOps ResIs Ret1 QOp LOp COp AFnV AFn Imms LeE LeO
set_option maxHeartbeats 1000000
set_option linter.unusedSimpArgs false
set_option linter.unusedVariables false

/-- The rows of the entries 'done' whose number is not 0. -/
def rowsD (L : List (Int × Int × Int)) (done : List Nat) : List (List Int) := (done.filter fun i => decide ((L.getD i (0, 0, 0)).2.2 ≠ 0)).map fun i => [(L.getD i (0, 0, 0)).1, (L.getD i (0, 0, 0)).2.1, (L.getD i (0, 0, 0)).2.2]
theorem rowsD_snoc (L : List (Int × Int × Int)) (done : List Nat) (i : Nat) : rowsD L (done ++ [i]) = if (L.getD i (0, 0, 0)).2.2 ≠ 0 then rowsD L done ++ [[(L.getD i (0, 0, 0)).1, (L.getD i (0, 0, 0)).2.1, (L.getD i (0, 0, 0)).2.2]] else rowsD L done := by
  unfold rowsD
  rw [List.filter_append]
  by_cases h : (L.getD i (0, 0, 0)).2.2 = 0
  · simp only [List.filter_cons, List.filter_nil, h, ne_eq, not_true_eq_false, decide_false, Bool.false_eq_true, if_false, List.append_nil]
  · simp only [List.filter_cons, List.filter_nil, h, ne_eq, not_false_eq_true, decide_true, if_true, List.map_append, List.map_cons, List.map_nil]
theorem rowsD_len (L : List (Int × Int × Int)) (done : List Nat) : (rowsD L done).length ≤ done.length := by
  unfold rowsD; rw [List.length_map]; exact List.length_filter_le _ _
theorem rowsD_all (L : List (Int × Int × Int)) : rowsD L (List.range L.length) = rowsNz L := by
  unfold rowsD rowsNz
  have e : L = (List.range L.length).map fun i => L.getD i (0, 0, 0) := by
    apply List.ext_getElem
    · simp
    · intro i h1 h2
      simp [List.getD_eq_getElem?_getD, h1]
  conv => rhs; rw [e]
  rw [List.filter_map, List.map_map]
  rfl
theorem done_perm {done : List Nat} {n : Nat} (hnd : done.Nodup) (hd : ∀ i ∈ done, i < n) (hall : ∀ i, i < n → i ∈ done) : done.Perm (List.range n) :=
  (List.perm_ext_iff_of_nodup hnd List.nodup_range).2 fun i => ⟨fun h => List.mem_range.2 (hd i h), fun h => hall i (List.mem_range.1 h)⟩
theorem done_len {done : List Nat} {n : Nat} (hnd : done.Nodup) (hd : ∀ i ∈ done, i < n) : done.length ≤ n := by
  have hp : ((List.range n).filter fun i => decide (i ∈ done)).Perm done := (List.perm_ext_iff_of_nodup (List.nodup_range.filter _) hnd).2 fun i => by
    simp only [List.mem_filter, List.mem_range, decide_eq_true_eq]
    exact ⟨fun h => h.2, fun h => ⟨hd i h, h⟩⟩
  have := List.length_filter_le (fun i => decide (i ∈ done)) (List.range n)
  rw [hp.length_eq, List.length_range] at this
  exact this
theorem done_lt {done : List Nat} {n i : Nat} (hnd : done.Nodup) (hd : ∀ i ∈ done, i < n) (hi : i < n) (hni : i ∉ done) : done.length < n := by
  have := done_len (n := n) (done := done ++ [i]) (List.nodup_append.2 ⟨hnd, by simp, fun a ha b hb => by simp at hb; subst hb; exact fun e => hni (e ▸ ha)⟩) (fun j hj => by rcases List.mem_append.1 hj with h | h; exact hd j h; simp at h; omega)
  simp at this
  omega
theorem done_snoc {done : List Nat} {n i : Nat} (h : done.Nodup ∧ ∀ j ∈ done, j < n) (hi : i < n) (hni : i ∉ done) : (done ++ [i]).Nodup ∧ ∀ j ∈ done ++ [i], j < n :=
  ⟨List.nodup_append.2 ⟨h.1, by simp, fun a ha b hb => by simp at hb; subst hb; exact fun e => hni (e ▸ ha)⟩, fun j hj => by rcases List.mem_append.1 hj with h2 | h2; exact h.2 j h2; simp at h2; omega⟩

theorem bd_at {L : List (Int × Int × Int)} (h : BdK L) (i : Nat) : (0 ≤ (L.getD i (0, 0, 0)).1 ∧ (L.getD i (0, 0, 0)).1 ≤ 100000) ∧ (0 ≤ (L.getD i (0, 0, 0)).2.1 ∧ (L.getD i (0, 0, 0)).2.1 ≤ 100000) := by
  rw [List.getD_eq_getElem?_getD]
  cases e : L[i]? with
  | none => simp
  | some t => exact h t (List.mem_of_getElem? e)
theorem co_at {L : List (Int × Int × Int)} (h : CoOk L) (i : Nat) : 0 ≤ (L.getD i (0, 0, 0)).2.2 ∧ (L.getD i (0, 0, 0)).2.2 ≤ 55440 := by
  rw [List.getD_eq_getElem?_getD]
  cases e : L[i]? with
  | none => simp
  | some t => exact h t (List.mem_of_getElem? e)

set_option maxHeartbeats 8000000 in
theorem poly_c (L : List (Int × Int × Int)) (hK : KeysN L) (hC : CoOk L) (hB : BdK L) (hn : L.length ≤ 1000000) (ts : List (List Int)) (hs : Srt ts) (hz : TNz ts) (hcof : ∀ a b, cof ts a b = lookM L a b) :
    AFn Try.prog 37 [.ro (mapRo L)] (IsPolC 52 2 (if isPo ts then ts else []) (if isPo ts then 0 else 3)) := by
  have hI : ∀ i : Nat, inI (L.getD i (0, 0, 0)).1 ∧ inI (L.getD i (0, 0, 0)).2.1 ∧ inI (L.getD i (0, 0, 0)).2.2 := fun i => by
    have h1 := bd_at hB i
    have h2 := co_at hC i
    unfold inI
    omega
  (refine AFn.start Try.func37 Try.ntmps37 rfl (by kernel_rfl) fun hk => ?_; simp only [Env.start, enumF, List.length_cons, List.length_nil, Nat.reduceAdd, Nat.reduceSub, List.cons_append, List.nil_append])
  refine AWp.open 0 rfl fun b es clock hM => ?_
  repeat' (first
  | (apply AOps.nil; try simp only [List.nil_append, List.cons_append, List.set_cons_zero, List.set_cons_succ, List.length_cons, List.length_nil, Nat.reduceAdd, AV.sh, AV.sh1, AV.sh0, AO.sh, List.map_cons, List.map_nil, Nat.zero_add, Nat.add_zero, setAll])
  | ((apply AOps.splitP; exact rfl; exact rfl) <;> intro h)
  | ((apply AOps.splitN; exact rfl; exact rfl) <;> intro h)
  | (apply w_move; exact rfl; exact rfl)
  | (apply w_assign; exact rfl; exact rfl)
  | apply AWp.seq
  | apply AWp.region
  | ((apply AWp.condP; exact rfl) <;> intro h)
  | ((apply AWp.condN; exact rfl) <;> intro h)
  | (apply AWp.condT; exact rfl)
  | (apply AWp.condF; exact rfl)
  | ((apply AWp.condB; exact rfl) <;> intro h)
  | apply AWp.block
  | apply AWp.ret
  | apply AWp.exit
  | apply AWp.skip
  | (apply AWp.regionQ; kernel_rfl; kernel_rfl)
  | (apply if_pos'; exact rfl)
  | (apply if_neg'; decide)
  | (apply w_skip; exact rfl)
  | (apply w_pickT; exact rfl; exact rfl; exact rfl)
  | (apply w_pickF; exact rfl; exact rfl; exact rfl)
  | (apply w_len; exact rfl; exact rfl; first | exact .ints _ | exact .intss _ | exact .sli rfl | exact .sls rfl | exact .slr rfl | exact .orow rfl | exact .nil)
  | ((first | apply w_bsr0 | apply w_makemap | apply w_bs0); iterate 1 exact rfl)
  | ((first | apply w_bsr1 | apply w_lss | apply w_leq | apply w_gtr | apply w_geq | apply w_eql | apply w_neq | apply w_add | apply w_sub | apply w_mul | apply w_idx | apply w_ld | apply w_fld | apply w_fa | apply w_extv | apply w_min | apply w_max | apply w_slhi | apply w_sllo | apply w_bs2); iterate 3 exact rfl)
  | (apply w_appr; exact rfl; exact rfl; exact rfl; exact rfl; exact rfl; exact rfl; exact rfl; rotate_left 1; simp only [Env.mp, List.map_cons, List.map_nil, List.set_cons_zero, List.set_cons_succ, AV.kill, AV.kill1, AO.kill, AV.rin, AV.rin1, AV.noRow, AV.noRow1, AO.via, reduceIte, Nat.reduceEqDiff, Nat.reduceLT, Env.up, Nat.zero_ne_one, Nat.one_ne_zero, Nat.reduceAdd, List.cons_append, List.nil_append]; rotate_left 1)
  | ((first | apply w_mapset | apply w_sllh | apply w_stbi); iterate 4 exact rfl)
  | (apply w_maplook; iterate 5 exact rfl)
  | (apply w_idxarr; exact rfl; exact rfl; exact rfl; decide; decide; exact rfl)
  | (apply w_range hM; exact rfl; exact rfl)
  | ((first | apply w_eqlb | apply w_neqb | apply w_idxs | apply w_lds | apply w_ext); iterate 3 exact rfl)
  | (apply w_rem; exact rfl; exact rfl; exact rfl; (focus (omega; done)); (focus (omega; done)))
  | (apply w_quo; exact rfl; exact rfl; exact rfl; (focus (omega; done)); (focus (omega; done)))
  | (apply w_remT; exact rfl; exact rfl; exact rfl)
  | (apply w_quoT; exact rfl; exact rfl; exact rfl)
  | ((first | apply w_not | apply w_neg | apply w_conv | apply w_build0 | apply w_bs1 | apply w_boxa); iterate 2 exact rfl)
  | (apply w_idxo; exact rfl; exact rfl; (first | exact .sli rfl | exact .sls rfl | exact .slr rfl); exact rfl)
  | ((first | apply w_idxr | apply w_ldr); iterate 4 exact rfl)
  | (apply w_ldo; iterate 4 exact rfl)
  | (apply w_ldls; iterate 4 exact rfl)
  | (apply w_ldrp; iterate 4 exact rfl)
  | (apply w_ldb; iterate 5 exact rfl)
  | (apply w_ldst; iterate 5 exact rfl)
  | ((first | apply w_oslo | apply w_oshi | apply w_stbii); iterate 4 exact rfl)
  | (apply w_build1; exact rfl; exact rfl; (first | exact one_val rfl rfl | exact one_ints | exact one_intss | exact one_own rfl True.intro))
  | (apply w_build2; exact rfl; exact rfl; exact rfl; (first | exact one_val rfl rfl | exact one_ints | exact one_intss | exact one_own rfl True.intro); (first | exact one_val rfl rfl | exact one_ints | exact one_intss | exact one_own rfl True.intro))
  | (apply w_appn; exact rfl; exact rfl; (first | exact .ints _ | exact .sli rfl | exact .orow rfl | exact .nil | exact .osub rfl (by simp; omega)); exact rfl)
  | (apply w_app; exact rfl; exact rfl; exact rfl; exact rfl; (first | exact .ints _ | exact .sli rfl | exact .orow rfl | exact .nil | exact .osub rfl (by simp; omega)); rotate_left 1; simp only [Env.mp, List.map_cons, List.map_nil, List.set_cons_zero, List.set_cons_succ, AV.kill, AV.kill1, AO.kill, AV.noRow, AV.noRow1, AO.via, reduceIte, Nat.reduceEqDiff, Nat.reduceLT, Env.up, Nat.zero_ne_one, Nat.one_ne_zero, Nat.reduceAdd, List.cons_append, List.nil_append]; rotate_left 1)
  | (apply w_alst; iterate 2 exact rfl)
  | (apply w_alone; iterate 3 exact rfl)
  | (apply w_sti; exact rfl; exact rfl; rotate_left 1; exact rfl; rotate_left 2)
  | (apply w_stst; iterate 5 exact rfl)
  | (apply w_stbv; iterate 6 exact rfl)
  | (apply w_stbo; exact rfl; exact rfl; exact rfl; exact rfl; exact rfl; exact True.intro)
  | ((apply AOps.splitB; exact rfl; exact rfl) <;> intro h)
  | apply AllOf.nil
  | (apply AllOf.cons; exact rfl)
  | (apply AAny.take; exact rfl; exact rfl; kernel_rfl; kernel_rfl)
  | (apply AAny.all; exact rfl)
  | (apply AAny.done; exact rfl)
  | (apply inI_of <;> omega)
  | omega
  | (simp <;> omega))
  refine AWp.loop (ι := List Nat) (fun _ => ⟨37, [(2, .optr 0 0), (3, .i 0), (4, .optr 2 0), (9, .ro (mapAt b es clock)), (10, .own 3)]⟩) (fun done => [.bx 26 [.val (.slice none 0 0)], .sls 52 2 (rowsD L done), .bx 26 [.own 1], .ob (itOb b es clock done)]) (fun done => done.Nodup ∧ ∀ i ∈ done, i < L.length) (fun done => L.length - done.length) [] ⟨List.nodup_nil, by simp⟩ ⟨lee rfl (by (repeat (first | exact le_nil | refine le_eq rfl rfl ?_ | refine le_eq rfl (congrArg AV.i (by omega)) ?_))), by (repeat (first | exact lo_nil | refine lo_dead ?_ | refine lo_eq rfl ?_)), rfl, rfl⟩ ?_
  rintro done hd
  have hlen := done_len hd.1 hd.2
  have hrl := rowsD_len L done
  repeat' (first
  | (apply AOps.nil; try simp only [List.nil_append, List.cons_append, List.set_cons_zero, List.set_cons_succ, List.length_cons, List.length_nil, Nat.reduceAdd, AV.sh, AV.sh1, AV.sh0, AO.sh, List.map_cons, List.map_nil, Nat.zero_add, Nat.add_zero, setAll])
  | ((apply AOps.splitP; exact rfl; exact rfl) <;> intro h)
  | ((apply AOps.splitN; exact rfl; exact rfl) <;> intro h)
  | (apply w_move; exact rfl; exact rfl)
  | (apply w_assign; exact rfl; exact rfl)
  | apply AWp.seq
  | apply AWp.region
  | ((apply AWp.condP; exact rfl) <;> intro h)
  | ((apply AWp.condN; exact rfl) <;> intro h)
  | (apply AWp.condT; exact rfl)
  | (apply AWp.condF; exact rfl)
  | ((apply AWp.condB; exact rfl) <;> intro h)
  | apply AWp.block
  | apply AWp.ret
  | apply AWp.exit
  | apply AWp.skip
  | (apply AWp.regionQ; kernel_rfl; kernel_rfl)
  | (apply if_pos'; exact rfl)
  | (apply if_neg'; decide)
  | (apply w_skip; exact rfl)
  | (apply w_pickT; exact rfl; exact rfl; exact rfl)
  | (apply w_pickF; exact rfl; exact rfl; exact rfl)
  | (apply w_len; exact rfl; exact rfl; first | exact .ints _ | exact .intss _ | exact .sli rfl | exact .sls rfl | exact .slr rfl | exact .orow rfl | exact .nil)
  | ((first | apply w_bsr0 | apply w_makemap | apply w_bs0); iterate 1 exact rfl)
  | ((first | apply w_bsr1 | apply w_lss | apply w_leq | apply w_gtr | apply w_geq | apply w_eql | apply w_neq | apply w_add | apply w_sub | apply w_mul | apply w_idx | apply w_ld | apply w_fld | apply w_fa | apply w_extv | apply w_min | apply w_max | apply w_slhi | apply w_sllo | apply w_bs2); iterate 3 exact rfl)
  | (apply w_appr; exact rfl; exact rfl; exact rfl; exact rfl; exact rfl; exact rfl; exact rfl; rotate_left 1; simp only [Env.mp, List.map_cons, List.map_nil, List.set_cons_zero, List.set_cons_succ, AV.kill, AV.kill1, AO.kill, AV.rin, AV.rin1, AV.noRow, AV.noRow1, AO.via, reduceIte, Nat.reduceEqDiff, Nat.reduceLT, Env.up, Nat.zero_ne_one, Nat.one_ne_zero, Nat.reduceAdd, List.cons_append, List.nil_append]; rotate_left 1)
  | ((first | apply w_slshi | apply w_slslo | apply w_bs3 | apply w_mapset | apply w_sllh | apply w_stbi); iterate 4 exact rfl)
  | (apply w_storp; exact rfl; exact rfl; rotate_left 2; exact rfl; rotate_left 2)
  | (apply w_maplook; iterate 5 exact rfl)
  | (apply w_idxarr; exact rfl; exact rfl; exact rfl; decide; decide; exact rfl)
  | (apply AOps.next (.tmp 9) hM hd.2; exact rfl; exact rfl; exact rfl; (intro hall; rotate_left 1); (intro i hi hnd; try simp only [List.nil_append, List.cons_append, List.set_cons_zero, List.set_cons_succ, List.length_cons, List.length_nil, Nat.reduceAdd, AV.sh, AV.sh1, AV.sh0, AO.sh, List.map_cons, List.map_nil, Nat.zero_add, Nat.add_zero, setAll]; rotate_left 1))
  | (apply w_entry (.tmp 9) hM hi; exact rfl; exact rfl; exact rfl; exact rfl; exact rfl)
  | exact (hI _).1
  | exact (hI _).2.1
  | exact (hI _).2.2
  | omega
  | ((first | apply w_eqlb | apply w_neqb | apply w_idxs | apply w_lds | apply w_ext); iterate 3 exact rfl)
  | (apply w_rem; exact rfl; exact rfl; exact rfl; (focus (omega; done)); (focus (omega; done)))
  | (apply w_quo; exact rfl; exact rfl; exact rfl; (focus (omega; done)); (focus (omega; done)))
  | (apply w_remT; exact rfl; exact rfl; exact rfl)
  | (apply w_quoT; exact rfl; exact rfl; exact rfl)
  | ((first | apply w_not | apply w_neg | apply w_conv | apply w_build0 | apply w_bs1 | apply w_boxa); iterate 2 exact rfl)
  | (apply w_idxo; exact rfl; exact rfl; (first | exact .sli rfl | exact .sls rfl | exact .slr rfl); exact rfl)
  | ((first | apply w_idxr | apply w_ldr); iterate 4 exact rfl)
  | (apply w_ldo; iterate 4 exact rfl)
  | (apply w_ldls; iterate 4 exact rfl)
  | (apply w_ldrp; iterate 4 exact rfl)
  | (apply w_ldb; iterate 5 exact rfl)
  | (apply w_ldst; iterate 5 exact rfl)
  | ((first | apply w_oslo | apply w_oshi | apply w_stbii); iterate 4 exact rfl)
  | (apply w_build1; exact rfl; exact rfl; (first | exact one_val rfl rfl | exact one_ints | exact one_intss | exact one_own rfl True.intro))
  | (apply w_build2; exact rfl; exact rfl; exact rfl; (first | exact one_val rfl rfl | exact one_ints | exact one_intss | exact one_own rfl True.intro); (first | exact one_val rfl rfl | exact one_ints | exact one_intss | exact one_own rfl True.intro))
  | (apply w_appn; exact rfl; exact rfl; (first | exact .ints _ | exact .sli rfl | exact .orow rfl | exact .nil | exact .osub rfl (by simp; omega)); exact rfl)
  | (apply w_app; exact rfl; exact rfl; exact rfl; exact rfl; (first | exact .ints _ | exact .sli rfl | exact .orow rfl | exact .nil | exact .osub rfl (by simp; omega)); rotate_left 1; simp only [Env.mp, List.map_cons, List.map_nil, List.set_cons_zero, List.set_cons_succ, AV.kill, AV.kill1, AO.kill, AV.noRow, AV.noRow1, AO.via, reduceIte, Nat.reduceEqDiff, Nat.reduceLT, Env.up, Nat.zero_ne_one, Nat.one_ne_zero, Nat.reduceAdd, List.cons_append, List.nil_append]; rotate_left 1)
  | (apply w_alst; iterate 2 exact rfl)
  | (apply w_alone; iterate 3 exact rfl)
  | (apply w_sti; exact rfl; exact rfl; rotate_left 1; exact rfl; rotate_left 2)
  | (apply w_stst; iterate 5 exact rfl)
  | (apply w_stbv; iterate 6 exact rfl)
  | (apply w_stbo; exact rfl; exact rfl; exact rfl; exact rfl; exact rfl; exact True.intro)
  | ((apply AOps.splitB; exact rfl; exact rfl) <;> intro h)
  | apply AllOf.nil
  | (apply AllOf.cons; exact rfl)
  | (apply AAny.take; exact rfl; exact rfl; kernel_rfl; kernel_rfl)
  | (apply AAny.all; exact rfl)
  | (apply AAny.done; exact rfl)
  | (apply inI_of <;> omega)
  | omega
  | (simp <;> omega))
  rotate_left 1
  · have e : rowsD L done ++ [[(L.getD i (0, 0, 0)).1, (L.getD i (0, 0, 0)).2.1, (L.getD i (0, 0, 0)).2.2]] = rowsD L (done ++ [i]) := by rw [rowsD_snoc, if_pos h]
    exact ⟨done ++ [i], done_snoc hd hi hnd, by have := done_lt hd.1 hd.2 hi hnd; simp; omega, ⟨lee rfl (by (repeat (first | exact le_nil | refine le_eq rfl rfl ?_ | refine le_eq rfl (congrArg AV.i (by omega)) ?_ | refine le_eq rfl (congrArg AV.i (e)) ?_))), by (repeat (first | exact lo_nil | refine lo_dead ?_ | refine lo_eq rfl ?_ | refine lo_eq (congrArg (AO.sli _) (e)) ?_ | refine lo_eq (congrArg (AO.sls _ _) (e)) ?_)), rfl, rfl⟩⟩
  · have e : rowsD L done = rowsD L (done ++ [i]) := by rw [rowsD_snoc, if_neg h]
    exact ⟨done ++ [i], done_snoc hd hi hnd, by have := done_lt hd.1 hd.2 hi hnd; simp; omega, ⟨lee rfl (by (repeat (first | exact le_nil | refine le_eq rfl rfl ?_ | refine le_eq rfl (congrArg AV.i (by omega)) ?_ | refine le_eq rfl (congrArg AV.i (e)) ?_))), by (repeat (first | exact lo_nil | refine lo_dead ?_ | refine lo_eq rfl ?_ | refine lo_eq (congrArg (AO.sli _) (e)) ?_ | refine lo_eq (congrArg (AO.sls _ _) (e)) ?_)), rfl, rfl⟩⟩
  have hperm : (rowsD L done).Perm ts := by
    have h1 : (rowsD L done).Perm (rowsD L (List.range L.length)) := ((done_perm hd.1 hd.2 hall).filter _).map _
    rw [rowsD_all] at h1
    exact h1.trans (rows_perm hK hs hz hcof)
  have hst : ts.Pairwise (fun a b => cmpW a b < 0) := hs.imp fun {a b} hab => by rw [cmpW_lt]; unfold bef at hab; omega
  have hTB : ∀ d ∈ rowsD L done, TB d := fun d hdm => by
    have h1 := (hz d (hperm.mem_iff.1 hdm)).1
    unfold TOk at h1
    exact ⟨h1.1, by omega, by omega⟩
  have hip := implIsPoly_c ts
  by_cases hzr : rowsD L done = []
  · have et : ts = [] := by rw [hzr] at hperm; exact hperm.symm.eq_nil
    rw [hzr]
    subst et
    have hp : isPo [] = true := by simp [isPo, IsPo]
    rw [hp] at hip
    simp only [hp, if_true]
    have hsz := fun T T2 => sortZ_c T T2 (.func (.func 47) #[] #[])
    repeat' (first
  | (apply AOps.nil; try simp only [List.nil_append, List.cons_append, List.set_cons_zero, List.set_cons_succ, List.length_cons, List.length_nil, Nat.reduceAdd, AV.sh, AV.sh1, AV.sh0, AO.sh, List.map_cons, List.map_nil, Nat.zero_add, Nat.add_zero, setAll])
  | ((apply AOps.splitP; exact rfl; exact rfl) <;> intro h)
  | ((apply AOps.splitN; exact rfl; exact rfl) <;> intro h)
  | (apply w_move; exact rfl; exact rfl)
  | (apply w_assign; exact rfl; exact rfl)
  | apply AWp.seq
  | apply AWp.region
  | ((apply AWp.condP; exact rfl) <;> intro h)
  | ((apply AWp.condN; exact rfl) <;> intro h)
  | (apply AWp.condT; exact rfl)
  | (apply AWp.condF; exact rfl)
  | ((apply AWp.condB; exact rfl) <;> intro h)
  | apply AWp.block
  | apply AWp.ret
  | apply AWp.exit
  | apply AWp.skip
  | (apply if_pos'; exact rfl)
  | (apply if_neg'; decide)
  | (apply w_skip; exact rfl)
  | (apply w_pickT; exact rfl; exact rfl; exact rfl)
  | (apply w_pickF; exact rfl; exact rfl; exact rfl)
  | (apply w_len; exact rfl; exact rfl; first | exact .ints _ | exact .intss _ | exact .sli rfl | exact .sls rfl | exact .slr rfl | exact .orow rfl | exact .nil)
  | (apply w_callu [1] (hsz _ _); (first | exact handed1 rfl True.intro | exact handed2 rfl rfl rfl True.intro True.intro); (focus ((repeat (first | exact imu_nil | refine imu_cons rfl (.val _) ?_ | refine imu_cons rfl (.ints _) ?_ | refine imu_cons rfl (.own rfl) ?_ | refine imu_cons rfl (.sli rfl (by decide)) ?_ | refine imu_cons rfl (.intss _) ?_ | refine imu_cons rfl (.sls rfl (by decide)) ?_ | refine imu_cons rfl (imu_agg2 (.val _) (.own rfl)) ?_ | refine imu_cons rfl (imu_agg2 (.own rfl) (.own rfl)) ?_ | refine imu_cons rfl (imu_agg1 (.own rfl)) ?_)); done)); rintro v os0 ⟨rfl, rfl⟩; try simp only [List.nil_append, List.cons_append, List.set_cons_zero, List.set_cons_succ, List.length_cons, List.length_nil, Nat.reduceAdd, AV.sh, AV.sh1, AV.sh0, AO.sh, List.map_cons, List.map_nil, Nat.zero_add, Nat.add_zero, setAll])
  | (apply w_call (hip); exact rfl; exact rfl; focus ((repeat (first | exact im_nil | refine im_cons rfl (.val _) ?_ | refine im_cons rfl (.ints _) ?_ | refine im_cons rfl (.intss _) ?_ | refine im_cons rfl (.sli rfl) ?_ | refine im_cons rfl (.sls rfl) ?_ | refine im_cons rfl (.orow rfl) ?_ | refine im_cons rfl (.osub rfl (by simp; omega)) ?_ | refine im_cons rfl (.nil) ?_ | refine im_cons rfl (.nils) ?_ | refine im_cons rfl (im_agg2 (.val _) (.ints _)) ?_ | refine im_cons rfl (im_agg2 (.val _) (.sli rfl)) ?_ | refine im_cons rfl (im_agg2 (.val _) (.nil)) ?_ | refine im_cons rfl (im_agg2 (.ints _) (.intss _)) ?_ | refine im_cons rfl (im_agg2 (.ints _) (.sls rfl)) ?_ | refine im_cons rfl (im_agg2 (.sli rfl) (.intss _)) ?_ | refine im_cons rfl (im_agg2 (.sli rfl) (.sls rfl)) ?_ | refine im_cons rfl (im_agg1 (.ints _)) ?_ | refine im_cons rfl (im_agg1 (.sli rfl)) ?_ | refine im_cons rfl (im_agg1 (.intss _)) ?_ | refine im_cons rfl (im_agg1 (.sls rfl)) ?_ | refine im_cons rfl (im_agg1 (.nil)) ?_ | refine im_cons rfl (im_agg1 (.nils)) ?_)); done))
  | omega
  | ((first | apply w_lss | apply w_leq | apply w_gtr | apply w_geq | apply w_eql | apply w_neq | apply w_add | apply w_sub | apply w_mul | apply w_idx | apply w_ld | apply w_fld | apply w_fa | apply w_extv | apply w_min | apply w_max | apply w_slhi | apply w_sllo | apply w_bs2); iterate 3 exact rfl)
  | ((first | apply w_eqlb | apply w_neqb | apply w_idxs | apply w_lds | apply w_ext); iterate 3 exact rfl)
  | (apply w_rem; exact rfl; exact rfl; exact rfl; (focus (omega; done)); (focus (omega; done)))
  | (apply w_quo; exact rfl; exact rfl; exact rfl; (focus (omega; done)); (focus (omega; done)))
  | (apply w_remT; exact rfl; exact rfl; exact rfl)
  | (apply w_quoT; exact rfl; exact rfl; exact rfl)
  | ((first | apply w_not | apply w_neg | apply w_conv | apply w_build0 | apply w_bs1 | apply w_boxa); iterate 2 exact rfl)
  | (apply w_idxo; exact rfl; exact rfl; (first | exact .sli rfl | exact .sls rfl | exact .slr rfl); exact rfl)
  | ((first | apply w_idxr | apply w_ldr); iterate 4 exact rfl)
  | (apply w_ldo; iterate 4 exact rfl)
  | (apply w_ldls; iterate 4 exact rfl)
  | (apply w_ldrp; iterate 4 exact rfl)
  | (apply w_ldb; iterate 5 exact rfl)
  | (apply w_ldst; iterate 5 exact rfl)
  | ((first | apply w_sllh | apply w_stbi); iterate 4 exact rfl)
  | ((first | apply w_oslo | apply w_oshi | apply w_stbii); iterate 4 exact rfl)
  | (apply w_build1; exact rfl; exact rfl; (first | exact one_val rfl rfl | exact one_ints | exact one_intss | exact one_own rfl True.intro))
  | (apply w_build2; exact rfl; exact rfl; exact rfl; (first | exact one_val rfl rfl | exact one_ints | exact one_intss | exact one_own rfl True.intro); (first | exact one_val rfl rfl | exact one_ints | exact one_intss | exact one_own rfl True.intro))
  | (apply w_bs0; iterate 1 exact rfl)
  | (apply w_appn; exact rfl; exact rfl; (first | exact .ints _ | exact .sli rfl | exact .orow rfl | exact .nil | exact .osub rfl (by simp; omega)); exact rfl)
  | (apply w_app; exact rfl; exact rfl; exact rfl; exact rfl; (first | exact .ints _ | exact .sli rfl | exact .orow rfl | exact .nil | exact .osub rfl (by simp; omega)); rotate_left 1; simp only [Env.mp, List.map_cons, List.map_nil, List.set_cons_zero, List.set_cons_succ, AV.kill, AV.kill1, AO.kill, AV.noRow, AV.noRow1, AO.via, reduceIte, Nat.reduceEqDiff, Nat.reduceLT, Env.up, Nat.zero_ne_one, Nat.one_ne_zero, Nat.reduceAdd, List.cons_append, List.nil_append]; rotate_left 1)
  | (apply w_alst; iterate 2 exact rfl)
  | (apply w_alone; iterate 3 exact rfl)
  | (apply w_sti; exact rfl; exact rfl; rotate_left 1; exact rfl; rotate_left 2)
  | (apply w_stst; iterate 5 exact rfl)
  | (apply w_stbv; iterate 6 exact rfl)
  | (apply w_stbo; exact rfl; exact rfl; exact rfl; exact rfl; exact rfl; exact True.intro)
  | ((apply AOps.splitB; exact rfl; exact rfl) <;> intro h)
  | apply AllOf.nil
  | (apply AllOf.cons; exact rfl)
  | (apply AAny.take; exact rfl; exact rfl; kernel_rfl; kernel_rfl)
  | (apply AAny.all; exact rfl)
  | (apply AAny.done; exact rfl)
  | (apply inI_of <;> omega)
  | omega
  | (simp <;> omega))
    exact ⟨_, _, _, .c1u Try.results37 rfl rfl rfl rfl, .tup2 (.agg1 (.sls rfl)), rfl, rfl⟩
  · have hpos : 0 < (rowsD L done).length := List.length_pos_iff.2 hzr
    refine w_sortg cmpW_ok hTB ⟨hpos, by omega⟩ rfl rfl rfl fun idx hp hss => ?_
    have hsi := sorted_idx hp hss
    rw [sorted_eq (hsi.1.trans hperm) hsi.2 hst]
    simp only [Env.mp, List.map_cons, List.map_nil, List.set_cons_zero, List.set_cons_succ, AV.kill, AV.kill1, AO.kill, AV.lose, AV.lose1, List.map_append, map_orow_kill, AV.noRow, AV.noRow1, AO.via, reduceIte, Nat.reduceEqDiff, Nat.reduceLT, Env.up, Nat.zero_ne_one, Nat.one_ne_zero, Nat.reduceAdd, List.cons_append, List.nil_append]
    cases hpo : isPo ts
    · rw [hpo] at hip
      simp only [Bool.false_eq_true, if_false]
      repeat' (first
  | (apply AOps.nil; try simp only [List.nil_append, List.cons_append, List.set_cons_zero, List.set_cons_succ, List.length_cons, List.length_nil, Nat.reduceAdd, AV.sh, AV.sh1, AV.sh0, AO.sh, List.map_cons, List.map_nil, Nat.zero_add, Nat.add_zero, setAll])
  | ((apply AOps.splitP; exact rfl; exact rfl) <;> intro h)
  | ((apply AOps.splitN; exact rfl; exact rfl) <;> intro h)
  | (apply w_move; exact rfl; exact rfl)
  | (apply w_assign; exact rfl; exact rfl)
  | apply AWp.seq
  | apply AWp.region
  | ((apply AWp.condP; exact rfl) <;> intro h)
  | ((apply AWp.condN; exact rfl) <;> intro h)
  | (apply AWp.condT; exact rfl)
  | (apply AWp.condF; exact rfl)
  | ((apply AWp.condB; exact rfl) <;> intro h)
  | apply AWp.block
  | apply AWp.ret
  | apply AWp.exit
  | apply AWp.skip
  | (apply if_pos'; exact rfl)
  | (apply if_neg'; decide)
  | (apply w_skip; exact rfl)
  | (apply w_pickT; exact rfl; exact rfl; exact rfl)
  | (apply w_pickF; exact rfl; exact rfl; exact rfl)
  | (apply w_len; exact rfl; exact rfl; first | exact .ints _ | exact .intss _ | exact .sli rfl | exact .sls rfl | exact .slr rfl | exact .orow rfl | exact .nil)
  | (apply w_call (hip); exact rfl; exact rfl; focus ((repeat (first | exact im_nil | refine im_cons rfl (.val _) ?_ | refine im_cons rfl (.ints _) ?_ | refine im_cons rfl (.intss _) ?_ | refine im_cons rfl (.sli rfl) ?_ | refine im_cons rfl (.sls rfl) ?_ | refine im_cons rfl (.orow rfl) ?_ | refine im_cons rfl (.osub rfl (by simp; omega)) ?_ | refine im_cons rfl (.nil) ?_ | refine im_cons rfl (.nils) ?_ | refine im_cons rfl (im_agg2 (.val _) (.ints _)) ?_ | refine im_cons rfl (im_agg2 (.val _) (.sli rfl)) ?_ | refine im_cons rfl (im_agg2 (.val _) (.nil)) ?_ | refine im_cons rfl (im_agg2 (.ints _) (.intss _)) ?_ | refine im_cons rfl (im_agg2 (.ints _) (.sls rfl)) ?_ | refine im_cons rfl (im_agg2 (.sli rfl) (.intss _)) ?_ | refine im_cons rfl (im_agg2 (.sli rfl) (.sls rfl)) ?_ | refine im_cons rfl (im_agg1 (.ints _)) ?_ | refine im_cons rfl (im_agg1 (.sli rfl)) ?_ | refine im_cons rfl (im_agg1 (.intss _)) ?_ | refine im_cons rfl (im_agg1 (.sls rfl)) ?_ | refine im_cons rfl (im_agg1 (.nil)) ?_ | refine im_cons rfl (im_agg1 (.nils)) ?_)); done))
  | omega
  | ((first | apply w_lss | apply w_leq | apply w_gtr | apply w_geq | apply w_eql | apply w_neq | apply w_add | apply w_sub | apply w_mul | apply w_idx | apply w_ld | apply w_fld | apply w_fa | apply w_extv | apply w_min | apply w_max | apply w_slhi | apply w_sllo | apply w_bs2); iterate 3 exact rfl)
  | ((first | apply w_eqlb | apply w_neqb | apply w_idxs | apply w_lds | apply w_ext); iterate 3 exact rfl)
  | (apply w_rem; exact rfl; exact rfl; exact rfl; (focus (omega; done)); (focus (omega; done)))
  | (apply w_quo; exact rfl; exact rfl; exact rfl; (focus (omega; done)); (focus (omega; done)))
  | (apply w_remT; exact rfl; exact rfl; exact rfl)
  | (apply w_quoT; exact rfl; exact rfl; exact rfl)
  | ((first | apply w_not | apply w_neg | apply w_conv | apply w_build0 | apply w_bs1 | apply w_boxa); iterate 2 exact rfl)
  | (apply w_idxo; exact rfl; exact rfl; (first | exact .sli rfl | exact .sls rfl | exact .slr rfl); exact rfl)
  | ((first | apply w_idxr | apply w_ldr); iterate 4 exact rfl)
  | (apply w_ldo; iterate 4 exact rfl)
  | (apply w_ldls; iterate 4 exact rfl)
  | (apply w_ldrp; iterate 4 exact rfl)
  | (apply w_ldb; iterate 5 exact rfl)
  | (apply w_ldst; iterate 5 exact rfl)
  | ((first | apply w_sllh | apply w_stbi); iterate 4 exact rfl)
  | ((first | apply w_oslo | apply w_oshi | apply w_stbii); iterate 4 exact rfl)
  | (apply w_build1; exact rfl; exact rfl; (first | exact one_val rfl rfl | exact one_ints | exact one_intss | exact one_own rfl True.intro))
  | (apply w_build2; exact rfl; exact rfl; exact rfl; (first | exact one_val rfl rfl | exact one_ints | exact one_intss | exact one_own rfl True.intro); (first | exact one_val rfl rfl | exact one_ints | exact one_intss | exact one_own rfl True.intro))
  | (apply w_bs0; iterate 1 exact rfl)
  | (apply w_appn; exact rfl; exact rfl; (first | exact .ints _ | exact .sli rfl | exact .orow rfl | exact .nil | exact .osub rfl (by simp; omega)); exact rfl)
  | (apply w_app; exact rfl; exact rfl; exact rfl; exact rfl; (first | exact .ints _ | exact .sli rfl | exact .orow rfl | exact .nil | exact .osub rfl (by simp; omega)); rotate_left 1; simp only [Env.mp, List.map_cons, List.map_nil, List.set_cons_zero, List.set_cons_succ, AV.kill, AV.kill1, AO.kill, AV.noRow, AV.noRow1, AO.via, reduceIte, Nat.reduceEqDiff, Nat.reduceLT, Env.up, Nat.zero_ne_one, Nat.one_ne_zero, Nat.reduceAdd, List.cons_append, List.nil_append]; rotate_left 1)
  | (apply w_alst; iterate 2 exact rfl)
  | (apply w_alone; iterate 3 exact rfl)
  | (apply w_sti; exact rfl; exact rfl; rotate_left 1; exact rfl; rotate_left 2)
  | (apply w_stst; iterate 5 exact rfl)
  | (apply w_stbv; iterate 6 exact rfl)
  | (apply w_stbo; exact rfl; exact rfl; exact rfl; exact rfl; exact rfl; exact True.intro)
  | ((apply AOps.splitB; exact rfl; exact rfl) <;> intro h)
  | apply AllOf.nil
  | (apply AllOf.cons; exact rfl)
  | (apply AAny.take; exact rfl; exact rfl; kernel_rfl; kernel_rfl)
  | (apply AAny.all; exact rfl)
  | (apply AAny.done; exact rfl)
  | (apply inI_of <;> omega)
  | omega
  | (simp <;> omega))
      exact ⟨_, _, _, .c1u Try.results37 rfl rfl rfl rfl, .tup2 (.agg1 (.nils 52 2)), rfl, rfl⟩
    · rw [hpo] at hip
      simp only [if_true]
      repeat' (first
  | (apply AOps.nil; try simp only [List.nil_append, List.cons_append, List.set_cons_zero, List.set_cons_succ, List.length_cons, List.length_nil, Nat.reduceAdd, AV.sh, AV.sh1, AV.sh0, AO.sh, List.map_cons, List.map_nil, Nat.zero_add, Nat.add_zero, setAll])
  | ((apply AOps.splitP; exact rfl; exact rfl) <;> intro h)
  | ((apply AOps.splitN; exact rfl; exact rfl) <;> intro h)
  | (apply w_move; exact rfl; exact rfl)
  | (apply w_assign; exact rfl; exact rfl)
  | apply AWp.seq
  | apply AWp.region
  | ((apply AWp.condP; exact rfl) <;> intro h)
  | ((apply AWp.condN; exact rfl) <;> intro h)
  | (apply AWp.condT; exact rfl)
  | (apply AWp.condF; exact rfl)
  | ((apply AWp.condB; exact rfl) <;> intro h)
  | apply AWp.block
  | apply AWp.ret
  | apply AWp.exit
  | apply AWp.skip
  | (apply if_pos'; exact rfl)
  | (apply if_neg'; decide)
  | (apply w_skip; exact rfl)
  | (apply w_pickT; exact rfl; exact rfl; exact rfl)
  | (apply w_pickF; exact rfl; exact rfl; exact rfl)
  | (apply w_len; exact rfl; exact rfl; first | exact .ints _ | exact .intss _ | exact .sli rfl | exact .sls rfl | exact .slr rfl | exact .orow rfl | exact .nil)
  | (apply w_call (hip); exact rfl; exact rfl; focus ((repeat (first | exact im_nil | refine im_cons rfl (.val _) ?_ | refine im_cons rfl (.ints _) ?_ | refine im_cons rfl (.intss _) ?_ | refine im_cons rfl (.sli rfl) ?_ | refine im_cons rfl (.sls rfl) ?_ | refine im_cons rfl (.orow rfl) ?_ | refine im_cons rfl (.osub rfl (by simp; omega)) ?_ | refine im_cons rfl (.nil) ?_ | refine im_cons rfl (.nils) ?_ | refine im_cons rfl (im_agg2 (.val _) (.ints _)) ?_ | refine im_cons rfl (im_agg2 (.val _) (.sli rfl)) ?_ | refine im_cons rfl (im_agg2 (.val _) (.nil)) ?_ | refine im_cons rfl (im_agg2 (.ints _) (.intss _)) ?_ | refine im_cons rfl (im_agg2 (.ints _) (.sls rfl)) ?_ | refine im_cons rfl (im_agg2 (.sli rfl) (.intss _)) ?_ | refine im_cons rfl (im_agg2 (.sli rfl) (.sls rfl)) ?_ | refine im_cons rfl (im_agg1 (.ints _)) ?_ | refine im_cons rfl (im_agg1 (.sli rfl)) ?_ | refine im_cons rfl (im_agg1 (.intss _)) ?_ | refine im_cons rfl (im_agg1 (.sls rfl)) ?_ | refine im_cons rfl (im_agg1 (.nil)) ?_ | refine im_cons rfl (im_agg1 (.nils)) ?_)); done))
  | omega
  | ((first | apply w_lss | apply w_leq | apply w_gtr | apply w_geq | apply w_eql | apply w_neq | apply w_add | apply w_sub | apply w_mul | apply w_idx | apply w_ld | apply w_fld | apply w_fa | apply w_extv | apply w_min | apply w_max | apply w_slhi | apply w_sllo | apply w_bs2); iterate 3 exact rfl)
  | ((first | apply w_eqlb | apply w_neqb | apply w_idxs | apply w_lds | apply w_ext); iterate 3 exact rfl)
  | (apply w_rem; exact rfl; exact rfl; exact rfl; (focus (omega; done)); (focus (omega; done)))
  | (apply w_quo; exact rfl; exact rfl; exact rfl; (focus (omega; done)); (focus (omega; done)))
  | (apply w_remT; exact rfl; exact rfl; exact rfl)
  | (apply w_quoT; exact rfl; exact rfl; exact rfl)
  | ((first | apply w_not | apply w_neg | apply w_conv | apply w_build0 | apply w_bs1 | apply w_boxa); iterate 2 exact rfl)
  | (apply w_idxo; exact rfl; exact rfl; (first | exact .sli rfl | exact .sls rfl | exact .slr rfl); exact rfl)
  | ((first | apply w_idxr | apply w_ldr); iterate 4 exact rfl)
  | (apply w_ldo; iterate 4 exact rfl)
  | (apply w_ldls; iterate 4 exact rfl)
  | (apply w_ldrp; iterate 4 exact rfl)
  | (apply w_ldb; iterate 5 exact rfl)
  | (apply w_ldst; iterate 5 exact rfl)
  | ((first | apply w_sllh | apply w_stbi); iterate 4 exact rfl)
  | ((first | apply w_oslo | apply w_oshi | apply w_stbii); iterate 4 exact rfl)
  | (apply w_build1; exact rfl; exact rfl; (first | exact one_val rfl rfl | exact one_ints | exact one_intss | exact one_own rfl True.intro))
  | (apply w_build2; exact rfl; exact rfl; exact rfl; (first | exact one_val rfl rfl | exact one_ints | exact one_intss | exact one_own rfl True.intro); (first | exact one_val rfl rfl | exact one_ints | exact one_intss | exact one_own rfl True.intro))
  | (apply w_bs0; iterate 1 exact rfl)
  | (apply w_appn; exact rfl; exact rfl; (first | exact .ints _ | exact .sli rfl | exact .orow rfl | exact .nil | exact .osub rfl (by simp; omega)); exact rfl)
  | (apply w_app; exact rfl; exact rfl; exact rfl; exact rfl; (first | exact .ints _ | exact .sli rfl | exact .orow rfl | exact .nil | exact .osub rfl (by simp; omega)); rotate_left 1; simp only [Env.mp, List.map_cons, List.map_nil, List.set_cons_zero, List.set_cons_succ, AV.kill, AV.kill1, AO.kill, AV.noRow, AV.noRow1, AO.via, reduceIte, Nat.reduceEqDiff, Nat.reduceLT, Env.up, Nat.zero_ne_one, Nat.one_ne_zero, Nat.reduceAdd, List.cons_append, List.nil_append]; rotate_left 1)
  | (apply w_alst; iterate 2 exact rfl)
  | (apply w_alone; iterate 3 exact rfl)
  | (apply w_sti; exact rfl; exact rfl; rotate_left 1; exact rfl; rotate_left 2)
  | (apply w_stst; iterate 5 exact rfl)
  | (apply w_stbv; iterate 6 exact rfl)
  | (apply w_stbo; exact rfl; exact rfl; exact rfl; exact rfl; exact rfl; exact True.intro)
  | ((apply AOps.splitB; exact rfl; exact rfl) <;> intro h)
  | apply AllOf.nil
  | (apply AllOf.cons; exact rfl)
  | (apply AAny.take; exact rfl; exact rfl; kernel_rfl; kernel_rfl)
  | (apply AAny.all; exact rfl)
  | (apply AAny.done; exact rfl)
  | (apply inI_of <;> omega)
  | omega
  | (simp <;> omega))
      exact ⟨_, _, _, .c1u Try.results37 rfl rfl rfl rfl, .tup2 (.agg1 (.sls rfl)), rfl, rfl⟩
end Go.Proofs.Ytkickbnahajpoaa
/-
  Products of polynomials: in the program, over maps, and in the reference. No condition.
-/
namespace Go.Proofs.Ytkickbnahajpoaa
open Go Go.RowKit
attribute [local irreducible] AWp AOps ResIs Ret1 QOp LOp COp AFnV AFn Imms LeE LeO
set_option maxHeartbeats 1000000
set_option linter.unusedSimpArgs false
set_option linter.unusedVariables false

/-! ### Sums over lists of indexes -/
def sumL (F : Nat → Int) : List Nat → Int
  | [] => 0
  | i :: l => F i + sumL F l
theorem sumL_snoc (F : Nat → Int) (l : List Nat) (i : Nat) : sumL F (l ++ [i]) = sumL F l + F i := by
  induction l with
  | nil => simp [sumL]
  | cons x l ih => simp only [List.cons_append, sumL, ih]; omega
theorem sumL_perm {F : Nat → Int} {l m : List Nat} (h : l.Perm m) : sumL F l = sumL F m := by
  induction h with
  | nil => rfl
  | cons x _ ih => simp only [sumL, ih]
  | swap x y l => simp only [sumL]; omega
  | trans _ _ h1 h2 => exact h1.trans h2
theorem sumL_succ (F : Nat → Int) (n : Nat) : sumL F (List.range (n + 1)) = sumL F (List.range n) + F n := by
  rw [List.range_succ, sumL_snoc]

/-- The product of the entries i and k, where it falls at (a, b). -/
def tmP (L M : List (Int × Int × Int)) (a b : Int) (i k : Nat) : Int :=
  if (L.getD i (0, 0, 0)).1 + (M.getD k (0, 0, 0)).1 = a ∧ (L.getD i (0, 0, 0)).2.1 + (M.getD k (0, 0, 0)).2.1 = b then (L.getD i (0, 0, 0)).2.2 * (M.getD k (0, 0, 0)).2.2 % 55441 else 0
def rowP (L M : List (Int × Int × Int)) (a b : Int) (i : Nat) : Int := sumL (tmP L M a b i) (List.range M.length)
def convP (L M : List (Int × Int × Int)) (a b : Int) : Int := sumL (rowP L M a b) (List.range L.length)

def Bd (B : Int) (L : List (Int × Int × Int)) : Prop := ∀ t ∈ L, (0 ≤ t.1 ∧ t.1 ≤ B) ∧ (0 ≤ t.2.1 ∧ t.2.1 ≤ B)
theorem bdB_at {B : Int} (hB : 0 ≤ B) {L : List (Int × Int × Int)} (h : Bd B L) (i : Nat) : (0 ≤ (L.getD i (0, 0, 0)).1 ∧ (L.getD i (0, 0, 0)).1 ≤ B) ∧ (0 ≤ (L.getD i (0, 0, 0)).2.1 ∧ (L.getD i (0, 0, 0)).2.1 ≤ B) := by
  rw [List.getD_eq_getElem?_getD]
  cases e : L[i]? with
  | none => simp [hB]
  | some t => exact h t (List.mem_of_getElem? e)

/-- What is said of a map that is being filled. -/
structure MuI (B : Int) (M : List (Int × Int × Int)) (S : Int → Int → Int) (n : Nat) : Prop where
  keys : KeysN M
  co : CoOk M
  bd : Bd B M
  len : M.length ≤ n
  eq : ∀ a b, lookM M a b = S a b % 55441

theorem mu_nil {B : Int} : MuI B [] (fun _ _ => 0) 0 := ⟨List.Pairwise.nil, fun _ h => (by cases h), fun _ h => (by cases h), Nat.le_refl _, fun a b => by simp [lookM_nil]⟩
theorem mu_add {B : Int} {M : List (Int × Int × Int)} {S : Int → Int → Int} {n : Nat} (h : MuI B M S n) {i j c : Int} (hi : 0 ≤ i ∧ i ≤ B) (hj : 0 ≤ j ∧ j ≤ B) {S' : Int → Int → Int} (hS : ∀ a b, S' a b = S a b + (if i = a ∧ j = b then c else 0)) : MuI B (addS M i j c) S' (n + 1) where
  keys := keys_add h.keys _ _ _
  co := co_add h.co _ _ _
  bd := fun x hx => by
    rcases mem_putM x hx with h1 | rfl
    · exact h.bd x h1
    · exact ⟨hi, hj⟩
  len := by
    have := putM_len M i j ((lookM M i j + c) % 55441)
    have := h.len
    unfold addS
    omega
  eq := fun a b => by
    rw [look_add, hS]
    by_cases e : a = i ∧ b = j
    · rw [if_pos e, if_pos ⟨e.1.symm, e.2.symm⟩, h.eq, e.1, e.2]; omega
    · rw [if_neg e, if_neg (fun e' => e ⟨e'.1.symm, e'.2.symm⟩), h.eq]; simp

theorem mulC {c d : Int} (hc : 0 ≤ c ∧ c ≤ 55440) (hd : 0 ≤ d ∧ d ≤ 55440) : 0 ≤ c * d ∧ c * d ≤ 3073593600 := by
  refine ⟨Int.mul_nonneg hc.1 hd.1, ?_⟩
  have := Int.mul_le_mul hc.2 hd.2 hd.1 (by omega : (0 : Int) ≤ 55440)
  omega

set_option maxHeartbeats 8000000 in
theorem times_c (B1 B2 : Int) (h1 : 0 ≤ B1) (h2 : 0 ≤ B2) (hBB : B1 + B2 ≤ 100000) (L1 L2 : List (Int × Int × Int)) (hC1 : CoOk L1) (hC2 : CoOk L2) (hB1 : Bd B1 L1) (hB2 : Bd B2 L2) :
    AFn Try.prog 39 [.ro (mapRo L1), .ro (mapRo L2)] (fun r os => ∃ M, r = .own 0 ∧ os = [.ob (mapOb M)] ∧ MuI (B1 + B2) M (convP L1 L2) (L1.length * L2.length)) := by
  (refine AFn.start Try.func39 Try.ntmps39 rfl (by kernel_rfl) fun hk => ?_; simp only [Env.start, enumF, List.length_cons, List.length_nil, Nat.reduceAdd, Nat.reduceSub, List.cons_append, List.nil_append])
  refine AWp.open 0 rfl fun b1 es1 clock1 hM1 => ?_
  refine AWp.open 1 rfl fun b2 es2 clock2 hM2 => ?_
  repeat' (first
  | (apply AOps.nil; try simp only [List.nil_append, List.cons_append, List.set_cons_zero, List.set_cons_succ, List.length_cons, List.length_nil, Nat.reduceAdd, AV.sh, AV.sh1, AV.sh0, AO.sh, List.map_cons, List.map_nil, Nat.zero_add, Nat.add_zero, setAll])
  | ((apply AOps.splitP; exact rfl; exact rfl) <;> intro h)
  | ((apply AOps.splitN; exact rfl; exact rfl) <;> intro h)
  | (apply w_move; exact rfl; exact rfl)
  | (apply w_assign; exact rfl; exact rfl)
  | apply AWp.seq
  | apply AWp.region
  | ((apply AWp.condP; exact rfl) <;> intro h)
  | ((apply AWp.condN; exact rfl) <;> intro h)
  | (apply AWp.condT; exact rfl)
  | (apply AWp.condF; exact rfl)
  | ((apply AWp.condB; exact rfl) <;> intro h)
  | apply AWp.block
  | apply AWp.ret
  | apply AWp.exit
  | apply AWp.skip
  | (apply AWp.regionQ; kernel_rfl; kernel_rfl)
  | (apply if_pos'; exact rfl)
  | (apply if_neg'; decide)
  | (apply w_skip; exact rfl)
  | (apply w_pickT; exact rfl; exact rfl; exact rfl)
  | (apply w_pickF; exact rfl; exact rfl; exact rfl)
  | (apply w_len; exact rfl; exact rfl; first | exact .ints _ | exact .intss _ | exact .sli rfl | exact .sls rfl | exact .slr rfl | exact .orow rfl | exact .nil)
  | ((first | apply w_bsr0 | apply w_makemap | apply w_bs0); iterate 1 exact rfl)
  | ((first | apply w_bsr1 | apply w_lss | apply w_leq | apply w_gtr | apply w_geq | apply w_eql | apply w_neq | apply w_add | apply w_sub | apply w_mul | apply w_idx | apply w_ld | apply w_fld | apply w_fa | apply w_extv | apply w_min | apply w_max | apply w_slhi | apply w_sllo | apply w_bs2); iterate 3 exact rfl)
  | (apply w_appr; exact rfl; exact rfl; exact rfl; exact rfl; exact rfl; exact rfl; exact rfl; rotate_left 1; simp only [Env.mp, List.map_cons, List.map_nil, List.set_cons_zero, List.set_cons_succ, AV.kill, AV.kill1, AO.kill, AV.rin, AV.rin1, AV.noRow, AV.noRow1, AO.via, reduceIte, Nat.reduceEqDiff, Nat.reduceLT, Env.up, Nat.zero_ne_one, Nat.one_ne_zero, Nat.reduceAdd, List.cons_append, List.nil_append]; rotate_left 1)
  | ((first | apply w_mapset | apply w_sllh | apply w_stbi); iterate 4 exact rfl)
  | (apply w_maplook; iterate 5 exact rfl)
  | (apply w_idxarr; exact rfl; exact rfl; exact rfl; decide; decide; exact rfl)
  | (apply w_range hM1; exact rfl; exact rfl)
  | ((first | apply w_eqlb | apply w_neqb | apply w_idxs | apply w_lds | apply w_ext); iterate 3 exact rfl)
  | (apply w_rem; exact rfl; exact rfl; exact rfl; (focus (omega; done)); (focus (omega; done)))
  | (apply w_quo; exact rfl; exact rfl; exact rfl; (focus (omega; done)); (focus (omega; done)))
  | (apply w_remT; exact rfl; exact rfl; exact rfl)
  | (apply w_quoT; exact rfl; exact rfl; exact rfl)
  | ((first | apply w_not | apply w_neg | apply w_conv | apply w_build0 | apply w_bs1 | apply w_boxa); iterate 2 exact rfl)
  | (apply w_idxo; exact rfl; exact rfl; (first | exact .sli rfl | exact .sls rfl | exact .slr rfl); exact rfl)
  | ((first | apply w_idxr | apply w_ldr); iterate 4 exact rfl)
  | (apply w_ldo; iterate 4 exact rfl)
  | (apply w_ldls; iterate 4 exact rfl)
  | (apply w_ldrp; iterate 4 exact rfl)
  | (apply w_ldb; iterate 5 exact rfl)
  | (apply w_ldst; iterate 5 exact rfl)
  | ((first | apply w_oslo | apply w_oshi | apply w_stbii); iterate 4 exact rfl)
  | (apply w_build1; exact rfl; exact rfl; (first | exact one_val rfl rfl | exact one_ints | exact one_intss | exact one_own rfl True.intro))
  | (apply w_build2; exact rfl; exact rfl; exact rfl; (first | exact one_val rfl rfl | exact one_ints | exact one_intss | exact one_own rfl True.intro); (first | exact one_val rfl rfl | exact one_ints | exact one_intss | exact one_own rfl True.intro))
  | (apply w_appn; exact rfl; exact rfl; (first | exact .ints _ | exact .sli rfl | exact .orow rfl | exact .nil | exact .osub rfl (by simp; omega)); exact rfl)
  | (apply w_app; exact rfl; exact rfl; exact rfl; exact rfl; (first | exact .ints _ | exact .sli rfl | exact .orow rfl | exact .nil | exact .osub rfl (by simp; omega)); rotate_left 1; simp only [Env.mp, List.map_cons, List.map_nil, List.set_cons_zero, List.set_cons_succ, AV.kill, AV.kill1, AO.kill, AV.noRow, AV.noRow1, AO.via, reduceIte, Nat.reduceEqDiff, Nat.reduceLT, Env.up, Nat.zero_ne_one, Nat.one_ne_zero, Nat.reduceAdd, List.cons_append, List.nil_append]; rotate_left 1)
  | (apply w_alst; iterate 2 exact rfl)
  | (apply w_alone; iterate 3 exact rfl)
  | (apply w_sti; exact rfl; exact rfl; rotate_left 1; exact rfl; rotate_left 2)
  | (apply w_stst; iterate 5 exact rfl)
  | (apply w_stbv; iterate 6 exact rfl)
  | (apply w_stbo; exact rfl; exact rfl; exact rfl; exact rfl; exact rfl; exact True.intro)
  | ((apply AOps.splitB; exact rfl; exact rfl) <;> intro h)
  | apply AllOf.nil
  | (apply AllOf.cons; exact rfl)
  | (apply AAny.take; exact rfl; exact rfl; kernel_rfl; kernel_rfl)
  | (apply AAny.all; exact rfl)
  | (apply AAny.done; exact rfl)
  | (apply inI_of <;> omega)
  | omega
  | (simp <;> omega))
  refine AWp.loop (ι := List Nat × List (Int × Int × Int)) (fun _ => ⟨42, [(1, .ro (mapAt b2 es2 clock2)), (5, .own 0), (11, .ro (mapAt b1 es1 clock1)), (12, .own 1)]⟩) (fun x => [.ob (mapOb x.2), .ob (itOb b1 es1 clock1 x.1)])
    (fun x => (x.1.Nodup ∧ ∀ i ∈ x.1, i < L1.length) ∧ MuI (B1 + B2) x.2 (fun a b => sumL (rowP L1 L2 a b) x.1) (x.1.length * L2.length)) (fun x => L1.length - x.1.length) ([], []) ⟨⟨List.nodup_nil, by simp⟩, by simpa [sumL] using mu_nil⟩ ⟨lee rfl (by (repeat (first | exact le_nil | refine le_eq rfl rfl ?_ | refine le_eq rfl (congrArg AV.i (by omega)) ?_))), by (repeat (first | exact lo_nil | refine lo_dead ?_ | refine lo_eq rfl ?_)), rfl, rfl⟩ ?_
  rintro ⟨done, M⟩ ⟨hd, hmu⟩
  dsimp only at hd hmu
  have hlen := done_len hd.1 hd.2
  repeat' (first
  | (apply AOps.nil; try simp only [List.nil_append, List.cons_append, List.set_cons_zero, List.set_cons_succ, List.length_cons, List.length_nil, Nat.reduceAdd, AV.sh, AV.sh1, AV.sh0, AO.sh, List.map_cons, List.map_nil, Nat.zero_add, Nat.add_zero, setAll])
  | ((apply AOps.splitP; exact rfl; exact rfl) <;> intro h)
  | ((apply AOps.splitN; exact rfl; exact rfl) <;> intro h)
  | (apply w_move; exact rfl; exact rfl)
  | (apply w_assign; exact rfl; exact rfl)
  | apply AWp.seq
  | apply AWp.region
  | ((apply AWp.condP; exact rfl) <;> intro h)
  | ((apply AWp.condN; exact rfl) <;> intro h)
  | (apply AWp.condT; exact rfl)
  | (apply AWp.condF; exact rfl)
  | ((apply AWp.condB; exact rfl) <;> intro h)
  | apply AWp.block
  | apply AWp.ret
  | apply AWp.exit
  | apply AWp.skip
  | (apply AWp.regionQ; kernel_rfl; kernel_rfl)
  | (apply if_pos'; exact rfl)
  | (apply if_neg'; decide)
  | (apply w_skip; exact rfl)
  | (apply w_pickT; exact rfl; exact rfl; exact rfl)
  | (apply w_pickF; exact rfl; exact rfl; exact rfl)
  | (apply w_len; exact rfl; exact rfl; first | exact .ints _ | exact .intss _ | exact .sli rfl | exact .sls rfl | exact .slr rfl | exact .orow rfl | exact .nil)
  | ((first | apply w_makemap | apply w_bs0); iterate 1 exact rfl)
  | ((first | apply w_mapset | apply w_sllh | apply w_stbi); iterate 4 exact rfl)
  | (apply w_maplook; iterate 5 exact rfl)
  | (apply w_idxarr; exact rfl; exact rfl; exact rfl; decide; decide; exact rfl)
  | (apply AOps.next (.tmp 11) hM1 hd.2; exact rfl; exact rfl; exact rfl; (intro hall; rotate_left 1); (intro i hi hnd; try simp only [List.nil_append, List.cons_append, List.set_cons_zero, List.set_cons_succ, List.length_cons, List.length_nil, Nat.reduceAdd, AV.sh, AV.sh1, AV.sh0, AO.sh, List.map_cons, List.map_nil, Nat.zero_add, Nat.add_zero, setAll]; rotate_left 1))
  | (apply w_entry (.tmp 11) hM1 hi; exact rfl; exact rfl; exact rfl; exact rfl; exact rfl)
  | (apply w_range hM2; exact rfl; exact rfl)
  | ((first | apply w_lss | apply w_leq | apply w_gtr | apply w_geq | apply w_eql | apply w_neq | apply w_add | apply w_sub | apply w_mul | apply w_idx | apply w_ld | apply w_fld | apply w_fa | apply w_extv | apply w_min | apply w_max | apply w_slhi | apply w_sllo | apply w_bs2); iterate 3 exact rfl)
  | ((first | apply w_eqlb | apply w_neqb | apply w_idxs | apply w_lds | apply w_ext); iterate 3 exact rfl)
  | (apply w_rem; exact rfl; exact rfl; exact rfl; (focus (omega; done)); (focus (omega; done)))
  | (apply w_quo; exact rfl; exact rfl; exact rfl; (focus (omega; done)); (focus (omega; done)))
  | (apply w_remT; exact rfl; exact rfl; exact rfl)
  | (apply w_quoT; exact rfl; exact rfl; exact rfl)
  | ((first | apply w_not | apply w_neg | apply w_conv | apply w_build0 | apply w_bs1 | apply w_boxa); iterate 2 exact rfl)
  | (apply w_idxo; exact rfl; exact rfl; (first | exact .sli rfl | exact .sls rfl | exact .slr rfl); exact rfl)
  | ((first | apply w_idxr | apply w_ldr); iterate 4 exact rfl)
  | (apply w_ldo; iterate 4 exact rfl)
  | (apply w_ldls; iterate 4 exact rfl)
  | (apply w_ldrp; iterate 4 exact rfl)
  | (apply w_ldb; iterate 5 exact rfl)
  | (apply w_ldst; iterate 5 exact rfl)
  | ((first | apply w_oslo | apply w_oshi | apply w_stbii); iterate 4 exact rfl)
  | (apply w_build1; exact rfl; exact rfl; (first | exact one_val rfl rfl | exact one_ints | exact one_intss | exact one_own rfl True.intro))
  | (apply w_build2; exact rfl; exact rfl; exact rfl; (first | exact one_val rfl rfl | exact one_ints | exact one_intss | exact one_own rfl True.intro); (first | exact one_val rfl rfl | exact one_ints | exact one_intss | exact one_own rfl True.intro))
  | (apply w_appn; exact rfl; exact rfl; (first | exact .ints _ | exact .sli rfl | exact .orow rfl | exact .nil | exact .osub rfl (by simp; omega)); exact rfl)
  | (apply w_app; exact rfl; exact rfl; exact rfl; exact rfl; (first | exact .ints _ | exact .sli rfl | exact .orow rfl | exact .nil | exact .osub rfl (by simp; omega)); rotate_left 1; simp only [Env.mp, List.map_cons, List.map_nil, List.set_cons_zero, List.set_cons_succ, AV.kill, AV.kill1, AO.kill, AV.noRow, AV.noRow1, AO.via, reduceIte, Nat.reduceEqDiff, Nat.reduceLT, Env.up, Nat.zero_ne_one, Nat.one_ne_zero, Nat.reduceAdd, List.cons_append, List.nil_append]; rotate_left 1)
  | (apply w_alst; iterate 2 exact rfl)
  | (apply w_alone; iterate 3 exact rfl)
  | (apply w_sti; exact rfl; exact rfl; rotate_left 1; exact rfl; rotate_left 2)
  | (apply w_stst; iterate 5 exact rfl)
  | (apply w_stbv; iterate 6 exact rfl)
  | (apply w_stbo; exact rfl; exact rfl; exact rfl; exact rfl; exact rfl; exact True.intro)
  | ((apply AOps.splitB; exact rfl; exact rfl) <;> intro h)
  | apply AllOf.nil
  | (apply AllOf.cons; exact rfl)
  | (apply AAny.take; exact rfl; exact rfl; kernel_rfl; kernel_rfl)
  | (apply AAny.all; exact rfl)
  | (apply AAny.done; exact rfl)
  | (apply inI_of <;> omega)
  | omega
  | (simp <;> omega))
  · have hp := done_perm hd.1 hd.2 hall
    have e : (fun a b => sumL (rowP L1 L2 a b) done) = convP L1 L2 := by funext a b; exact sumL_perm hp
    have hl : done.length = L1.length := by have := hp.length_eq; simpa using this
    rw [e, hl] at hmu
    exact ⟨_, _, _, .v1 Try.results39 rfl, .ob rfl, M, rfl, rfl, hmu⟩
  refine AWp.loop (ι := List Nat × List (Int × Int × Int)) (fun _ => ⟨42, [(1, .ro (mapAt b2 es2 clock2)), (5, .own 0), (6, .optr 2 0), (7, .i (L1.getD i (0, 0, 0)).2.2), (11, .ro (mapAt b1 es1 clock1)), (12, .own 1), (18, .ro (mapAt b2 es2 clock2)), (19, .own 3)]⟩)
    (fun x => [.ob (mapOb x.2), .ob (itOb b1 es1 clock1 (done ++ [i])), .bx 62 [.i (L1.getD i (0, 0, 0)).1, .i (L1.getD i (0, 0, 0)).2.1], .ob (itOb b2 es2 clock2 x.1)])
    (fun x => (x.1.Nodup ∧ ∀ k ∈ x.1, k < L2.length) ∧ MuI (B1 + B2) x.2 (fun a b => sumL (rowP L1 L2 a b) done + sumL (tmP L1 L2 a b i) x.1) (done.length * L2.length + x.1.length)) (fun x => L2.length - x.1.length) ([], M) ⟨⟨List.nodup_nil, by simp⟩, by simpa [sumL] using hmu⟩ ⟨lee rfl (by (repeat (first | exact le_nil | refine le_eq rfl rfl ?_ | refine le_eq rfl (congrArg AV.i (by omega)) ?_))), by (repeat (first | exact lo_nil | refine lo_dead ?_ | refine lo_eq rfl ?_)), rfl, rfl⟩ ?_
  rintro ⟨done2, M2⟩ ⟨hd2, hmu2⟩
  dsimp only at hd2 hmu2
  have hlen2 := done_len hd2.1 hd2.2
  repeat' (first
  | (apply AOps.nil; try simp only [List.nil_append, List.cons_append, List.set_cons_zero, List.set_cons_succ, List.length_cons, List.length_nil, Nat.reduceAdd, AV.sh, AV.sh1, AV.sh0, AO.sh, List.map_cons, List.map_nil, Nat.zero_add, Nat.add_zero, setAll])
  | ((apply AOps.splitP; exact rfl; exact rfl) <;> intro h)
  | ((apply AOps.splitN; exact rfl; exact rfl) <;> intro h)
  | (apply w_move; exact rfl; exact rfl)
  | (apply w_assign; exact rfl; exact rfl)
  | apply AWp.seq
  | apply AWp.region
  | ((apply AWp.condP; exact rfl) <;> intro h)
  | ((apply AWp.condN; exact rfl) <;> intro h)
  | (apply AWp.condT; exact rfl)
  | (apply AWp.condF; exact rfl)
  | ((apply AWp.condB; exact rfl) <;> intro h)
  | apply AWp.block
  | apply AWp.ret
  | apply AWp.exit
  | apply AWp.skip
  | (apply AWp.regionQ; kernel_rfl; kernel_rfl)
  | (apply if_pos'; exact rfl)
  | (apply if_neg'; decide)
  | (apply w_skip; exact rfl)
  | (apply w_pickT; exact rfl; exact rfl; exact rfl)
  | (apply w_pickF; exact rfl; exact rfl; exact rfl)
  | (apply w_len; exact rfl; exact rfl; first | exact .ints _ | exact .intss _ | exact .sli rfl | exact .sls rfl | exact .slr rfl | exact .orow rfl | exact .nil)
  | ((first | apply w_makemap | apply w_bs0); iterate 1 exact rfl)
  | ((first | apply w_mapset | apply w_sllh | apply w_stbi); iterate 4 exact rfl)
  | (apply w_maplook; iterate 5 exact rfl)
  | (apply w_idxarr; exact rfl; exact rfl; exact rfl; decide; decide; exact rfl)
  | (apply AOps.next (.tmp 18) hM2 hd2.2; exact rfl; exact rfl; exact rfl; (intro hall2; rotate_left 1); (intro k hk hnk; try simp only [List.nil_append, List.cons_append, List.set_cons_zero, List.set_cons_succ, List.length_cons, List.length_nil, Nat.reduceAdd, AV.sh, AV.sh1, AV.sh0, AO.sh, List.map_cons, List.map_nil, Nat.zero_add, Nat.add_zero, setAll]; rotate_left 1))
  | ((first | apply w_lss | apply w_leq | apply w_gtr | apply w_geq | apply w_eql | apply w_neq | apply w_add | apply w_sub | apply w_mul | apply w_idx | apply w_ld | apply w_fld | apply w_fa | apply w_extv | apply w_min | apply w_max | apply w_slhi | apply w_sllo | apply w_bs2); iterate 3 exact rfl)
  | ((first | apply w_eqlb | apply w_neqb | apply w_idxs | apply w_lds | apply w_ext); iterate 3 exact rfl)
  | (apply w_rem; exact rfl; exact rfl; exact rfl; (focus (omega; done)); (focus (omega; done)))
  | (apply w_quo; exact rfl; exact rfl; exact rfl; (focus (omega; done)); (focus (omega; done)))
  | (apply w_remT; exact rfl; exact rfl; exact rfl)
  | (apply w_quoT; exact rfl; exact rfl; exact rfl)
  | ((first | apply w_not | apply w_neg | apply w_conv | apply w_build0 | apply w_bs1 | apply w_boxa); iterate 2 exact rfl)
  | (apply w_idxo; exact rfl; exact rfl; (first | exact .sli rfl | exact .sls rfl | exact .slr rfl); exact rfl)
  | ((first | apply w_idxr | apply w_ldr); iterate 4 exact rfl)
  | (apply w_ldo; iterate 4 exact rfl)
  | (apply w_ldls; iterate 4 exact rfl)
  | (apply w_ldrp; iterate 4 exact rfl)
  | (apply w_ldb; iterate 5 exact rfl)
  | (apply w_ldst; iterate 5 exact rfl)
  | ((first | apply w_oslo | apply w_oshi | apply w_stbii); iterate 4 exact rfl)
  | (apply w_build1; exact rfl; exact rfl; (first | exact one_val rfl rfl | exact one_ints | exact one_intss | exact one_own rfl True.intro))
  | (apply w_build2; exact rfl; exact rfl; exact rfl; (first | exact one_val rfl rfl | exact one_ints | exact one_intss | exact one_own rfl True.intro); (first | exact one_val rfl rfl | exact one_ints | exact one_intss | exact one_own rfl True.intro))
  | (apply w_appn; exact rfl; exact rfl; (first | exact .ints _ | exact .sli rfl | exact .orow rfl | exact .nil | exact .osub rfl (by simp; omega)); exact rfl)
  | (apply w_app; exact rfl; exact rfl; exact rfl; exact rfl; (first | exact .ints _ | exact .sli rfl | exact .orow rfl | exact .nil | exact .osub rfl (by simp; omega)); rotate_left 1; simp only [Env.mp, List.map_cons, List.map_nil, List.set_cons_zero, List.set_cons_succ, AV.kill, AV.kill1, AO.kill, AV.noRow, AV.noRow1, AO.via, reduceIte, Nat.reduceEqDiff, Nat.reduceLT, Env.up, Nat.zero_ne_one, Nat.one_ne_zero, Nat.reduceAdd, List.cons_append, List.nil_append]; rotate_left 1)
  | (apply w_alst; iterate 2 exact rfl)
  | (apply w_alone; iterate 3 exact rfl)
  | (apply w_sti; exact rfl; exact rfl; rotate_left 1; exact rfl; rotate_left 2)
  | (apply w_stst; iterate 5 exact rfl)
  | (apply w_stbv; iterate 6 exact rfl)
  | (apply w_stbo; exact rfl; exact rfl; exact rfl; exact rfl; exact rfl; exact True.intro)
  | ((apply AOps.splitB; exact rfl; exact rfl) <;> intro h)
  | apply AllOf.nil
  | (apply AllOf.cons; exact rfl)
  | (apply AAny.take; exact rfl; exact rfl; kernel_rfl; kernel_rfl)
  | (apply AAny.all; exact rfl)
  | (apply AAny.done; exact rfl)
  | (apply inI_of <;> omega)
  | omega
  | (simp <;> omega))
  · have hp := done_perm hd2.1 hd2.2 hall2
    have hl : done2.length = L2.length := by have := hp.length_eq; simpa using this
    refine ⟨(done ++ [i], M2), ⟨done_snoc hd hi hnd, ?_⟩, by have := done_lt hd.1 hd.2 hi hnd; simp; omega, ⟨lee rfl (by (repeat (first | exact le_nil | refine le_eq rfl rfl ?_ | refine le_eq rfl (congrArg AV.i (by omega)) ?_))), by (repeat (first | exact lo_nil | refine lo_dead ?_ | refine lo_eq rfl ?_)), rfl, rfl⟩⟩
    have e : (fun a b => sumL (rowP L1 L2 a b) done + sumL (tmP L1 L2 a b i) done2) = fun a b => sumL (rowP L1 L2 a b) (done ++ [i]) := by
      funext a b
      rw [sumL_snoc, rowP, sumL_perm hp]
    rw [e, hl] at hmu2
    have e2 : done.length * L2.length + L2.length = (done ++ [i]).length * L2.length := by rw [List.length_append, Nat.add_mul]; simp
    rw [e2] at hmu2
    exact hmu2
  · have hm := mulC (co_at hC1 i) (co_at hC2 k)
    have ha := bdB_at (by assumption) hB1 i
    have hb := bdB_at (by assumption) hB2 k
    have hadd := add_c M2 ((L1.getD i (0, 0, 0)).1 + (L2.getD k (0, 0, 0)).1) ((L1.getD i (0, 0, 0)).2.1 + (L2.getD k (0, 0, 0)).2.1) ((L1.getD i (0, 0, 0)).2.2 * (L2.getD k (0, 0, 0)).2.2 % 55441) hmu2.co (by omega)
    have hmu3 := mu_add hmu2 (i := (L1.getD i (0, 0, 0)).1 + (L2.getD k (0, 0, 0)).1) (j := (L1.getD i (0, 0, 0)).2.1 + (L2.getD k (0, 0, 0)).2.1) (c := (L1.getD i (0, 0, 0)).2.2 * (L2.getD k (0, 0, 0)).2.2 % 55441) (by omega) (by omega)
      (S' := fun a b => sumL (rowP L1 L2 a b) done + sumL (tmP L1 L2 a b i) (done2 ++ [k])) (fun a b => by simp only [sumL_snoc]; unfold tmP; omega)
    repeat' (first
  | (apply AOps.nil; try simp only [List.nil_append, List.cons_append, List.set_cons_zero, List.set_cons_succ, List.length_cons, List.length_nil, Nat.reduceAdd, AV.sh, AV.sh1, AV.sh0, AO.sh, List.map_cons, List.map_nil, Nat.zero_add, Nat.add_zero, setAll])
  | ((apply AOps.splitP; exact rfl; exact rfl) <;> intro h)
  | ((apply AOps.splitN; exact rfl; exact rfl) <;> intro h)
  | (apply w_move; exact rfl; exact rfl)
  | (apply w_assign; exact rfl; exact rfl)
  | apply AWp.seq
  | apply AWp.region
  | ((apply AWp.condP; exact rfl) <;> intro h)
  | ((apply AWp.condN; exact rfl) <;> intro h)
  | (apply AWp.condT; exact rfl)
  | (apply AWp.condF; exact rfl)
  | ((apply AWp.condB; exact rfl) <;> intro h)
  | apply AWp.block
  | apply AWp.ret
  | apply AWp.exit
  | apply AWp.skip
  | (apply AWp.regionQ; kernel_rfl; kernel_rfl)
  | (apply if_pos'; exact rfl)
  | (apply if_neg'; decide)
  | (apply w_skip; exact rfl)
  | (apply w_pickT; exact rfl; exact rfl; exact rfl)
  | (apply w_pickF; exact rfl; exact rfl; exact rfl)
  | (apply w_len; exact rfl; exact rfl; first | exact .ints _ | exact .intss _ | exact .sli rfl | exact .sls rfl | exact .slr rfl | exact .orow rfl | exact .nil)
  | ((first | apply w_makemap | apply w_bs0); iterate 1 exact rfl)
  | ((first | apply w_mapset | apply w_sllh | apply w_stbi); iterate 4 exact rfl)
  | (apply w_maplook; iterate 5 exact rfl)
  | (apply w_idxarr; exact rfl; exact rfl; exact rfl; decide; decide; exact rfl)
  | (apply w_entry (.tmp 18) hM2 hk; exact rfl; exact rfl; exact rfl; exact rfl; exact rfl)
  | (apply w_callu [0] (hadd); (first | exact handed1 rfl True.intro | exact handed2 rfl rfl rfl True.intro True.intro); (focus ((repeat (first | exact imu_nil | refine imu_cons rfl (.ro _) ?_ | refine imu_cons rfl (.sem [_] (reads_map rfl) (by decide)) ?_ | refine imu_cons rfl (.val _) ?_ | refine imu_cons rfl (.ints _) ?_ | refine imu_cons rfl (.own rfl) ?_ | refine imu_cons rfl (.sli rfl (by decide)) ?_ | refine imu_cons rfl (.intss _) ?_ | refine imu_cons rfl (.sls rfl (by decide)) ?_ | refine imu_cons rfl (imu_agg2 (.val _) (.own rfl)) ?_ | refine imu_cons rfl (imu_agg2 (.own rfl) (.own rfl)) ?_ | refine imu_cons rfl (imu_agg1 (.own rfl)) ?_)); done)); rintro v os0 ⟨rfl, rfl⟩; try simp only [List.nil_append, List.cons_append, List.set_cons_zero, List.set_cons_succ, List.length_cons, List.length_nil, Nat.reduceAdd, AV.sh, AV.sh1, AV.sh0, AO.sh, List.map_cons, List.map_nil, Nat.zero_add, Nat.add_zero, setAll])
  | omega
  | ((first | apply w_lss | apply w_leq | apply w_gtr | apply w_geq | apply w_eql | apply w_neq | apply w_add | apply w_sub | apply w_mul | apply w_idx | apply w_ld | apply w_fld | apply w_fa | apply w_extv | apply w_min | apply w_max | apply w_slhi | apply w_sllo | apply w_bs2); iterate 3 exact rfl)
  | ((first | apply w_eqlb | apply w_neqb | apply w_idxs | apply w_lds | apply w_ext); iterate 3 exact rfl)
  | (apply w_rem; exact rfl; exact rfl; exact rfl; (focus (omega; done)); (focus (omega; done)))
  | (apply w_quo; exact rfl; exact rfl; exact rfl; (focus (omega; done)); (focus (omega; done)))
  | (apply w_remT; exact rfl; exact rfl; exact rfl)
  | (apply w_quoT; exact rfl; exact rfl; exact rfl)
  | ((first | apply w_not | apply w_neg | apply w_conv | apply w_build0 | apply w_bs1 | apply w_boxa); iterate 2 exact rfl)
  | (apply w_idxo; exact rfl; exact rfl; (first | exact .sli rfl | exact .sls rfl | exact .slr rfl); exact rfl)
  | ((first | apply w_idxr | apply w_ldr); iterate 4 exact rfl)
  | (apply w_ldo; iterate 4 exact rfl)
  | (apply w_ldls; iterate 4 exact rfl)
  | (apply w_ldrp; iterate 4 exact rfl)
  | (apply w_ldb; iterate 5 exact rfl)
  | (apply w_ldst; iterate 5 exact rfl)
  | ((first | apply w_oslo | apply w_oshi | apply w_stbii); iterate 4 exact rfl)
  | (apply w_build1; exact rfl; exact rfl; (first | exact one_val rfl rfl | exact one_ints | exact one_intss | exact one_own rfl True.intro))
  | (apply w_build2; exact rfl; exact rfl; exact rfl; (first | exact one_val rfl rfl | exact one_ints | exact one_intss | exact one_own rfl True.intro); (first | exact one_val rfl rfl | exact one_ints | exact one_intss | exact one_own rfl True.intro))
  | (apply w_appn; exact rfl; exact rfl; (first | exact .ints _ | exact .sli rfl | exact .orow rfl | exact .nil | exact .osub rfl (by simp; omega)); exact rfl)
  | (apply w_app; exact rfl; exact rfl; exact rfl; exact rfl; (first | exact .ints _ | exact .sli rfl | exact .orow rfl | exact .nil | exact .osub rfl (by simp; omega)); rotate_left 1; simp only [Env.mp, List.map_cons, List.map_nil, List.set_cons_zero, List.set_cons_succ, AV.kill, AV.kill1, AO.kill, AV.noRow, AV.noRow1, AO.via, reduceIte, Nat.reduceEqDiff, Nat.reduceLT, Env.up, Nat.zero_ne_one, Nat.one_ne_zero, Nat.reduceAdd, List.cons_append, List.nil_append]; rotate_left 1)
  | (apply w_alst; iterate 2 exact rfl)
  | (apply w_alone; iterate 3 exact rfl)
  | (apply w_sti; exact rfl; exact rfl; rotate_left 1; exact rfl; rotate_left 2)
  | (apply w_stst; iterate 5 exact rfl)
  | (apply w_stbv; iterate 6 exact rfl)
  | (apply w_stbo; exact rfl; exact rfl; exact rfl; exact rfl; exact rfl; exact True.intro)
  | ((apply AOps.splitB; exact rfl; exact rfl) <;> intro h)
  | apply AllOf.nil
  | (apply AllOf.cons; exact rfl)
  | (apply AAny.take; exact rfl; exact rfl; kernel_rfl; kernel_rfl)
  | (apply AAny.all; exact rfl)
  | (apply AAny.done; exact rfl)
  | (apply inI_of <;> omega)
  | omega
  | (simp <;> omega))
    exact ⟨(done2 ++ [k], _), ⟨done_snoc hd2 hk hnk, by rw [List.length_append]; exact hmu3⟩, by have := done_lt hd2.1 hd2.2 hk hnk; simp; omega, ⟨lee rfl (by (repeat (first | exact le_nil | refine le_eq rfl rfl ?_ | refine le_eq rfl (congrArg AV.i (by omega)) ?_))), by (repeat (first | exact lo_nil | refine lo_dead ?_ | refine lo_eq rfl ?_)), rfl, rfl⟩⟩
end Go.Proofs.Ytkickbnahajpoaa
/-
  Products by linear forms: the plain law. No program.
-/
namespace Go.Proofs.Ytkickbnahajpoaa
open Go Go.RowKit

theorem sumL_congr {F G : Nat → Int} {l : List Nat} (h : ∀ i ∈ l, F i = G i) : sumL F l = sumL G l := by
  induction l with
  | nil => rfl
  | cons x l ih => rw [sumL, sumL, h x (by simp), ih fun i hi => h i (by simp [hi])]
theorem sumL_add (F G : Nat → Int) (l : List Nat) : sumL (fun i => F i + G i) l = sumL F l + sumL G l := by
  induction l with
  | nil => rfl
  | cons x l ih => simp only [sumL, ih]; omega
theorem sumL_mul (c : Int) (F : Nat → Int) (l : List Nat) : sumL (fun i => c * F i) l = c * sumL F l := by
  induction l with
  | nil => simp [sumL]
  | cons x l ih => simp only [sumL, ih, Int.mul_add]
theorem sumL_zero {F : Nat → Int} {l : List Nat} (h : ∀ i ∈ l, F i = 0) : sumL F l = 0 := by
  induction l with
  | nil => rfl
  | cons x l ih => rw [sumL, h x (by simp), ih fun i hi => h i (by simp [hi])]; rfl
theorem sumL_mod {F G : Nat → Int} {l : List Nat} (h : ∀ i ∈ l, F i % 55441 = G i % 55441) : sumL F l % 55441 = sumL G l % 55441 := by
  induction l with
  | nil => rfl
  | cons x l ih =>
    have h1 := h x (by simp)
    have h2 := ih fun i hi => h i (by simp [hi])
    simp only [sumL]
    omega
theorem sumL_map (F : Nat → Int) (f : Nat → Nat) (l : List Nat) : sumL F (l.map f) = sumL (fun i => F (f i)) l := by
  induction l with
  | nil => rfl
  | cons x l ih => simp only [List.map_cons, sumL, ih]

/-! ### Sums over the entries of a map -/
def sumE (G : Int × Int × Int → Int) : List (Int × Int × Int) → Int
  | [] => 0
  | t :: L => G t + sumE G L
theorem sumE_idx (G : Int × Int × Int → Int) : ∀ L : List (Int × Int × Int), sumL (fun i => G (L.getD i (0, 0, 0))) (List.range L.length) = sumE G L
  | [] => rfl
  | t :: L => by
    rw [List.length_cons, List.range_succ_eq_map, sumL, sumL_map, sumE, ← sumE_idx G L]
    rfl
theorem sumE_congr {F G : Int × Int × Int → Int} {L : List (Int × Int × Int)} (h : ∀ t ∈ L, F t = G t) : sumE F L = sumE G L := by
  induction L with
  | nil => rfl
  | cons x l ih => rw [sumE, sumE, h x (by simp), ih fun i hi => h i (by simp [hi])]
theorem sumE_mod {F G : Int × Int × Int → Int} {L : List (Int × Int × Int)} (h : ∀ t ∈ L, F t % 55441 = G t % 55441) : sumE F L % 55441 = sumE G L % 55441 := by
  induction L with
  | nil => rfl
  | cons x l ih =>
    have h1 := h x (by simp)
    have h2 := ih fun i hi => h i (by simp [hi])
    simp only [sumE]
    omega
theorem sumE_zero {G : Int × Int × Int → Int} {L : List (Int × Int × Int)} (h : ∀ t ∈ L, G t = 0) : sumE G L = 0 := by
  induction L with
  | nil => rfl
  | cons x l ih => rw [sumE, h x (by simp), ih fun i hi => h i (by simp [hi])]; rfl
theorem sumE_add (F G : Int × Int × Int → Int) (L : List (Int × Int × Int)) : sumE (fun i => F i + G i) L = sumE F L + sumE G L := by
  induction L with
  | nil => rfl
  | cons x l ih => simp only [sumE, ih]; omega
theorem sumE_swap (F : Int × Int × Int → Int × Int × Int → Int) (L M : List (Int × Int × Int)) : sumE (fun x => sumE (F x) M) L = sumE (fun y => sumE (fun x => F x y) L) M := by
  induction L with
  | nil => simp only [sumE]; exact (sumE_zero fun _ _ => rfl).symm
  | cons x l ih => simp only [sumE, ih]; rw [sumE_add]
/-- One entry of a map at most falls on a place. -/
theorem sumE_at {L : List (Int × Int × Int)} (hL : KeysN L) (u v a b d : Int) : sumE (fun x => if x.1 + u = a ∧ x.2.1 + v = b then x.2.2 * d % 55441 else 0) L = lookM L (a - u) (b - v) * d % 55441 := by
  induction L with
  | nil => simp [sumE, lookM_nil]
  | cons t L ih =>
    have h2 := List.pairwise_cons.1 hL
    rw [sumE, lookM_cons, ih h2.2]
    by_cases h : t.1 + u = a ∧ t.2.1 + v = b
    · rw [if_pos h, if_pos (by omega)]
      have h0 : lookM L (a - u) (b - v) = 0 := by
        unfold lookM
        rw [List.find?_eq_none.2]
        intro x hx
        have := h2.1 x hx
        simp only [isK, decide_eq_true_eq]
        omega
      rw [h0]; simp
    · rw [if_neg h, if_neg (by omega)]; simp
theorem conv_at {L : List (Int × Int × Int)} (hL : KeysN L) (M : List (Int × Int × Int)) (a b : Int) : convP L M a b = sumE (fun y => lookM L (a - y.1) (b - y.2.1) * y.2.2 % 55441) M := by
  have e : convP L M a b = sumE (fun x => sumE (fun y => if x.1 + y.1 = a ∧ x.2.1 + y.2.1 = b then x.2.2 * y.2.2 % 55441 else 0) M) L := by
    unfold convP
    rw [← sumE_idx]
    refine sumL_congr fun i _ => ?_
    unfold rowP tmP
    rw [← sumE_idx]
  rw [e, sumE_swap]
  exact sumE_congr fun y _ => sumE_at hL _ _ _ _ _

/-! ### Sums over a box -/
def box (B : Nat) (F : Int → Int → Int) : Int := sumL (fun u => sumL (fun v => F u v) (List.range B)) (List.range B)
theorem box_add (B : Nat) (F G : Int → Int → Int) : box B (fun u v => F u v + G u v) = box B F + box B G := by
  unfold box
  rw [← sumL_add]
  exact sumL_congr fun i _ => sumL_add _ _ _
theorem box_congr {B : Nat} {F G : Int → Int → Int} (h : ∀ u v, F u v = G u v) : box B F = box B G := sumL_congr fun _ _ => sumL_congr fun _ _ => h _ _
theorem box_mod {B : Nat} {F G : Int → Int → Int} (h : ∀ u v, F u v % 55441 = G u v % 55441) : box B F % 55441 = box B G % 55441 := sumL_mod fun _ _ => sumL_mod fun _ _ => h _ _
theorem box_mul (B : Nat) (c : Int) (F : Int → Int → Int) : box B (fun u v => c * F u v) = c * box B F := by
  unfold box
  rw [← sumL_mul]
  exact sumL_congr fun i _ => sumL_mul _ _ _
theorem sumL_one (n : Nat) (B : Nat) (hn : n < B) (x : Int) : sumL (fun i => if (i : Int) = (n : Int) then x else 0) (List.range B) = x := by
  induction B with
  | zero => omega
  | succ B ih =>
    rw [sumL_succ]
    by_cases e : n = B
    · subst e
      rw [sumL_zero fun i hi => ?_]
      · simp
      · have := List.mem_range.1 hi
        rw [if_neg (by omega)]
    · rw [ih (by omega), if_neg (by omega)]; omega
theorem box_one {B : Nat} {a b : Int} (ha : 0 ≤ a ∧ a < B) (hb : 0 ≤ b ∧ b < B) (x : Int) : box B (fun u v => if u = a ∧ v = b then x else 0) = x := by
  obtain ⟨n, rfl⟩ := Int.eq_ofNat_of_zero_le ha.1
  obtain ⟨m, rfl⟩ := Int.eq_ofNat_of_zero_le hb.1
  unfold box
  have e : ∀ u ∈ List.range B, sumL (fun v => if (u : Int) = n ∧ (v : Int) = m then x else 0) (List.range B) = if (u : Int) = n then x else 0 := fun u _ => by
    by_cases h : (u : Int) = n
    · simp only [h, true_and, if_true]
      exact sumL_one m B (by omega) x
    · simp only [h, false_and, if_false]
      exact sumL_zero fun _ _ => rfl
  rw [sumL_congr e]
  exact sumL_one n B (by omega) x
/-- The entries of a map lie in the box. -/
def InB (B : Nat) (M : List (Int × Int × Int)) : Prop := ∀ t ∈ M, (0 ≤ t.1 ∧ t.1 < B) ∧ (0 ≤ t.2.1 ∧ t.2.1 < B)
theorem sumE_box {B : Nat} (g : Int → Int → Int) : ∀ {M : List (Int × Int × Int)}, KeysN M → InB B M → sumE (fun y => g y.1 y.2.1 * y.2.2) M = box B (fun u v => g u v * lookM M u v)
  | [], _, _ => by
    simp only [sumE, lookM_nil, Int.mul_zero]
    exact (sumL_zero fun _ _ => sumL_zero fun _ _ => rfl).symm
  | t :: M, hK, hB => by
    have h2 := List.pairwise_cons.1 hK
    have ih := sumE_box g h2.2 (fun x hx => hB x (by simp [hx]))
    have ht := hB t (by simp)
    have h0 : lookM M t.1 t.2.1 = 0 := by
      unfold lookM
      rw [List.find?_eq_none.2]
      intro x hx
      have := h2.1 x hx
      simp only [isK, decide_eq_true_eq]
      exact this
    have e : box B (fun u v => g u v * lookM (t :: M) u v) = box B (fun u v => g u v * lookM M u v + if u = t.1 ∧ v = t.2.1 then g t.1 t.2.1 * t.2.2 else 0) := box_congr fun u v => by
      rw [lookM_cons]
      by_cases h : u = t.1 ∧ v = t.2.1
      · rw [if_pos h, if_pos h, h.1, h.2, h0]; simp
      · rw [if_neg h, if_neg h]; simp
    rw [sumE, ih, e, box_add, box_one ht.1 ht.2]
    omega
theorem conv_box {B : Nat} {L M : List (Int × Int × Int)} (hL : KeysN L) (hM : KeysN M) (hB : InB B M) (a b : Int) : convP L M a b % 55441 = box B (fun u v => lookM L (a - u) (b - v) * lookM M u v) % 55441 := by
  rw [conv_at hL, ← sumE_box (fun u v => lookM L (a - u) (b - v)) hM hB]
  exact sumE_mod fun y _ => Int.emod_emod_of_dvd _ (Int.dvd_refl _)

/-! ### Times a linear form -/
/-- c x + d y times a function of monomials. -/
def tF (c d : Int) (f : Int → Int → Int) (u v : Int) : Int := (f (u - 1) v * c + f u (v - 1) * d) % 55441

theorem sum_shift (H : Int → Int) : ∀ n : Nat, sumL (fun i => H ((i : Int) - 1)) (List.range (n + 1)) = H (-1) + sumL (fun i => H i) (List.range n)
  | 0 => by simp [List.range_succ, sumL]
  | n + 1 => by
    rw [sumL_succ, sum_shift H n, sumL_succ (fun i => H i)]
    have : ((n + 1 : Nat) : Int) - 1 = n := by omega
    rw [this]; omega
theorem sum_shift0 {H : Int → Int} {B : Nat} (h0 : H (-1) = 0) (h1 : H ((B : Int) - 1) = 0) : sumL (fun i => H ((i : Int) - 1)) (List.range B) = sumL (fun i => H i) (List.range B) := by
  cases B with
  | zero => rfl
  | succ n =>
    rw [sum_shift, h0, sumL_succ]
    have : ((n + 1 : Nat) : Int) - 1 = n := by omega
    rw [this] at h1
    rw [h1]; omega
theorem box_shift1 {B : Nat} {F : Int → Int → Int} (h0 : ∀ v, F (-1) v = 0) (h1 : ∀ v, F ((B : Int) - 1) v = 0) : box B (fun u v => F (u - 1) v) = box B F := by
  unfold box
  exact sum_shift0 (H := fun u => sumL (fun v => F u v) (List.range B)) (sumL_zero fun _ _ => h0 _) (sumL_zero fun _ _ => h1 _)
theorem box_shift2 {B : Nat} {F : Int → Int → Int} (h0 : ∀ u, F u (-1) = 0) (h1 : ∀ u, F u ((B : Int) - 1) = 0) : box B (fun u v => F u (v - 1)) = box B F := by
  unfold box
  exact sumL_congr fun u _ => sum_shift0 (H := fun v => F u v) (h0 _) (h1 _)
theorem look_out {B : Nat} {M : List (Int × Int × Int)} (h : InB B M) {u v : Int} (ho : ¬ ((0 ≤ u ∧ u < B) ∧ (0 ≤ v ∧ v < B))) : lookM M u v = 0 := by
  unfold lookM
  rw [List.find?_eq_none.2]
  intro x hx
  have := h x hx
  simp only [isK, decide_eq_true_eq]
  intro e
  apply ho
  omega

/-- Convolution commutes with linear forms. -/
theorem conv_lin {B : Nat} {L M M' : List (Int × Int × Int)} (hL : KeysN L) (hM : KeysN M) (hM' : KeysN M') (hB : InB B M) (hB' : InB (B + 1) M') {c d : Int} (h : ∀ u v, lookM M' u v = tF c d (lookM M) u v) (a b : Int) :
    convP L M' a b % 55441 = tF c d (fun a b => convP L M a b % 55441) a b := by
  have hB1 : InB (B + 1) M := fun t ht => by have := hB t ht; omega
  have e1 : convP L M' a b % 55441 = (c * box (B + 1) (fun u v => lookM L (a - u) (b - v) * lookM M (u - 1) v) + d * box (B + 1) (fun u v => lookM L (a - u) (b - v) * lookM M u (v - 1))) % 55441 := by
    rw [conv_box hL hM' hB', ← box_mul, ← box_mul, ← box_add]
    refine box_mod fun u v => ?_
    rw [h]
    unfold tF
    generalize lookM L (a - u) (b - v) = x
    generalize lookM M (u - 1) v = y
    generalize lookM M u (v - 1) = z
    rw [Int.mul_emod, Int.emod_emod_of_dvd _ (Int.dvd_refl _), ← Int.mul_emod]
    congr 1
    grind
  have e2 : box (B + 1) (fun u v => lookM L (a - u) (b - v) * lookM M (u - 1) v) = box (B + 1) (fun u v => lookM L (a - 1 - u) (b - v) * lookM M u v) := by
    rw [← box_shift1 (B := B + 1) (F := fun u v => lookM L (a - 1 - u) (b - v) * lookM M u v)]
    · refine box_congr fun u v => ?_
      have : a - 1 - (u - 1) = a - u := by omega
      rw [this]
    · intro v; rw [look_out hB (by omega)]; simp
    · intro v; rw [look_out hB (by omega)]; simp
  have e3 : box (B + 1) (fun u v => lookM L (a - u) (b - v) * lookM M u (v - 1)) = box (B + 1) (fun u v => lookM L (a - u) (b - 1 - v) * lookM M u v) := by
    rw [← box_shift2 (B := B + 1) (F := fun u v => lookM L (a - u) (b - 1 - v) * lookM M u v)]
    · refine box_congr fun u v => ?_
      have : b - 1 - (v - 1) = b - v := by omega
      rw [this]
    · intro v; rw [look_out hB (by omega)]; simp
    · intro v; rw [look_out hB (by omega)]; simp
  rw [e1, e2, e3]
  unfold tF
  simp only
  rw [conv_box hL hM hB1, conv_box hL hM hB1]
  generalize box (B + 1) (fun u v => lookM L (a - 1 - u) (b - v) * lookM M u v) = x
  generalize box (B + 1) (fun u v => lookM L (a - u) (b - 1 - v) * lookM M u v) = y
  rw [Int.add_emod, Int.mul_emod c x, Int.mul_emod d y, Int.add_emod (x % 55441 * c), Int.mul_emod (x % 55441) c, Int.mul_emod (y % 55441) d, Int.mul_comm (c % 55441), Int.mul_comm (d % 55441), Int.emod_emod_of_dvd x (Int.dvd_refl _), Int.emod_emod_of_dvd y (Int.dvd_refl _)]
/-- A linear form as a map in the second place. -/
theorem conv_form {L : List (Int × Int × Int)} (hL : KeysN L) (c d a b : Int) : convP L [(1, 0, c), (0, 1, d)] a b % 55441 = tF c d (lookM L) a b := by
  rw [conv_at hL]
  simp only [sumE, Int.sub_zero, Int.add_zero]
  unfold tF
  omega
end Go.Proofs.Ytkickbnahajpoaa
/-
  Own slices of maps. No condition.
-/
namespace Go.Proofs.Ytkickbnahajpoaa
open Go Go.RowKit

abbrev Trs := List (Int × Int × Int)
/-- A slice of maps, all of it its own. -/
def SlmP (e : TypeId) (Ls : List Trs) (base : Nat) (w : World) (g : Gh) : Prop :=
  ∃ (vs : List Value) (bs : List Nat) (mb : List Nat), w.ownsRow base e 1 g.v vs.length vs ∧ vs.length = Ls.length ∧ bs.length = Ls.length ∧ g.rows = vs ∧
    (∀ (i : Nat) u, vs[i]? = some u → ∃ b es clock, bs[i]? = some b ∧ u = .map (some b) ∧ base ≤ b ∧ w.heap[b]? = some (.map es clock) ∧ MapIs es clock (Ls.getD i [])) ∧
    ((g.v.ownBlock = none ∧ mb = []) ∨ (g.v.ownBlock = some g.b ∧ mb = [g.b])) ∧ g.bl = mb ++ bs ∧ g.bl.Nodup
theorem slm_mb {g : Gh} {mb bs : List Nat} (h : (g.v.ownBlock = none ∧ mb = []) ∨ (g.v.ownBlock = some g.b ∧ mb = [g.b])) (hbl : g.bl = mb ++ bs) {b : Nat} (hb : g.v.ownBlock = some b) : b ∈ g.bl := by
  rw [hbl]
  rcases h with ⟨h, _⟩ | ⟨h, h'⟩
  · rw [h] at hb; cases hb
  · rw [h] at hb; cases hb; simp [h']
def slmOb (e : TypeId) (Ls : List Trs) : Ob where
  p := SlmP e Ls
  up hb h := by
    obtain ⟨vs, bs, mb, h1, h2, h3, h4, h5, h6, h7, h8⟩ := h
    refine ⟨vs, bs, mb, ownsRow_of_block h1 fun b hbb => hb b (slm_mb h6 h7 hbb), h2, h3, h4, fun i u hu => ?_, h6, h7, h8⟩
    obtain ⟨b, es, clock, q1, q2, q3, q4, q5⟩ := h5 i u hu
    exact ⟨b, es, clock, q1, q2, q3, by rw [hb b (by rw [h7]; exact List.mem_append.2 (.inr (List.mem_of_getElem? q1)))]; exact q4, q5⟩
  lower hl h := by
    obtain ⟨vs, bs, mb, h1, h2, h3, h4, h5, h6, h7, h8⟩ := h
    refine ⟨vs, bs, mb, ⟨h1.1, h1.2.imp id ?_⟩, h2, h3, h4, fun i u hu => ?_, h6, h7, h8⟩
    · rintro ⟨g, cap, cur, e1, e2, r⟩
      exact ⟨g, cap, cur, e1, Nat.le_trans hl e2, r⟩
    · obtain ⟨b, es, clock, q1, q2, q3, q4, q5⟩ := h5 i u hu
      exact ⟨b, es, clock, q1, q2, Nat.le_trans hl q3, q4, q5⟩
  one h := by
    obtain ⟨vs, bs, mb, h1, _⟩ := h
    obtain ⟨a, cap, e1⟩ := ownsRow_slice h1
    rw [e1]; exact ⟨rfl, rfl⟩

theorem reads_slm {os : List AO} {h i : Nat} {e : TypeId} {Ls : List Trs} (hs : os[h]? = some (.ob (slmOb e Ls))) : Reads os [h] (.orow h i) (mapRo (Ls.getD i [])) := by
  intro base w gs ok hro hok _ v hv
  cases hv with
  | @orow _ _ gh _ hg hrow =>
    obtain ⟨vs, bs, mb, h1, h2, h3, h4, h5, h6, h7, h8⟩ := hro _ _ _ hg hs
    rw [h4] at hrow
    obtain ⟨b, es, clock, q1, q2, q3, q4, q5⟩ := h5 i v hrow
    exact ⟨b, es, clock, q2, hok h (by simp) _ _ hg hs (by simp) b (by rw [h7]; exact List.mem_append.2 (.inr (List.mem_of_getElem? q1))), q4, q5⟩

section
variable {P : Program} {wl : Bool} {env : Env} {os : List AO} {d : Option Tmp} {ty : TypeId} {pos : String} {af : Array Edge} {g : Option (Nat × Bool)}

theorem q_lenslm {t e : TypeId} [ht : TSlice P t e] {x : Operand} {h : Nat} {e' : TypeId} {Ls : List Trs} (hx : AV.ev env x = .own h) (hs : os[h]? = some (.ob (slmOb e' Ls))) :
    QOp P wl ⟨d, .call { callee := .builtin .len, args := #[x], argTypes := #[t] }, ty, pos, af, g⟩ env os (.i Ls.length) :=
  .of_run fun _ w gs tm hr => by
    have hh := hr.ev x
    rw [hx] at hh
    generalize hv : Act.eval ⟨tm, []⟩ x = v at hh
    cases hh with
    | @own _ gh hg =>
      obtain ⟨vs, bs, mb, h1, h2, _⟩ := hr.ho _ _ _ hg hs
      obtain ⟨a, cap, e1⟩ := ownsRow_slice h1
      refine ⟨_, .val _, fun w' _ => ?_⟩
      simp [execOp, resolve, invoke, builtin, hv, e1, h2, Builtin.len_, run_underlying ht.und, goInt]

theorem q_idxslm {t e : TypeId} [ht : TSlice P t e] [he : TCell P e] {x y : Operand} {h : Nat} {i : Int} {e' : TypeId} {Ls : List Trs} (hx : AV.ev env x = .own h) (hs : os[h]? = some (.ob (slmOb e' Ls))) (hy : AV.ev env y = .i i) (h0 : 0 ≤ i) (h1 : i < Ls.length) :
    QOp P wl ⟨d, .indexAddr t x y, ty, pos, af, g⟩ env os (.optr h i.toNat) :=
  .of_run fun _ w gs tm hr => by
    have hh := hr.ev x
    rw [hx] at hh
    generalize hv : Act.eval ⟨tm, []⟩ x = v at hh
    cases hh with
    | @own _ gh hg =>
      refine ⟨_, .optr hg, fun w' _ => ?_⟩
      obtain ⟨vs, bs, mb, a1, a2, a3, a4, a5, a6, a7, a8⟩ := hr.ho _ _ _ hg hs
      obtain ⟨b, cap, e1, e2, e3, _⟩ := own_slice a1 (i := i.toNat) (by omega)
      have eb : gh.b = b := by
        rcases a6 with ⟨h1, _⟩ | ⟨h1, _⟩
        · rw [h1] at e2; cases e2
        · rw [h1] at e2; cases e2; rfl
      obtain ⟨ie, hi, hs1⟩ := he.info
      have hrun := run_idx ht.und hi hs1 ⟨gh.b, 0, none⟩ vs.length cap i h0 (by omega) w'
      rw [eb] at hrun ⊢
      simp only [execOp, hv, e1, hr.evv hy, Sem.run_bind, hrun, add_none, Nat.zero_add, Result.andThen_ok, Sem.run_pure]

theorem q_ldslm {t : TypeId} [ht : TCell P t] {x : Operand} {h i : Nat} {e : TypeId} {Ls : List Trs} (hx : AV.ev env x = .optr h i) (hs : os[h]? = some (.ob (slmOb e Ls))) (hi : i < Ls.length) :
    QOp P false ⟨d, .load t x, ty, pos, af, g⟩ env os (.orow h i) :=
  .of_runb fun _ w gs tm hr => by
    have hh := hr.ev x
    rw [hx] at hh
    generalize hv : Act.eval ⟨tm, []⟩ x = v at hh
    cases hh with
    | @optr _ _ gh hg =>
      obtain ⟨vs, bs, mb, a1, a2, a3, a4, a5, a6, _⟩ := hr.ho _ _ _ hg hs
      have hiv : i < vs.length := by omega
      refine ⟨vs[i], .orow hg (by rw [a4]; exact List.getElem?_eq_getElem hiv), fun w' hw' => ?_⟩
      obtain ⟨b, cap, e1, e2', e3, _⟩ := own_slice a1 (i := i) hiv
      have eb : gh.b = b := by
        rcases a6 with ⟨h1, _⟩ | ⟨h1, _⟩
        · rw [h1] at e2'; cases e2'
        · rw [h1] at e2'; cases e2'; rfl
      rw [eb] at hv
      have hcell := below_cell hw' (e3.trans (List.getElem?_eq_getElem hiv))
      simp only [execOp, hv, Sem.run_bind, run_load_cell hcell, Result.andThen_ok, Sem.run_pure]

/-- A literal slice of one map, handed on. -/
theorem l_bsm1 {t e : TypeId} {bytes : Nat} [ht : TSlice P t e] [he : TElem P e (.map none) bytes] {x : Operand} {k : Nat} {L : Trs} (hx : AV.ev env x = .own k) (hk : os[k]? = some (.ob (mapOb L))) :
    LOp P ⟨d, .buildSlice t 1 #[(0, x)], ty, pos, af, g⟩ env os (.osub os.length 0 1) env (os ++ [.bx e [.own k]]) := by
  intro base w gs tm hr
  have hxv := hr.ev x
  rw [hx] at hxv
  generalize hv : Act.eval ⟨tm, []⟩ x = v at hxv
  cases hxv with
  | @own _ gk hgk =>
    obtain ⟨o, b1, b2, b3, b4, b5⟩ := hr.ho _ _ _ hgk hk
    have eu : gk.v = .map (some gk.b) := b5
    obtain ⟨ii, hi, hs, hz, hby⟩ := he.info
    have hbel := below_alloc w (.cells [gk.v].toArray e)
    have hno : AO.bx e [.own k] ≠ .dead → ∀ b, b ∈ [w.heap.size] → w.heap.size ≤ b ∧ b < (w.alloc (.cells [gk.v].toArray e)).heap.size := fun _ b hb => by simp at hb; simp [hb]
    let gn : Gh := ⟨.pointer (some ⟨w.heap.size, 0, none⟩), w.heap.size, [w.heap.size], []⟩
    have hgs : ∀ (i : Nat) g', gs[i]? = some g' → (gs ++ [gn])[i]? = some g' := fun i g' e => by
      rw [List.getElem?_append_left (List.getElem?_eq_some_iff.1 e).1]; exact e
    refine ⟨.slice (some ⟨w.heap.size, 0, none⟩) 1 1, _, gs ++ [gn], .inl ?_, hr.new hbel _ _ hno ?_, ?_, hbel.mono hr.hb⟩
    · simp [execOp, Instr.buildSlice, run_underlying ht.und, sizeOf, typeInfo, zeroValue, hi, hs, hz, Instr.fill, newRow, hv, eu, Value.cells, ar1]
    · refine ⟨[gk.v], heap_alloc_new w _, hr.hb, rfl, rfl, rfl, ?_, fun i => ?_⟩
      · intro c hc; simp at hc; subst hc; rw [eu]; rfl
      · match i with
        | 0 => exact .own (hgs _ _ hgk)
        | i + 1 => exact .any _
    · have := RV.osub (w := w.alloc (.cells [gk.v].toArray e)) (ok := okOf (gs ++ [gn]) (os ++ [.bx e [.own k]])) (off := 0) (len := 1) (cap := 1) (p := some ⟨w.heap.size, 0, none⟩) (len_new (gs := gs) (g := gn)) (fun _ => rfl) (Nat.le_refl _) (by simp [maxLen])
      rw [hr.hl] at this
      exact this

/-- A literal slice of one map, as an own slice of maps. -/
theorem l_bsm1s {t e : TypeId} {bytes : Nat} [ht : TSlice P t e] [he : TElem P e (.map none) bytes] {x : Operand} {k : Nat} {L : Trs} (hx : AV.ev env x = .own k) (hk : os[k]? = some (.ob (mapOb L))) :
    LOp P ⟨d, .buildSlice t 1 #[(0, x)], ty, pos, af, g⟩ env os (.own os.length) (env.mp (AV.rin k os.length 0)) (((((os ++ [AO.ob (slmOb e [])]).map (AO.via (AV.rin k os.length 0) os.length)).set os.length (.ob (slmOb e [L]))).set k .dead)) := by
  intro base w gs tm hr
  have hxv := hr.ev x
  rw [hx] at hxv
  generalize hv : Act.eval ⟨tm, []⟩ x = v at hxv
  cases hxv with
  | @own _ gk hgk =>
    obtain ⟨o, b1, ⟨es, clock, rfl, hM⟩, b3, b4, b5⟩ := hr.ho _ _ _ hgk hk
    have eu : gk.v = .map (some gk.b) := b5
    obtain ⟨ii, hi, hs, hz, hby⟩ := he.info
    have hkl : k < os.length := (List.getElem?_eq_some_iff.1 hk).1
    let g0 : Gh := ⟨.slice none 0 0, 0, [], []⟩
    have hr1 : Rel base w (gs ++ [g0]) env (os ++ [.ob (slmOb e [])]) tm := hr.new (Below.refl _ _) _ g0 (fun _ b hb => by simp [g0] at hb) ⟨[], [], [], World.ownsRow_nil w base e 1, rfl, rfl, rfl, fun i u h => (by simp at h), .inl ⟨rfl, rfl⟩, rfl, by simp [g0]⟩
    have hl := hr.hl
    have hgp : (gs ++ [g0])[os.length]? = some g0 := by rw [← hl]; simp
    have hop : (os ++ [AO.ob (slmOb e [])])[os.length]? = some (.ob (slmOb e [])) := by simp
    have hgk' : (gs ++ [g0])[k]? = some gk := by rw [List.getElem?_append_left (by omega)]; exact hgk
    have hok' : (os ++ [AO.ob (slmOb e [])])[k]? = some (.ob (mapOb L)) := by rw [List.getElem?_append_left hkl]; exact hk
    have hpl : os.length < (gs ++ [g0]).length := by simp; omega
    let w' := w.alloc (.cells [gk.v].toArray e)
    let g' : Gh := ⟨.slice (some ⟨w.heap.size, 0, none⟩) 1 1, w.heap.size, [w.heap.size] ++ [gk.b], [gk.v]⟩
    have hbel : Below w.heap.size w w' := below_alloc w _
    have hgb : gk.b < w.heap.size := (Array.getElem?_eq_some_iff.1 b1).1
    have sv : RowIn os.length k 0 (gs ++ [g0]) ((gs ++ [g0]).set os.length g') := by
      refine ⟨fun j z hj hz => ?_, fun z hz => ⟨g', by rw [List.getElem?_set_self hpl], fun i u hiu => ?_⟩, fun z hz => ⟨g', by rw [List.getElem?_set_self hpl], ?_⟩⟩
      · rw [List.getElem?_set, if_neg (fun e => hj e.symm)]; exact hz
      · rw [hgp] at hz; cases hz; simp [g0] at hiu
      · rw [hgk'] at hz; cases hz; rfl
    refine ⟨.slice (some ⟨w.heap.size, 0, none⟩) 1 1, w', (gs ++ [g0]).set os.length g', .inl ?_, hr1.absorb hgp hop trivial hgk' hok' trivial (by omega) g' (.ob (slmOb e [L])) (AV.rin k os.length 0) rfl (fun b hb _ => hbel.block b hb) hbel.size ?_ (fun kp hv => hv.rin kp sv) ?_, ?_, hbel.mono hr.hb⟩
    · simp [execOp, Instr.buildSlice, run_underlying ht.und, sizeOf, typeInfo, zeroValue, hi, hs, hz, Instr.fill, newRow, hv, eu, Value.cells, ar1, w']
    · intro b hb
      have hsz : w'.heap.size = w.heap.size + 1 := by simp [w']
      rcases List.mem_append.1 hb with hb | hb
      · simp at hb
        exact ⟨.inr (.inr (by omega)), by omega⟩
      · simp at hb
        exact ⟨.inr (.inl (by rw [b4]; simp [hb])), by omega⟩
    · intro kp
      refine ⟨[gk.v], [gk.b], [w.heap.size], ⟨rfl, .inr ⟨w.heap.size, 1, _, rfl, hr.hb, heap_alloc_new w _, Nat.le_refl _, by simp [maxLen], by simp, by simp⟩⟩, rfl, rfl, rfl, fun j u hj => ?_, .inr ⟨rfl, rfl⟩, by simp [g'], ?_⟩
      · match j with
        | 0 =>
          simp at hj
          subst hj
          exact ⟨gk.b, es, clock, rfl, eu, b3, (hbel.block _ hgb).trans b1, hM⟩
        | j + 1 => simp at hj
      · show ([w.heap.size] ++ [gk.b]).Nodup
        rw [List.singleton_append, List.nodup_cons]
        exact ⟨fun hc => by simp at hc; omega, by simp⟩
    · exact RV.own (g := g') (by rw [List.getElem?_set_self hpl])

set_option maxHeartbeats 1000000 in
/-- One map is appended. -/
theorem l_append_map {t e : TypeId} {bytes : Nat} [ht : TSlice P t e] [he : TElem P e (.map none) bytes] {x y : Operand} {h m k : Nat} {e' T : TypeId} {Ls : List Trs} {L : Trs}
    (hx : AV.ev env x = .own h) (hs : os[h]? = some (.ob (slmOb e' Ls))) (hee : e' = e) (hy : AV.ev env y = .osub m 0 1) (hm : os[m]? = some (.bx T [.own k])) (hk : os[k]? = some (.ob (mapOb L))) (hne : h ≠ k)
    (hb : (Ls.length + 1) * bytes ≤ 140737488355328) :
    LOp P ⟨d, .call { callee := .builtin .append, args := #[x, y], argTypes := #[t, t] }, ty, pos, af, g⟩ env os (.own h) (env.mp (AV.rin k h Ls.length)) (((os.map (AO.via (AV.rin k h Ls.length) h)).set h (.ob (slmOb e (Ls ++ [L])))).set k .dead) := by
  subst hee
  intro base w gs tm hr
  have hxv := hr.ev x
  rw [hx] at hxv
  have hyv := hr.ev y
  rw [hy] at hyv
  generalize hv : Act.eval ⟨tm, []⟩ x = v at hxv
  generalize hu : Act.eval ⟨tm, []⟩ y = u at hyv
  cases hxv with
  | @own _ gh hg =>
  cases hyv with
  | @osub _ _ _ cap pa gm hgm hp hc hcm =>
    have epa := hp (by omega)
    subst epa
    obtain ⟨cs, m1, m2, m3, m4, m5, m6, m7⟩ := hr.ho _ _ _ hgm hm
    have hcs := m7 0
    simp only [List.getD_cons_zero] at hcs
    obtain ⟨c0, rfl⟩ : ∃ c0, cs = [c0] := by
      match cs, m5 with
      | [c0], _ => exact ⟨c0, rfl⟩
    simp only [List.getD_cons_zero] at hcs
    cases hcs with
    | @own _ gk hgk =>
    obtain ⟨vs, bs, mb, a1, a2, a3, a4, a5, a6, a7, a8⟩ := hr.ho _ _ _ hg hs
    obtain ⟨o, b1, ⟨es, clock, rfl, hM⟩, b3, b4, b5⟩ := hr.ho _ _ _ hgk hk
    have eu : gk.v = .map (some gk.b) := b5
    obtain ⟨ii, hi, hsz, hz, hby⟩ := he.info
    have h64 : vs.length + 1 ≤ maxLen := by
      have := he.pos
      have : Ls.length + 1 ≤ (Ls.length + 1) * bytes := Nat.le_mul_of_pos_right _ this
      simp only [maxLen]; omega
    obtain ⟨v', w', r1, r2, r3, r4, r5⟩ := run_append_own_at (P := P) w base t ty e' ii _ 1 bytes ht.und hi hz hsz hby rfl (by omega) gh.v vs.length vs a1 ⟨gm.b, 0, none⟩ 1 cap [gk.v] (by simp)
      (fun j u hj => by
        have hj0 : j = 0 := by have := (List.getElem?_eq_some_iff.1 hj).1; simp at this; exact this
        subst hj0
        rw [add_none, cell_of_row w _ _ _ _ (0, 0) m1]
        simpa using hj)
      (fun u hu => by simp at hu; subst hu; rw [eu]; rfl) h64 (by rw [a2]; exact hb) hr.hb
    have emb : gh.v.ownBlock.toList = mb := by
      rcases a6 with ⟨c1, c2⟩ | ⟨c1, c2⟩
      · rw [c1, c2]; rfl
      · rw [c1, c2]; rfl
    have hgb : ∀ b, b ∉ gh.bl → some b ≠ gh.v.ownBlock := fun b hb e => hb (by rw [a7, ← emb, ← e]; simp)
    have hnotmb : ∀ b, b ∉ mb → some b ≠ gh.v.ownBlock := fun b hb e => hb (by rw [← emb, ← e]; simp)
    have hdis : gk.b ∉ gh.bl := hr.hd k h gk gh _ _ (fun e => hne e.symm) hgk hg hk hs (by simp) (by simp) gk.b (by rw [b4]; simp)
    have hlt : ∀ b, v'.ownBlock = some b → b < w'.heap.size := by
      intro b hb
      rcases r2.2 with ⟨e1, _⟩ | ⟨gg, cc, cur, e1, _, hgg, _⟩
      · rw [e1] at hb; cases hb
      · rw [e1] at hb; cases hb; exact (Array.getElem?_eq_some_iff.1 hgg).1
    have hhg : h < gs.length := (List.getElem?_eq_some_iff.1 hg).1
    have hbl0 : ∀ b, b ∈ gh.bl → b < w.heap.size := fun b hb => (hr.hn _ _ _ hg hs (by simp) b hb).2
    have hblk : gk.b < w.heap.size := (Array.getElem?_eq_some_iff.1 b1).1
    let g' : Gh := ⟨v', v'.ownBlock.getD 0, v'.ownBlock.toList ++ (bs ++ [gk.b]), vs ++ [gk.v]⟩
    have hv'b : ∀ b, b ∈ v'.ownBlock.toList → v'.ownBlock = some b := fun b hb => by
      cases hvb : v'.ownBlock with
      | none => rw [hvb] at hb; simp at hb
      | some c => rw [hvb] at hb; simp at hb; rw [hb]
    have sv : RowIn h k Ls.length gs (gs.set h g') := by
      refine ⟨fun j z hj hz => ?_, fun z hz => ⟨g', by simp [hhg], fun i u hiu => ?_⟩, fun z hz => ⟨g', by simp [hhg], ?_⟩⟩
      · rw [List.getElem?_set, if_neg (fun e => hj e.symm)]; exact hz
      · rw [hg] at hz; cases hz
        rw [a4] at hiu
        show (vs ++ [gk.v])[i]? = some u
        rw [List.getElem?_append_left (List.getElem?_eq_some_iff.1 hiu).1]; exact hiu
      · rw [hgk] at hz; cases hz
        show (vs ++ [gk.v])[Ls.length]? = some gk.v
        rw [← a2]; simp
    have a8' : (mb ++ bs).Nodup := by rw [← a7]; exact a8
    have mbfl : ∀ b, b ∈ mb → b ∉ bs := fun b hb hb2 => (List.nodup_append.1 a8').2.2 b hb b hb2 rfl
    have keep : ∀ c, c < w.heap.size → c ∉ mb → w'.heap[c]? = w.heap[c]? := fun c hc hcm => r3.block c hc (hnotmb c hcm)
    refine ⟨v', w', gs.set h g', .inl ?_, hr.absorb hg hs trivial hgk hk trivial hne g' _ (AV.rin k h Ls.length) rfl (fun b hb hn => r3.block b hb (hgb b hn)) r3.size ?_ (fun kp hv => hv.rin kp sv) ?_, ?_, ?_⟩
    · have r1' := r1
      simp only [execOp, resolve, invoke, builtin, Sem.run_bind, Sem.run_pure, Result.andThen_ok, List.map_toArray, List.map_cons, List.map_nil, hv, hu, r1']
    · intro b hb
      rcases List.mem_append.1 hb with hb | hb
      · have hb' := hv'b b hb
        refine ⟨?_, hlt b hb'⟩
        rcases r5 with r5 | r5
        · left
          rw [hb'] at r5
          exact Classical.byContradiction fun hn => hgb b hn r5
        · right; right
          rw [hb'] at r5; cases r5; exact Nat.le_refl _
      · rcases List.mem_append.1 hb with hb | hb
        · have : b ∈ gh.bl := by rw [a7]; exact List.mem_append.2 (.inr hb)
          exact ⟨.inl this, Nat.lt_of_lt_of_le (hbl0 b this) r3.size⟩
        · simp at hb
          subst hb
          exact ⟨.inr (.inl (by rw [b4]; simp)), Nat.lt_of_lt_of_le hblk r3.size⟩
    · intro kp
      refine ⟨vs ++ [gk.v], bs ++ [gk.b], v'.ownBlock.toList, ?_, by simp [a2], by simp [a3], rfl, fun j u hj => ?_, ?_, rfl, ?_⟩
      · simpa using r2
      · rw [List.getElem?_append] at hj
        split at hj
        · rename_i hjl
          obtain ⟨b, es', clock', q1, q2, q3, q4, q5⟩ := a5 j u hj
          have g1 : (Ls ++ [L]).getD j [] = Ls.getD j [] := by
            simp only [List.getD_eq_getElem?_getD]; rw [List.getElem?_append_left (by omega)]
          have g2 : (bs ++ [gk.b])[j]? = bs[j]? := List.getElem?_append_left (by omega)
          rw [g1, g2]
          have hbm : b ∈ bs := List.mem_of_getElem? q1
          exact ⟨b, es', clock', q1, q2, q3, (keep b (hbl0 b (by rw [a7]; exact List.mem_append.2 (.inr hbm))) fun hm => mbfl b hm hbm).trans q4, q5⟩
        · rename_i hjl
          have hj0 : j = vs.length := by
            have := (List.getElem?_eq_some_iff.1 hj).1
            simp at this; omega
          subst hj0
          simp at hj
          subst hj
          have g1 : (Ls ++ [L]).getD vs.length [] = L := by rw [a2]; simp [List.getD_eq_getElem?_getD]
          have g2 : (bs ++ [gk.b])[vs.length]? = some gk.b := by rw [a2, ← a3]; simp
          rw [g1]
          exact ⟨gk.b, es, clock, g2, eu, b3, (keep gk.b hblk fun hm => hdis (by rw [a7]; exact List.mem_append.2 (.inl hm))).trans b1, hM⟩
      · show (v'.ownBlock = none ∧ v'.ownBlock.toList = []) ∨ (v'.ownBlock = some (v'.ownBlock.getD 0) ∧ v'.ownBlock.toList = [v'.ownBlock.getD 0])
        cases v'.ownBlock with
        | none => exact .inl ⟨rfl, rfl⟩
        | some b => exact .inr ⟨rfl, rfl⟩
      · show (v'.ownBlock.toList ++ (bs ++ [gk.b])).Nodup
        refine nodup_rows a8' ?_ ?_ (by simp) (fun b hb => by simp at hb; subst hb; rw [← a7]; exact hdis)
        · cases v'.ownBlock <;> simp
        · intro b hb
          have hb' := hv'b b hb
          rcases r5 with r5 | r5
          · rw [hb'] at r5
            have hm : b ∈ mb := by rw [← emb, ← r5]; simp
            exact ⟨mbfl b hm, fun hc => by simp at hc; subst hc; exact hdis (by rw [a7]; exact List.mem_append.2 (.inl hm))⟩
          · rw [hb'] at r5
            cases r5
            refine ⟨fun hc => ?_, fun hc => ?_⟩
            · have := hbl0 w.heap.size (by rw [a7]; exact List.mem_append.2 (.inr hc)); omega
            · simp at hc; omega
    · exact RV.own (g := g') (by simp [hhg])
    · refine ⟨r3.os, r3.tape, r3.output, r3.size, fun b hb => r3.block b (by have := hr.hb; omega) (hgb b fun hm => ?_)⟩
      have := (hr.hn _ _ _ hg hs (by simp) b hm).1
      omega

variable {l rest : List Oper} {K : APost} {q : Md}
theorem w_lenslm {d : Tmp} {t e : TypeId} [TSlice P t e] {x : Operand} {h : Nat} {e' : TypeId} {Ls : List Trs} (hw : wantedA l env ⟨some d, .call { callee := .builtin .len, args := #[x], argTypes := #[t] }, ty, pos, af, g⟩ = some true) (hx : evo env x = some (.own h)) (hs : os[h]? = some (.ob (slmOb e' Ls)))
    (h' : AOps P q l rest K (env.up d (.i Ls.length)) os) : AOps P q l (⟨some d, .call { callee := .builtin .len, args := #[x], argTypes := #[t] }, ty, pos, af, g⟩ :: rest) K env os := AOps.qo hw (q_lenslm (ev_of hx) hs) h'
theorem w_idxslm {d : Tmp} {t e : TypeId} [TSlice P t e] [TCell P e] {x y : Operand} {h : Nat} {i : Int} {e' : TypeId} {Ls : List Trs} (hw : wantedA l env ⟨some d, .indexAddr t x y, ty, pos, af, g⟩ = some true) (hx : evo env x = some (.own h)) (hs : os[h]? = some (.ob (slmOb e' Ls))) (hy : evo env y = some (.i i)) (h0 : 0 ≤ i) (h1 : i < Ls.length)
    (h' : AOps P q l rest K (env.up d (.optr h i.toNat)) os) : AOps P q l (⟨some d, .indexAddr t x y, ty, pos, af, g⟩ :: rest) K env os := AOps.qo hw (q_idxslm (ev_of hx) hs (ev_of hy) h0 h1) h'
theorem w_ldslm {d : Tmp} {t : TypeId} [TCell P t] {x : Operand} {h i : Nat} {e : TypeId} {Ls : List Trs} (hw : wantedA l env ⟨some d, .load t x, ty, pos, af, g⟩ = some true) (hq : q.wl = false) (hx : evo env x = some (.optr h i)) (hs : os[h]? = some (.ob (slmOb e Ls))) (hi : i < Ls.length)
    (h' : AOps P q l rest K (env.up d (.orow h i)) os) : AOps P q l (⟨some d, .load t x, ty, pos, af, g⟩ :: rest) K env os := AOps.qo hw (by rw [hq]; exact q_ldslm (ev_of hx) hs hi) h'
theorem w_bsm1 {d : Tmp} {t e : TypeId} {bytes : Nat} [TSlice P t e] [TElem P e (.map none) bytes] {x : Operand} {k m : Nat} {L : Trs} (hx : evo env x = some (.own k)) (hk : os[k]? = some (.ob (mapOb L))) (hm : os.length = m)
    (h' : AOps P .seq l rest K (env.up d (.osub m 0 1)) (os ++ [.bx e [.own k]])) : AOps P .seq l (⟨some d, .buildSlice t 1 #[(0, x)], ty, pos, af, none⟩ :: rest) K env os := by
  subst hm; exact AOps.lo (l_bsm1 (ev_of hx) hk) h'
theorem w_bsm1s {d : Tmp} {t e : TypeId} {bytes : Nat} [TSlice P t e] [TElem P e (.map none) bytes] {x : Operand} {k m : Nat} {L : Trs} (hx : evo env x = some (.own k)) (hk : os[k]? = some (.ob (mapOb L))) (hm : os.length = m)
    (h' : AOps P .seq l rest K (Env.up (env.mp (AV.rin k m 0)) d (.own m)) (((((os ++ [AO.ob (slmOb e [])]).map (AO.via (AV.rin k m 0) m)).set m (.ob (slmOb e [L]))).set k .dead))) : AOps P .seq l (⟨some d, .buildSlice t 1 #[(0, x)], ty, pos, af, none⟩ :: rest) K env os := by
  subst hm; exact AOps.lo (l_bsm1s (ev_of hx) hk) h'
theorem w_appm {d : Tmp} {t e : TypeId} {bytes : Nat} [TSlice P t e] [TElem P e (.map none) bytes] {x y : Operand} {h m k : Nat} {e' T : TypeId} {Ls : List Trs} {L : Trs}
    (hx : evo env x = some (.own h)) (hs : os[h]? = some (.ob (slmOb e' Ls))) (hee : e' = e) (hy : evo env y = some (.osub m 0 1)) (hm : os[m]? = some (.bx T [.own k])) (hk : os[k]? = some (.ob (mapOb L))) (hne : h ≠ k)
    (hb : (Ls.length + 1) * bytes ≤ 140737488355328)
    (h' : AOps P .seq l rest K (Env.up (env.mp (AV.rin k h Ls.length)) d (.own h)) (((os.map (AO.via (AV.rin k h Ls.length) h)).set h (.ob (slmOb e (Ls ++ [L])))).set k .dead)) :
    AOps P .seq l (⟨some d, .call { callee := .builtin .append, args := #[x, y], argTypes := #[t, t] }, ty, pos, af, none⟩ :: rest) K env os :=
  AOps.lo (l_append_map (ev_of hx) hs hee (ev_of hy) hm hk hne hb) h'
end
end Go.Proofs.Ytkickbnahajpoaa
/-
  Map literals that are filled in drawn order; a function that is handed nil. No condition.
-/
namespace Go.Proofs.Ytkickbnahajpoaa
open Go Go.RowKit

/-- One or the other. -/
def orOb (q1 q2 : Ob) : Ob where
  p base w g := q1.p base w g ∨ q2.p base w g
  up hb h := h.imp (q1.up hb) (q2.up hb)
  lower hl h := h.imp (q1.lower hl) (q2.lower hl)
  one h := h.elim q1.one q2.one
theorem or_l {q1 q2 : Ob} : ∀ base w g, q1.p base w g → (orOb q1 q2).p base w g := fun _ _ _ h => .inl h
theorem or_r {q1 q2 : Ob} : ∀ base w g, q2.p base w g → (orOb q1 q2).p base w g := fun _ _ _ h => .inr h

theorem set_dead {os : List AO} {h k : Nat} {o : AO} (ho : (os.set h .dead)[k]? = some o) : o = .dead ∨ (k ≠ h ∧ os[k]? = some o) := by
  rw [List.getElem?_set] at ho
  split at ho
  · split at ho
    · cases ho; exact .inl rfl
    · cases ho
  · rename_i hne
    exact .inr ⟨fun e => hne e.symm, ho⟩
/-- A handle is given up: what lies behind it is only read from now on. -/
theorem Rel.deaden {base : Nat} {w : World} {gs : List Gh} {env : Env} {os : List AO} {tm : Array Value} (hr : Rel base w gs env os tm) (h : Nat) : Rel base w gs env (os.set h .dead) tm := by
  have kp : Keeps (okOf gs os) (okOf gs (os.set h .dead)) w w := fun b hb _ => ⟨fun k g o hg ho hlv => by
    rcases set_dead ho with rfl | ⟨_, ho'⟩
    · exact hlv.elim
    · exact hb k g o hg ho' hlv, rfl⟩
  refine ⟨hr.hb, by simpa using hr.hl, hr.hs, fun i => (hr.he i).mono kp (fun _ _ e => e), fun k g o hg ho => ?_, fun k m g g' o o' hne hg hg' ho ho' hn hn' => ?_, fun k g o hg ho hn => ?_⟩
  · rcases set_dead ho with rfl | ⟨_, ho'⟩
    · trivial
    · exact (hr.ho k g o hg ho').mono kp (fun _ _ e => e) (fun _ _ _ => rfl)
  · rcases set_dead ho with rfl | ⟨_, h1⟩
    · exact (hn rfl).elim
    · rcases set_dead ho' with rfl | ⟨_, h2⟩
      · exact (hn' rfl).elim
      · exact hr.hd k m g g' o o' hne hg hg' h1 h2 hn hn'
  · rcases set_dead ho with rfl | ⟨_, h1⟩
    · exact (hn rfl).elim
    · exact hr.hn k g o hg h1 hn
theorem Rel.free {base : Nat} {w : World} {gs : List Gh} {env : Env} {os : List AO} {tm : Array Value} (hr : Rel base w gs env os tm) {h : Nat} {g : Gh} {o : AO} (hg : gs[h]? = some g) (ho : os[h]? = some o) (hn : o ≠ .dead) {b : Nat} (hb : b ∈ g.bl) : okOf gs (os.set h .dead) b := by
  intro k x y hx hy hlv hm
  rcases set_dead hy with rfl | ⟨hne, hy'⟩
  · exact hlv.elim
  · exact hr.hd h k g x o y (fun e => hne e.symm) hg hx ho hy' hn hlv.ne b hb hm
/-- A loop over a map of one's own: from now on it is only read. -/
theorem AOps.rangeOwn {P : Program} {env : Env} {os : List AO} {ty : TypeId} {pos : String} {af : Array Edge} {l rest : List Oper} {K : APost} {d : Tmp} {T kt ve : TypeId} [TMap P T kt ve] {s h m : Nat} {L : List (Int × Int × Int)} (hx : evo env (.tmp s) = some (.own h)) (hs : os[h]? = some (.ob (mapOb L))) (hm : os.length = m)
    (h' : ∀ b es clock, MapIs es clock L → AOps P .seq l rest K (Env.up (env.up s (.ro (mapAt b es clock))) d (.own m)) (os.set h .dead ++ [.ob (itOb b es clock [])])) :
    AOps P .seq l (⟨some d, .range T (.tmp s), ty, pos, af, none⟩ :: rest) K env os := by
  intro base w0 w gs tm hr hb X Rt
  have hh := hr.ev (.tmp s)
  rw [ev_of hx] at hh
  have hv : Act.eval ⟨tm, []⟩ (.tmp s) = tm.getD s undef := by simp [Act.eval]
  rw [hv] at hh
  generalize hu : tm.getD s undef = u at hh
  cases hh with
  | @own _ gh hg =>
    obtain ⟨o, a1, ⟨es, clock, rfl, hM⟩, a3, a4, a5⟩ := hr.ho _ _ _ hg hs
    have r1 := hr.deaden h
    have hfree := hr.free hg hs (by simp) (b := gh.b) (by rw [a4]; simp)
    have r2 : Rel base w gs (env.up s (.ro (mapAt gh.b es clock))) (os.set h .dead) tm := r1.see (by rw [hu]; exact .ro ⟨a5, hfree, a1⟩)
    have hlk : evo (env.up s (.ro (mapAt gh.b es clock))) (.tmp s) = some (.ro (mapAt gh.b es clock)) := by
      simp only [evo, Env.fd, Env.up, fdm]
      have h1 : Nat.blt s env.n = true := by
        simp only [evo, Env.fd] at hx
        cases e : Nat.blt s env.n with
        | true => rfl
        | false => rw [e] at hx; cases hx
      rw [h1, Nat.beq_refl]
      rfl
    have hlen : (os.set h .dead).length = m := by simpa using hm
    exact w_range hM hlk hlen (h' gh.b es clock hM) base w0 w gs tm r2 hb X Rt
section
variable {P : Program} {env : Env} {os : List AO}
theorem AWp.cases {c : Code} {N : Env → List AO → Prop} {X : Nat → Env → List AO → Prop} {Rt : Env → List AO → Prop} {k : Nat} {q1 q2 : Ob} (hk : os[k]? = some (.ob (orOb q1 q2)))
    (h1 : AWp P c N X Rt env (os.set k (.ob q1))) (h2 : AWp P c N X Rt env (os.set k (.ob q2))) : AWp P c N X Rt env os := by
  intro base w0 w gs tm hr
  obtain ⟨g, hg⟩ : ∃ g, gs[k]? = some g := by
    have hl := (List.getElem?_eq_some_iff.1 hk).1
    exact ⟨gs[k]'(by rw [hr.hl]; exact hl), List.getElem?_eq_getElem _⟩
  rcases hr.ho _ _ _ hg hk with h | h
  · exact h1 base w0 w gs tm (hr.upd hg hk trivial (.ob q1) trivial (fun _ _ _ => rfl) (Nat.le_refl _) fun _ => h)
  · exact h2 base w0 w gs tm (hr.upd hg hk trivial (.ob q2) trivial (fun _ _ _ => rfl) (Nat.le_refl _) fun _ => h)

/-- What a function does to an own slice of rows, it does to nil. -/
theorem AFnT.atNil {f : FuncId} {rest : List AV} {T T2 : TypeId} {Q : List (List Int) → Prop} (hc : AFnT P f (.own 0 :: rest) T T2 [] Q) (hrest : ∀ a ∈ rest, ∃ v, a = .val v) :
    AFn P f (.val (.slice none 0 0) :: rest) (fun r os => ∃ xss, Q xss ∧ r = .own 0 ∧ os = [.sls T T2 xss]) := by
  refine ⟨hc.1, fun w vs hvs => ?_⟩
  let g0 : Gh := ⟨.slice none 0 0, 0, [], []⟩
  have hO : Objs w.heap.size w [g0] [.sls T T2 []] := by
    refine ⟨rfl, fun o ho => by simp at ho; subst ho; trivial, fun h g o hg ho => ?_, fun h k g g' hne hg hg' b hb => ?_, fun h g hg b hb => ?_⟩
    · match h, hg, ho with
      | 0, hg, ho =>
        simp at hg ho
        subst hg; subst ho
        exact ⟨[], [], [], World.ownsRow_nil w _ T 1, rfl, rfl, rfl, fun i u h => (by simp at h), .inl ⟨rfl, rfl⟩, rfl, by simp [g0]⟩
      | h + 1, hg, _ => simp at hg
    · match h, hg with
      | 0, hg => simp at hg; subst hg; simp [g0] at hb
      | h + 1, hg => simp at hg
    · match h, hg with
      | 0, hg => simp at hg; subst hg; simp [g0] at hb
      | h + 1, hg => simp at hg
  refine (hc.2 w.heap.size w g0 vs (Nat.le_refl _) hO (by simpa using hvs.1) fun i => ?_).mono ?_
  · have h := hvs.2 i
    match i with
    | 0 =>
      simp only [List.getD_cons_zero] at h ⊢
      generalize vs.getD 0 undef = v at h ⊢
      cases h
      exact RV.own (g := g0) rfl
    | i + 1 =>
      simp only [List.getD_cons_succ] at h ⊢
      generalize vs.getD (i + 1) undef = v at h ⊢
      rw [List.getD_eq_getElem?_getD] at h ⊢
      cases e : rest[i]? with
      | none => exact .any _
      | some a =>
        obtain ⟨u, rfl⟩ := hrest a (List.mem_of_getElem? e)
        rw [e] at h
        cases h
        exact .val _
  · rintro e w' ⟨g', xss', rfl, hq, hro, hbl, hbel, _⟩
    refine ⟨g'.v, .own 0, [.sls T T2 xss'], [g'], rfl, ⟨xss', hq, rfl, rfl⟩, hbel, .one hro fun b hb => ?_, .own rfl⟩
    have := hbl b hb
    simp [g0] at this
    exact this
end
section
variable {P : Program} {env : Env} {os : List AO} {ty : TypeId} {pos : String} {af : Array Edge} {l rest : List Oper} {K : APost}
theorem w_insert {T kt e ve : TypeId} [TMap P T kt ve] [TPair P kt e] {m k v : Operand} {h : Nat} {L : List (Int × Int × Int)} {i j c : Int} (hm : evo env m = some (.own h)) (hs : os[h]? = some (.ob (mapOb L))) (hk : evo env k = some (.agg [.i i, .i j])) (hv : evo env v = some (.i c))
    (h' : AOps P .seq l rest K env (os.set h (.ob (mapOb (putM L i j c))))) : AOps P .seq l (⟨none, .insert T m k v, ty, pos, af, none⟩ :: rest) K env os :=
  AOps.so (fun base w gs tm hr => l_mapset (d := none) (g := none) (ty := ty) (pos := pos) (af := af) (ev_of hm) hs (ev_of hk) (ev_of hv) base w gs tm hr) h'
end
section
variable {P : Program} {env : Env} {os : List AO} {l : List Oper} {N : APost} {X : Nat → APost} {Rt : APost}
/-- A region that draws its order, and comes to one of a family of states. -/
theorem AWp.regionGx {ι : Type} (φ : ι → Prop) (envC : ι → Env) (osC : ι → List AO) (qs : List Nat) {id : Nat} (hm : P.follows .mixedOrders = true) {n : Nat} (hn : l.length = n) {listed : List Bool} (hl : List.replicate n false = listed)
    (h : AAnyG P qs l n listed (fun e o => ∃ x, φ x ∧ (Fit e o (envC x) (osC x) ∨ ∃ σ, FitS σ e o (envC x) (osC x))) env os) (hk : ∀ x, φ x → N (envC x) (osC x)) : AWp P (.region id l.toArray true) N X Rt env os := by
  intro base w0 w gs tm hr hb
  have hbel : Below w.heap.size w { w with drawn := w.drawn + 1 } := (Below.refl _ _).drew
  refine wp_region_any hm ?_
  have := wpAny_of_G _ _ _ _ (h base w0 _ gs tm (hr.below hbel) (hb.trans (hbel.mono hr.hb)) X Rt)
  rw [← hl] at this
  have e1 : (List.replicate n false).toArray = Array.replicate l.toArray.size false := by simp [hn]
  rw [e1] at this
  have e2 : l.toArray.size = n := by simpa using hn
  rw [e2] at this ⊢
  refine AWp.regionA.wpAny_monoQ ?_ this
  intro e a w' hq
  cases e with
  | normal =>
    obtain ⟨env', os', gs', r1, r2, r3, x, hx, hf⟩ := hq
    rcases hf with hf | ⟨σ, hf⟩
    · obtain ⟨gs2, r4⟩ := r1.fit hf
      exact ⟨envC x, osC x, gs2, r4, r2, r3, hk x hx⟩
    · obtain ⟨gs2, r4⟩ := r1.fits hf
      exact ⟨envC x, osC x, gs2, r4, r2, r3, hk x hx⟩
  | exit j => exact hq
  | ret => exact hq
  | goto l => exact hq
  | panic ch => exact hq
  | outgrown => exact hq
end
section
variable {P : Program} {env : Env} {os : List AO} {d : Option Tmp} {ty : TypeId} {pos : String} {af : Array Edge} {g : Option (Nat × Bool)}
theorem ar4 : Array.range 4 = #[0, 1, 2, 3] := by apply Array.ext'; simp [List.range_succ]
theorem l_bs4 {t e : TypeId} {bytes : Nat} [ht : TSlice P t e] [he : TElem P e (.int .i64 0) bytes] {x y z u : Operand} {a b c k : Int} (hx : AV.ev env x = .i a) (hy : AV.ev env y = .i b) (hz' : AV.ev env z = .i c) (hu : AV.ev env u = .i k) (ha : inI a) (hb : inI b) (hc : inI c) (hk : inI k) :
    LOp P ⟨d, .buildSlice t 4 #[(0, x), (1, y), (2, z), (3, u)], ty, pos, af, g⟩ env os (.own os.length) env (os ++ [.sli e [a, b, c, k]]) := by
  refine l_laid (zs := [a, b, c, k]) (by simp; exact ⟨ha, hb, hc, hk⟩) (by simp [maxLen]) fun base w gs tm hr => ?_
  obtain ⟨ii, hi, hs, hz, hby⟩ := he.info
  simp [execOp, Instr.buildSlice, run_underlying ht.und, sizeOf, typeInfo, zeroValue, hi, hs, hz, Instr.fill, newRow, hr.evv hx, hr.evv hy, hr.evv hz', hr.evv hu, Value.cells, ar4]
end
section
variable {P : Program} {env : Env} {os : List AO} {d : Tmp} {ty : TypeId} {pos : String} {af : Array Edge} {l rest : List Oper} {K : APost}
theorem w_bs4 {t e : TypeId} {bytes : Nat} [TSlice P t e] [TElem P e (.int .i64 0) bytes] {x y z u : Operand} {a b c k : Int} {m : Nat} (hx : evo env x = some (.i a)) (hy : evo env y = some (.i b)) (hz : evo env z = some (.i c)) (hu : evo env u = some (.i k)) (hm : os.length = m) (ha : inI a) (hb : inI b) (hc : inI c) (hk : inI k)
    (h' : AOps P .seq l rest K (env.up d (.own m)) (os ++ [.sli e [a, b, c, k]])) : AOps P .seq l (⟨some d, .buildSlice t 4 #[(0, x), (1, y), (2, z), (3, u)], ty, pos, af, none⟩ :: rest) K env os := by
  subst hm; exact AOps.lo (l_bs4 (ev_of hx) (ev_of hy) (ev_of hz) (ev_of hu) ha hb hc hk) h'
end
end Go.Proofs.Ytkickbnahajpoaa
