/-
  Parts of the proof, one behind the other: contracts of functions and plain laws. No condition.
-/
import Derived.Test.YtpllbdjobmgikaaPt4PeriodOfZeta
/-
  Eigenvalue numbers: the program's. No condition but bounds.
-/
namespace Go.Proofs.Ytpllbdjobmgikaa
open Go Go.RowKit
attribute [local irreducible] AWp AOps ResIs Ret1 QOp LOp COp AFnV AFn Imms LeE LeO
set_option maxHeartbeats 1000000
set_option linter.unusedSimpArgs false
set_option linter.unusedVariables false
attribute [local irreducible] cloRo

/-- The places of the rows among the first n whose count is not 0. -/
def nzI (L : List (List Int)) : Nat → List Nat
  | 0 => []
  | n + 1 => if geti (gets L (n : Nat)) 1 ≠ 0 then nzI L n ++ [n] else nzI L n
theorem nzI_lt (L : List (List Int)) : ∀ (n i : Nat), i ∈ nzI L n → i < n
  | 0, i, h => by cases h
  | n + 1, i, h => by
    rw [nzI] at h
    split at h
    · rcases List.mem_append.1 h with h | h
      · have := nzI_lt L n i h; omega
      · simp at h; omega
    · have := nzI_lt L n i h; omega
theorem nzI_nodup (L : List (List Int)) : ∀ n : Nat, (nzI L n).Nodup
  | 0 => List.nodup_nil
  | n + 1 => by
    rw [nzI]
    split
    · rw [List.nodup_append]
      exact ⟨nzI_nodup L n, by simp, fun a ha b hb e => by have := nzI_lt L n a ha; simp at hb; omega⟩
    · exact nzI_nodup L n
theorem nzI_len (L : List (List Int)) : ∀ n : Nat, (nzI L n).length ≤ n
  | 0 => Nat.le_refl _
  | n + 1 => by
    have := nzI_len L n
    rw [nzI]
    split
    · simp; omega
    · omega
theorem nzI_rows (L : List (List Int)) : ∀ n : Nat, n ≤ L.length → (nzI L n).map (fun i => L.getD i []) = nzL L n
  | 0, _ => rfl
  | n + 1, h => by
    have ih := nzI_rows L n (by omega)
    rw [nzL_succ (by omega), nzI]
    split
    · rw [List.map_append, ih]
      simp [gets]
    · exact ih
theorem putZ_nil (m e : Int) : putZ [] m e = [[m, e]] := rfl

theorem lim9 {T e e2 e3 : TypeId} {ys : List (List Int)} (st : List Nat) : [AO.bx T [.own 1], AO.sls e e2 ys, .slr e3 (st.map (AV.orow 1))].map (AO.lim 3) = [AO.bx T [.own 1], AO.sls e e2 ys, .slr e3 (st.map (AV.orow 1))] := by
  have : (st.map (AV.orow 1)).map (AV.lim 3) = st.map (AV.orow 1) := by rw [List.map_map]; rfl
  simp only [List.map_cons, List.map_nil, AO.lim, this]
  rfl
set_option maxHeartbeats 8000000 in
theorem eigen_c (Z : List (List Int)) (hZ : ZtOk Z) : AFn Try.prog 26 [.intss Z] (IsIntss 31 2 (nzL (numZ Z Z.length) (numZ Z Z.length).length)) := by
  have hzl := hZ.1
  have ha0 := AFnO.ofP (add_c 0 [] zi_nil (by omega) 1 1 (by omega) (by omega))
  rw [putZ_nil] at ha0
  simp only [List.map_cons, List.map_nil] at ha0
  (refine AFn.start Try.func26 Try.ntmps26 rfl (by kernel_rfl) fun hk => ?_; simp only [Env.start, enumF, List.length_cons, List.length_nil, Nat.reduceAdd, Nat.reduceSub, List.cons_append, List.nil_append])
  repeat' (first
  | (apply AOps.nil; try simp only [List.nil_append, List.cons_append, List.set_cons_zero, List.set_cons_succ, List.length_cons, List.length_nil, Nat.reduceAdd, AV.sh, AV.sh1, AV.sh0, AO.sh, List.map_cons, List.map_nil, Nat.zero_add, Nat.add_zero, setAll])
  | ((apply AOps.splitP; exact rfl; exact rfl) <;> intro h)
  | ((apply AOps.splitN; exact rfl; exact rfl) <;> intro h)
  | (apply w_move; exact rfl; exact rfl)
  | (apply w_assign; exact rfl; exact rfl)
  | apply AWp.seq
  | apply AWp.region
  | ((apply AWp.condP; exact rfl) <;> intro h)
  | ((apply AWp.condN; exact rfl) <;> intro h)
  | (apply AWp.condT; exact rfl)
  | (apply AWp.condF; exact rfl)
  | ((apply AWp.condB; exact rfl) <;> intro h)
  | apply AWp.block
  | apply AWp.ret
  | apply AWp.exit
  | apply AWp.skip
  | (apply if_pos'; exact rfl)
  | (apply if_neg'; decide)
  | (apply w_skip; exact rfl)
  | (apply w_pickT; exact rfl; exact rfl; exact rfl)
  | (apply w_pickF; exact rfl; exact rfl; exact rfl)
  | (apply w_len; exact rfl; exact rfl; first | exact .ints _ | exact .intss _ | exact .sli rfl | exact .sls rfl | exact .slr rfl | exact .orow rfl | exact .nil)
  | ((first | apply w_lss | apply w_leq | apply w_gtr | apply w_geq | apply w_eql | apply w_neq | apply w_add | apply w_sub | apply w_mul | apply w_idx | apply w_ld | apply w_fld | apply w_fa | apply w_extv | apply w_min | apply w_max | apply w_slhi | apply w_sllo | apply w_bs2); iterate 3 exact rfl)
  | ((first | apply w_eqlb | apply w_neqb | apply w_idxs | apply w_lds | apply w_ext); iterate 3 exact rfl)
  | (apply w_rem; exact rfl; exact rfl; exact rfl; (focus (omega; done)); (focus (omega; done)))
  | (apply w_quo; exact rfl; exact rfl; exact rfl; (focus (omega; done)); (focus (omega; done)))
  | (apply w_remT; exact rfl; exact rfl; exact rfl)
  | (apply w_quoT; exact rfl; exact rfl; exact rfl)
  | ((first | apply w_not | apply w_neg | apply w_conv | apply w_build0 | apply w_bs1 | apply w_boxa); iterate 2 exact rfl)
  | (apply w_idxo; exact rfl; exact rfl; (first | exact .sli rfl | exact .sls rfl | exact .slr rfl); exact rfl)
  | ((first | apply w_idxr | apply w_ldr); iterate 4 exact rfl)
  | (apply w_ldo; iterate 4 exact rfl)
  | (apply w_ldls; iterate 4 exact rfl)
  | (apply w_ldrp; iterate 4 exact rfl)
  | (apply w_ldb; iterate 5 exact rfl)
  | (apply w_ldst; iterate 5 exact rfl)
  | ((first | apply w_sllh | apply w_stbi); iterate 4 exact rfl)
  | ((first | apply w_oslo | apply w_oshi | apply w_stbii); iterate 4 exact rfl)
  | (apply w_build1; exact rfl; exact rfl; (first | exact one_val rfl rfl | exact one_ints | exact one_intss | exact one_own rfl True.intro))
  | (apply w_build2; exact rfl; exact rfl; exact rfl; (first | exact one_val rfl rfl | exact one_ints | exact one_intss | exact one_own rfl True.intro); (first | exact one_val rfl rfl | exact one_ints | exact one_intss | exact one_own rfl True.intro))
  | (apply w_bs0; iterate 1 exact rfl)
  | (apply w_appn; exact rfl; exact rfl; (first | exact .ints _ | exact .sli rfl | exact .orow rfl | exact .nil | exact .osub rfl (by simp; omega)); exact rfl)
  | (apply w_app; exact rfl; exact rfl; exact rfl; exact rfl; (first | exact .ints _ | exact .sli rfl | exact .orow rfl | exact .nil | exact .osub rfl (by simp; omega)); rotate_left 1; simp only [Env.mp, List.map_cons, List.map_nil, List.set_cons_zero, List.set_cons_succ, AV.kill, AV.kill1, AO.kill, AV.noRow, AV.noRow1, AO.via, reduceIte, Nat.reduceEqDiff, Nat.reduceLT, Env.up, Nat.zero_ne_one, Nat.one_ne_zero, Nat.reduceAdd, List.cons_append, List.nil_append]; rotate_left 1)
  | (apply w_alst; iterate 2 exact rfl)
  | (apply w_alone; iterate 3 exact rfl)
  | (apply w_sti; exact rfl; exact rfl; rotate_left 1; exact rfl; rotate_left 2)
  | (apply w_stst; iterate 5 exact rfl)
  | (apply w_stbv; iterate 6 exact rfl)
  | (apply w_stbo; exact rfl; exact rfl; exact rfl; exact rfl; exact rfl; exact True.intro)
  | ((apply AOps.splitB; exact rfl; exact rfl) <;> intro h)
  | apply AllOf.nil
  | (apply AllOf.cons; exact rfl)
  | (apply AAny.take; exact rfl; exact rfl; kernel_rfl; kernel_rfl)
  | (apply AAny.all; exact rfl)
  | (apply AAny.done; exact rfl)
  | (apply inI_of <;> omega)
  | omega
  | (simp <;> omega))
  refine AOps.turns (Turns.joinNil (h := 0) 31 2 rfl) ?_
  try simp only [List.nil_append, List.cons_append, List.set_cons_zero, List.set_cons_succ, List.length_cons, List.length_nil, Nat.reduceAdd, AV.sh, AV.sh1, AV.sh0, AO.sh, List.map_cons, List.map_nil, Nat.zero_add, Nat.add_zero, setAll]
  repeat' (first
  | (apply AOps.nil; try simp only [List.nil_append, List.cons_append, List.set_cons_zero, List.set_cons_succ, List.length_cons, List.length_nil, Nat.reduceAdd, AV.sh, AV.sh1, AV.sh0, AO.sh, List.map_cons, List.map_nil, Nat.zero_add, Nat.add_zero, setAll])
  | ((apply AOps.splitP; exact rfl; exact rfl) <;> intro h)
  | ((apply AOps.splitN; exact rfl; exact rfl) <;> intro h)
  | (apply w_move; exact rfl; exact rfl)
  | (apply w_assign; exact rfl; exact rfl)
  | apply AWp.seq
  | apply AWp.region
  | ((apply AWp.condP; exact rfl) <;> intro h)
  | ((apply AWp.condN; exact rfl) <;> intro h)
  | (apply AWp.condT; exact rfl)
  | (apply AWp.condF; exact rfl)
  | ((apply AWp.condB; exact rfl) <;> intro h)
  | apply AWp.block
  | apply AWp.ret
  | apply AWp.exit
  | apply AWp.skip
  | (apply if_pos'; exact rfl)
  | (apply if_neg'; decide)
  | (apply w_skip; exact rfl)
  | (apply w_pickT; exact rfl; exact rfl; exact rfl)
  | (apply w_pickF; exact rfl; exact rfl; exact rfl)
  | (apply w_len; exact rfl; exact rfl; first | exact .ints _ | exact .intss _ | exact .sli rfl | exact .sls rfl | exact .slr rfl | exact .orow rfl | exact .nil)
  | (apply w_callo 0 2 (ha0); exact rfl; exact rfl; (focus ((repeat (first | exact imo_nil | refine imo_ptr rfl ?_ | refine imo_cons rfl (.val _) ?_ | refine imo_cons rfl (.ro _) ?_ | refine imo_cons rfl (.ints _) ?_ | refine imo_cons rfl (.intss _) ?_)); done)); simp only [Env.mp, List.map_cons, List.map_nil, List.set_cons_zero, List.set_cons_succ, AV.kill, AV.kill1, AO.kill, AV.noRow, AV.noRow1, AO.via, reduceIte, Nat.reduceEqDiff, Nat.reduceLT, Env.up, Nat.zero_ne_one, Nat.one_ne_zero, Nat.reduceAdd, List.cons_append, List.nil_append])
  | ((first | apply w_lss | apply w_leq | apply w_gtr | apply w_geq | apply w_eql | apply w_neq | apply w_add | apply w_sub | apply w_mul | apply w_idx | apply w_ld | apply w_fld | apply w_fa | apply w_extv | apply w_min | apply w_max | apply w_slhi | apply w_sllo | apply w_bs2); iterate 3 exact rfl)
  | ((first | apply w_eqlb | apply w_neqb | apply w_idxs | apply w_lds | apply w_ext); iterate 3 exact rfl)
  | (apply w_rem; exact rfl; exact rfl; exact rfl; (focus (omega; done)); (focus (omega; done)))
  | (apply w_quo; exact rfl; exact rfl; exact rfl; (focus (omega; done)); (focus (omega; done)))
  | (apply w_remT; exact rfl; exact rfl; exact rfl)
  | (apply w_quoT; exact rfl; exact rfl; exact rfl)
  | ((first | apply w_not | apply w_neg | apply w_conv | apply w_build0 | apply w_bs1 | apply w_boxa); iterate 2 exact rfl)
  | (apply w_idxo; exact rfl; exact rfl; (first | exact .sli rfl | exact .sls rfl | exact .slr rfl); exact rfl)
  | ((first | apply w_idxr | apply w_ldr); iterate 4 exact rfl)
  | (apply w_ldo; iterate 4 exact rfl)
  | (apply w_ldls; iterate 4 exact rfl)
  | (apply w_ldrp; iterate 4 exact rfl)
  | (apply w_ldb; iterate 5 exact rfl)
  | (apply w_ldst; iterate 5 exact rfl)
  | ((first | apply w_sllh | apply w_stbi); iterate 4 exact rfl)
  | ((first | apply w_oslo | apply w_oshi | apply w_stbii); iterate 4 exact rfl)
  | (apply w_build1; exact rfl; exact rfl; (first | exact one_val rfl rfl | exact one_ints | exact one_intss | exact one_own rfl True.intro))
  | (apply w_build2; exact rfl; exact rfl; exact rfl; (first | exact one_val rfl rfl | exact one_ints | exact one_intss | exact one_own rfl True.intro); (first | exact one_val rfl rfl | exact one_ints | exact one_intss | exact one_own rfl True.intro))
  | (apply w_bs0; iterate 1 exact rfl)
  | (apply w_appn; exact rfl; exact rfl; (first | exact .ints _ | exact .sli rfl | exact .orow rfl | exact .nil | exact .osub rfl (by simp; omega)); exact rfl)
  | (apply w_app; exact rfl; exact rfl; exact rfl; exact rfl; (first | exact .ints _ | exact .sli rfl | exact .orow rfl | exact .nil | exact .osub rfl (by simp; omega)); rotate_left 1; simp only [Env.mp, List.map_cons, List.map_nil, List.set_cons_zero, List.set_cons_succ, AV.kill, AV.kill1, AO.kill, AV.noRow, AV.noRow1, AO.via, reduceIte, Nat.reduceEqDiff, Nat.reduceLT, Env.up, Nat.zero_ne_one, Nat.one_ne_zero, Nat.reduceAdd, List.cons_append, List.nil_append]; rotate_left 1)
  | (apply w_alst; iterate 2 exact rfl)
  | (apply w_alone; iterate 3 exact rfl)
  | (apply w_sti; exact rfl; exact rfl; rotate_left 1; exact rfl; rotate_left 2)
  | (apply w_stst; iterate 5 exact rfl)
  | (apply w_stbv; iterate 6 exact rfl)
  | (apply w_stbo; exact rfl; exact rfl; exact rfl; exact rfl; exact rfl; exact True.intro)
  | ((apply AOps.splitB; exact rfl; exact rfl) <;> intro h)
  | apply AllOf.nil
  | (apply AllOf.cons; exact rfl)
  | (apply AAny.take; exact rfl; exact rfl; kernel_rfl; kernel_rfl)
  | (apply AAny.all; exact rfl)
  | (apply AAny.done; exact rfl)
  | (apply inI_of <;> omega)
  | omega
  | (simp <;> omega))
  refine AWp.loop (ι := Nat) (fun i => ⟨41, [(0, .intss Z), (3, .optr 0 0), (11, .intss Z), (12, .i Z.length), (13, .i i)]⟩) (fun i => [.ob (cntOb 52 31 2 (numZ Z i))]) (fun i => i ≤ Z.length) (fun i => Z.length - i) 0 (by omega) ⟨lee rfl (by (repeat (first | exact le_nil | refine le_eq rfl rfl ?_ | refine le_eq rfl (congrArg AV.i (by omega)) ?_))), by (repeat (first | exact lo_nil | refine lo_dead ?_ | refine lo_eq rfl ?_)), rfl, rfl⟩ ?_
  rintro i i0
  have hzi := zi_num hZ i i0
  by_cases hlt : i < Z.length
  · obtain ⟨r1, r2, r3⟩ := hZ.2 i hlt
    repeat' (first
  | (apply AOps.nil; try simp only [List.nil_append, List.cons_append, List.set_cons_zero, List.set_cons_succ, List.length_cons, List.length_nil, Nat.reduceAdd, AV.sh, AV.sh1, AV.sh0, AO.sh, List.map_cons, List.map_nil, Nat.zero_add, Nat.add_zero, setAll])
  | ((apply AOps.splitP; exact rfl; exact rfl) <;> intro h)
  | ((apply AOps.splitN; exact rfl; exact rfl) <;> intro h)
  | (apply w_move; exact rfl; exact rfl)
  | (apply w_assign; exact rfl; exact rfl)
  | apply AWp.seq
  | apply AWp.region
  | ((apply AWp.condP; exact rfl) <;> intro h)
  | ((apply AWp.condN; exact rfl) <;> intro h)
  | (apply AWp.condT; exact rfl)
  | (apply AWp.condF; exact rfl)
  | ((apply AWp.condB; exact rfl) <;> intro h)
  | apply AWp.block
  | apply AWp.ret
  | apply AWp.exit
  | apply AWp.skip
  | (apply if_pos'; exact rfl)
  | (apply if_neg'; decide)
  | (apply w_skip; exact rfl)
  | (apply w_pickT; exact rfl; exact rfl; exact rfl)
  | (apply w_pickF; exact rfl; exact rfl; exact rfl)
  | (apply w_len; exact rfl; exact rfl; first | exact .ints _ | exact .intss _ | exact .sli rfl | exact .sls rfl | exact .slr rfl | exact .orow rfl | exact .nil)
  | omega
  | ((first | apply w_lss | apply w_leq | apply w_gtr | apply w_geq | apply w_eql | apply w_neq | apply w_add | apply w_sub | apply w_mul | apply w_idx | apply w_ld | apply w_fld | apply w_fa | apply w_extv | apply w_min | apply w_max | apply w_slhi | apply w_sllo | apply w_bs2); iterate 3 exact rfl)
  | ((first | apply w_eqlb | apply w_neqb | apply w_idxs | apply w_lds | apply w_ext); iterate 3 exact rfl)
  | (apply w_rem; exact rfl; exact rfl; exact rfl; (focus (omega; done)); (focus (omega; done)))
  | (apply w_quo; exact rfl; exact rfl; exact rfl; (focus (omega; done)); (focus (omega; done)))
  | (apply w_remT; exact rfl; exact rfl; exact rfl)
  | (apply w_quoT; exact rfl; exact rfl; exact rfl)
  | ((first | apply w_not | apply w_neg | apply w_conv | apply w_build0 | apply w_bs1 | apply w_boxa); iterate 2 exact rfl)
  | (apply w_idxo; exact rfl; exact rfl; (first | exact .sli rfl | exact .sls rfl | exact .slr rfl); exact rfl)
  | ((first | apply w_idxr | apply w_ldr); iterate 4 exact rfl)
  | (apply w_ldo; iterate 4 exact rfl)
  | (apply w_ldls; iterate 4 exact rfl)
  | (apply w_ldrp; iterate 4 exact rfl)
  | (apply w_ldb; iterate 5 exact rfl)
  | (apply w_ldst; iterate 5 exact rfl)
  | ((first | apply w_sllh | apply w_stbi); iterate 4 exact rfl)
  | ((first | apply w_oslo | apply w_oshi | apply w_stbii); iterate 4 exact rfl)
  | (apply w_build1; exact rfl; exact rfl; (first | exact one_val rfl rfl | exact one_ints | exact one_intss | exact one_own rfl True.intro))
  | (apply w_build2; exact rfl; exact rfl; exact rfl; (first | exact one_val rfl rfl | exact one_ints | exact one_intss | exact one_own rfl True.intro); (first | exact one_val rfl rfl | exact one_ints | exact one_intss | exact one_own rfl True.intro))
  | (apply w_bs0; iterate 1 exact rfl)
  | (apply w_appn; exact rfl; exact rfl; (first | exact .ints _ | exact .sli rfl | exact .orow rfl | exact .nil | exact .osub rfl (by simp; omega)); exact rfl)
  | (apply w_app; exact rfl; exact rfl; exact rfl; exact rfl; (first | exact .ints _ | exact .sli rfl | exact .orow rfl | exact .nil | exact .osub rfl (by simp; omega)); rotate_left 1; simp only [Env.mp, List.map_cons, List.map_nil, List.set_cons_zero, List.set_cons_succ, AV.kill, AV.kill1, AO.kill, AV.noRow, AV.noRow1, AO.via, reduceIte, Nat.reduceEqDiff, Nat.reduceLT, Env.up, Nat.zero_ne_one, Nat.one_ne_zero, Nat.reduceAdd, List.cons_append, List.nil_append]; rotate_left 1)
  | (apply w_alst; iterate 2 exact rfl)
  | (apply w_alone; iterate 3 exact rfl)
  | (apply w_sti; exact rfl; exact rfl; rotate_left 1; exact rfl; rotate_left 2)
  | (apply w_stst; iterate 5 exact rfl)
  | (apply w_stbv; iterate 6 exact rfl)
  | (apply w_stbo; exact rfl; exact rfl; exact rfl; exact rfl; exact rfl; exact True.intro)
  | ((apply AOps.splitB; exact rfl; exact rfl) <;> intro h)
  | apply AllOf.nil
  | (apply AllOf.cons; exact rfl)
  | (apply AAny.take; exact rfl; exact rfl; kernel_rfl; kernel_rfl)
  | (apply AAny.all; exact rfl)
  | (apply AAny.done; exact rfl)
  | (apply inI_of <;> omega)
  | omega
  | (simp <;> omega))
    refine AOps.freeze 5 1 rfl rfl ?_
    refine AOps.pin 0 rfl cnt_ptr fun B V hV => ?_
    try simp only [List.nil_append, List.cons_append, List.set_cons_zero, List.set_cons_succ, List.length_cons, List.length_nil, Nat.reduceAdd, AV.sh, AV.sh1, AV.sh0, AO.sh, List.map_cons, List.map_nil, Nat.zero_add, Nat.add_zero, setAll]
    have hd := (allDiv_c _ _ hzi (by omega) (gets Z (i : Nat)) r1 (geti (gets Z (i : Nat)) 0) r2 r3 B V hV).drop
    repeat' (first
  | (apply AOps.nil; try simp only [List.nil_append, List.cons_append, List.set_cons_zero, List.set_cons_succ, List.length_cons, List.length_nil, Nat.reduceAdd, AV.sh, AV.sh1, AV.sh0, AO.sh, List.map_cons, List.map_nil, Nat.zero_add, Nat.add_zero, setAll])
  | ((apply AOps.splitP; exact rfl; exact rfl) <;> intro h)
  | ((apply AOps.splitN; exact rfl; exact rfl) <;> intro h)
  | (apply w_move; exact rfl; exact rfl)
  | (apply w_assign; exact rfl; exact rfl)
  | apply AWp.seq
  | apply AWp.region
  | ((apply AWp.condP; exact rfl) <;> intro h)
  | ((apply AWp.condN; exact rfl) <;> intro h)
  | (apply AWp.condT; exact rfl)
  | (apply AWp.condF; exact rfl)
  | ((apply AWp.condB; exact rfl) <;> intro h)
  | apply AWp.block
  | apply AWp.ret
  | apply AWp.exit
  | apply AWp.skip
  | (apply if_pos'; exact rfl)
  | (apply if_neg'; decide)
  | (apply w_skip; exact rfl)
  | (apply w_pickT; exact rfl; exact rfl; exact rfl)
  | (apply w_pickF; exact rfl; exact rfl; exact rfl)
  | (apply w_len; exact rfl; exact rfl; first | exact .ints _ | exact .intss _ | exact .sli rfl | exact .sls rfl | exact .slr rfl | exact .orow rfl | exact .nil)
  | (apply w_makef hV pinned1; exact rfl; exact rfl; exact rfl; exact rfl)
  | (apply w_callo 0 2 (hd); exact rfl; exact rfl; (focus ((repeat (first | exact imo_nil | refine imo_ptr rfl ?_ | refine imo_cons rfl (.val _) ?_ | refine imo_cons rfl (.ro _) ?_ | refine imo_cons rfl (.ints _) ?_ | refine imo_cons rfl (.intss _) ?_)); done)); simp only [Env.mp, List.map_cons, List.map_nil, List.set_cons_zero, List.set_cons_succ, AV.kill, AV.kill1, AO.kill, AV.noRow, AV.noRow1, AO.via, reduceIte, Nat.reduceEqDiff, Nat.reduceLT, Env.up, Nat.zero_ne_one, Nat.one_ne_zero, Nat.reduceAdd, List.cons_append, List.nil_append])
  | omega
  | ((first | apply w_lss | apply w_leq | apply w_gtr | apply w_geq | apply w_eql | apply w_neq | apply w_add | apply w_sub | apply w_mul | apply w_idx | apply w_ld | apply w_fld | apply w_fa | apply w_extv | apply w_min | apply w_max | apply w_slhi | apply w_sllo | apply w_bs2); iterate 3 exact rfl)
  | ((first | apply w_eqlb | apply w_neqb | apply w_idxs | apply w_lds | apply w_ext); iterate 3 exact rfl)
  | (apply w_rem; exact rfl; exact rfl; exact rfl; (focus (omega; done)); (focus (omega; done)))
  | (apply w_quo; exact rfl; exact rfl; exact rfl; (focus (omega; done)); (focus (omega; done)))
  | (apply w_remT; exact rfl; exact rfl; exact rfl)
  | (apply w_quoT; exact rfl; exact rfl; exact rfl)
  | ((first | apply w_not | apply w_neg | apply w_conv | apply w_build0 | apply w_bs1 | apply w_boxa); iterate 2 exact rfl)
  | (apply w_idxo; exact rfl; exact rfl; (first | exact .sli rfl | exact .sls rfl | exact .slr rfl); exact rfl)
  | ((first | apply w_idxr | apply w_ldr); iterate 4 exact rfl)
  | (apply w_ldo; iterate 4 exact rfl)
  | (apply w_ldls; iterate 4 exact rfl)
  | (apply w_ldrp; iterate 4 exact rfl)
  | (apply w_ldb; iterate 5 exact rfl)
  | (apply w_ldst; iterate 5 exact rfl)
  | ((first | apply w_sllh | apply w_stbi); iterate 4 exact rfl)
  | ((first | apply w_oslo | apply w_oshi | apply w_stbii); iterate 4 exact rfl)
  | (apply w_build1; exact rfl; exact rfl; (first | exact one_val rfl rfl | exact one_ints | exact one_intss | exact one_own rfl True.intro))
  | (apply w_build2; exact rfl; exact rfl; exact rfl; (first | exact one_val rfl rfl | exact one_ints | exact one_intss | exact one_own rfl True.intro); (first | exact one_val rfl rfl | exact one_ints | exact one_intss | exact one_own rfl True.intro))
  | (apply w_bs0; iterate 1 exact rfl)
  | (apply w_appn; exact rfl; exact rfl; (first | exact .ints _ | exact .sli rfl | exact .orow rfl | exact .nil | exact .osub rfl (by simp; omega)); exact rfl)
  | (apply w_app; exact rfl; exact rfl; exact rfl; exact rfl; (first | exact .ints _ | exact .sli rfl | exact .orow rfl | exact .nil | exact .osub rfl (by simp; omega)); rotate_left 1; simp only [Env.mp, List.map_cons, List.map_nil, List.set_cons_zero, List.set_cons_succ, AV.kill, AV.kill1, AO.kill, AV.noRow, AV.noRow1, AO.via, reduceIte, Nat.reduceEqDiff, Nat.reduceLT, Env.up, Nat.zero_ne_one, Nat.one_ne_zero, Nat.reduceAdd, List.cons_append, List.nil_append]; rotate_left 1)
  | (apply w_alst; iterate 2 exact rfl)
  | (apply w_alone; iterate 3 exact rfl)
  | (apply w_sti; exact rfl; exact rfl; rotate_left 1; exact rfl; rotate_left 2)
  | (apply w_stst; iterate 5 exact rfl)
  | (apply w_stbv; iterate 6 exact rfl)
  | (apply w_stbo; exact rfl; exact rfl; exact rfl; exact rfl; exact rfl; exact True.intro)
  | ((apply AOps.splitB; exact rfl; exact rfl) <;> intro h)
  | apply AllOf.nil
  | (apply AllOf.cons; exact rfl)
  | (apply AAny.take; exact rfl; exact rfl; kernel_rfl; kernel_rfl)
  | (apply AAny.all; exact rfl)
  | (apply AAny.done; exact rfl)
  | (apply inI_of <;> omega)
  | omega
  | (simp <;> omega))
    exact ⟨i + 1, hlt, by omega, ⟨lee rfl (by (repeat (first | exact le_nil | refine le_eq rfl rfl ?_ | refine le_eq rfl (congrArg AV.i (by omega)) ?_))), by (repeat (first | exact lo_nil | refine lo_dead ?_ | refine lo_eq rfl ?_)), rfl, rfl⟩⟩
  · repeat' (first
  | (apply AOps.nil; try simp only [List.nil_append, List.cons_append, List.set_cons_zero, List.set_cons_succ, List.length_cons, List.length_nil, Nat.reduceAdd, AV.sh, AV.sh1, AV.sh0, AO.sh, List.map_cons, List.map_nil, Nat.zero_add, Nat.add_zero, setAll])
  | ((apply AOps.splitP; exact rfl; exact rfl) <;> intro h)
  | ((apply AOps.splitN; exact rfl; exact rfl) <;> intro h)
  | (apply w_move; exact rfl; exact rfl)
  | (apply w_assign; exact rfl; exact rfl)
  | apply AWp.seq
  | apply AWp.region
  | ((apply AWp.condP; exact rfl) <;> intro h)
  | ((apply AWp.condN; exact rfl) <;> intro h)
  | (apply AWp.condT; exact rfl)
  | (apply AWp.condF; exact rfl)
  | ((apply AWp.condB; exact rfl) <;> intro h)
  | apply AWp.block
  | apply AWp.ret
  | apply AWp.exit
  | apply AWp.skip
  | (apply if_pos'; exact rfl)
  | (apply if_neg'; decide)
  | (apply w_skip; exact rfl)
  | (apply w_pickT; exact rfl; exact rfl; exact rfl)
  | (apply w_pickF; exact rfl; exact rfl; exact rfl)
  | (apply w_len; exact rfl; exact rfl; first | exact .ints _ | exact .intss _ | exact .sli rfl | exact .sls rfl | exact .slr rfl | exact .orow rfl | exact .nil)
  | omega
  | ((first | apply w_lss | apply w_leq | apply w_gtr | apply w_geq | apply w_eql | apply w_neq | apply w_add | apply w_sub | apply w_mul | apply w_idx | apply w_ld | apply w_fld | apply w_fa | apply w_extv | apply w_min | apply w_max | apply w_slhi | apply w_sllo | apply w_bs2); iterate 3 exact rfl)
  | ((first | apply w_eqlb | apply w_neqb | apply w_idxs | apply w_lds | apply w_ext); iterate 3 exact rfl)
  | (apply w_rem; exact rfl; exact rfl; exact rfl; (focus (omega; done)); (focus (omega; done)))
  | (apply w_quo; exact rfl; exact rfl; exact rfl; (focus (omega; done)); (focus (omega; done)))
  | (apply w_remT; exact rfl; exact rfl; exact rfl)
  | (apply w_quoT; exact rfl; exact rfl; exact rfl)
  | ((first | apply w_not | apply w_neg | apply w_conv | apply w_build0 | apply w_bs1 | apply w_boxa); iterate 2 exact rfl)
  | (apply w_idxo; exact rfl; exact rfl; (first | exact .sli rfl | exact .sls rfl | exact .slr rfl); exact rfl)
  | ((first | apply w_idxr | apply w_ldr); iterate 4 exact rfl)
  | (apply w_ldo; iterate 4 exact rfl)
  | (apply w_ldls; iterate 4 exact rfl)
  | (apply w_ldrp; iterate 4 exact rfl)
  | (apply w_ldb; iterate 5 exact rfl)
  | (apply w_ldst; iterate 5 exact rfl)
  | ((first | apply w_sllh | apply w_stbi); iterate 4 exact rfl)
  | ((first | apply w_oslo | apply w_oshi | apply w_stbii); iterate 4 exact rfl)
  | (apply w_build1; exact rfl; exact rfl; (first | exact one_val rfl rfl | exact one_ints | exact one_intss | exact one_own rfl True.intro))
  | (apply w_build2; exact rfl; exact rfl; exact rfl; (first | exact one_val rfl rfl | exact one_ints | exact one_intss | exact one_own rfl True.intro); (first | exact one_val rfl rfl | exact one_ints | exact one_intss | exact one_own rfl True.intro))
  | (apply w_bs0; iterate 1 exact rfl)
  | (apply w_appn; exact rfl; exact rfl; (first | exact .ints _ | exact .sli rfl | exact .orow rfl | exact .nil | exact .osub rfl (by simp; omega)); exact rfl)
  | (apply w_app; exact rfl; exact rfl; exact rfl; exact rfl; (first | exact .ints _ | exact .sli rfl | exact .orow rfl | exact .nil | exact .osub rfl (by simp; omega)); rotate_left 1; simp only [Env.mp, List.map_cons, List.map_nil, List.set_cons_zero, List.set_cons_succ, AV.kill, AV.kill1, AO.kill, AV.noRow, AV.noRow1, AO.via, reduceIte, Nat.reduceEqDiff, Nat.reduceLT, Env.up, Nat.zero_ne_one, Nat.one_ne_zero, Nat.reduceAdd, List.cons_append, List.nil_append]; rotate_left 1)
  | (apply w_alst; iterate 2 exact rfl)
  | (apply w_alone; iterate 3 exact rfl)
  | (apply w_sti; exact rfl; exact rfl; rotate_left 1; exact rfl; rotate_left 2)
  | (apply w_stst; iterate 5 exact rfl)
  | (apply w_stbv; iterate 6 exact rfl)
  | (apply w_stbo; exact rfl; exact rfl; exact rfl; exact rfl; exact rfl; exact True.intro)
  | ((apply AOps.splitB; exact rfl; exact rfl) <;> intro h)
  | apply AllOf.nil
  | (apply AllOf.cons; exact rfl)
  | (apply AAny.take; exact rfl; exact rfl; kernel_rfl; kernel_rfl)
  | (apply AAny.all; exact rfl)
  | (apply AAny.done; exact rfl)
  | (apply inI_of <;> omega)
  | omega
  | (simp <;> omega))
    have e : i = Z.length := by omega
    subst e
    refine AOps.turns (Turns.split (h := 0) rfl rfl) ?_
    simp only [Env.mp, List.map_cons, List.map_nil, List.set_cons_zero, List.set_cons_succ, AV.kill, AV.kill1, AO.kill, AV.noRow, AV.noRow1, AO.via, reduceIte, Nat.reduceEqDiff, Nat.reduceLT, Env.up, Nat.zero_ne_one, Nat.one_ne_zero, Nat.reduceAdd, List.cons_append, List.nil_append]
    refine w_bsx0 1 rfl ?_
    try simp only [List.nil_append, List.cons_append, List.set_cons_zero, List.set_cons_succ, List.length_cons, List.length_nil, Nat.reduceAdd, AV.sh, AV.sh1, AV.sh0, AO.sh, List.map_cons, List.map_nil, Nat.zero_add, Nat.add_zero, setAll]
    repeat' (first
  | (apply AOps.nil; try simp only [List.nil_append, List.cons_append, List.set_cons_zero, List.set_cons_succ, List.length_cons, List.length_nil, Nat.reduceAdd, AV.sh, AV.sh1, AV.sh0, AO.sh, List.map_cons, List.map_nil, Nat.zero_add, Nat.add_zero, setAll])
  | ((apply AOps.splitP; exact rfl; exact rfl) <;> intro h)
  | ((apply AOps.splitN; exact rfl; exact rfl) <;> intro h)
  | (apply w_move; exact rfl; exact rfl)
  | (apply w_assign; exact rfl; exact rfl)
  | apply AWp.seq
  | apply AWp.region
  | ((apply AWp.condP; exact rfl) <;> intro h)
  | ((apply AWp.condN; exact rfl) <;> intro h)
  | (apply AWp.condT; exact rfl)
  | (apply AWp.condF; exact rfl)
  | ((apply AWp.condB; exact rfl) <;> intro h)
  | apply AWp.block
  | apply AWp.ret
  | apply AWp.exit
  | apply AWp.skip
  | (apply if_pos'; exact rfl)
  | (apply if_neg'; decide)
  | (apply w_skip; exact rfl)
  | (apply w_pickT; exact rfl; exact rfl; exact rfl)
  | (apply w_pickF; exact rfl; exact rfl; exact rfl)
  | (apply w_len; exact rfl; exact rfl; first | exact .ints _ | exact .intss _ | exact .sli rfl | exact .sls rfl | exact .slr rfl | exact .orow rfl | exact .nil)
  | omega
  | ((first | apply w_lss | apply w_leq | apply w_gtr | apply w_geq | apply w_eql | apply w_neq | apply w_add | apply w_sub | apply w_mul | apply w_idx | apply w_ld | apply w_fld | apply w_fa | apply w_extv | apply w_min | apply w_max | apply w_slhi | apply w_sllo | apply w_bs2); iterate 3 exact rfl)
  | ((first | apply w_eqlb | apply w_neqb | apply w_idxs | apply w_lds | apply w_ext); iterate 3 exact rfl)
  | (apply w_rem; exact rfl; exact rfl; exact rfl; (focus (omega; done)); (focus (omega; done)))
  | (apply w_quo; exact rfl; exact rfl; exact rfl; (focus (omega; done)); (focus (omega; done)))
  | (apply w_remT; exact rfl; exact rfl; exact rfl)
  | (apply w_quoT; exact rfl; exact rfl; exact rfl)
  | ((first | apply w_not | apply w_neg | apply w_conv | apply w_build0 | apply w_bs1 | apply w_boxa); iterate 2 exact rfl)
  | (apply w_idxo; exact rfl; exact rfl; (first | exact .sli rfl | exact .sls rfl | exact .slr rfl); exact rfl)
  | ((first | apply w_idxr | apply w_ldr); iterate 4 exact rfl)
  | (apply w_ldo; iterate 4 exact rfl)
  | (apply w_ldls; iterate 4 exact rfl)
  | (apply w_ldrp; iterate 4 exact rfl)
  | (apply w_ldb; iterate 5 exact rfl)
  | (apply w_ldst; iterate 5 exact rfl)
  | ((first | apply w_sllh | apply w_stbi); iterate 4 exact rfl)
  | ((first | apply w_oslo | apply w_oshi | apply w_stbii); iterate 4 exact rfl)
  | (apply w_build1; exact rfl; exact rfl; (first | exact one_val rfl rfl | exact one_ints | exact one_intss | exact one_own rfl True.intro))
  | (apply w_build2; exact rfl; exact rfl; exact rfl; (first | exact one_val rfl rfl | exact one_ints | exact one_intss | exact one_own rfl True.intro); (first | exact one_val rfl rfl | exact one_ints | exact one_intss | exact one_own rfl True.intro))
  | (apply w_bs0; iterate 1 exact rfl)
  | (apply w_appn; exact rfl; exact rfl; (first | exact .ints _ | exact .sli rfl | exact .orow rfl | exact .nil | exact .osub rfl (by simp; omega)); exact rfl)
  | (apply w_app; exact rfl; exact rfl; exact rfl; exact rfl; (first | exact .ints _ | exact .sli rfl | exact .orow rfl | exact .nil | exact .osub rfl (by simp; omega)); rotate_left 1; simp only [Env.mp, List.map_cons, List.map_nil, List.set_cons_zero, List.set_cons_succ, AV.kill, AV.kill1, AO.kill, AV.noRow, AV.noRow1, AO.via, reduceIte, Nat.reduceEqDiff, Nat.reduceLT, Env.up, Nat.zero_ne_one, Nat.one_ne_zero, Nat.reduceAdd, List.cons_append, List.nil_append]; rotate_left 1)
  | (apply w_alst; iterate 2 exact rfl)
  | (apply w_alone; iterate 3 exact rfl)
  | (apply w_sti; exact rfl; exact rfl; rotate_left 1; exact rfl; rotate_left 2)
  | (apply w_stst; iterate 5 exact rfl)
  | (apply w_stbv; iterate 6 exact rfl)
  | (apply w_stbo; exact rfl; exact rfl; exact rfl; exact rfl; exact rfl; exact True.intro)
  | ((apply AOps.splitB; exact rfl; exact rfl) <;> intro h)
  | apply AllOf.nil
  | (apply AllOf.cons; exact rfl)
  | (apply AAny.take; exact rfl; exact rfl; kernel_rfl; kernel_rfl)
  | (apply AAny.all; exact rfl)
  | (apply AAny.done; exact rfl)
  | (apply inI_of <;> omega)
  | omega
  | (simp <;> omega))
    have hzl2 := (zok_of hzi (by omega)).2
    have hrl : ∀ n : Nat, n < (numZ Z Z.length).length → ((numZ Z Z.length).getD (n : Int).toNat []).length = 2 := fun n hn => by
      have := (hzi.row _ (at_mem hn)).1
      rw [Int.toNat_natCast]; exact this
    generalize numZ Z Z.length = L at *
    refine AWp.loop (ι := Nat) (fun n => ⟨41, [(6, .own 2), (25, .own 1), (26, .i L.length), (27, .i n)]⟩) (fun n => [.bx 52 [.own 1], .sls 31 2 L, .slr 31 ((nzI L n).map (AV.orow 1))]) (fun n => n ≤ L.length) (fun n => L.length - n) 0 (by omega) ⟨lee rfl (by (repeat (first | exact le_nil | refine le_eq rfl rfl ?_ | refine le_eq rfl (congrArg AV.i (by omega)) ?_))), by (repeat (first | exact lo_nil | refine lo_dead ?_ | refine lo_eq rfl ?_)), rfl, by first | exact rfl | exact lim9 _⟩ ?_
    rintro n n0
    have hnl := nzI_len L n
    by_cases hn : n < L.length
    · have hr := hrl n hn
      have hs : nzI L (n + 1) = if geti (L.getD (n : Int).toNat []) ((Int.toNat 1 : Nat) : Int) ≠ 0 then nzI L n ++ [n] else nzI L n := rfl
      by_cases h0 : geti (L.getD (n : Int).toNat []) ((Int.toNat 1 : Nat) : Int) ≠ 0
      · rw [if_pos h0] at hs
        repeat' (first
  | (apply AOps.nil; try simp only [List.nil_append, List.cons_append, List.set_cons_zero, List.set_cons_succ, List.length_cons, List.length_nil, Nat.reduceAdd, AV.sh, AV.sh1, AV.sh0, AO.sh, List.map_cons, List.map_nil, Nat.zero_add, Nat.add_zero, setAll])
  | ((apply AOps.splitP; exact rfl; exact rfl) <;> intro h)
  | ((apply AOps.splitN; exact rfl; exact rfl) <;> intro h)
  | (apply w_move; exact rfl; exact rfl)
  | (apply w_assign; exact rfl; exact rfl)
  | apply AWp.seq
  | apply AWp.region
  | ((apply AWp.condP; exact rfl) <;> intro h)
  | ((apply AWp.condN; exact rfl) <;> intro h)
  | (apply AWp.condT; exact rfl)
  | (apply AWp.condF; exact rfl)
  | ((apply AWp.condB; exact rfl) <;> intro h)
  | apply AWp.block
  | apply AWp.ret
  | apply AWp.exit
  | apply AWp.skip
  | (apply if_pos'; exact rfl)
  | (apply if_neg'; decide)
  | (apply w_skip; exact rfl)
  | (apply w_pickT; exact rfl; exact rfl; exact rfl)
  | (apply w_pickF; exact rfl; exact rfl; exact rfl)
  | (apply w_len; exact rfl; exact rfl; first | exact .ints _ | exact .intss _ | exact .sli rfl | exact .sls rfl | exact .slr rfl | exact .orow rfl | exact .nil)
  | ((first | apply w_bsx1 | apply w_lss | apply w_leq | apply w_gtr | apply w_geq | apply w_eql | apply w_neq | apply w_add | apply w_sub | apply w_mul | apply w_idx | apply w_ld | apply w_fld | apply w_fa | apply w_extv | apply w_min | apply w_max | apply w_slhi | apply w_sllo | apply w_bs2); iterate 3 exact rfl)
  | (apply w_appx; exact rfl; exact rfl; exact rfl; exact rfl; exact rfl; rotate_left 1; simp only [Env.mp, List.map_cons, List.map_nil, List.set_cons_zero, List.set_cons_succ, AV.kill, AV.kill1, AO.kill, AV.rin, AV.rin1, AV.noRow, AV.noRow1, AO.via, reduceIte, Nat.reduceEqDiff, Nat.reduceLT, Env.up, Nat.zero_ne_one, Nat.one_ne_zero, Nat.reduceAdd, List.cons_append, List.nil_append]; rotate_left 1)
  | (apply w_cutx; exact rfl; exact rfl; exact rfl; rotate_left 2; simp only [Env.mp, List.map_cons, List.map_nil, List.set_cons_zero, List.set_cons_succ, AV.kill, AV.kill1, AO.kill, AV.rin, AV.rin1, AV.noRow, AV.noRow1, AO.via, reduceIte, Nat.reduceEqDiff, Nat.reduceLT, Env.up, Nat.zero_ne_one, Nat.one_ne_zero, Nat.reduceAdd, List.cons_append, List.nil_append]; rotate_left 1)
  | omega
  | ((first | apply w_eqlb | apply w_neqb | apply w_idxs | apply w_lds | apply w_ext); iterate 3 exact rfl)
  | (apply w_rem; exact rfl; exact rfl; exact rfl; (focus (omega; done)); (focus (omega; done)))
  | (apply w_quo; exact rfl; exact rfl; exact rfl; (focus (omega; done)); (focus (omega; done)))
  | (apply w_remT; exact rfl; exact rfl; exact rfl)
  | (apply w_quoT; exact rfl; exact rfl; exact rfl)
  | ((first | apply w_not | apply w_neg | apply w_conv | apply w_build0 | apply w_bs1 | apply w_boxa); iterate 2 exact rfl)
  | (apply w_idxo; exact rfl; exact rfl; (first | exact .sli rfl | exact .sls rfl | exact .slr rfl); exact rfl)
  | ((first | apply w_idxr | apply w_ldr); iterate 4 exact rfl)
  | (apply w_ldo; iterate 4 exact rfl)
  | (apply w_ldls; iterate 4 exact rfl)
  | (apply w_ldrp; iterate 4 exact rfl)
  | (apply w_ldb; iterate 5 exact rfl)
  | (apply w_ldst; iterate 5 exact rfl)
  | ((first | apply w_sllh | apply w_stbi); iterate 4 exact rfl)
  | ((first | apply w_oslo | apply w_oshi | apply w_stbii); iterate 4 exact rfl)
  | (apply w_build1; exact rfl; exact rfl; (first | exact one_val rfl rfl | exact one_ints | exact one_intss | exact one_own rfl True.intro))
  | (apply w_build2; exact rfl; exact rfl; exact rfl; (first | exact one_val rfl rfl | exact one_ints | exact one_intss | exact one_own rfl True.intro); (first | exact one_val rfl rfl | exact one_ints | exact one_intss | exact one_own rfl True.intro))
  | (apply w_bs0; iterate 1 exact rfl)
  | (apply w_appn; exact rfl; exact rfl; (first | exact .ints _ | exact .sli rfl | exact .orow rfl | exact .nil | exact .osub rfl (by simp; omega)); exact rfl)
  | (apply w_app; exact rfl; exact rfl; exact rfl; exact rfl; (first | exact .ints _ | exact .sli rfl | exact .orow rfl | exact .nil | exact .osub rfl (by simp; omega)); rotate_left 1; simp only [Env.mp, List.map_cons, List.map_nil, List.set_cons_zero, List.set_cons_succ, AV.kill, AV.kill1, AO.kill, AV.noRow, AV.noRow1, AO.via, reduceIte, Nat.reduceEqDiff, Nat.reduceLT, Env.up, Nat.zero_ne_one, Nat.one_ne_zero, Nat.reduceAdd, List.cons_append, List.nil_append]; rotate_left 1)
  | (apply w_alst; iterate 2 exact rfl)
  | (apply w_alone; iterate 3 exact rfl)
  | (apply w_sti; exact rfl; exact rfl; rotate_left 1; exact rfl; rotate_left 2)
  | (apply w_stst; iterate 5 exact rfl)
  | (apply w_stbv; iterate 6 exact rfl)
  | (apply w_stbo; exact rfl; exact rfl; exact rfl; exact rfl; exact rfl; exact True.intro)
  | ((apply AOps.splitB; exact rfl; exact rfl) <;> intro h)
  | apply AllOf.nil
  | (apply AllOf.cons; exact rfl)
  | (apply AAny.take; exact rfl; exact rfl; kernel_rfl; kernel_rfl)
  | (apply AAny.all; exact rfl)
  | (apply AAny.done; exact rfl)
  | (apply inI_of <;> omega)
  | omega
  | (simp <;> omega))
        have hs' : nzI L (n + 1) = nzI L n ++ [(n : Int).toNat] := hs
        exact ⟨n + 1, hn, by omega, by rw [hs']; exact ⟨lee rfl (by (repeat (first | exact le_nil | refine le_eq rfl rfl ?_ | refine le_eq rfl (congrArg AV.i (by omega)) ?_))), by (repeat (first | exact lo_nil | refine lo_dead ?_ | refine lo_eq rfl ?_)), rfl, by first | exact rfl | exact lim9 _⟩⟩
      · rw [if_neg h0] at hs
        repeat' (first
  | (apply AOps.nil; try simp only [List.nil_append, List.cons_append, List.set_cons_zero, List.set_cons_succ, List.length_cons, List.length_nil, Nat.reduceAdd, AV.sh, AV.sh1, AV.sh0, AO.sh, List.map_cons, List.map_nil, Nat.zero_add, Nat.add_zero, setAll])
  | ((apply AOps.splitP; exact rfl; exact rfl) <;> intro h)
  | ((apply AOps.splitN; exact rfl; exact rfl) <;> intro h)
  | (apply w_move; exact rfl; exact rfl)
  | (apply w_assign; exact rfl; exact rfl)
  | apply AWp.seq
  | apply AWp.region
  | ((apply AWp.condP; exact rfl) <;> intro h)
  | ((apply AWp.condN; exact rfl) <;> intro h)
  | (apply AWp.condT; exact rfl)
  | (apply AWp.condF; exact rfl)
  | ((apply AWp.condB; exact rfl) <;> intro h)
  | apply AWp.block
  | apply AWp.ret
  | apply AWp.exit
  | apply AWp.skip
  | (apply if_pos'; exact rfl)
  | (apply if_neg'; decide)
  | (apply w_skip; exact rfl)
  | (apply w_pickT; exact rfl; exact rfl; exact rfl)
  | (apply w_pickF; exact rfl; exact rfl; exact rfl)
  | (apply w_len; exact rfl; exact rfl; first | exact .ints _ | exact .intss _ | exact .sli rfl | exact .sls rfl | exact .slr rfl | exact .orow rfl | exact .nil)
  | ((first | apply w_bsx1 | apply w_lss | apply w_leq | apply w_gtr | apply w_geq | apply w_eql | apply w_neq | apply w_add | apply w_sub | apply w_mul | apply w_idx | apply w_ld | apply w_fld | apply w_fa | apply w_extv | apply w_min | apply w_max | apply w_slhi | apply w_sllo | apply w_bs2); iterate 3 exact rfl)
  | (apply w_appx; exact rfl; exact rfl; exact rfl; exact rfl; exact rfl; rotate_left 1; simp only [Env.mp, List.map_cons, List.map_nil, List.set_cons_zero, List.set_cons_succ, AV.kill, AV.kill1, AO.kill, AV.rin, AV.rin1, AV.noRow, AV.noRow1, AO.via, reduceIte, Nat.reduceEqDiff, Nat.reduceLT, Env.up, Nat.zero_ne_one, Nat.one_ne_zero, Nat.reduceAdd, List.cons_append, List.nil_append]; rotate_left 1)
  | (apply w_cutx; exact rfl; exact rfl; exact rfl; rotate_left 2; simp only [Env.mp, List.map_cons, List.map_nil, List.set_cons_zero, List.set_cons_succ, AV.kill, AV.kill1, AO.kill, AV.rin, AV.rin1, AV.noRow, AV.noRow1, AO.via, reduceIte, Nat.reduceEqDiff, Nat.reduceLT, Env.up, Nat.zero_ne_one, Nat.one_ne_zero, Nat.reduceAdd, List.cons_append, List.nil_append]; rotate_left 1)
  | omega
  | ((first | apply w_eqlb | apply w_neqb | apply w_idxs | apply w_lds | apply w_ext); iterate 3 exact rfl)
  | (apply w_rem; exact rfl; exact rfl; exact rfl; (focus (omega; done)); (focus (omega; done)))
  | (apply w_quo; exact rfl; exact rfl; exact rfl; (focus (omega; done)); (focus (omega; done)))
  | (apply w_remT; exact rfl; exact rfl; exact rfl)
  | (apply w_quoT; exact rfl; exact rfl; exact rfl)
  | ((first | apply w_not | apply w_neg | apply w_conv | apply w_build0 | apply w_bs1 | apply w_boxa); iterate 2 exact rfl)
  | (apply w_idxo; exact rfl; exact rfl; (first | exact .sli rfl | exact .sls rfl | exact .slr rfl); exact rfl)
  | ((first | apply w_idxr | apply w_ldr); iterate 4 exact rfl)
  | (apply w_ldo; iterate 4 exact rfl)
  | (apply w_ldls; iterate 4 exact rfl)
  | (apply w_ldrp; iterate 4 exact rfl)
  | (apply w_ldb; iterate 5 exact rfl)
  | (apply w_ldst; iterate 5 exact rfl)
  | ((first | apply w_sllh | apply w_stbi); iterate 4 exact rfl)
  | ((first | apply w_oslo | apply w_oshi | apply w_stbii); iterate 4 exact rfl)
  | (apply w_build1; exact rfl; exact rfl; (first | exact one_val rfl rfl | exact one_ints | exact one_intss | exact one_own rfl True.intro))
  | (apply w_build2; exact rfl; exact rfl; exact rfl; (first | exact one_val rfl rfl | exact one_ints | exact one_intss | exact one_own rfl True.intro); (first | exact one_val rfl rfl | exact one_ints | exact one_intss | exact one_own rfl True.intro))
  | (apply w_bs0; iterate 1 exact rfl)
  | (apply w_appn; exact rfl; exact rfl; (first | exact .ints _ | exact .sli rfl | exact .orow rfl | exact .nil | exact .osub rfl (by simp; omega)); exact rfl)
  | (apply w_app; exact rfl; exact rfl; exact rfl; exact rfl; (first | exact .ints _ | exact .sli rfl | exact .orow rfl | exact .nil | exact .osub rfl (by simp; omega)); rotate_left 1; simp only [Env.mp, List.map_cons, List.map_nil, List.set_cons_zero, List.set_cons_succ, AV.kill, AV.kill1, AO.kill, AV.noRow, AV.noRow1, AO.via, reduceIte, Nat.reduceEqDiff, Nat.reduceLT, Env.up, Nat.zero_ne_one, Nat.one_ne_zero, Nat.reduceAdd, List.cons_append, List.nil_append]; rotate_left 1)
  | (apply w_alst; iterate 2 exact rfl)
  | (apply w_alone; iterate 3 exact rfl)
  | (apply w_sti; exact rfl; exact rfl; rotate_left 1; exact rfl; rotate_left 2)
  | (apply w_stst; iterate 5 exact rfl)
  | (apply w_stbv; iterate 6 exact rfl)
  | (apply w_stbo; exact rfl; exact rfl; exact rfl; exact rfl; exact rfl; exact True.intro)
  | ((apply AOps.splitB; exact rfl; exact rfl) <;> intro h)
  | apply AllOf.nil
  | (apply AllOf.cons; exact rfl)
  | (apply AAny.take; exact rfl; exact rfl; kernel_rfl; kernel_rfl)
  | (apply AAny.all; exact rfl)
  | (apply AAny.done; exact rfl)
  | (apply inI_of <;> omega)
  | omega
  | (simp <;> omega))
        exact ⟨n + 1, hn, by omega, by rw [hs]; exact ⟨lee rfl (by (repeat (first | exact le_nil | refine le_eq rfl rfl ?_ | refine le_eq rfl (congrArg AV.i (by omega)) ?_))), by (repeat (first | exact lo_nil | refine lo_dead ?_ | refine lo_eq rfl ?_)), rfl, by first | exact rfl | exact lim9 _⟩⟩
    · have e : n = L.length := by omega
      subst e
      refine AWp.merge (p := 2) (k := 1) rfl rfl (nzI_nodup L _) ?_
      simp only [Env.mp, List.map_cons, List.map_nil, List.set_cons_zero, List.set_cons_succ, AV.kill, AV.kill1, AO.kill, AV.noRow, AV.noRow1, AO.via, reduceIte, Nat.reduceEqDiff, Nat.reduceLT, Env.up, Nat.zero_ne_one, Nat.one_ne_zero, Nat.reduceAdd, List.cons_append, List.nil_append]
      rw [nzI_rows L _ (Nat.le_refl _)]
      repeat' (first
  | (apply AOps.nil; try simp only [List.nil_append, List.cons_append, List.set_cons_zero, List.set_cons_succ, List.length_cons, List.length_nil, Nat.reduceAdd, AV.sh, AV.sh1, AV.sh0, AO.sh, List.map_cons, List.map_nil, Nat.zero_add, Nat.add_zero, setAll])
  | ((apply AOps.splitP; exact rfl; exact rfl) <;> intro h)
  | ((apply AOps.splitN; exact rfl; exact rfl) <;> intro h)
  | (apply w_move; exact rfl; exact rfl)
  | (apply w_assign; exact rfl; exact rfl)
  | apply AWp.seq
  | apply AWp.region
  | ((apply AWp.condP; exact rfl) <;> intro h)
  | ((apply AWp.condN; exact rfl) <;> intro h)
  | (apply AWp.condT; exact rfl)
  | (apply AWp.condF; exact rfl)
  | ((apply AWp.condB; exact rfl) <;> intro h)
  | apply AWp.block
  | apply AWp.ret
  | apply AWp.exit
  | apply AWp.skip
  | (apply if_pos'; exact rfl)
  | (apply if_neg'; decide)
  | (apply w_skip; exact rfl)
  | (apply w_pickT; exact rfl; exact rfl; exact rfl)
  | (apply w_pickF; exact rfl; exact rfl; exact rfl)
  | (apply w_len; exact rfl; exact rfl; first | exact .ints _ | exact .intss _ | exact .sli rfl | exact .sls rfl | exact .slr rfl | exact .orow rfl | exact .nil)
  | omega
  | ((first | apply w_lss | apply w_leq | apply w_gtr | apply w_geq | apply w_eql | apply w_neq | apply w_add | apply w_sub | apply w_mul | apply w_idx | apply w_ld | apply w_fld | apply w_fa | apply w_extv | apply w_min | apply w_max | apply w_slhi | apply w_sllo | apply w_bs2); iterate 3 exact rfl)
  | ((first | apply w_eqlb | apply w_neqb | apply w_idxs | apply w_lds | apply w_ext); iterate 3 exact rfl)
  | (apply w_rem; exact rfl; exact rfl; exact rfl; (focus (omega; done)); (focus (omega; done)))
  | (apply w_quo; exact rfl; exact rfl; exact rfl; (focus (omega; done)); (focus (omega; done)))
  | (apply w_remT; exact rfl; exact rfl; exact rfl)
  | (apply w_quoT; exact rfl; exact rfl; exact rfl)
  | ((first | apply w_not | apply w_neg | apply w_conv | apply w_build0 | apply w_bs1 | apply w_boxa); iterate 2 exact rfl)
  | (apply w_idxo; exact rfl; exact rfl; (first | exact .sli rfl | exact .sls rfl | exact .slr rfl); exact rfl)
  | ((first | apply w_idxr | apply w_ldr); iterate 4 exact rfl)
  | (apply w_ldo; iterate 4 exact rfl)
  | (apply w_ldls; iterate 4 exact rfl)
  | (apply w_ldrp; iterate 4 exact rfl)
  | (apply w_ldb; iterate 5 exact rfl)
  | (apply w_ldst; iterate 5 exact rfl)
  | ((first | apply w_sllh | apply w_stbi); iterate 4 exact rfl)
  | ((first | apply w_oslo | apply w_oshi | apply w_stbii); iterate 4 exact rfl)
  | (apply w_build1; exact rfl; exact rfl; (first | exact one_val rfl rfl | exact one_ints | exact one_intss | exact one_own rfl True.intro))
  | (apply w_build2; exact rfl; exact rfl; exact rfl; (first | exact one_val rfl rfl | exact one_ints | exact one_intss | exact one_own rfl True.intro); (first | exact one_val rfl rfl | exact one_ints | exact one_intss | exact one_own rfl True.intro))
  | (apply w_bs0; iterate 1 exact rfl)
  | (apply w_appn; exact rfl; exact rfl; (first | exact .ints _ | exact .sli rfl | exact .orow rfl | exact .nil | exact .osub rfl (by simp; omega)); exact rfl)
  | (apply w_app; exact rfl; exact rfl; exact rfl; exact rfl; (first | exact .ints _ | exact .sli rfl | exact .orow rfl | exact .nil | exact .osub rfl (by simp; omega)); rotate_left 1; simp only [Env.mp, List.map_cons, List.map_nil, List.set_cons_zero, List.set_cons_succ, AV.kill, AV.kill1, AO.kill, AV.noRow, AV.noRow1, AO.via, reduceIte, Nat.reduceEqDiff, Nat.reduceLT, Env.up, Nat.zero_ne_one, Nat.one_ne_zero, Nat.reduceAdd, List.cons_append, List.nil_append]; rotate_left 1)
  | (apply w_alst; iterate 2 exact rfl)
  | (apply w_alone; iterate 3 exact rfl)
  | (apply w_sti; exact rfl; exact rfl; rotate_left 1; exact rfl; rotate_left 2)
  | (apply w_stst; iterate 5 exact rfl)
  | (apply w_stbv; iterate 6 exact rfl)
  | (apply w_stbo; exact rfl; exact rfl; exact rfl; exact rfl; exact rfl; exact True.intro)
  | ((apply AOps.splitB; exact rfl; exact rfl) <;> intro h)
  | apply AllOf.nil
  | (apply AllOf.cons; exact rfl)
  | (apply AAny.take; exact rfl; exact rfl; kernel_rfl; kernel_rfl)
  | (apply AAny.all; exact rfl)
  | (apply AAny.done; exact rfl)
  | (apply inI_of <;> omega)
  | omega
  | (simp <;> omega))
      exact ⟨_, _, _, .v1 Try.results26 rfl, .sls rfl, rfl, rfl⟩
end Go.Proofs.Ytpllbdjobmgikaa
/-
  Zeta lists: whether a list is one. No condition.
-/
namespace Go.Proofs.Ytpllbdjobmgikaa
open Go Go.RowKit
attribute [local irreducible] AWp AOps ResIs Ret1 QOp LOp COp AFnV AFn Imms LeE LeO
set_option maxHeartbeats 1000000
set_option linter.unusedSimpArgs false
set_option linter.unusedVariables false

/-- The i-th row of a zeta list. -/
def ZR (xss : List (List Int)) (i : Nat) : Prop :=
  (gets xss i).length = 2 ∧ (1 ≤ geti (gets xss i) 0 ∧ geti (gets xss i) 0 ≤ 1000000) ∧ (-1000 ≤ geti (gets xss i) 1 ∧ geti (gets xss i) 1 ≤ 1000) ∧ geti (gets xss i) 1 ≠ 0 ∧
    (0 < i → geti (gets xss ((i : Int) - 1)) 0 < geti (gets xss i) 0)
def IsZ (xss : List (List Int)) : Prop := xss.length ≤ 40 ∧ ∀ j, j < xss.length → ZR xss j
noncomputable instance (xss : List (List Int)) : Decidable (IsZ xss) := Classical.propDecidable _
noncomputable def isZ (xss : List (List Int)) : Bool := decide (IsZ xss)

theorem isZ_false {xss : List (List Int)} {i : Nat} (hi : i < xss.length) (h : ¬ ZR xss i) : false = isZ xss := (decide_eq_false fun hz => h (hz.2 i hi)).symm
theorem isZ_long {xss : List (List Int)} (h : ¬ xss.length ≤ 40) : false = isZ xss := (decide_eq_false fun hz => h hz.1).symm
theorem isZ_all {xss : List (List Int)} (h : ∀ j, j < xss.length → ZR xss j) : isZ xss = decide (xss.length ≤ 40) := by
  unfold isZ
  by_cases h2 : xss.length ≤ 40
  · rw [decide_eq_true ⟨h2, h⟩, decide_eq_true h2]
  · rw [decide_eq_false (fun hz => h2 hz.1), decide_eq_false h2]

theorem l14Is_c (xss : List (List Int)) : AFnV Try.prog 22 [.intss xss] (.bool (isZ xss)) := by
  (refine AFnV.start Try.func22 Try.ntmps22 rfl (by kernel_rfl) fun hk0 => ?_; simp only [Env.start, enumF, List.length_cons, List.length_nil, Nat.reduceAdd, Nat.reduceSub, List.cons_append, List.nil_append])
  obtain ⟨hk, hl⟩ : ArgOk (.intss xss) := hk0 _ (by simp)
  repeat' (first
  | (apply AOps.nil; try simp only [List.nil_append, List.cons_append, List.set_cons_zero, List.set_cons_succ, List.length_cons, List.length_nil, Nat.reduceAdd, AV.sh, AV.sh1, AV.sh0, AO.sh, List.map_cons, List.map_nil, Nat.zero_add, Nat.add_zero, setAll])
  | ((apply AOps.splitP; exact rfl; exact rfl) <;> intro h)
  | ((apply AOps.splitN; exact rfl; exact rfl) <;> intro h)
  | (apply w_move; exact rfl; exact rfl)
  | (apply w_assign; exact rfl; exact rfl)
  | apply AWp.seq
  | apply AWp.region
  | ((apply AWp.condP; exact rfl) <;> intro h)
  | ((apply AWp.condN; exact rfl) <;> intro h)
  | (apply AWp.condT; exact rfl)
  | (apply AWp.condF; exact rfl)
  | ((apply AWp.condB; exact rfl) <;> intro h)
  | apply AWp.block
  | apply AWp.ret
  | apply AWp.exit
  | apply AWp.skip
  | (apply AWp.regionQ; kernel_rfl; kernel_rfl)
  | (apply if_pos'; exact rfl)
  | (apply if_neg'; decide)
  | (apply w_skip; exact rfl)
  | (apply w_pickT; exact rfl; exact rfl; exact rfl)
  | (apply w_pickF; exact rfl; exact rfl; exact rfl)
  | (apply w_len; exact rfl; exact rfl; first | exact .ints _ | exact .intss _ | exact .sli rfl | exact .sls rfl | exact .slr rfl | exact .orow rfl | exact .nil)
  | ((first | apply w_lss | apply w_leq | apply w_gtr | apply w_geq | apply w_eql | apply w_neq | apply w_add | apply w_sub | apply w_mul | apply w_idx | apply w_ld | apply w_fld | apply w_fa | apply w_extv | apply w_min | apply w_max | apply w_slhi | apply w_sllo | apply w_bs2); iterate 3 exact rfl)
  | ((first | apply w_eqlb | apply w_neqb | apply w_idxs | apply w_lds | apply w_ext); iterate 3 exact rfl)
  | (apply w_rem; exact rfl; exact rfl; exact rfl; (focus (omega; done)); (focus (omega; done)))
  | (apply w_quo; exact rfl; exact rfl; exact rfl; (focus (omega; done)); (focus (omega; done)))
  | (apply w_remT; exact rfl; exact rfl; exact rfl)
  | (apply w_quoT; exact rfl; exact rfl; exact rfl)
  | ((first | apply w_not | apply w_neg | apply w_conv | apply w_build0 | apply w_bs1 | apply w_boxa); iterate 2 exact rfl)
  | (apply w_idxo; exact rfl; exact rfl; (first | exact .sli rfl | exact .sls rfl | exact .slr rfl); exact rfl)
  | ((first | apply w_idxr | apply w_ldr); iterate 4 exact rfl)
  | (apply w_ldo; iterate 4 exact rfl)
  | (apply w_ldls; iterate 4 exact rfl)
  | (apply w_ldrp; iterate 4 exact rfl)
  | (apply w_ldb; iterate 5 exact rfl)
  | (apply w_ldst; iterate 5 exact rfl)
  | ((first | apply w_sllh | apply w_stbi); iterate 4 exact rfl)
  | ((first | apply w_oslo | apply w_oshi | apply w_stbii); iterate 4 exact rfl)
  | (apply w_copy; exact rfl; (first | exact .own rfl rfl rfl | exact .osub); exact rfl; rotate_left 1; exact rfl; (first | exact .ints _ | exact .sli rfl | exact .orow rfl | exact .nil | exact .osub rfl (by simp; omega)))
  | (apply w_build1; exact rfl; exact rfl; (first | exact one_val rfl rfl | exact one_ints | exact one_intss | exact one_own rfl True.intro))
  | (apply w_build2; exact rfl; exact rfl; exact rfl; (first | exact one_val rfl rfl | exact one_ints | exact one_intss | exact one_own rfl True.intro); (first | exact one_val rfl rfl | exact one_ints | exact one_intss | exact one_own rfl True.intro))
  | (apply w_bs0; iterate 1 exact rfl)
  | (apply w_appn; exact rfl; exact rfl; (first | exact .ints _ | exact .sli rfl | exact .orow rfl | exact .nil | exact .osub rfl (by simp; omega)); exact rfl)
  | (apply w_app; exact rfl; exact rfl; exact rfl; exact rfl; (first | exact .ints _ | exact .sli rfl | exact .orow rfl | exact .nil | exact .osub rfl (by simp; omega)); rotate_left 1; simp only [Env.mp, List.map_cons, List.map_nil, List.set_cons_zero, List.set_cons_succ, AV.kill, AV.kill1, AO.kill, AV.noRow, AV.noRow1, AO.via, reduceIte, Nat.reduceEqDiff, Nat.reduceLT, Env.up, Nat.zero_ne_one, Nat.one_ne_zero, Nat.reduceAdd, List.cons_append, List.nil_append]; rotate_left 1)
  | (apply w_alst; iterate 2 exact rfl)
  | (apply w_alone; iterate 3 exact rfl)
  | (apply w_mki; exact rfl; exact rfl; rotate_left 3; exact rfl; rotate_left 1)
  | (apply w_mkr; exact rfl; exact rfl; rotate_left 3; exact rfl; rotate_left 1)
  | (apply w_strow; exact rfl; exact rfl; rotate_left 1; exact rfl; exact rfl; exact rfl; exact rfl; simp only [Env.mp, List.map_cons, List.map_nil, List.set_cons_zero, List.set_cons_succ, AV.kill, AV.kill1, AO.kill, AV.noRow, AV.noRow1, AO.via, reduceIte, Nat.reduceEqDiff, Nat.reduceLT, Env.up, Nat.zero_ne_one, Nat.one_ne_zero, Nat.reduceAdd, List.cons_append, List.nil_append]; rotate_left 1)
  | (apply w_sti; exact rfl; exact rfl; rotate_left 1; exact rfl; rotate_left 2)
  | (apply w_stst; iterate 5 exact rfl)
  | (apply w_stbv; iterate 6 exact rfl)
  | (apply w_stbo; exact rfl; exact rfl; exact rfl; exact rfl; exact rfl; exact True.intro)
  | ((apply AOps.splitB; exact rfl; exact rfl) <;> intro h)
  | apply AllOf.nil
  | (apply AllOf.cons; exact rfl)
  | (apply AAny.take; exact rfl; exact rfl; kernel_rfl; kernel_rfl)
  | (apply AAny.all; exact rfl)
  | (apply AAny.done; exact rfl)
  | (apply inI_of <;> omega)
  | omega
  | (simp <;> omega))
  refine AWp.loop (ι := Nat) (fun i => ⟨68, [(0, .intss xss), (3, .i i)]⟩) (fun _ => []) (fun i => i ≤ xss.length ∧ ∀ j, j < i → ZR xss j) (fun i => xss.length - i) 0 ⟨by omega, fun j hj => by omega⟩ ⟨lee rfl (by (repeat (first | exact le_nil | refine le_eq rfl rfl ?_ | refine le_eq rfl (congrArg AV.i (by omega)) ?_))), by (repeat (first | exact lo_nil | refine lo_dead ?_ | refine lo_eq rfl ?_)), rfl, rfl⟩ ?_
  rintro i ⟨h0, h1⟩
  have hprev : 0 < i → (gets xss ((i : Int) - 1)).length = 2 := by
    intro h
    have := (h1 (i - 1) (by omega)).1
    rwa [show ((i : Int) - 1) = ((i - 1 : Nat) : Int) by omega]
  have hz : (i : Int) = 0 ∨ 0 < i := by omega
  by_cases hi0 : 0 < i
  · have hprev' := hprev hi0
    repeat' (first
  | (apply AOps.nil; try simp only [List.nil_append, List.cons_append, List.set_cons_zero, List.set_cons_succ, List.length_cons, List.length_nil, Nat.reduceAdd, AV.sh, AV.sh1, AV.sh0, AO.sh, List.map_cons, List.map_nil, Nat.zero_add, Nat.add_zero, setAll])
  | ((apply AOps.splitP; exact rfl; exact rfl) <;> intro h)
  | ((apply AOps.splitN; exact rfl; exact rfl) <;> intro h)
  | (apply w_move; exact rfl; exact rfl)
  | (apply w_assign; exact rfl; exact rfl)
  | apply AWp.seq
  | apply AWp.region
  | ((apply AWp.condP; exact rfl) <;> intro h)
  | ((apply AWp.condN; exact rfl) <;> intro h)
  | (apply AWp.condT; exact rfl)
  | (apply AWp.condF; exact rfl)
  | ((apply AWp.condB; exact rfl) <;> intro h)
  | apply AWp.block
  | apply AWp.ret
  | apply AWp.exit
  | apply AWp.skip
  | (apply AWp.regionQ; kernel_rfl; kernel_rfl)
  | (apply if_pos'; exact rfl)
  | (apply if_neg'; decide)
  | (apply w_skip; exact rfl)
  | (apply w_pickT; exact rfl; exact rfl; exact rfl)
  | (apply w_pickF; exact rfl; exact rfl; exact rfl)
  | (apply w_len; exact rfl; exact rfl; first | exact .ints _ | exact .intss _ | exact .sli rfl | exact .sls rfl | exact .slr rfl | exact .orow rfl | exact .nil)
  | (apply w_call (l01In_c _ _ _); exact rfl; exact rfl; focus ((repeat (first | exact im_nil | refine im_cons rfl (.val _) ?_ | refine im_cons rfl (.ints _) ?_ | refine im_cons rfl (.intss _) ?_ | refine im_cons rfl (.sli rfl) ?_ | refine im_cons rfl (.sls rfl) ?_ | refine im_cons rfl (.orow rfl) ?_ | refine im_cons rfl (.osub rfl (by simp; omega)) ?_ | refine im_cons rfl (.nil) ?_ | refine im_cons rfl (.nils) ?_ | refine im_cons rfl (im_agg2 (.val _) (.ints _)) ?_ | refine im_cons rfl (im_agg2 (.val _) (.sli rfl)) ?_ | refine im_cons rfl (im_agg2 (.val _) (.nil)) ?_ | refine im_cons rfl (im_agg2 (.ints _) (.intss _)) ?_ | refine im_cons rfl (im_agg2 (.ints _) (.sls rfl)) ?_ | refine im_cons rfl (im_agg2 (.sli rfl) (.intss _)) ?_ | refine im_cons rfl (im_agg2 (.sli rfl) (.sls rfl)) ?_ | refine im_cons rfl (im_agg1 (.ints _)) ?_ | refine im_cons rfl (im_agg1 (.sli rfl)) ?_ | refine im_cons rfl (im_agg1 (.intss _)) ?_ | refine im_cons rfl (im_agg1 (.sls rfl)) ?_ | refine im_cons rfl (im_agg1 (.nil)) ?_ | refine im_cons rfl (im_agg1 (.nils)) ?_)); done))
  | ((first | apply w_lss | apply w_leq | apply w_gtr | apply w_geq | apply w_eql | apply w_neq | apply w_add | apply w_sub | apply w_mul | apply w_idx | apply w_ld | apply w_fld | apply w_fa | apply w_extv | apply w_min | apply w_max | apply w_slhi | apply w_sllo | apply w_bs2); iterate 3 exact rfl)
  | ((first | apply w_eqlb | apply w_neqb | apply w_idxs | apply w_lds | apply w_ext); iterate 3 exact rfl)
  | (apply w_rem; exact rfl; exact rfl; exact rfl; (focus (omega; done)); (focus (omega; done)))
  | (apply w_quo; exact rfl; exact rfl; exact rfl; (focus (omega; done)); (focus (omega; done)))
  | (apply w_remT; exact rfl; exact rfl; exact rfl)
  | (apply w_quoT; exact rfl; exact rfl; exact rfl)
  | ((first | apply w_not | apply w_neg | apply w_conv | apply w_build0 | apply w_bs1 | apply w_boxa); iterate 2 exact rfl)
  | (apply w_idxo; exact rfl; exact rfl; (first | exact .sli rfl | exact .sls rfl | exact .slr rfl); exact rfl)
  | ((first | apply w_idxr | apply w_ldr); iterate 4 exact rfl)
  | (apply w_ldo; iterate 4 exact rfl)
  | (apply w_ldls; iterate 4 exact rfl)
  | (apply w_ldrp; iterate 4 exact rfl)
  | (apply w_ldb; iterate 5 exact rfl)
  | (apply w_ldst; iterate 5 exact rfl)
  | ((first | apply w_sllh | apply w_stbi); iterate 4 exact rfl)
  | ((first | apply w_oslo | apply w_oshi | apply w_stbii); iterate 4 exact rfl)
  | (apply w_copy; exact rfl; (first | exact .own rfl rfl rfl | exact .osub); exact rfl; rotate_left 1; exact rfl; (first | exact .ints _ | exact .sli rfl | exact .orow rfl | exact .nil | exact .osub rfl (by simp; omega)))
  | (apply w_build1; exact rfl; exact rfl; (first | exact one_val rfl rfl | exact one_ints | exact one_intss | exact one_own rfl True.intro))
  | (apply w_build2; exact rfl; exact rfl; exact rfl; (first | exact one_val rfl rfl | exact one_ints | exact one_intss | exact one_own rfl True.intro); (first | exact one_val rfl rfl | exact one_ints | exact one_intss | exact one_own rfl True.intro))
  | (apply w_bs0; iterate 1 exact rfl)
  | (apply w_appn; exact rfl; exact rfl; (first | exact .ints _ | exact .sli rfl | exact .orow rfl | exact .nil | exact .osub rfl (by simp; omega)); exact rfl)
  | (apply w_app; exact rfl; exact rfl; exact rfl; exact rfl; (first | exact .ints _ | exact .sli rfl | exact .orow rfl | exact .nil | exact .osub rfl (by simp; omega)); rotate_left 1; simp only [Env.mp, List.map_cons, List.map_nil, List.set_cons_zero, List.set_cons_succ, AV.kill, AV.kill1, AO.kill, AV.noRow, AV.noRow1, AO.via, reduceIte, Nat.reduceEqDiff, Nat.reduceLT, Env.up, Nat.zero_ne_one, Nat.one_ne_zero, Nat.reduceAdd, List.cons_append, List.nil_append]; rotate_left 1)
  | (apply w_alst; iterate 2 exact rfl)
  | (apply w_alone; iterate 3 exact rfl)
  | (apply w_mki; exact rfl; exact rfl; rotate_left 3; exact rfl; rotate_left 1)
  | (apply w_mkr; exact rfl; exact rfl; rotate_left 3; exact rfl; rotate_left 1)
  | (apply w_strow; exact rfl; exact rfl; rotate_left 1; exact rfl; exact rfl; exact rfl; exact rfl; simp only [Env.mp, List.map_cons, List.map_nil, List.set_cons_zero, List.set_cons_succ, AV.kill, AV.kill1, AO.kill, AV.noRow, AV.noRow1, AO.via, reduceIte, Nat.reduceEqDiff, Nat.reduceLT, Env.up, Nat.zero_ne_one, Nat.one_ne_zero, Nat.reduceAdd, List.cons_append, List.nil_append]; rotate_left 1)
  | (apply w_sti; exact rfl; exact rfl; rotate_left 1; exact rfl; rotate_left 2)
  | (apply w_stst; iterate 5 exact rfl)
  | (apply w_stbv; iterate 6 exact rfl)
  | (apply w_stbo; exact rfl; exact rfl; exact rfl; exact rfl; exact rfl; exact True.intro)
  | ((apply AOps.splitB; exact rfl; exact rfl) <;> intro h)
  | apply AllOf.nil
  | (apply AllOf.cons; exact rfl)
  | (apply AAny.take; exact rfl; exact rfl; kernel_rfl; kernel_rfl)
  | (apply AAny.all; exact rfl)
  | (apply AAny.done; exact rfl)
  | (apply inI_of <;> omega)
  | omega
  | (simp <;> omega))
    all_goals first
      | exact .bool Try.results22 rfl (isZ_false (i := i) (by omega) (fun hz => by unfold ZR at hz; omega))
      | (refine ⟨i + 1, ⟨by omega, fun j hj => ?_⟩, by omega, ⟨lee rfl (by (repeat (first | exact le_nil | refine le_eq rfl rfl ?_ | refine le_eq rfl (congrArg AV.i (by omega)) ?_))), by (repeat (first | exact lo_nil | refine lo_dead ?_ | refine lo_eq rfl ?_)), rfl, rfl⟩⟩
         by_cases e : j = i
         · subst e
           unfold ZR
           omega
         · exact h1 j (by omega))
      | (have e : i = xss.length := by omega
         subst e
         exact .bool Try.results22 rfl (by rw [isZ_all h1]; simp; try omega))
  · obtain rfl : i = 0 := by omega
    simp only [Int.natCast_zero] at *
    repeat' (first
  | (apply AOps.nil; try simp only [List.nil_append, List.cons_append, List.set_cons_zero, List.set_cons_succ, List.length_cons, List.length_nil, Nat.reduceAdd, AV.sh, AV.sh1, AV.sh0, AO.sh, List.map_cons, List.map_nil, Nat.zero_add, Nat.add_zero, setAll])
  | ((apply AOps.splitP; exact rfl; exact rfl) <;> intro h)
  | ((apply AOps.splitN; exact rfl; exact rfl) <;> intro h)
  | (apply w_move; exact rfl; exact rfl)
  | (apply w_assign; exact rfl; exact rfl)
  | apply AWp.seq
  | apply AWp.region
  | ((apply AWp.condP; exact rfl) <;> intro h)
  | ((apply AWp.condN; exact rfl) <;> intro h)
  | (apply AWp.condT; exact rfl)
  | (apply AWp.condF; exact rfl)
  | ((apply AWp.condB; exact rfl) <;> intro h)
  | apply AWp.block
  | apply AWp.ret
  | apply AWp.exit
  | apply AWp.skip
  | (apply AWp.regionQ; kernel_rfl; kernel_rfl)
  | (apply if_pos'; exact rfl)
  | (apply if_neg'; decide)
  | (apply w_skip; exact rfl)
  | (apply w_pickT; exact rfl; exact rfl; exact rfl)
  | (apply w_pickF; exact rfl; exact rfl; exact rfl)
  | (apply w_len; exact rfl; exact rfl; first | exact .ints _ | exact .intss _ | exact .sli rfl | exact .sls rfl | exact .slr rfl | exact .orow rfl | exact .nil)
  | (apply w_call (l01In_c _ _ _); exact rfl; exact rfl; focus ((repeat (first | exact im_nil | refine im_cons rfl (.val _) ?_ | refine im_cons rfl (.ints _) ?_ | refine im_cons rfl (.intss _) ?_ | refine im_cons rfl (.sli rfl) ?_ | refine im_cons rfl (.sls rfl) ?_ | refine im_cons rfl (.orow rfl) ?_ | refine im_cons rfl (.osub rfl (by simp; omega)) ?_ | refine im_cons rfl (.nil) ?_ | refine im_cons rfl (.nils) ?_ | refine im_cons rfl (im_agg2 (.val _) (.ints _)) ?_ | refine im_cons rfl (im_agg2 (.val _) (.sli rfl)) ?_ | refine im_cons rfl (im_agg2 (.val _) (.nil)) ?_ | refine im_cons rfl (im_agg2 (.ints _) (.intss _)) ?_ | refine im_cons rfl (im_agg2 (.ints _) (.sls rfl)) ?_ | refine im_cons rfl (im_agg2 (.sli rfl) (.intss _)) ?_ | refine im_cons rfl (im_agg2 (.sli rfl) (.sls rfl)) ?_ | refine im_cons rfl (im_agg1 (.ints _)) ?_ | refine im_cons rfl (im_agg1 (.sli rfl)) ?_ | refine im_cons rfl (im_agg1 (.intss _)) ?_ | refine im_cons rfl (im_agg1 (.sls rfl)) ?_ | refine im_cons rfl (im_agg1 (.nil)) ?_ | refine im_cons rfl (im_agg1 (.nils)) ?_)); done))
  | ((first | apply w_lss | apply w_leq | apply w_gtr | apply w_geq | apply w_eql | apply w_neq | apply w_add | apply w_sub | apply w_mul | apply w_idx | apply w_ld | apply w_fld | apply w_fa | apply w_extv | apply w_min | apply w_max | apply w_slhi | apply w_sllo | apply w_bs2); iterate 3 exact rfl)
  | ((first | apply w_eqlb | apply w_neqb | apply w_idxs | apply w_lds | apply w_ext); iterate 3 exact rfl)
  | (apply w_rem; exact rfl; exact rfl; exact rfl; (focus (omega; done)); (focus (omega; done)))
  | (apply w_quo; exact rfl; exact rfl; exact rfl; (focus (omega; done)); (focus (omega; done)))
  | (apply w_remT; exact rfl; exact rfl; exact rfl)
  | (apply w_quoT; exact rfl; exact rfl; exact rfl)
  | ((first | apply w_not | apply w_neg | apply w_conv | apply w_build0 | apply w_bs1 | apply w_boxa); iterate 2 exact rfl)
  | (apply w_idxo; exact rfl; exact rfl; (first | exact .sli rfl | exact .sls rfl | exact .slr rfl); exact rfl)
  | ((first | apply w_idxr | apply w_ldr); iterate 4 exact rfl)
  | (apply w_ldo; iterate 4 exact rfl)
  | (apply w_ldls; iterate 4 exact rfl)
  | (apply w_ldrp; iterate 4 exact rfl)
  | (apply w_ldb; iterate 5 exact rfl)
  | (apply w_ldst; iterate 5 exact rfl)
  | ((first | apply w_sllh | apply w_stbi); iterate 4 exact rfl)
  | ((first | apply w_oslo | apply w_oshi | apply w_stbii); iterate 4 exact rfl)
  | (apply w_copy; exact rfl; (first | exact .own rfl rfl rfl | exact .osub); exact rfl; rotate_left 1; exact rfl; (first | exact .ints _ | exact .sli rfl | exact .orow rfl | exact .nil | exact .osub rfl (by simp; omega)))
  | (apply w_build1; exact rfl; exact rfl; (first | exact one_val rfl rfl | exact one_ints | exact one_intss | exact one_own rfl True.intro))
  | (apply w_build2; exact rfl; exact rfl; exact rfl; (first | exact one_val rfl rfl | exact one_ints | exact one_intss | exact one_own rfl True.intro); (first | exact one_val rfl rfl | exact one_ints | exact one_intss | exact one_own rfl True.intro))
  | (apply w_bs0; iterate 1 exact rfl)
  | (apply w_appn; exact rfl; exact rfl; (first | exact .ints _ | exact .sli rfl | exact .orow rfl | exact .nil | exact .osub rfl (by simp; omega)); exact rfl)
  | (apply w_app; exact rfl; exact rfl; exact rfl; exact rfl; (first | exact .ints _ | exact .sli rfl | exact .orow rfl | exact .nil | exact .osub rfl (by simp; omega)); rotate_left 1; simp only [Env.mp, List.map_cons, List.map_nil, List.set_cons_zero, List.set_cons_succ, AV.kill, AV.kill1, AO.kill, AV.noRow, AV.noRow1, AO.via, reduceIte, Nat.reduceEqDiff, Nat.reduceLT, Env.up, Nat.zero_ne_one, Nat.one_ne_zero, Nat.reduceAdd, List.cons_append, List.nil_append]; rotate_left 1)
  | (apply w_alst; iterate 2 exact rfl)
  | (apply w_alone; iterate 3 exact rfl)
  | (apply w_mki; exact rfl; exact rfl; rotate_left 3; exact rfl; rotate_left 1)
  | (apply w_mkr; exact rfl; exact rfl; rotate_left 3; exact rfl; rotate_left 1)
  | (apply w_strow; exact rfl; exact rfl; rotate_left 1; exact rfl; exact rfl; exact rfl; exact rfl; simp only [Env.mp, List.map_cons, List.map_nil, List.set_cons_zero, List.set_cons_succ, AV.kill, AV.kill1, AO.kill, AV.noRow, AV.noRow1, AO.via, reduceIte, Nat.reduceEqDiff, Nat.reduceLT, Env.up, Nat.zero_ne_one, Nat.one_ne_zero, Nat.reduceAdd, List.cons_append, List.nil_append]; rotate_left 1)
  | (apply w_sti; exact rfl; exact rfl; rotate_left 1; exact rfl; rotate_left 2)
  | (apply w_stst; iterate 5 exact rfl)
  | (apply w_stbv; iterate 6 exact rfl)
  | (apply w_stbo; exact rfl; exact rfl; exact rfl; exact rfl; exact rfl; exact True.intro)
  | ((apply AOps.splitB; exact rfl; exact rfl) <;> intro h)
  | apply AllOf.nil
  | (apply AllOf.cons; exact rfl)
  | (apply AAny.take; exact rfl; exact rfl; kernel_rfl; kernel_rfl)
  | (apply AAny.all; exact rfl)
  | (apply AAny.done; exact rfl)
  | (apply inI_of <;> omega)
  | omega
  | (simp <;> omega))
    all_goals first
      | exact .bool Try.results22 rfl (isZ_false (i := 0) (by omega) (fun hz => by unfold ZR at hz; simp only [Int.natCast_zero] at hz; omega))
      | (refine ⟨0 + 1, ⟨by omega, fun j hj => ?_⟩, by omega, ⟨lee rfl (by (repeat (first | exact le_nil | refine le_eq rfl rfl ?_ | refine le_eq rfl (congrArg AV.i (by omega)) ?_))), by (repeat (first | exact lo_nil | refine lo_dead ?_ | refine lo_eq rfl ?_)), rfl, rfl⟩⟩
         obtain rfl : j = 0 := by omega
         unfold ZR
         simp only [Int.natCast_zero]
         omega)
      | (exact .bool Try.results22 rfl (by rw [isZ_all fun j hj => by omega]; simp; try omega))

theorem implIsZetaList_c (xss : List (List Int)) : AFnV Try.prog 25 [.intss xss] (.bool (isZ xss)) := by
  (refine AFnV.start Try.func25 Try.ntmps25 rfl (by kernel_rfl) fun hk0 => ?_; simp only [Env.start, enumF, List.length_cons, List.length_nil, Nat.reduceAdd, Nat.reduceSub, List.cons_append, List.nil_append])
  obtain ⟨hk, hl⟩ : ArgOk (.intss xss) := hk0 _ (by simp)
  repeat' (first
  | (apply AOps.nil; try simp only [List.nil_append, List.cons_append, List.set_cons_zero, List.set_cons_succ, List.length_cons, List.length_nil, Nat.reduceAdd, AV.sh, AV.sh1, AV.sh0, AO.sh, List.map_cons, List.map_nil, Nat.zero_add, Nat.add_zero, setAll])
  | ((apply AOps.splitP; exact rfl; exact rfl) <;> intro h)
  | ((apply AOps.splitN; exact rfl; exact rfl) <;> intro h)
  | (apply w_move; exact rfl; exact rfl)
  | (apply w_assign; exact rfl; exact rfl)
  | apply AWp.seq
  | apply AWp.region
  | ((apply AWp.condP; exact rfl) <;> intro h)
  | ((apply AWp.condN; exact rfl) <;> intro h)
  | (apply AWp.condT; exact rfl)
  | (apply AWp.condF; exact rfl)
  | ((apply AWp.condB; exact rfl) <;> intro h)
  | apply AWp.block
  | apply AWp.ret
  | apply AWp.exit
  | apply AWp.skip
  | (apply AWp.regionQ; kernel_rfl; kernel_rfl)
  | (apply if_pos'; exact rfl)
  | (apply if_neg'; decide)
  | (apply w_skip; exact rfl)
  | (apply w_pickT; exact rfl; exact rfl; exact rfl)
  | (apply w_pickF; exact rfl; exact rfl; exact rfl)
  | (apply w_len; exact rfl; exact rfl; first | exact .ints _ | exact .intss _ | exact .sli rfl | exact .sls rfl | exact .slr rfl | exact .orow rfl | exact .nil)
  | ((first | apply w_lss | apply w_leq | apply w_gtr | apply w_geq | apply w_eql | apply w_neq | apply w_add | apply w_sub | apply w_mul | apply w_idx | apply w_ld | apply w_fld | apply w_fa | apply w_extv | apply w_min | apply w_max | apply w_slhi | apply w_sllo | apply w_bs2); iterate 3 exact rfl)
  | ((first | apply w_eqlb | apply w_neqb | apply w_idxs | apply w_lds | apply w_ext); iterate 3 exact rfl)
  | (apply w_rem; exact rfl; exact rfl; exact rfl; (focus (omega; done)); (focus (omega; done)))
  | (apply w_quo; exact rfl; exact rfl; exact rfl; (focus (omega; done)); (focus (omega; done)))
  | (apply w_remT; exact rfl; exact rfl; exact rfl)
  | (apply w_quoT; exact rfl; exact rfl; exact rfl)
  | ((first | apply w_not | apply w_neg | apply w_conv | apply w_build0 | apply w_bs1 | apply w_boxa); iterate 2 exact rfl)
  | (apply w_idxo; exact rfl; exact rfl; (first | exact .sli rfl | exact .sls rfl | exact .slr rfl); exact rfl)
  | ((first | apply w_idxr | apply w_ldr); iterate 4 exact rfl)
  | (apply w_ldo; iterate 4 exact rfl)
  | (apply w_ldls; iterate 4 exact rfl)
  | (apply w_ldrp; iterate 4 exact rfl)
  | (apply w_ldb; iterate 5 exact rfl)
  | (apply w_ldst; iterate 5 exact rfl)
  | ((first | apply w_sllh | apply w_stbi); iterate 4 exact rfl)
  | ((first | apply w_oslo | apply w_oshi | apply w_stbii); iterate 4 exact rfl)
  | (apply w_copy; exact rfl; (first | exact .own rfl rfl rfl | exact .osub); exact rfl; rotate_left 1; exact rfl; (first | exact .ints _ | exact .sli rfl | exact .orow rfl | exact .nil | exact .osub rfl (by simp; omega)))
  | (apply w_build1; exact rfl; exact rfl; (first | exact one_val rfl rfl | exact one_ints | exact one_intss | exact one_own rfl True.intro))
  | (apply w_build2; exact rfl; exact rfl; exact rfl; (first | exact one_val rfl rfl | exact one_ints | exact one_intss | exact one_own rfl True.intro); (first | exact one_val rfl rfl | exact one_ints | exact one_intss | exact one_own rfl True.intro))
  | (apply w_bs0; iterate 1 exact rfl)
  | (apply w_appn; exact rfl; exact rfl; (first | exact .ints _ | exact .sli rfl | exact .orow rfl | exact .nil | exact .osub rfl (by simp; omega)); exact rfl)
  | (apply w_app; exact rfl; exact rfl; exact rfl; exact rfl; (first | exact .ints _ | exact .sli rfl | exact .orow rfl | exact .nil | exact .osub rfl (by simp; omega)); rotate_left 1; simp only [Env.mp, List.map_cons, List.map_nil, List.set_cons_zero, List.set_cons_succ, AV.kill, AV.kill1, AO.kill, AV.noRow, AV.noRow1, AO.via, reduceIte, Nat.reduceEqDiff, Nat.reduceLT, Env.up, Nat.zero_ne_one, Nat.one_ne_zero, Nat.reduceAdd, List.cons_append, List.nil_append]; rotate_left 1)
  | (apply w_alst; iterate 2 exact rfl)
  | (apply w_alone; iterate 3 exact rfl)
  | (apply w_mki; exact rfl; exact rfl; rotate_left 3; exact rfl; rotate_left 1)
  | (apply w_mkr; exact rfl; exact rfl; rotate_left 3; exact rfl; rotate_left 1)
  | (apply w_strow; exact rfl; exact rfl; rotate_left 1; exact rfl; exact rfl; exact rfl; exact rfl; simp only [Env.mp, List.map_cons, List.map_nil, List.set_cons_zero, List.set_cons_succ, AV.kill, AV.kill1, AO.kill, AV.noRow, AV.noRow1, AO.via, reduceIte, Nat.reduceEqDiff, Nat.reduceLT, Env.up, Nat.zero_ne_one, Nat.one_ne_zero, Nat.reduceAdd, List.cons_append, List.nil_append]; rotate_left 1)
  | (apply w_sti; exact rfl; exact rfl; rotate_left 1; exact rfl; rotate_left 2)
  | (apply w_stst; iterate 5 exact rfl)
  | (apply w_stbv; iterate 6 exact rfl)
  | (apply w_stbo; exact rfl; exact rfl; exact rfl; exact rfl; exact rfl; exact True.intro)
  | ((apply AOps.splitB; exact rfl; exact rfl) <;> intro h)
  | apply AllOf.nil
  | (apply AllOf.cons; exact rfl)
  | (apply AAny.take; exact rfl; exact rfl; kernel_rfl; kernel_rfl)
  | (apply AAny.all; exact rfl)
  | (apply AAny.done; exact rfl)
  | (apply inI_of <;> omega)
  | omega
  | (simp <;> omega))
  · exact .bool Try.results25 rfl (isZ_long (by omega))
  refine AWp.loop (ι := Nat) (fun i => ⟨54, [(0, .intss xss), (8, .intss xss), (9, .i xss.length), (10, .i i)]⟩) (fun _ => []) (fun i => i ≤ xss.length ∧ ∀ j, j < i → ZR xss j) (fun i => xss.length - i) 0 ⟨by omega, fun j hj => by omega⟩ ⟨lee rfl (by (repeat (first | exact le_nil | refine le_eq rfl rfl ?_ | refine le_eq rfl (congrArg AV.i (by omega)) ?_))), by (repeat (first | exact lo_nil | refine lo_dead ?_ | refine lo_eq rfl ?_)), rfl, rfl⟩ ?_
  rintro i ⟨h0, h1⟩
  have hprev : 0 < i → (gets xss ((i : Int) - 1)).length = 2 := by
    intro h
    have := (h1 (i - 1) (by omega)).1
    rwa [show ((i : Int) - 1) = ((i - 1 : Nat) : Int) by omega]
  by_cases hi0 : 0 < i
  · have hprev' := hprev hi0
    repeat' (first
  | (apply AOps.nil; try simp only [List.nil_append, List.cons_append, List.set_cons_zero, List.set_cons_succ, List.length_cons, List.length_nil, Nat.reduceAdd, AV.sh, AV.sh1, AV.sh0, AO.sh, List.map_cons, List.map_nil, Nat.zero_add, Nat.add_zero, setAll])
  | ((apply AOps.splitP; exact rfl; exact rfl) <;> intro h)
  | ((apply AOps.splitN; exact rfl; exact rfl) <;> intro h)
  | (apply w_move; exact rfl; exact rfl)
  | (apply w_assign; exact rfl; exact rfl)
  | apply AWp.seq
  | apply AWp.region
  | ((apply AWp.condP; exact rfl) <;> intro h)
  | ((apply AWp.condN; exact rfl) <;> intro h)
  | (apply AWp.condT; exact rfl)
  | (apply AWp.condF; exact rfl)
  | ((apply AWp.condB; exact rfl) <;> intro h)
  | apply AWp.block
  | apply AWp.ret
  | apply AWp.exit
  | apply AWp.skip
  | (apply AWp.regionQ; kernel_rfl; kernel_rfl)
  | (apply if_pos'; exact rfl)
  | (apply if_neg'; decide)
  | (apply w_skip; exact rfl)
  | (apply w_pickT; exact rfl; exact rfl; exact rfl)
  | (apply w_pickF; exact rfl; exact rfl; exact rfl)
  | (apply w_len; exact rfl; exact rfl; first | exact .ints _ | exact .intss _ | exact .sli rfl | exact .sls rfl | exact .slr rfl | exact .orow rfl | exact .nil)
  | (apply w_call (inRange_c _ _ _); exact rfl; exact rfl; focus ((repeat (first | exact im_nil | refine im_cons rfl (.val _) ?_ | refine im_cons rfl (.ints _) ?_ | refine im_cons rfl (.intss _) ?_ | refine im_cons rfl (.sli rfl) ?_ | refine im_cons rfl (.sls rfl) ?_ | refine im_cons rfl (.orow rfl) ?_ | refine im_cons rfl (.osub rfl (by simp; omega)) ?_ | refine im_cons rfl (.nil) ?_ | refine im_cons rfl (.nils) ?_ | refine im_cons rfl (im_agg2 (.val _) (.ints _)) ?_ | refine im_cons rfl (im_agg2 (.val _) (.sli rfl)) ?_ | refine im_cons rfl (im_agg2 (.val _) (.nil)) ?_ | refine im_cons rfl (im_agg2 (.ints _) (.intss _)) ?_ | refine im_cons rfl (im_agg2 (.ints _) (.sls rfl)) ?_ | refine im_cons rfl (im_agg2 (.sli rfl) (.intss _)) ?_ | refine im_cons rfl (im_agg2 (.sli rfl) (.sls rfl)) ?_ | refine im_cons rfl (im_agg1 (.ints _)) ?_ | refine im_cons rfl (im_agg1 (.sli rfl)) ?_ | refine im_cons rfl (im_agg1 (.intss _)) ?_ | refine im_cons rfl (im_agg1 (.sls rfl)) ?_ | refine im_cons rfl (im_agg1 (.nil)) ?_ | refine im_cons rfl (im_agg1 (.nils)) ?_)); done))
  | ((first | apply w_lss | apply w_leq | apply w_gtr | apply w_geq | apply w_eql | apply w_neq | apply w_add | apply w_sub | apply w_mul | apply w_idx | apply w_ld | apply w_fld | apply w_fa | apply w_extv | apply w_min | apply w_max | apply w_slhi | apply w_sllo | apply w_bs2); iterate 3 exact rfl)
  | ((first | apply w_eqlb | apply w_neqb | apply w_idxs | apply w_lds | apply w_ext); iterate 3 exact rfl)
  | (apply w_rem; exact rfl; exact rfl; exact rfl; (focus (omega; done)); (focus (omega; done)))
  | (apply w_quo; exact rfl; exact rfl; exact rfl; (focus (omega; done)); (focus (omega; done)))
  | (apply w_remT; exact rfl; exact rfl; exact rfl)
  | (apply w_quoT; exact rfl; exact rfl; exact rfl)
  | ((first | apply w_not | apply w_neg | apply w_conv | apply w_build0 | apply w_bs1 | apply w_boxa); iterate 2 exact rfl)
  | (apply w_idxo; exact rfl; exact rfl; (first | exact .sli rfl | exact .sls rfl | exact .slr rfl); exact rfl)
  | ((first | apply w_idxr | apply w_ldr); iterate 4 exact rfl)
  | (apply w_ldo; iterate 4 exact rfl)
  | (apply w_ldls; iterate 4 exact rfl)
  | (apply w_ldrp; iterate 4 exact rfl)
  | (apply w_ldb; iterate 5 exact rfl)
  | (apply w_ldst; iterate 5 exact rfl)
  | ((first | apply w_sllh | apply w_stbi); iterate 4 exact rfl)
  | ((first | apply w_oslo | apply w_oshi | apply w_stbii); iterate 4 exact rfl)
  | (apply w_copy; exact rfl; (first | exact .own rfl rfl rfl | exact .osub); exact rfl; rotate_left 1; exact rfl; (first | exact .ints _ | exact .sli rfl | exact .orow rfl | exact .nil | exact .osub rfl (by simp; omega)))
  | (apply w_build1; exact rfl; exact rfl; (first | exact one_val rfl rfl | exact one_ints | exact one_intss | exact one_own rfl True.intro))
  | (apply w_build2; exact rfl; exact rfl; exact rfl; (first | exact one_val rfl rfl | exact one_ints | exact one_intss | exact one_own rfl True.intro); (first | exact one_val rfl rfl | exact one_ints | exact one_intss | exact one_own rfl True.intro))
  | (apply w_bs0; iterate 1 exact rfl)
  | (apply w_appn; exact rfl; exact rfl; (first | exact .ints _ | exact .sli rfl | exact .orow rfl | exact .nil | exact .osub rfl (by simp; omega)); exact rfl)
  | (apply w_app; exact rfl; exact rfl; exact rfl; exact rfl; (first | exact .ints _ | exact .sli rfl | exact .orow rfl | exact .nil | exact .osub rfl (by simp; omega)); rotate_left 1; simp only [Env.mp, List.map_cons, List.map_nil, List.set_cons_zero, List.set_cons_succ, AV.kill, AV.kill1, AO.kill, AV.noRow, AV.noRow1, AO.via, reduceIte, Nat.reduceEqDiff, Nat.reduceLT, Env.up, Nat.zero_ne_one, Nat.one_ne_zero, Nat.reduceAdd, List.cons_append, List.nil_append]; rotate_left 1)
  | (apply w_alst; iterate 2 exact rfl)
  | (apply w_alone; iterate 3 exact rfl)
  | (apply w_mki; exact rfl; exact rfl; rotate_left 3; exact rfl; rotate_left 1)
  | (apply w_mkr; exact rfl; exact rfl; rotate_left 3; exact rfl; rotate_left 1)
  | (apply w_strow; exact rfl; exact rfl; rotate_left 1; exact rfl; exact rfl; exact rfl; exact rfl; simp only [Env.mp, List.map_cons, List.map_nil, List.set_cons_zero, List.set_cons_succ, AV.kill, AV.kill1, AO.kill, AV.noRow, AV.noRow1, AO.via, reduceIte, Nat.reduceEqDiff, Nat.reduceLT, Env.up, Nat.zero_ne_one, Nat.one_ne_zero, Nat.reduceAdd, List.cons_append, List.nil_append]; rotate_left 1)
  | (apply w_sti; exact rfl; exact rfl; rotate_left 1; exact rfl; rotate_left 2)
  | (apply w_stst; iterate 5 exact rfl)
  | (apply w_stbv; iterate 6 exact rfl)
  | (apply w_stbo; exact rfl; exact rfl; exact rfl; exact rfl; exact rfl; exact True.intro)
  | ((apply AOps.splitB; exact rfl; exact rfl) <;> intro h)
  | apply AllOf.nil
  | (apply AllOf.cons; exact rfl)
  | (apply AAny.take; exact rfl; exact rfl; kernel_rfl; kernel_rfl)
  | (apply AAny.all; exact rfl)
  | (apply AAny.done; exact rfl)
  | (apply inI_of <;> omega)
  | omega
  | (simp <;> omega))
    all_goals first
      | exact .bool Try.results25 rfl (isZ_false (i := i) (by omega) (fun hz => by unfold ZR at hz; omega))
      | (refine ⟨i + 1, ⟨by omega, fun j hj => ?_⟩, by omega, ⟨lee rfl (by (repeat (first | exact le_nil | refine le_eq rfl rfl ?_ | refine le_eq rfl (congrArg AV.i (by omega)) ?_))), by (repeat (first | exact lo_nil | refine lo_dead ?_ | refine lo_eq rfl ?_)), rfl, rfl⟩⟩
         by_cases e : j = i
         · subst e
           unfold ZR
           omega
         · exact h1 j (by omega))
      | (have e : i = xss.length := by omega
         subst e
         exact .bool Try.results25 rfl (by rw [isZ_all h1]; simp; try omega))
  · obtain rfl : i = 0 := by omega
    simp only [Int.natCast_zero] at *
    repeat' (first
  | (apply AOps.nil; try simp only [List.nil_append, List.cons_append, List.set_cons_zero, List.set_cons_succ, List.length_cons, List.length_nil, Nat.reduceAdd, AV.sh, AV.sh1, AV.sh0, AO.sh, List.map_cons, List.map_nil, Nat.zero_add, Nat.add_zero, setAll])
  | ((apply AOps.splitP; exact rfl; exact rfl) <;> intro h)
  | ((apply AOps.splitN; exact rfl; exact rfl) <;> intro h)
  | (apply w_move; exact rfl; exact rfl)
  | (apply w_assign; exact rfl; exact rfl)
  | apply AWp.seq
  | apply AWp.region
  | ((apply AWp.condP; exact rfl) <;> intro h)
  | ((apply AWp.condN; exact rfl) <;> intro h)
  | (apply AWp.condT; exact rfl)
  | (apply AWp.condF; exact rfl)
  | ((apply AWp.condB; exact rfl) <;> intro h)
  | apply AWp.block
  | apply AWp.ret
  | apply AWp.exit
  | apply AWp.skip
  | (apply AWp.regionQ; kernel_rfl; kernel_rfl)
  | (apply if_pos'; exact rfl)
  | (apply if_neg'; decide)
  | (apply w_skip; exact rfl)
  | (apply w_pickT; exact rfl; exact rfl; exact rfl)
  | (apply w_pickF; exact rfl; exact rfl; exact rfl)
  | (apply w_len; exact rfl; exact rfl; first | exact .ints _ | exact .intss _ | exact .sli rfl | exact .sls rfl | exact .slr rfl | exact .orow rfl | exact .nil)
  | (apply w_call (inRange_c _ _ _); exact rfl; exact rfl; focus ((repeat (first | exact im_nil | refine im_cons rfl (.val _) ?_ | refine im_cons rfl (.ints _) ?_ | refine im_cons rfl (.intss _) ?_ | refine im_cons rfl (.sli rfl) ?_ | refine im_cons rfl (.sls rfl) ?_ | refine im_cons rfl (.orow rfl) ?_ | refine im_cons rfl (.osub rfl (by simp; omega)) ?_ | refine im_cons rfl (.nil) ?_ | refine im_cons rfl (.nils) ?_ | refine im_cons rfl (im_agg2 (.val _) (.ints _)) ?_ | refine im_cons rfl (im_agg2 (.val _) (.sli rfl)) ?_ | refine im_cons rfl (im_agg2 (.val _) (.nil)) ?_ | refine im_cons rfl (im_agg2 (.ints _) (.intss _)) ?_ | refine im_cons rfl (im_agg2 (.ints _) (.sls rfl)) ?_ | refine im_cons rfl (im_agg2 (.sli rfl) (.intss _)) ?_ | refine im_cons rfl (im_agg2 (.sli rfl) (.sls rfl)) ?_ | refine im_cons rfl (im_agg1 (.ints _)) ?_ | refine im_cons rfl (im_agg1 (.sli rfl)) ?_ | refine im_cons rfl (im_agg1 (.intss _)) ?_ | refine im_cons rfl (im_agg1 (.sls rfl)) ?_ | refine im_cons rfl (im_agg1 (.nil)) ?_ | refine im_cons rfl (im_agg1 (.nils)) ?_)); done))
  | ((first | apply w_lss | apply w_leq | apply w_gtr | apply w_geq | apply w_eql | apply w_neq | apply w_add | apply w_sub | apply w_mul | apply w_idx | apply w_ld | apply w_fld | apply w_fa | apply w_extv | apply w_min | apply w_max | apply w_slhi | apply w_sllo | apply w_bs2); iterate 3 exact rfl)
  | ((first | apply w_eqlb | apply w_neqb | apply w_idxs | apply w_lds | apply w_ext); iterate 3 exact rfl)
  | (apply w_rem; exact rfl; exact rfl; exact rfl; (focus (omega; done)); (focus (omega; done)))
  | (apply w_quo; exact rfl; exact rfl; exact rfl; (focus (omega; done)); (focus (omega; done)))
  | (apply w_remT; exact rfl; exact rfl; exact rfl)
  | (apply w_quoT; exact rfl; exact rfl; exact rfl)
  | ((first | apply w_not | apply w_neg | apply w_conv | apply w_build0 | apply w_bs1 | apply w_boxa); iterate 2 exact rfl)
  | (apply w_idxo; exact rfl; exact rfl; (first | exact .sli rfl | exact .sls rfl | exact .slr rfl); exact rfl)
  | ((first | apply w_idxr | apply w_ldr); iterate 4 exact rfl)
  | (apply w_ldo; iterate 4 exact rfl)
  | (apply w_ldls; iterate 4 exact rfl)
  | (apply w_ldrp; iterate 4 exact rfl)
  | (apply w_ldb; iterate 5 exact rfl)
  | (apply w_ldst; iterate 5 exact rfl)
  | ((first | apply w_sllh | apply w_stbi); iterate 4 exact rfl)
  | ((first | apply w_oslo | apply w_oshi | apply w_stbii); iterate 4 exact rfl)
  | (apply w_copy; exact rfl; (first | exact .own rfl rfl rfl | exact .osub); exact rfl; rotate_left 1; exact rfl; (first | exact .ints _ | exact .sli rfl | exact .orow rfl | exact .nil | exact .osub rfl (by simp; omega)))
  | (apply w_build1; exact rfl; exact rfl; (first | exact one_val rfl rfl | exact one_ints | exact one_intss | exact one_own rfl True.intro))
  | (apply w_build2; exact rfl; exact rfl; exact rfl; (first | exact one_val rfl rfl | exact one_ints | exact one_intss | exact one_own rfl True.intro); (first | exact one_val rfl rfl | exact one_ints | exact one_intss | exact one_own rfl True.intro))
  | (apply w_bs0; iterate 1 exact rfl)
  | (apply w_appn; exact rfl; exact rfl; (first | exact .ints _ | exact .sli rfl | exact .orow rfl | exact .nil | exact .osub rfl (by simp; omega)); exact rfl)
  | (apply w_app; exact rfl; exact rfl; exact rfl; exact rfl; (first | exact .ints _ | exact .sli rfl | exact .orow rfl | exact .nil | exact .osub rfl (by simp; omega)); rotate_left 1; simp only [Env.mp, List.map_cons, List.map_nil, List.set_cons_zero, List.set_cons_succ, AV.kill, AV.kill1, AO.kill, AV.noRow, AV.noRow1, AO.via, reduceIte, Nat.reduceEqDiff, Nat.reduceLT, Env.up, Nat.zero_ne_one, Nat.one_ne_zero, Nat.reduceAdd, List.cons_append, List.nil_append]; rotate_left 1)
  | (apply w_alst; iterate 2 exact rfl)
  | (apply w_alone; iterate 3 exact rfl)
  | (apply w_mki; exact rfl; exact rfl; rotate_left 3; exact rfl; rotate_left 1)
  | (apply w_mkr; exact rfl; exact rfl; rotate_left 3; exact rfl; rotate_left 1)
  | (apply w_strow; exact rfl; exact rfl; rotate_left 1; exact rfl; exact rfl; exact rfl; exact rfl; simp only [Env.mp, List.map_cons, List.map_nil, List.set_cons_zero, List.set_cons_succ, AV.kill, AV.kill1, AO.kill, AV.noRow, AV.noRow1, AO.via, reduceIte, Nat.reduceEqDiff, Nat.reduceLT, Env.up, Nat.zero_ne_one, Nat.one_ne_zero, Nat.reduceAdd, List.cons_append, List.nil_append]; rotate_left 1)
  | (apply w_sti; exact rfl; exact rfl; rotate_left 1; exact rfl; rotate_left 2)
  | (apply w_stst; iterate 5 exact rfl)
  | (apply w_stbv; iterate 6 exact rfl)
  | (apply w_stbo; exact rfl; exact rfl; exact rfl; exact rfl; exact rfl; exact True.intro)
  | ((apply AOps.splitB; exact rfl; exact rfl) <;> intro h)
  | apply AllOf.nil
  | (apply AllOf.cons; exact rfl)
  | (apply AAny.take; exact rfl; exact rfl; kernel_rfl; kernel_rfl)
  | (apply AAny.all; exact rfl)
  | (apply AAny.done; exact rfl)
  | (apply inI_of <;> omega)
  | omega
  | (simp <;> omega))
    all_goals first
      | exact .bool Try.results25 rfl (isZ_false (i := 0) (by omega) (fun hz => by unfold ZR at hz; simp only [Int.natCast_zero] at hz; omega))
      | (refine ⟨0 + 1, ⟨by omega, fun j hj => ?_⟩, by omega, ⟨lee rfl (by (repeat (first | exact le_nil | refine le_eq rfl rfl ?_ | refine le_eq rfl (congrArg AV.i (by omega)) ?_))), by (repeat (first | exact lo_nil | refine lo_dead ?_ | refine lo_eq rfl ?_)), rfl, rfl⟩⟩
         obtain rfl : j = 0 := by omega
         unfold ZR
         simp only [Int.natCast_zero]
         omega)
      | (exact .bool Try.results25 rfl (by rw [isZ_all fun j hj => by omega]; simp; try omega))

end Go.Proofs.Ytpllbdjobmgikaa
/-
  The laws' helpers that write marks into a result and look for them. No condition but a bound on the sizes.
-/
namespace Go.Proofs.Ytpllbdjobmgikaa
open Go Go.RowKit
attribute [local irreducible] AWp AOps ResIs Ret1 QOp LOp COp AFnV AFn Imms LeE LeO
set_option maxHeartbeats 1000000
set_option linter.unusedSimpArgs false
set_option linter.unusedVariables false

end Go.Proofs.Ytpllbdjobmgikaa
/-
  Marks written into lists of lists. No condition but a bound on the sizes.
-/
namespace Go.Proofs.Ytpllbdjobmgikaa
open Go Go.RowKit
attribute [local irreducible] AWp AOps ResIs Ret1 QOp LOp COp AFnV AFn Imms LeE LeO
set_option maxHeartbeats 1000000
set_option linter.unusedSimpArgs false
set_option linter.unusedVariables false

/-! ### Marks -/
/-- A new slice of rows, and a code. -/
def IsSSC (T T2 : TypeId) (xss : List (List Int)) (e : Int) (r : AV) (os : List AO) : Prop := r = .tup [.own 0, .i e] ∧ os = [.sls T T2 xss]
end Go.Proofs.Ytpllbdjobmgikaa
/-
  Eigenvalue numbers: the law. No condition.
-/
namespace Go.Proofs.Ytpllbdjobmgikaa
open Go Go.RowKit
attribute [local irreducible] AWp AOps ResIs Ret1 QOp LOp COp AFnV AFn Imms LeE LeO
set_option maxHeartbeats 1000000
set_option linter.unusedSimpArgs false
set_option linter.unusedVariables false

noncomputable def ezL (Z : List (List Int)) : List (List Int) := if isZ Z = true then nzL (numZ Z Z.length) (numZ Z Z.length).length else []
theorem z_ok {Z : List (List Int)} (h : isZ Z = true) : ZtOk Z := by
  have h := of_decide_eq_true h
  exact ⟨h.1, fun i hi => ⟨(h.2 i hi).1, (h.2 i hi).2.1, (h.2 i hi).2.2.1⟩⟩
theorem nz_ok {Z : List (List Int)} (h : ZtOk Z) : (nzL (numZ Z Z.length) (numZ Z Z.length).length).length ≤ 100000 ∧ ∀ r ∈ nzL (numZ Z Z.length) (numZ Z Z.length).length, ZOk 100000000 r := by
  have hz := zi_num h Z.length (Nat.le_refl _)
  have h40 := h.1
  have h1 := nzL_len (numZ Z Z.length) (numZ Z Z.length).length
  have h2 := hz.len
  refine ⟨by omega, fun r hr => ?_⟩
  unfold nzL at hr
  have := hz.row r (List.mem_of_mem_take ((List.mem_filter.1 hr).1))
  unfold ZOk at *
  omega
theorem ezL_ok (Z : List (List Int)) : (ezL Z).length ≤ 100000 ∧ ∀ r ∈ ezL Z, r.length = 2 := by
  unfold ezL
  split
  · rename_i h
    exact ⟨(nz_ok (z_ok h)).1, fun r hr => ((nz_ok (z_ok h)).2 r hr).1⟩
  · simp

end Go.Proofs.Ytpllbdjobmgikaa
/-
  The greatest common divisor, in the program and in the model. No condition but that both numbers are no greater than 2^62.
-/
namespace Go.Proofs.Ytpllbdjobmgikaa
open Go Go.RowKit
attribute [local irreducible] AWp AOps ResIs Ret1 QOp LOp COp AFnV AFn Imms LeE LeO
set_option maxHeartbeats 1000000
set_option linter.unusedSimpArgs false
set_option linter.unusedVariables false

theorem gcd_step (a b : Int) (h0 : 0 ≤ a) (h : 0 < b) : Int.gcd b (a % b) = Int.gcd a b := by
  obtain ⟨x, rfl⟩ := Int.eq_ofNat_of_zero_le h0
  obtain ⟨y, rfl⟩ := Int.eq_ofNat_of_zero_le (Int.le_of_lt h)
  rw [← Int.natCast_emod]
  simp only [Int.gcd_natCast_natCast]
  rw [Nat.gcd_comm x y, Nat.gcd_comm y]
  exact (Nat.gcd_rec y x).symm

def mid (a : Int) : Prop := -4611686018427387904 ≤ a ∧ a ≤ 4611686018427387904

theorem abs_c (a : Int) (ha : mid a) : AFnV Try.prog 49 [.i a] (.int .i64 a.natAbs) := by
  unfold mid at ha
  (refine AFnV.start Try.func49 Try.ntmps49 rfl (by kernel_rfl) fun hk => ?_; simp only [Env.start, enumF, List.length_cons, List.length_nil, Nat.reduceAdd, Nat.reduceSub, List.cons_append, List.nil_append])
  repeat' (first
  | (apply AOps.nil; try simp only [List.nil_append, List.cons_append, List.set_cons_zero, List.set_cons_succ, List.length_cons, List.length_nil, Nat.reduceAdd, AV.sh, AV.sh1, AV.sh0, AO.sh, List.map_cons, List.map_nil, Nat.zero_add, Nat.add_zero, setAll])
  | ((apply AOps.splitP; exact rfl; exact rfl) <;> intro h)
  | ((apply AOps.splitN; exact rfl; exact rfl) <;> intro h)
  | (apply w_move; exact rfl; exact rfl)
  | (apply w_assign; exact rfl; exact rfl)
  | apply AWp.seq
  | apply AWp.region
  | ((apply AWp.condP; exact rfl) <;> intro h)
  | ((apply AWp.condN; exact rfl) <;> intro h)
  | (apply AWp.condT; exact rfl)
  | (apply AWp.condF; exact rfl)
  | ((apply AWp.condB; exact rfl) <;> intro h)
  | apply AWp.block
  | apply AWp.ret
  | apply AWp.exit
  | apply AWp.skip
  | (apply AWp.regionQ; kernel_rfl; kernel_rfl)
  | (apply if_pos'; exact rfl)
  | (apply if_neg'; decide)
  | (apply w_skip; exact rfl)
  | (apply w_pickT; exact rfl; exact rfl; exact rfl)
  | (apply w_pickF; exact rfl; exact rfl; exact rfl)
  | (apply w_len; exact rfl; exact rfl; first | exact .ints _ | exact .intss _ | exact .sli rfl | exact .sls rfl | exact .slr rfl | exact .orow rfl | exact .nil)
  | ((first | apply w_lss | apply w_leq | apply w_gtr | apply w_geq | apply w_eql | apply w_neq | apply w_add | apply w_sub | apply w_mul | apply w_idx | apply w_ld | apply w_fld | apply w_fa | apply w_extv | apply w_min | apply w_max | apply w_slhi | apply w_sllo | apply w_bs2); iterate 3 exact rfl)
  | ((first | apply w_eqlb | apply w_neqb | apply w_idxs | apply w_lds | apply w_ext); iterate 3 exact rfl)
  | (apply w_rem; exact rfl; exact rfl; exact rfl; (focus (omega; done)); (focus (omega; done)))
  | (apply w_quo; exact rfl; exact rfl; exact rfl; (focus (omega; done)); (focus (omega; done)))
  | (apply w_remT; exact rfl; exact rfl; exact rfl)
  | (apply w_quoT; exact rfl; exact rfl; exact rfl)
  | ((first | apply w_not | apply w_neg | apply w_conv | apply w_build0 | apply w_bs1 | apply w_boxa); iterate 2 exact rfl)
  | (apply w_idxo; exact rfl; exact rfl; (first | exact .sli rfl | exact .sls rfl | exact .slr rfl); exact rfl)
  | ((first | apply w_idxr | apply w_ldr); iterate 4 exact rfl)
  | (apply w_ldo; iterate 4 exact rfl)
  | (apply w_ldls; iterate 4 exact rfl)
  | (apply w_ldrp; iterate 4 exact rfl)
  | (apply w_ldb; iterate 5 exact rfl)
  | (apply w_ldst; iterate 5 exact rfl)
  | ((first | apply w_sllh | apply w_stbi); iterate 4 exact rfl)
  | ((first | apply w_oslo | apply w_oshi | apply w_stbii); iterate 4 exact rfl)
  | (apply w_copy; exact rfl; (first | exact .own rfl rfl rfl | exact .osub); exact rfl; rotate_left 1; exact rfl; (first | exact .ints _ | exact .sli rfl | exact .orow rfl | exact .nil | exact .osub rfl (by simp; omega)))
  | (apply w_build1; exact rfl; exact rfl; (first | exact one_val rfl rfl | exact one_ints | exact one_intss | exact one_own rfl True.intro))
  | (apply w_build2; exact rfl; exact rfl; exact rfl; (first | exact one_val rfl rfl | exact one_ints | exact one_intss | exact one_own rfl True.intro); (first | exact one_val rfl rfl | exact one_ints | exact one_intss | exact one_own rfl True.intro))
  | (apply w_bs0; iterate 1 exact rfl)
  | (apply w_appn; exact rfl; exact rfl; (first | exact .ints _ | exact .sli rfl | exact .orow rfl | exact .nil | exact .osub rfl (by simp; omega)); exact rfl)
  | (apply w_app; exact rfl; exact rfl; exact rfl; exact rfl; (first | exact .ints _ | exact .sli rfl | exact .orow rfl | exact .nil | exact .osub rfl (by simp; omega)); rotate_left 1; simp only [Env.mp, List.map_cons, List.map_nil, List.set_cons_zero, List.set_cons_succ, AV.kill, AV.kill1, AO.kill, AV.noRow, AV.noRow1, AO.via, reduceIte, Nat.reduceEqDiff, Nat.reduceLT, Env.up, Nat.zero_ne_one, Nat.one_ne_zero, Nat.reduceAdd, List.cons_append, List.nil_append]; rotate_left 1)
  | (apply w_alst; iterate 2 exact rfl)
  | (apply w_alone; iterate 3 exact rfl)
  | (apply w_mki; exact rfl; exact rfl; rotate_left 3; exact rfl; rotate_left 1)
  | (apply w_mkr; exact rfl; exact rfl; rotate_left 3; exact rfl; rotate_left 1)
  | (apply w_strow; exact rfl; exact rfl; rotate_left 1; exact rfl; exact rfl; exact rfl; exact rfl; simp only [Env.mp, List.map_cons, List.map_nil, List.set_cons_zero, List.set_cons_succ, AV.kill, AV.kill1, AO.kill, AV.noRow, AV.noRow1, AO.via, reduceIte, Nat.reduceEqDiff, Nat.reduceLT, Env.up, Nat.zero_ne_one, Nat.one_ne_zero, Nat.reduceAdd, List.cons_append, List.nil_append]; rotate_left 1)
  | (apply w_sti; exact rfl; exact rfl; rotate_left 1; exact rfl; rotate_left 2)
  | (apply w_stst; iterate 5 exact rfl)
  | (apply w_stbv; iterate 6 exact rfl)
  | (apply w_stbo; exact rfl; exact rfl; exact rfl; exact rfl; exact rfl; exact True.intro)
  | ((apply AOps.splitB; exact rfl; exact rfl) <;> intro h)
  | apply AllOf.nil
  | (apply AllOf.cons; exact rfl)
  | (apply AAny.take; exact rfl; exact rfl; kernel_rfl; kernel_rfl)
  | (apply AAny.all; exact rfl)
  | (apply AAny.done; exact rfl)
  | (apply inI_of <;> omega)
  | omega
  | (simp <;> omega))
  all_goals exact .int Try.results49 rfl (by omega)

theorem divisor_c (a b : Int) (ha : mid a) (hb : mid b) : AFnV Try.prog 34 [.i a, .i b] (.int .i64 (Int.gcd a b)) := by
  (refine AFnV.start Try.func34 Try.ntmps34 rfl (by kernel_rfl) fun hk => ?_; simp only [Env.start, enumF, List.length_cons, List.length_nil, Nat.reduceAdd, Nat.reduceSub, List.cons_append, List.nil_append])
  repeat' (first
  | (apply AOps.nil; try simp only [List.nil_append, List.cons_append, List.set_cons_zero, List.set_cons_succ, List.length_cons, List.length_nil, Nat.reduceAdd, AV.sh, AV.sh1, AV.sh0, AO.sh, List.map_cons, List.map_nil, Nat.zero_add, Nat.add_zero, setAll])
  | ((apply AOps.splitP; exact rfl; exact rfl) <;> intro h)
  | ((apply AOps.splitN; exact rfl; exact rfl) <;> intro h)
  | (apply w_move; exact rfl; exact rfl)
  | (apply w_assign; exact rfl; exact rfl)
  | apply AWp.seq
  | apply AWp.region
  | ((apply AWp.condP; exact rfl) <;> intro h)
  | ((apply AWp.condN; exact rfl) <;> intro h)
  | (apply AWp.condT; exact rfl)
  | (apply AWp.condF; exact rfl)
  | ((apply AWp.condB; exact rfl) <;> intro h)
  | apply AWp.block
  | apply AWp.ret
  | apply AWp.exit
  | apply AWp.skip
  | (apply AWp.regionQ; kernel_rfl; kernel_rfl)
  | (apply if_pos'; exact rfl)
  | (apply if_neg'; decide)
  | (apply w_skip; exact rfl)
  | (apply w_pickT; exact rfl; exact rfl; exact rfl)
  | (apply w_pickF; exact rfl; exact rfl; exact rfl)
  | (apply w_len; exact rfl; exact rfl; first | exact .ints _ | exact .intss _ | exact .sli rfl | exact .sls rfl | exact .slr rfl | exact .orow rfl | exact .nil)
  | (apply w_call (abs_c _ ha); exact rfl; exact rfl; focus ((repeat (first | exact im_nil | refine im_cons rfl (.val _) ?_ | refine im_cons rfl (.ints _) ?_ | refine im_cons rfl (.intss _) ?_ | refine im_cons rfl (.sli rfl) ?_ | refine im_cons rfl (.sls rfl) ?_ | refine im_cons rfl (.orow rfl) ?_ | refine im_cons rfl (.osub rfl (by simp; omega)) ?_ | refine im_cons rfl (.nil) ?_ | refine im_cons rfl (.nils) ?_ | refine im_cons rfl (im_agg2 (.val _) (.ints _)) ?_ | refine im_cons rfl (im_agg2 (.val _) (.sli rfl)) ?_ | refine im_cons rfl (im_agg2 (.val _) (.nil)) ?_ | refine im_cons rfl (im_agg2 (.ints _) (.intss _)) ?_ | refine im_cons rfl (im_agg2 (.ints _) (.sls rfl)) ?_ | refine im_cons rfl (im_agg2 (.sli rfl) (.intss _)) ?_ | refine im_cons rfl (im_agg2 (.sli rfl) (.sls rfl)) ?_ | refine im_cons rfl (im_agg1 (.ints _)) ?_ | refine im_cons rfl (im_agg1 (.sli rfl)) ?_ | refine im_cons rfl (im_agg1 (.intss _)) ?_ | refine im_cons rfl (im_agg1 (.sls rfl)) ?_ | refine im_cons rfl (im_agg1 (.nil)) ?_ | refine im_cons rfl (im_agg1 (.nils)) ?_)); done))
  | (apply w_call (abs_c _ hb); exact rfl; exact rfl; focus ((repeat (first | exact im_nil | refine im_cons rfl (.val _) ?_ | refine im_cons rfl (.ints _) ?_ | refine im_cons rfl (.intss _) ?_ | refine im_cons rfl (.sli rfl) ?_ | refine im_cons rfl (.sls rfl) ?_ | refine im_cons rfl (.orow rfl) ?_ | refine im_cons rfl (.osub rfl (by simp; omega)) ?_ | refine im_cons rfl (.nil) ?_ | refine im_cons rfl (.nils) ?_ | refine im_cons rfl (im_agg2 (.val _) (.ints _)) ?_ | refine im_cons rfl (im_agg2 (.val _) (.sli rfl)) ?_ | refine im_cons rfl (im_agg2 (.val _) (.nil)) ?_ | refine im_cons rfl (im_agg2 (.ints _) (.intss _)) ?_ | refine im_cons rfl (im_agg2 (.ints _) (.sls rfl)) ?_ | refine im_cons rfl (im_agg2 (.sli rfl) (.intss _)) ?_ | refine im_cons rfl (im_agg2 (.sli rfl) (.sls rfl)) ?_ | refine im_cons rfl (im_agg1 (.ints _)) ?_ | refine im_cons rfl (im_agg1 (.sli rfl)) ?_ | refine im_cons rfl (im_agg1 (.intss _)) ?_ | refine im_cons rfl (im_agg1 (.sls rfl)) ?_ | refine im_cons rfl (im_agg1 (.nil)) ?_ | refine im_cons rfl (im_agg1 (.nils)) ?_)); done))
  | ((first | apply w_lss | apply w_leq | apply w_gtr | apply w_geq | apply w_eql | apply w_neq | apply w_add | apply w_sub | apply w_mul | apply w_idx | apply w_ld | apply w_fld | apply w_fa | apply w_extv | apply w_min | apply w_max | apply w_slhi | apply w_sllo | apply w_bs2); iterate 3 exact rfl)
  | ((first | apply w_eqlb | apply w_neqb | apply w_idxs | apply w_lds | apply w_ext); iterate 3 exact rfl)
  | (apply w_rem; exact rfl; exact rfl; exact rfl; (focus (omega; done)); (focus (omega; done)))
  | (apply w_quo; exact rfl; exact rfl; exact rfl; (focus (omega; done)); (focus (omega; done)))
  | (apply w_remT; exact rfl; exact rfl; exact rfl)
  | (apply w_quoT; exact rfl; exact rfl; exact rfl)
  | ((first | apply w_not | apply w_neg | apply w_conv | apply w_build0 | apply w_bs1 | apply w_boxa); iterate 2 exact rfl)
  | (apply w_idxo; exact rfl; exact rfl; (first | exact .sli rfl | exact .sls rfl | exact .slr rfl); exact rfl)
  | ((first | apply w_idxr | apply w_ldr); iterate 4 exact rfl)
  | (apply w_ldo; iterate 4 exact rfl)
  | (apply w_ldls; iterate 4 exact rfl)
  | (apply w_ldrp; iterate 4 exact rfl)
  | (apply w_ldb; iterate 5 exact rfl)
  | (apply w_ldst; iterate 5 exact rfl)
  | ((first | apply w_sllh | apply w_stbi); iterate 4 exact rfl)
  | ((first | apply w_oslo | apply w_oshi | apply w_stbii); iterate 4 exact rfl)
  | (apply w_copy; exact rfl; (first | exact .own rfl rfl rfl | exact .osub); exact rfl; rotate_left 1; exact rfl; (first | exact .ints _ | exact .sli rfl | exact .orow rfl | exact .nil | exact .osub rfl (by simp; omega)))
  | (apply w_build1; exact rfl; exact rfl; (first | exact one_val rfl rfl | exact one_ints | exact one_intss | exact one_own rfl True.intro))
  | (apply w_build2; exact rfl; exact rfl; exact rfl; (first | exact one_val rfl rfl | exact one_ints | exact one_intss | exact one_own rfl True.intro); (first | exact one_val rfl rfl | exact one_ints | exact one_intss | exact one_own rfl True.intro))
  | (apply w_bs0; iterate 1 exact rfl)
  | (apply w_appn; exact rfl; exact rfl; (first | exact .ints _ | exact .sli rfl | exact .orow rfl | exact .nil | exact .osub rfl (by simp; omega)); exact rfl)
  | (apply w_app; exact rfl; exact rfl; exact rfl; exact rfl; (first | exact .ints _ | exact .sli rfl | exact .orow rfl | exact .nil | exact .osub rfl (by simp; omega)); rotate_left 1; simp only [Env.mp, List.map_cons, List.map_nil, List.set_cons_zero, List.set_cons_succ, AV.kill, AV.kill1, AO.kill, AV.noRow, AV.noRow1, AO.via, reduceIte, Nat.reduceEqDiff, Nat.reduceLT, Env.up, Nat.zero_ne_one, Nat.one_ne_zero, Nat.reduceAdd, List.cons_append, List.nil_append]; rotate_left 1)
  | (apply w_alst; iterate 2 exact rfl)
  | (apply w_alone; iterate 3 exact rfl)
  | (apply w_mki; exact rfl; exact rfl; rotate_left 3; exact rfl; rotate_left 1)
  | (apply w_mkr; exact rfl; exact rfl; rotate_left 3; exact rfl; rotate_left 1)
  | (apply w_strow; exact rfl; exact rfl; rotate_left 1; exact rfl; exact rfl; exact rfl; exact rfl; simp only [Env.mp, List.map_cons, List.map_nil, List.set_cons_zero, List.set_cons_succ, AV.kill, AV.kill1, AO.kill, AV.noRow, AV.noRow1, AO.via, reduceIte, Nat.reduceEqDiff, Nat.reduceLT, Env.up, Nat.zero_ne_one, Nat.one_ne_zero, Nat.reduceAdd, List.cons_append, List.nil_append]; rotate_left 1)
  | (apply w_sti; exact rfl; exact rfl; rotate_left 1; exact rfl; rotate_left 2)
  | (apply w_stst; iterate 5 exact rfl)
  | (apply w_stbv; iterate 6 exact rfl)
  | (apply w_stbo; exact rfl; exact rfl; exact rfl; exact rfl; exact rfl; exact True.intro)
  | ((apply AOps.splitB; exact rfl; exact rfl) <;> intro h)
  | apply AllOf.nil
  | (apply AllOf.cons; exact rfl)
  | (apply AAny.take; exact rfl; exact rfl; kernel_rfl; kernel_rfl)
  | (apply AAny.all; exact rfl)
  | (apply AAny.done; exact rfl)
  | (apply inI_of <;> omega)
  | omega
  | (simp <;> omega))
  unfold mid at ha hb
  refine AWp.loop (ι := Int × Int) (fun s => ⟨16, [(0, .i s.1), (1, .i s.2)]⟩) (fun _ => []) (fun s => 0 ≤ s.1 ∧ 0 ≤ s.2 ∧ s.1 ≤ 4611686018427387904 ∧ s.2 ≤ 4611686018427387904 ∧ Int.gcd s.1 s.2 = Int.gcd a b) (fun s => s.2.toNat) (a.natAbs, b.natAbs) ⟨by simp, by simp, by simp; omega, by simp; omega, by simp [Int.gcd]⟩ ⟨lee rfl (by (repeat (first | exact le_nil | refine le_eq rfl rfl ?_ | refine le_eq rfl (congrArg AV.i (by omega)) ?_))), by (repeat (first | exact lo_nil | refine lo_dead ?_ | refine lo_eq rfl ?_)), rfl, rfl⟩ ?_
  rintro ⟨x, y⟩ ⟨h0, h1, h2, h3, h4⟩
  simp only at h0 h1 h2 h3 h4
  repeat' (first
  | (apply AOps.nil; try simp only [List.nil_append, List.cons_append, List.set_cons_zero, List.set_cons_succ, List.length_cons, List.length_nil, Nat.reduceAdd, AV.sh, AV.sh1, AV.sh0, AO.sh, List.map_cons, List.map_nil, Nat.zero_add, Nat.add_zero, setAll])
  | ((apply AOps.splitP; exact rfl; exact rfl) <;> intro h)
  | ((apply AOps.splitN; exact rfl; exact rfl) <;> intro h)
  | (apply w_move; exact rfl; exact rfl)
  | (apply w_assign; exact rfl; exact rfl)
  | apply AWp.seq
  | apply AWp.region
  | ((apply AWp.condP; exact rfl) <;> intro h)
  | ((apply AWp.condN; exact rfl) <;> intro h)
  | (apply AWp.condT; exact rfl)
  | (apply AWp.condF; exact rfl)
  | ((apply AWp.condB; exact rfl) <;> intro h)
  | apply AWp.block
  | apply AWp.ret
  | apply AWp.exit
  | apply AWp.skip
  | (apply AWp.regionQ; kernel_rfl; kernel_rfl)
  | (apply if_pos'; exact rfl)
  | (apply if_neg'; decide)
  | (apply w_skip; exact rfl)
  | (apply w_pickT; exact rfl; exact rfl; exact rfl)
  | (apply w_pickF; exact rfl; exact rfl; exact rfl)
  | (apply w_len; exact rfl; exact rfl; first | exact .ints _ | exact .intss _ | exact .sli rfl | exact .sls rfl | exact .slr rfl | exact .orow rfl | exact .nil)
  | ((first | apply w_lss | apply w_leq | apply w_gtr | apply w_geq | apply w_eql | apply w_neq | apply w_add | apply w_sub | apply w_mul | apply w_idx | apply w_ld | apply w_fld | apply w_fa | apply w_extv | apply w_min | apply w_max | apply w_slhi | apply w_sllo | apply w_bs2); iterate 3 exact rfl)
  | ((first | apply w_eqlb | apply w_neqb | apply w_idxs | apply w_lds | apply w_ext); iterate 3 exact rfl)
  | (apply w_rem; exact rfl; exact rfl; exact rfl; (focus (omega; done)); (focus (omega; done)))
  | (apply w_quo; exact rfl; exact rfl; exact rfl; (focus (omega; done)); (focus (omega; done)))
  | (apply w_remT; exact rfl; exact rfl; exact rfl)
  | (apply w_quoT; exact rfl; exact rfl; exact rfl)
  | ((first | apply w_not | apply w_neg | apply w_conv | apply w_build0 | apply w_bs1 | apply w_boxa); iterate 2 exact rfl)
  | (apply w_idxo; exact rfl; exact rfl; (first | exact .sli rfl | exact .sls rfl | exact .slr rfl); exact rfl)
  | ((first | apply w_idxr | apply w_ldr); iterate 4 exact rfl)
  | (apply w_ldo; iterate 4 exact rfl)
  | (apply w_ldls; iterate 4 exact rfl)
  | (apply w_ldrp; iterate 4 exact rfl)
  | (apply w_ldb; iterate 5 exact rfl)
  | (apply w_ldst; iterate 5 exact rfl)
  | ((first | apply w_sllh | apply w_stbi); iterate 4 exact rfl)
  | ((first | apply w_oslo | apply w_oshi | apply w_stbii); iterate 4 exact rfl)
  | (apply w_copy; exact rfl; (first | exact .own rfl rfl rfl | exact .osub); exact rfl; rotate_left 1; exact rfl; (first | exact .ints _ | exact .sli rfl | exact .orow rfl | exact .nil | exact .osub rfl (by simp; omega)))
  | (apply w_build1; exact rfl; exact rfl; (first | exact one_val rfl rfl | exact one_ints | exact one_intss | exact one_own rfl True.intro))
  | (apply w_build2; exact rfl; exact rfl; exact rfl; (first | exact one_val rfl rfl | exact one_ints | exact one_intss | exact one_own rfl True.intro); (first | exact one_val rfl rfl | exact one_ints | exact one_intss | exact one_own rfl True.intro))
  | (apply w_bs0; iterate 1 exact rfl)
  | (apply w_appn; exact rfl; exact rfl; (first | exact .ints _ | exact .sli rfl | exact .orow rfl | exact .nil | exact .osub rfl (by simp; omega)); exact rfl)
  | (apply w_app; exact rfl; exact rfl; exact rfl; exact rfl; (first | exact .ints _ | exact .sli rfl | exact .orow rfl | exact .nil | exact .osub rfl (by simp; omega)); rotate_left 1; simp only [Env.mp, List.map_cons, List.map_nil, List.set_cons_zero, List.set_cons_succ, AV.kill, AV.kill1, AO.kill, AV.noRow, AV.noRow1, AO.via, reduceIte, Nat.reduceEqDiff, Nat.reduceLT, Env.up, Nat.zero_ne_one, Nat.one_ne_zero, Nat.reduceAdd, List.cons_append, List.nil_append]; rotate_left 1)
  | (apply w_alst; iterate 2 exact rfl)
  | (apply w_alone; iterate 3 exact rfl)
  | (apply w_mki; exact rfl; exact rfl; rotate_left 3; exact rfl; rotate_left 1)
  | (apply w_mkr; exact rfl; exact rfl; rotate_left 3; exact rfl; rotate_left 1)
  | (apply w_strow; exact rfl; exact rfl; rotate_left 1; exact rfl; exact rfl; exact rfl; exact rfl; simp only [Env.mp, List.map_cons, List.map_nil, List.set_cons_zero, List.set_cons_succ, AV.kill, AV.kill1, AO.kill, AV.noRow, AV.noRow1, AO.via, reduceIte, Nat.reduceEqDiff, Nat.reduceLT, Env.up, Nat.zero_ne_one, Nat.one_ne_zero, Nat.reduceAdd, List.cons_append, List.nil_append]; rotate_left 1)
  | (apply w_sti; exact rfl; exact rfl; rotate_left 1; exact rfl; rotate_left 2)
  | (apply w_stst; iterate 5 exact rfl)
  | (apply w_stbv; iterate 6 exact rfl)
  | (apply w_stbo; exact rfl; exact rfl; exact rfl; exact rfl; exact rfl; exact True.intro)
  | ((apply AOps.splitB; exact rfl; exact rfl) <;> intro h)
  | apply AllOf.nil
  | (apply AllOf.cons; exact rfl)
  | (apply AAny.take; exact rfl; exact rfl; kernel_rfl; kernel_rfl)
  | (apply AAny.all; exact rfl)
  | (apply AAny.done; exact rfl)
  | (apply inI_of <;> omega)
  | omega
  | (simp <;> omega))
  · have hlt := Int.emod_lt_of_pos x h
    have hge := Int.emod_nonneg x (show y ≠ 0 by omega)
    exact ⟨(y, x % y), ⟨h1, hge, h3, by simp only; omega, by simp only; rw [gcd_step x y h0 h, h4]⟩, by simp only; omega, ⟨lee rfl (by (repeat (first | exact le_nil | refine le_eq rfl rfl ?_ | refine le_eq rfl (congrArg AV.i (by omega)) ?_))), by (repeat (first | exact lo_nil | refine lo_dead ?_ | refine lo_eq rfl ?_)), rfl, rfl⟩⟩
  · have e : y = 0 := by omega
    subst e
    exact .int Try.results34 rfl (by rw [← h4]; simp; omega)

theorem l01Gcd_c (a b : Int) (ha : mid a) (hb : mid b) : AFnV Try.prog 31 [.i a, .i b] (.int .i64 (Int.gcd a b)) := by
  unfold mid at ha hb
  (refine AFnV.start Try.func31 Try.ntmps31 rfl (by kernel_rfl) fun hk => ?_; simp only [Env.start, enumF, List.length_cons, List.length_nil, Nat.reduceAdd, Nat.reduceSub, List.cons_append, List.nil_append])
  repeat' (first
  | (apply AOps.nil; try simp only [List.nil_append, List.cons_append, List.set_cons_zero, List.set_cons_succ, List.length_cons, List.length_nil, Nat.reduceAdd, AV.sh, AV.sh1, AV.sh0, AO.sh, List.map_cons, List.map_nil, Nat.zero_add, Nat.add_zero, setAll])
  | ((apply AOps.splitP; exact rfl; exact rfl) <;> intro h)
  | ((apply AOps.splitN; exact rfl; exact rfl) <;> intro h)
  | (apply w_move; exact rfl; exact rfl)
  | (apply w_assign; exact rfl; exact rfl)
  | apply AWp.seq
  | apply AWp.region
  | ((apply AWp.condP; exact rfl) <;> intro h)
  | ((apply AWp.condN; exact rfl) <;> intro h)
  | (apply AWp.condT; exact rfl)
  | (apply AWp.condF; exact rfl)
  | ((apply AWp.condB; exact rfl) <;> intro h)
  | apply AWp.block
  | apply AWp.ret
  | apply AWp.exit
  | apply AWp.skip
  | (apply AWp.regionQ; kernel_rfl; kernel_rfl)
  | (apply if_pos'; exact rfl)
  | (apply if_neg'; decide)
  | (apply w_skip; exact rfl)
  | (apply w_pickT; exact rfl; exact rfl; exact rfl)
  | (apply w_pickF; exact rfl; exact rfl; exact rfl)
  | (apply w_len; exact rfl; exact rfl; first | exact .ints _ | exact .intss _ | exact .sli rfl | exact .sls rfl | exact .slr rfl | exact .orow rfl | exact .nil)
  | ((first | apply w_lss | apply w_leq | apply w_gtr | apply w_geq | apply w_eql | apply w_neq | apply w_add | apply w_sub | apply w_mul | apply w_idx | apply w_ld | apply w_fld | apply w_fa | apply w_extv | apply w_min | apply w_max | apply w_slhi | apply w_sllo | apply w_bs2); iterate 3 exact rfl)
  | ((first | apply w_eqlb | apply w_neqb | apply w_idxs | apply w_lds | apply w_ext); iterate 3 exact rfl)
  | (apply w_rem; exact rfl; exact rfl; exact rfl; (focus (omega; done)); (focus (omega; done)))
  | (apply w_quo; exact rfl; exact rfl; exact rfl; (focus (omega; done)); (focus (omega; done)))
  | (apply w_remT; exact rfl; exact rfl; exact rfl)
  | (apply w_quoT; exact rfl; exact rfl; exact rfl)
  | ((first | apply w_not | apply w_neg | apply w_conv | apply w_build0 | apply w_bs1 | apply w_boxa); iterate 2 exact rfl)
  | (apply w_idxo; exact rfl; exact rfl; (first | exact .sli rfl | exact .sls rfl | exact .slr rfl); exact rfl)
  | ((first | apply w_idxr | apply w_ldr); iterate 4 exact rfl)
  | (apply w_ldo; iterate 4 exact rfl)
  | (apply w_ldls; iterate 4 exact rfl)
  | (apply w_ldrp; iterate 4 exact rfl)
  | (apply w_ldb; iterate 5 exact rfl)
  | (apply w_ldst; iterate 5 exact rfl)
  | ((first | apply w_sllh | apply w_stbi); iterate 4 exact rfl)
  | ((first | apply w_oslo | apply w_oshi | apply w_stbii); iterate 4 exact rfl)
  | (apply w_copy; exact rfl; (first | exact .own rfl rfl rfl | exact .osub); exact rfl; rotate_left 1; exact rfl; (first | exact .ints _ | exact .sli rfl | exact .orow rfl | exact .nil | exact .osub rfl (by simp; omega)))
  | (apply w_build1; exact rfl; exact rfl; (first | exact one_val rfl rfl | exact one_ints | exact one_intss | exact one_own rfl True.intro))
  | (apply w_build2; exact rfl; exact rfl; exact rfl; (first | exact one_val rfl rfl | exact one_ints | exact one_intss | exact one_own rfl True.intro); (first | exact one_val rfl rfl | exact one_ints | exact one_intss | exact one_own rfl True.intro))
  | (apply w_bs0; iterate 1 exact rfl)
  | (apply w_appn; exact rfl; exact rfl; (first | exact .ints _ | exact .sli rfl | exact .orow rfl | exact .nil | exact .osub rfl (by simp; omega)); exact rfl)
  | (apply w_app; exact rfl; exact rfl; exact rfl; exact rfl; (first | exact .ints _ | exact .sli rfl | exact .orow rfl | exact .nil | exact .osub rfl (by simp; omega)); rotate_left 1; simp only [Env.mp, List.map_cons, List.map_nil, List.set_cons_zero, List.set_cons_succ, AV.kill, AV.kill1, AO.kill, AV.noRow, AV.noRow1, AO.via, reduceIte, Nat.reduceEqDiff, Nat.reduceLT, Env.up, Nat.zero_ne_one, Nat.one_ne_zero, Nat.reduceAdd, List.cons_append, List.nil_append]; rotate_left 1)
  | (apply w_alst; iterate 2 exact rfl)
  | (apply w_alone; iterate 3 exact rfl)
  | (apply w_mki; exact rfl; exact rfl; rotate_left 3; exact rfl; rotate_left 1)
  | (apply w_mkr; exact rfl; exact rfl; rotate_left 3; exact rfl; rotate_left 1)
  | (apply w_strow; exact rfl; exact rfl; rotate_left 1; exact rfl; exact rfl; exact rfl; exact rfl; simp only [Env.mp, List.map_cons, List.map_nil, List.set_cons_zero, List.set_cons_succ, AV.kill, AV.kill1, AO.kill, AV.noRow, AV.noRow1, AO.via, reduceIte, Nat.reduceEqDiff, Nat.reduceLT, Env.up, Nat.zero_ne_one, Nat.one_ne_zero, Nat.reduceAdd, List.cons_append, List.nil_append]; rotate_left 1)
  | (apply w_sti; exact rfl; exact rfl; rotate_left 1; exact rfl; rotate_left 2)
  | (apply w_stst; iterate 5 exact rfl)
  | (apply w_stbv; iterate 6 exact rfl)
  | (apply w_stbo; exact rfl; exact rfl; exact rfl; exact rfl; exact rfl; exact True.intro)
  | ((apply AOps.splitB; exact rfl; exact rfl) <;> intro h)
  | apply AllOf.nil
  | (apply AllOf.cons; exact rfl)
  | (apply AAny.take; exact rfl; exact rfl; kernel_rfl; kernel_rfl)
  | (apply AAny.all; exact rfl)
  | (apply AAny.done; exact rfl)
  | (apply inI_of <;> omega)
  | omega
  | (simp <;> omega))
  all_goals refine AWp.loop (ι := Int × Int) (fun s => ⟨22, [(0, .i s.1), (1, .i s.2)]⟩) (fun _ => []) (fun s => 0 ≤ s.1 ∧ 0 ≤ s.2 ∧ s.1 ≤ 4611686018427387904 ∧ s.2 ≤ 4611686018427387904 ∧ Int.gcd s.1 s.2 = Int.gcd a b) (fun s => s.2.toNat) (a.natAbs, b.natAbs) ⟨by simp, by simp, by simp; omega, by simp; omega, by simp [Int.gcd]⟩ ⟨lee rfl (by (repeat (first | exact le_nil | refine le_eq rfl rfl ?_ | refine le_eq rfl (congrArg AV.i (by omega)) ?_))), by (repeat (first | exact lo_nil | refine lo_dead ?_ | refine lo_eq rfl ?_)), rfl, rfl⟩ ?_
  all_goals rintro ⟨x, y⟩ ⟨h0, h1, h2, h3, h4⟩
  all_goals simp only at h0 h1 h2 h3 h4
  all_goals repeat' (first
  | (apply AOps.nil; try simp only [List.nil_append, List.cons_append, List.set_cons_zero, List.set_cons_succ, List.length_cons, List.length_nil, Nat.reduceAdd, AV.sh, AV.sh1, AV.sh0, AO.sh, List.map_cons, List.map_nil, Nat.zero_add, Nat.add_zero, setAll])
  | ((apply AOps.splitP; exact rfl; exact rfl) <;> intro h)
  | ((apply AOps.splitN; exact rfl; exact rfl) <;> intro h)
  | (apply w_move; exact rfl; exact rfl)
  | (apply w_assign; exact rfl; exact rfl)
  | apply AWp.seq
  | apply AWp.region
  | ((apply AWp.condP; exact rfl) <;> intro h)
  | ((apply AWp.condN; exact rfl) <;> intro h)
  | (apply AWp.condT; exact rfl)
  | (apply AWp.condF; exact rfl)
  | ((apply AWp.condB; exact rfl) <;> intro h)
  | apply AWp.block
  | apply AWp.ret
  | apply AWp.exit
  | apply AWp.skip
  | (apply AWp.regionQ; kernel_rfl; kernel_rfl)
  | (apply if_pos'; exact rfl)
  | (apply if_neg'; decide)
  | (apply w_skip; exact rfl)
  | (apply w_pickT; exact rfl; exact rfl; exact rfl)
  | (apply w_pickF; exact rfl; exact rfl; exact rfl)
  | (apply w_len; exact rfl; exact rfl; first | exact .ints _ | exact .intss _ | exact .sli rfl | exact .sls rfl | exact .slr rfl | exact .orow rfl | exact .nil)
  | ((first | apply w_lss | apply w_leq | apply w_gtr | apply w_geq | apply w_eql | apply w_neq | apply w_add | apply w_sub | apply w_mul | apply w_idx | apply w_ld | apply w_fld | apply w_fa | apply w_extv | apply w_min | apply w_max | apply w_slhi | apply w_sllo | apply w_bs2); iterate 3 exact rfl)
  | ((first | apply w_eqlb | apply w_neqb | apply w_idxs | apply w_lds | apply w_ext); iterate 3 exact rfl)
  | (apply w_rem; exact rfl; exact rfl; exact rfl; (focus (omega; done)); (focus (omega; done)))
  | (apply w_quo; exact rfl; exact rfl; exact rfl; (focus (omega; done)); (focus (omega; done)))
  | (apply w_remT; exact rfl; exact rfl; exact rfl)
  | (apply w_quoT; exact rfl; exact rfl; exact rfl)
  | ((first | apply w_not | apply w_neg | apply w_conv | apply w_build0 | apply w_bs1 | apply w_boxa); iterate 2 exact rfl)
  | (apply w_idxo; exact rfl; exact rfl; (first | exact .sli rfl | exact .sls rfl | exact .slr rfl); exact rfl)
  | ((first | apply w_idxr | apply w_ldr); iterate 4 exact rfl)
  | (apply w_ldo; iterate 4 exact rfl)
  | (apply w_ldls; iterate 4 exact rfl)
  | (apply w_ldrp; iterate 4 exact rfl)
  | (apply w_ldb; iterate 5 exact rfl)
  | (apply w_ldst; iterate 5 exact rfl)
  | ((first | apply w_sllh | apply w_stbi); iterate 4 exact rfl)
  | ((first | apply w_oslo | apply w_oshi | apply w_stbii); iterate 4 exact rfl)
  | (apply w_copy; exact rfl; (first | exact .own rfl rfl rfl | exact .osub); exact rfl; rotate_left 1; exact rfl; (first | exact .ints _ | exact .sli rfl | exact .orow rfl | exact .nil | exact .osub rfl (by simp; omega)))
  | (apply w_build1; exact rfl; exact rfl; (first | exact one_val rfl rfl | exact one_ints | exact one_intss | exact one_own rfl True.intro))
  | (apply w_build2; exact rfl; exact rfl; exact rfl; (first | exact one_val rfl rfl | exact one_ints | exact one_intss | exact one_own rfl True.intro); (first | exact one_val rfl rfl | exact one_ints | exact one_intss | exact one_own rfl True.intro))
  | (apply w_bs0; iterate 1 exact rfl)
  | (apply w_appn; exact rfl; exact rfl; (first | exact .ints _ | exact .sli rfl | exact .orow rfl | exact .nil | exact .osub rfl (by simp; omega)); exact rfl)
  | (apply w_app; exact rfl; exact rfl; exact rfl; exact rfl; (first | exact .ints _ | exact .sli rfl | exact .orow rfl | exact .nil | exact .osub rfl (by simp; omega)); rotate_left 1; simp only [Env.mp, List.map_cons, List.map_nil, List.set_cons_zero, List.set_cons_succ, AV.kill, AV.kill1, AO.kill, AV.noRow, AV.noRow1, AO.via, reduceIte, Nat.reduceEqDiff, Nat.reduceLT, Env.up, Nat.zero_ne_one, Nat.one_ne_zero, Nat.reduceAdd, List.cons_append, List.nil_append]; rotate_left 1)
  | (apply w_alst; iterate 2 exact rfl)
  | (apply w_alone; iterate 3 exact rfl)
  | (apply w_mki; exact rfl; exact rfl; rotate_left 3; exact rfl; rotate_left 1)
  | (apply w_mkr; exact rfl; exact rfl; rotate_left 3; exact rfl; rotate_left 1)
  | (apply w_strow; exact rfl; exact rfl; rotate_left 1; exact rfl; exact rfl; exact rfl; exact rfl; simp only [Env.mp, List.map_cons, List.map_nil, List.set_cons_zero, List.set_cons_succ, AV.kill, AV.kill1, AO.kill, AV.noRow, AV.noRow1, AO.via, reduceIte, Nat.reduceEqDiff, Nat.reduceLT, Env.up, Nat.zero_ne_one, Nat.one_ne_zero, Nat.reduceAdd, List.cons_append, List.nil_append]; rotate_left 1)
  | (apply w_sti; exact rfl; exact rfl; rotate_left 1; exact rfl; rotate_left 2)
  | (apply w_stst; iterate 5 exact rfl)
  | (apply w_stbv; iterate 6 exact rfl)
  | (apply w_stbo; exact rfl; exact rfl; exact rfl; exact rfl; exact rfl; exact True.intro)
  | ((apply AOps.splitB; exact rfl; exact rfl) <;> intro h)
  | apply AllOf.nil
  | (apply AllOf.cons; exact rfl)
  | (apply AAny.take; exact rfl; exact rfl; kernel_rfl; kernel_rfl)
  | (apply AAny.all; exact rfl)
  | (apply AAny.done; exact rfl)
  | (apply inI_of <;> omega)
  | omega
  | (simp <;> omega))
  all_goals first
    | (have hlt := Int.emod_lt_of_pos x h
       have hge := Int.emod_nonneg x (show y ≠ 0 by omega)
       exact ⟨(y, x % y), ⟨h1, hge, h3, by simp only; omega, by simp only; rw [gcd_step x y h0 h, h4]⟩, by simp only; omega, ⟨lee rfl (by (repeat (first | exact le_nil | refine le_eq rfl rfl ?_ | refine le_eq rfl (congrArg AV.i (by omega)) ?_))), by (repeat (first | exact lo_nil | refine lo_dead ?_ | refine lo_eq rfl ?_)), rfl, rfl⟩⟩)
    | (have e : y = 0 := by omega
       subst e
       exact .int Try.results31 rfl (by rw [← h4]; simp; omega))
end Go.Proofs.Ytpllbdjobmgikaa
