/-
  Parts of the proof, one behind the other: contracts of functions and plain laws. No condition.
-/
import Derived.WalkKit
import Derived.Deep.LoopGhost
import Derived.Deep.Draws
import Derived.Lib.Walk
import Derived.Test.YtkojhaoflgdjmaaPt5FnContacts
/-
  The draws of the law of contacts, the dice, equal parametrisations. Condition: not too many bytes.
-/
namespace Go.Proofs.Ytkojhaoflgdjmaa
open Go Go.RowKit
attribute [local irreducible] AWp AOps ResIs Ret1 QOp LOp COp AFnV AFn Imms LeE LeO
set_option maxHeartbeats 1000000
set_option linter.unusedSimpArgs false
set_option linter.unusedVariables false

theorem drawInt_c (bs : List Int) (hl : bs.length ≤ 1048576) (hbs : ∀ i, 0 ≤ geti bs i ∧ geti bs i ≤ 255) : AFn Try.prog 5 [.ro (byR bs)] (IsTwo 2) := by
  have h2 := l16Two_c bs hl hbs
  (refine AFn.start Try.func5 Try.ntmps5 rfl (by kernel_rfl) fun hk => ?_; simp only [Env.start, enumF, List.length_cons, List.length_nil, Nat.reduceAdd, Nat.reduceSub, List.cons_append, List.nil_append])
  repeat' (first | (apply AOps.nil; try simp only [List.nil_append, List.cons_append, List.set_cons_zero, List.set_cons_succ, List.length_cons, List.length_nil, Nat.reduceAdd, AV.sh, AV.sh1, AV.sh0, AO.sh, List.map_cons, List.map_nil, Nat.zero_add, Nat.add_zero, setAll]) | (apply w_move; exact rfl; exact rfl) | apply AWp.seq | apply AWp.region | apply AWp.ret | (apply w_callm (h2); (focus ((repeat (first | exact im_nil | refine im_cons rfl (.ro _) ?_)); done)); rintro r os0 ⟨n, a, m, b, rfl, hA, hB, rfl⟩; try simp only [List.nil_append, List.cons_append, List.set_cons_zero, List.set_cons_succ, List.length_cons, List.length_nil, Nat.reduceAdd, AV.sh, AV.sh1, AV.sh0, AO.sh, List.map_cons, List.map_nil, Nat.zero_add, Nat.add_zero, setAll]) | ((apply w_ext); iterate 3 exact rfl) | (apply w_alst; iterate 2 exact rfl) | (apply w_stst; iterate 5 exact rfl))
  exact ⟨_, _, _, .cc Try.results5 rfl rfl rfl rfl rfl rfl, .ss rfl rfl rfl, n, a, m, b, rfl, hA, hB, rfl⟩
theorem drawMul_c (bs : List Int) (hl : bs.length ≤ 1048576) (hbs : ∀ i, 0 ≤ geti bs i ∧ geti bs i ≤ 255) : AFn Try.prog 18 [.ro (byR bs)] (IsTwo 2) := by
  have h2 := l16Two_c bs hl hbs
  (refine AFn.start Try.func18 Try.ntmps18 rfl (by kernel_rfl) fun hk => ?_; simp only [Env.start, enumF, List.length_cons, List.length_nil, Nat.reduceAdd, Nat.reduceSub, List.cons_append, List.nil_append])
  repeat' (first | (apply AOps.nil; try simp only [List.nil_append, List.cons_append, List.set_cons_zero, List.set_cons_succ, List.length_cons, List.length_nil, Nat.reduceAdd, AV.sh, AV.sh1, AV.sh0, AO.sh, List.map_cons, List.map_nil, Nat.zero_add, Nat.add_zero, setAll]) | (apply w_move; exact rfl; exact rfl) | apply AWp.seq | apply AWp.region | apply AWp.ret | (apply w_callm (h2); (focus ((repeat (first | exact im_nil | refine im_cons rfl (.ro _) ?_)); done)); rintro r os0 ⟨n, a, m, b, rfl, hA, hB, rfl⟩; try simp only [List.nil_append, List.cons_append, List.set_cons_zero, List.set_cons_succ, List.length_cons, List.length_nil, Nat.reduceAdd, AV.sh, AV.sh1, AV.sh0, AO.sh, List.map_cons, List.map_nil, Nat.zero_add, Nat.add_zero, setAll]) | ((apply w_ext); iterate 3 exact rfl) | (apply w_alst; iterate 2 exact rfl) | (apply w_stst; iterate 5 exact rfl))
  exact ⟨_, _, _, .cc Try.results18 rfl rfl rfl rfl rfl rfl, .ss rfl rfl rfl, n, a, m, b, rfl, hA, hB, rfl⟩
theorem drawAre_c (bs : List Int) (hl : bs.length ≤ 1048576) (hbs : ∀ i, 0 ≤ geti bs i ∧ geti bs i ≤ 255) : AFn Try.prog 21 [.ro (byR bs)] (IsTwo 2) := by
  have h2 := l16Two_c bs hl hbs
  (refine AFn.start Try.func21 Try.ntmps21 rfl (by kernel_rfl) fun hk => ?_; simp only [Env.start, enumF, List.length_cons, List.length_nil, Nat.reduceAdd, Nat.reduceSub, List.cons_append, List.nil_append])
  repeat' (first | (apply AOps.nil; try simp only [List.nil_append, List.cons_append, List.set_cons_zero, List.set_cons_succ, List.length_cons, List.length_nil, Nat.reduceAdd, AV.sh, AV.sh1, AV.sh0, AO.sh, List.map_cons, List.map_nil, Nat.zero_add, Nat.add_zero, setAll]) | (apply w_move; exact rfl; exact rfl) | apply AWp.seq | apply AWp.region | apply AWp.ret | (apply w_callm (h2); (focus ((repeat (first | exact im_nil | refine im_cons rfl (.ro _) ?_)); done)); rintro r os0 ⟨n, a, m, b, rfl, hA, hB, rfl⟩; try simp only [List.nil_append, List.cons_append, List.set_cons_zero, List.set_cons_succ, List.length_cons, List.length_nil, Nat.reduceAdd, AV.sh, AV.sh1, AV.sh0, AO.sh, List.map_cons, List.map_nil, Nat.zero_add, Nat.add_zero, setAll]) | ((apply w_ext); iterate 3 exact rfl) | (apply w_alst; iterate 2 exact rfl) | (apply w_stst; iterate 5 exact rfl))
  exact ⟨_, _, _, .cc Try.results21 rfl rfl rfl rfl rfl rfl, .ss rfl rfl rfl, n, a, m, b, rfl, hA, hB, rfl⟩
def IsOneI (r : AV) (os : List AO) : Prop := ∃ k : Int, r = .val (.int .i64 k) ∧ (0 ≤ k ∧ k < 14) ∧ os = []
theorem drawRoots_c (bs : List Int) (hl : bs.length ≤ 1048576) (hbs : ∀ i, 0 ≤ geti bs i ∧ geti bs i ≤ 255) : AFn Try.prog 11 [.ro (byR bs)] IsOneI := by
  have hf := l01From_c bs hl hbs
  have h14 := l01Next_c bs hl hbs 14 (by omega)
  (refine AFn.start Try.func11 Try.ntmps11 rfl (by kernel_rfl) fun hk => ?_; simp only [Env.start, enumF, List.length_cons, List.length_nil, Nat.reduceAdd, Nat.reduceSub, List.cons_append, List.nil_append])
  repeat' (first | (apply AOps.nil; try simp only [List.nil_append, List.cons_append, List.set_cons_zero, List.set_cons_succ, List.length_cons, List.length_nil, Nat.reduceAdd, AV.sh, AV.sh1, AV.sh0, AO.sh, List.map_cons, List.map_nil, Nat.zero_add, Nat.add_zero, setAll]) | (apply w_move; exact rfl; exact rfl) | (apply w_assign; exact rfl; exact rfl) | apply AWp.seq | apply AWp.region | apply AWp.ret | (apply w_callsof (hf); exact rfl; (exact rdB_by _); exact rfl; try simp only [List.nil_append, List.cons_append, List.set_cons_zero, List.set_cons_succ, List.length_cons, List.length_nil, Nat.reduceAdd, AV.sh, AV.sh1, AV.sh0, AO.sh, List.map_cons, List.map_nil, Nat.zero_add, Nat.add_zero, setAll]) | (apply w_callso (h14); exact rfl; exact rfl; exact rfl; exact rfl; (exact rdB_by _); (rintro _ ⟨x, rfl, hx⟩)))
  exact ⟨_, _, _, .v1 Try.results11 rfl, .val _, x, rfl, by omega, rfl⟩
def IsTwoF (T : TypeId) (r : AV) (os : List AO) : Prop := ∃ n a f m b, r = .tup [.agg [.val (.int .i64 n), .own 0], .val (.int .i64 f), .agg [.val (.int .i64 m), .own 1]] ∧ DrA n a ∧ DrA m b ∧ (0 ≤ f ∧ f ≤ 55441) ∧ os = [.sli T a, .sli T b]
set_option maxHeartbeats 16000000 in
theorem drawAdd_c (bs : List Int) (hl : bs.length ≤ 1048576) (hbs : ∀ i, 0 ≤ geti bs i ∧ geti bs i ≤ 255) : AFn Try.prog 14 [.ro (byR bs)] (IsTwoF 2) := by
  have hf := l01From_c bs hl hbs
  have h2 := l16Two_c bs hl hbs
  have hp : AFnL Try.prog 40 73 bs [0, 1, 2, 55440, 55441] (fun rv => ∃ y, rv = .int .i64 y ∧ (y = 0 ∨ y = 1 ∨ y = 2 ∨ y = 55440 ∨ y = 55441)) :=
    (l01Pick_c bs hl hbs [0, 1, 2, 55440, 55441] ⟨by simp, by simp⟩).mono fun _ ⟨y, e, hy⟩ => ⟨y, e, by simp at hy; omega⟩
  (refine AFn.start Try.func14 Try.ntmps14 rfl (by kernel_rfl) fun hk => ?_; simp only [Env.start, enumF, List.length_cons, List.length_nil, Nat.reduceAdd, Nat.reduceSub, List.cons_append, List.nil_append])
  repeat' (first | (apply AOps.nil; try simp only [List.nil_append, List.cons_append, List.set_cons_zero, List.set_cons_succ, List.length_cons, List.length_nil, Nat.reduceAdd, AV.sh, AV.sh1, AV.sh0, AO.sh, List.map_cons, List.map_nil, Nat.zero_add, Nat.add_zero, setAll]) | (apply w_move; exact rfl; exact rfl) | (apply w_assign; exact rfl; exact rfl) | apply AWp.seq | apply AWp.region | (apply w_callsof (hf); exact rfl; (exact rdB_by _); exact rfl; try simp only [List.nil_append, List.cons_append, List.set_cons_zero, List.set_cons_succ, List.length_cons, List.length_nil, Nat.reduceAdd, AV.sh, AV.sh1, AV.sh0, AO.sh, List.map_cons, List.map_nil, Nat.zero_add, Nat.add_zero, setAll]) | (apply w_callm (h2); (focus ((repeat (first | exact im_nil | refine im_cons rfl (.ro _) ?_)); done)); rintro r os0 ⟨n, a, m, b, rfl, hA, hB, rfl⟩; try simp only [List.nil_append, List.cons_append, List.set_cons_zero, List.set_cons_succ, List.length_cons, List.length_nil, Nat.reduceAdd, AV.sh, AV.sh1, AV.sh0, AO.sh, List.map_cons, List.map_nil, Nat.zero_add, Nat.add_zero, setAll]) | ((apply w_ext); iterate 3 exact rfl) | (apply w_alst; iterate 2 exact rfl) | (apply w_stst; iterate 5 exact rfl))
  refine AWp.regionAI (ι := Int) (fun f => 0 ≤ f ∧ f ≤ 55441) (fun f => ⟨20, [(2, .optr 0 0), (3, .i f), (4, .optr 1 0)]⟩) (fun _ => [.bx 26 [.val (.int .i64 n), .own 3], .bx 26 [.val (.int .i64 m), .own 4], skO 73 bs (.ro (byR bs)), .sli 2 a, .sli 2 b]) (by kernel_rfl) rfl rfl ?_ ?_
  · repeat' (first | (apply AOps.nil; try simp only [List.nil_append, List.cons_append, List.set_cons_zero, List.set_cons_succ, List.length_cons, List.length_nil, Nat.reduceAdd, AV.sh, AV.sh1, AV.sh0, AO.sh, List.map_cons, List.map_nil, Nat.zero_add, Nat.add_zero, setAll]) | (apply w_move; exact rfl; exact rfl) | (apply w_assign; exact rfl; exact rfl) | (apply w_bs5; iterate 6 exact rfl) | (apply w_callsol (hp); exact rfl; exact rfl; exact rfl; exact rfl; (exact rdB_by _); exact rfl; (rintro _ ⟨y, rfl, hy⟩)) | (apply w_ldst; iterate 5 exact rfl) | (apply w_stst; iterate 5 exact rfl) | apply AllOf.nil | (apply AllOf.cons; exact rfl) | (apply AAny.take; exact rfl; exact rfl; kernel_rfl; kernel_rfl) | (apply AAny.all; exact rfl) | (apply AAny.done; exact rfl) | (apply inI_of <;> omega))
    all_goals refine ⟨y, by omega, ?_⟩
    all_goals (apply Or.inl; refine ⟨lee rfl ?_, ?_, rfl, rfl⟩; (focus ((repeat (first | exact le_nil | refine le_eq rfl rfl ?_)); done)); (focus ((repeat (first | exact lo_nil | refine lo_eq rfl ?_)); done)))
  rintro f hfr
  repeat' (apply AWp.ret)
  exact ⟨_, _, _, .ctc Try.results14 rfl rfl rfl rfl rfl rfl rfl, .sfs rfl rfl rfl, n, a, f, m, b, rfl, hA, hB, hfr, rfl⟩
set_option maxHeartbeats 4000000 in
theorem below_c (bs : List Int) (hl : bs.length ≤ 1048576) (hbs : ∀ i, 0 ≤ geti bs i ∧ geti bs i ≤ 255) (n : Int) (hn : n ≤ 4611686018427387904) :
    AFnS Try.prog 26 67 bs [.int .i64 n] (Nx n) := by
  (refine AFnS.start Try.func26 Try.ntmps26 rfl (by kernel_rfl) fun K vC at0 hh0 hI0 => ?_; simp only [Env.start, enumF, List.map_cons, List.map_nil, List.length_cons, List.length_nil, Nat.reduceAdd, Nat.reduceSub, Nat.zero_add, List.cons_append, List.nil_append])
  obtain ⟨⟨a0, a1⟩, h0⟩ := hI0
  have hb0 := hbs at0
  repeat' (first | (apply AOps.nil; try simp only [List.nil_append, List.cons_append, List.set_cons_zero, List.set_cons_succ, List.length_cons, List.length_nil, Nat.reduceAdd, AV.sh, AV.sh1, AV.sh0, AO.sh, List.map_cons, List.map_nil, Nat.zero_add, Nat.add_zero, setAll]) | (apply w_move; exact rfl; exact rfl) | (apply w_assign; exact rfl; exact rfl) | apply AWp.seq | apply AWp.region | ((apply AWp.condP; exact rfl) <;> intro h) | apply AWp.ret | apply AWp.skip | (apply AWp.regionQ; kernel_rfl; kernel_rfl) | ((first | apply w_nilck | apply w_convi); iterate 2 exact rfl) | (apply w_lenby; exact rfl; exact rfl; (exact rdB_ro _ _)) | (apply w_idxby; exact rfl; exact rfl; (exact rdB_ro _ _); exact rfl) | (apply w_ldby; exact rfl; exact rfl; (focus exact rfl)) | (apply w_umul; exact rfl; exact rfl; exact rfl; intro cU hU) | (apply w_uadd; exact rfl; exact rfl; exact rfl; intro cU hU) | (apply w_ushr; exact rfl; exact rfl; exact rfl; (focus (assumption)); intro cU hU) | (apply w_uand; exact rfl; exact rfl; exact rfl; (focus (assumption)); intro cU hU) | (apply w_convbi; exact rfl; exact rfl; exact hbs _) | omega | ((first | apply w_lss | apply w_add | apply w_ld | apply w_fa); iterate 3 exact rfl) | (apply w_rem; exact rfl; exact rfl; exact rfl; (focus (omega; done)); (focus (omega; done))) | (apply w_ldb; iterate 5 exact rfl) | (apply w_stbv; iterate 6 exact rfl) | (apply inI_of <;> omega))
  · exact ⟨_, _, _, .v1 Try.results26 rfl, ⟨0, rfl, by omega, by omega, fun _ => rfl⟩, ⟨⟨a0, a1⟩, h0⟩, _, rfl⟩
  · have hm := Int.emod_nonneg (cU + geti bs at0) (b := n) (by omega)
    have hm2 := Int.emod_lt_of_pos (cU + geti bs at0) (b := n) (by omega)
    exact ⟨_, _, _, .v1 Try.results26 rfl, ⟨_, rfl, hm, fun _ => hm2, fun _ => by omega⟩, ⟨⟨by omega, by omega⟩, by assumption⟩, _, rfl⟩
  · have hm := Int.emod_nonneg cU (b := n) (by omega)
    have hm2 := Int.emod_lt_of_pos cU (b := n) (by omega)
    exact ⟨_, _, _, .v1 Try.results26 rfl, ⟨_, rfl, hm, fun _ => hm2, fun _ => by omega⟩, ⟨⟨by omega, by omega⟩, by assumption⟩, _, rfl⟩
set_option maxHeartbeats 4000000 in
theorem roll_c (bs : List Int) (hl : bs.length ≤ 1048576) (hbs : ∀ i, 0 ≤ geti bs i ∧ geti bs i ≤ 255) (u : Int) : AFnG Try.prog 25 67 bs (.int .u64 u) := by
  (refine AFnG.start Try.func25 Try.ntmps25 rfl (by kernel_rfl) fun vC => ?_; simp only [Env.start, enumF, List.map_cons, List.map_nil, List.length_cons, List.length_nil, Nat.reduceAdd, Nat.reduceSub, Nat.zero_add, List.cons_append, List.nil_append])
  repeat' (first | (apply AOps.nil; try simp only [List.nil_append, List.cons_append, List.set_cons_zero, List.set_cons_succ, List.length_cons, List.length_nil, Nat.reduceAdd, AV.sh, AV.sh1, AV.sh0, AO.sh, List.map_cons, List.map_nil, Nat.zero_add, Nat.add_zero, setAll]) | (apply w_move; exact rfl; exact rfl) | (apply w_assign; exact rfl; exact rfl) | apply AWp.seq | apply AWp.region | apply AWp.block | ((first | apply w_convu | apply w_boxa); iterate 2 exact rfl) | (apply w_lenby; exact rfl; exact rfl; (exact rdB_ro _ _)) | (apply w_umul; exact rfl; exact rfl; exact rfl; intro cU hU) | (apply w_uadd; exact rfl; exact rfl; exact rfl; intro cU hU) | (apply w_build23; exact rfl; exact rfl; exact rfl; exact rfl; (exact one_rb); exact one_val rfl rfl) | omega)
  refine AWp.loop (ι := Nat × Int) (fun x => ⟨38, [(0, .ro (roB vC bs)), (5, .optr 0 0), (6, .i x.1)]⟩) (fun x => [skL 67 bs vC 0 x.2]) (fun x => x.1 ≤ bs.length ∧ (0 ≤ x.2 ∧ x.2 < 18446744073709551616)) (fun x => bs.length - x.1) (0, cU) ⟨Nat.zero_le _, hU⟩ ⟨lee rfl (by (repeat (first | exact le_nil | refine le_eq rfl rfl ?_))), by (repeat (first | exact lo_nil | refine lo_eq rfl ?_)), rfl, rfl⟩ ?_
  rintro ⟨i, hv⟩ ⟨i0, hh⟩
  simp only at i0 hh
  by_cases hi : i < bs.length
  · repeat' (first | (apply AOps.nil; try simp only [List.nil_append, List.cons_append, List.set_cons_zero, List.set_cons_succ, List.length_cons, List.length_nil, Nat.reduceAdd, AV.sh, AV.sh1, AV.sh0, AO.sh, List.map_cons, List.map_nil, Nat.zero_add, Nat.add_zero, setAll]) | (apply w_move; exact rfl; exact rfl) | (apply w_assign; exact rfl; exact rfl) | apply AWp.seq | apply AWp.region | ((apply AWp.condP; exact rfl) <;> intro h) | apply AWp.block | apply AWp.ret | apply AWp.exit | apply AWp.skip | (apply w_lenby; exact rfl; exact rfl; (exact rdB_ro _ _)) | omega | ((apply w_lss); iterate 3 exact rfl))
    have hw := wrap_u64 (IntKind.u64.wrap (IntKind.u64.wrap (hv * 1099511628211) + geti bs i) + 5)
    refine AWp.regionG [] (by kernel_rfl) (envC := ⟨38, [(0, .ro (roB vC bs)), (5, .optr 0 0), (6, .i i)]⟩) (osC := [skL 67 bs vC 0 (IntKind.u64.wrap (IntKind.u64.wrap (IntKind.u64.wrap (hv * 1099511628211) + geti bs i) + 5))]) rfl (by first | exact rfl | (simp [AO.lim, AV.lim, bL_lim]; done)) ?_ ?_
    · repeat' (first | (apply AOps.nil; try simp only [List.nil_append, List.cons_append, List.set_cons_zero, List.set_cons_succ, List.length_cons, List.length_nil, Nat.reduceAdd, AV.sh, AV.sh1, AV.sh0, AO.sh, List.map_cons, List.map_nil, Nat.zero_add, Nat.add_zero, setAll]) | (apply w_move; exact rfl; exact rfl) | ((first | apply w_umulx | apply w_uaddx | apply w_idx | apply w_ld | apply w_fa); iterate 3 exact rfl) | ((apply w_nilck); iterate 2 exact rfl) | (apply w_idxby; exact rfl; exact rfl; (exact rdB_ro _ _); exact rfl) | (apply w_ldby; exact rfl; exact rfl; (focus exact rfl)) | (apply w_convbu; exact rfl; exact rfl; exact hbs _) | apply AllOfG.nil | (apply AllOfG.consQ; exact rfl; exact rfl) | (apply AllOfG.consS; exact rfl; exact rfl) | (apply AAnyG.takeW; exact rfl; exact rfl; kernel_rfl; kernel_rfl) | (apply AAnyG.takeL; exact rfl; exact rfl; kernel_rfl) | (apply AAnyG.all; exact rfl) | (apply AAnyG.done; exact rfl) | omega | (apply w_ldb; iterate 5 exact rfl) | (apply w_stbv; iterate 6 exact rfl))
      all_goals (apply Or.inl; refine ⟨lee rfl ?_, ?_, rfl, (by first | exact rfl | (simp [AO.lim, AV.lim, bL_lim]; done))⟩; (focus ((repeat (first | exact le_nil | refine le_eq rfl rfl ?_)); done)); (focus ((repeat (first | exact lo_nil | refine lo_eq rfl ?_)); done)))
    generalize IntKind.u64.wrap (IntKind.u64.wrap (IntKind.u64.wrap (hv * 1099511628211) + geti bs i) + 5) = h2 at *
    repeat' (first | (apply AOps.nil; try simp only [List.nil_append, List.cons_append, List.set_cons_zero, List.set_cons_succ, List.length_cons, List.length_nil, Nat.reduceAdd, AV.sh, AV.sh1, AV.sh0, AO.sh, List.map_cons, List.map_nil, Nat.zero_add, Nat.add_zero, setAll]) | (apply w_move; exact rfl; exact rfl) | (apply w_assign; exact rfl; exact rfl) | apply AWp.region | ((apply w_add); iterate 3 exact rfl) | (apply inI_of <;> omega))
    exact ⟨(i + 1, h2), ⟨by simp only; omega, hw⟩, by simp only; omega, ⟨lee rfl (by (repeat (first | exact le_nil | refine le_eq rfl rfl ?_))), by (repeat (first | exact lo_nil | refine lo_eq rfl ?_)), rfl, rfl⟩⟩
  · repeat' (first | (apply AOps.nil; try simp only [List.nil_append, List.cons_append, List.set_cons_zero, List.set_cons_succ, List.length_cons, List.length_nil, Nat.reduceAdd, AV.sh, AV.sh1, AV.sh0, AO.sh, List.map_cons, List.map_nil, Nat.zero_add, Nat.add_zero, setAll]) | (apply w_move; exact rfl; exact rfl) | (apply w_assign; exact rfl; exact rfl) | apply AWp.seq | apply AWp.region | ((apply AWp.condP; exact rfl) <;> intro h) | apply AWp.block | apply AWp.ret | apply AWp.exit | apply AWp.skip | (apply w_lenby; exact rfl; exact rfl; (exact rdB_ro _ _)) | omega | ((apply w_lss); iterate 3 exact rfl))
    exact ⟨0, 0, hv, .v1 Try.results25 rfl, rfl, ⟨by omega, by omega⟩, hh⟩
theorem likeInts_t (xs : List Int) (hl : xs.length ≤ 1048576) : AFnV Try.prog 10 [.ints xs, .ints xs] (.bool true) := by
  (refine AFnV.start Try.func10 Try.ntmps10 rfl (by kernel_rfl) fun hk => ?_; simp only [Env.start, enumF, List.length_cons, List.length_nil, Nat.reduceAdd, Nat.reduceSub, List.cons_append, List.nil_append])
  repeat' (first | (apply AOps.nil; try simp only [List.nil_append, List.cons_append, List.set_cons_zero, List.set_cons_succ, List.length_cons, List.length_nil, Nat.reduceAdd, AV.sh, AV.sh1, AV.sh0, AO.sh, List.map_cons, List.map_nil, Nat.zero_add, Nat.add_zero, setAll]) | (apply w_move; exact rfl; exact rfl) | (apply w_assign; exact rfl; exact rfl) | apply AWp.seq | apply AWp.region | ((apply AWp.condP; exact rfl) <;> intro h) | apply AWp.block | apply AWp.ret | apply AWp.skip | (apply w_len; exact rfl; exact rfl; first | exact .ints _ | exact .intss _ | exact .sli rfl | exact .sls rfl | exact .slr rfl | exact .orow rfl | exact .nil) | omega | ((apply w_neq); iterate 3 exact rfl))
  all_goals try (exfalso; omega)
  refine AWp.loop (ι := Nat) (fun k => ⟨26, [(0, .ints xs), (1, .ints xs), (5, .i k)]⟩) (fun _ => []) (fun k => k ≤ xs.length) (fun k => xs.length - k) 0 (by omega) ⟨lee rfl (by (repeat (first | exact le_nil | refine le_eq rfl rfl ?_))), by (repeat (exact lo_nil)), rfl, rfl⟩ ?_
  intro k k0
  by_cases hk : k < xs.length
  · repeat' (first | (apply AOps.nil; try simp only [List.nil_append, List.cons_append, List.set_cons_zero, List.set_cons_succ, List.length_cons, List.length_nil, Nat.reduceAdd, AV.sh, AV.sh1, AV.sh0, AO.sh, List.map_cons, List.map_nil, Nat.zero_add, Nat.add_zero, setAll]) | (apply w_move; exact rfl; exact rfl) | (apply w_assign; exact rfl; exact rfl) | apply AWp.seq | apply AWp.region | ((apply AWp.condP; exact rfl) <;> intro h) | apply AWp.block | apply AWp.ret | apply AWp.exit | apply AWp.skip | (apply AWp.regionQ; kernel_rfl; kernel_rfl) | (apply w_len; exact rfl; exact rfl; first | exact .ints _ | exact .intss _ | exact .sli rfl | exact .sls rfl | exact .slr rfl | exact .orow rfl | exact .nil) | omega | ((first | apply w_lss | apply w_neq | apply w_add | apply w_idx | apply w_ld); iterate 3 exact rfl) | (apply inI_of <;> omega))
    all_goals try (exfalso; omega)
    exact ⟨k + 1, by omega, by omega, ⟨lee rfl (by (repeat (first | exact le_nil | refine le_eq rfl rfl ?_))), by (repeat (exact lo_nil)), rfl, rfl⟩⟩
  · repeat' (first | (apply AOps.nil; try simp only [List.nil_append, List.cons_append, List.set_cons_zero, List.set_cons_succ, List.length_cons, List.length_nil, Nat.reduceAdd, AV.sh, AV.sh1, AV.sh0, AO.sh, List.map_cons, List.map_nil, Nat.zero_add, Nat.add_zero, setAll]) | (apply w_move; exact rfl; exact rfl) | (apply w_assign; exact rfl; exact rfl) | apply AWp.seq | apply AWp.region | ((apply AWp.condP; exact rfl) <;> intro h) | apply AWp.block | apply AWp.ret | apply AWp.exit | apply AWp.skip | (apply AWp.regionQ; kernel_rfl; kernel_rfl) | (apply w_len; exact rfl; exact rfl; first | exact .ints _ | exact .intss _ | exact .sli rfl | exact .sls rfl | exact .slr rfl | exact .orow rfl | exact .nil) | omega | ((apply w_lss); iterate 3 exact rfl))
    all_goals exact .bool Try.results10 rfl rfl
theorem series9_t (n : Int) (xs : List Int) (hl : xs.length ≤ 1048576) : AFnV Try.prog 17 [.agg [.i n, .ints xs], .agg [.i n, .ints xs]] (.bool true) := by
  have hli := likeInts_t xs hl
  (refine AFnV.start Try.func17 Try.ntmps17 rfl (by kernel_rfl) fun hk => ?_; simp only [Env.start, enumF, List.length_cons, List.length_nil, Nat.reduceAdd, Nat.reduceSub, List.cons_append, List.nil_append])
  repeat' (first | (apply AOps.nil; try simp only [List.nil_append, List.cons_append, List.set_cons_zero, List.set_cons_succ, List.length_cons, List.length_nil, Nat.reduceAdd, AV.sh, AV.sh1, AV.sh0, AO.sh, List.map_cons, List.map_nil, Nat.zero_add, Nat.add_zero, setAll]) | ((apply AOps.splitP; exact rfl; exact rfl) <;> intro h) | (apply w_move; exact rfl; exact rfl) | (apply w_assign; exact rfl; exact rfl) | apply AWp.seq | apply AWp.region | apply AWp.ret | (apply w_skip; exact rfl) | (apply w_pickT; exact rfl; exact rfl; exact rfl) | (apply w_pickF; exact rfl; exact rfl; exact rfl) | (apply w_call (hli); exact rfl; exact rfl; focus ((repeat (first | exact im_nil | refine im_cons rfl (.ints _) ?_)); done)) | omega | ((first | apply w_eql | apply w_ld | apply w_fa); iterate 3 exact rfl) | ((apply w_boxa); iterate 2 exact rfl) | (apply w_ldb; iterate 5 exact rfl))
  all_goals first | exact .bool Try.results17 rfl rfl | (exfalso; omega)
theorem big_c (bs : List Int) : AFnV Try.prog 4 [.ro (byR bs)] (.bool (decide ((4096 : Int) < bs.length))) := by
  (refine AFnV.start Try.func4 Try.ntmps4 rfl (by kernel_rfl) fun hk => ?_; simp only [Env.start, enumF, List.length_cons, List.length_nil, Nat.reduceAdd, Nat.reduceSub, List.cons_append, List.nil_append])
  repeat' (first | (apply AOps.nil; try simp only [List.nil_append, List.cons_append, List.set_cons_zero, List.set_cons_succ, List.length_cons, List.length_nil, Nat.reduceAdd, AV.sh, AV.sh1, AV.sh0, AO.sh, List.map_cons, List.map_nil, Nat.zero_add, Nat.add_zero, setAll]) | (apply w_move; exact rfl; exact rfl) | (apply w_assign; exact rfl; exact rfl) | apply AWp.seq | apply AWp.region | apply AWp.ret | (apply w_lenby; exact rfl; exact rfl; (exact rdB_by _)) | ((apply w_gtr); iterate 3 exact rfl))
  exact .bool Try.results4 rfl rfl
end Go.Proofs.Ytkojhaoflgdjmaa
/-
  A list without its last zeros, as a part of what was handed in. No condition.
-/
namespace Go.Proofs.Ytkojhaoflgdjmaa
open Go Go.RowKit

set_option maxHeartbeats 2000000 in
theorem trimmed_k (a : Option Addr) (cap : Nat) (xs : List Int) (w : World) (hr : IntsAt w (fun _ => True) (.slice a xs.length cap) xs) :
    Calls Try.prog 42 #[.slice a xs.length cap] w fun e w' => e = .returned (.slice a (tlen xs xs.length) cap) ∧ w' = w := by
  obtain ⟨⟨a', cap', e0, h1, h2, h3⟩, h4⟩ := hr
  simp only [List.length_map] at e0 h1 h3
  cases e0
  unfold maxLen at h2
  have hx : xs.length ≤ 9223372036854775807 := by omega
  go_enter Try.func42, Try.ntmps42
  go_wp2
  go_loopg [0] xs.length (fun g s0 wr => ∃ n : Nat, n ≤ xs.length ∧ n ≤ g ∧ s0 = .slice a n cap ∧ wr = w ∧ tlen xs n = tlen xs xs.length)
  case atStart => exact ⟨xs.length, Nat.le_refl _, Nat.le_refl _, rfl, rfl, rfl⟩
  case round =>
    obtain ⟨n, hn, hg, rfl, rfl, ht⟩ := hrel
    cases n with
    | zero =>
      go_wp2
      go_ret
      exact ⟨by rw [← ht]; rfl, rfl⟩
    | succ m =>
      obtain ⟨b, off, rfl, _, hc⟩ := h3 (by omega)
      have hcm := hc m (.int .i64 (geti xs m)) (by simp [geti, List.getElem?_eq_getElem (show m < xs.length by omega)])
      by_cases hz : geti xs m = 0
      · rw [hz] at hcm
        go_wp2
        go_roundg m
        case measure => omega
        case rel => exact ⟨m, by omega, by omega, rfl, rfl, by rw [← ht, tlen, if_pos hz]⟩
      · have A0 : tlen xs xs.length = m + 1 := by rw [← ht, tlen, if_neg hz]
        generalize geti xs m = z at hcm hz
        go_wp2
        go_ret
        exact ⟨by rw [A0]; rfl, rfl⟩

section
variable {env : Env} {os : List AO} {d : Option Tmp} {ty : TypeId} {pos : String} {af : Array Edge} {g : Option (Nat × Bool)}
theorem q_trimmed {x : Operand} {ats : Array TypeId} {xs : List Int} (hx : AV.ev env x = .ints xs) :
    QOp Try.prog false ⟨d, .call { callee := .value (.func 42), args := [x].toArray, argTypes := ats }, ty, pos, af, g⟩ env os (.ints (xs.take (tlen xs xs.length))) := by
  have hbd : HasBody Try.prog 42 := ⟨_, _, Try.func42, by kernel_rfl, rfl⟩
  have htl := tlen_le xs xs.length
  intro base w gs tm hr
  have hxv := hr.ev x
  rw [hx] at hxv
  generalize hv : Act.eval ⟨tm, []⟩ x = v at hxv
  cases hxv with
  | ints h1 =>
    obtain ⟨⟨a, cap, rfl, e1, e2, e3⟩, e4⟩ := h1
    simp only [List.length_map] at e1 e3 hv
    have hread : ∀ w', Below w.heap.size w w' → IntsAt w' (fun _ => True) (.slice a xs.length cap) xs := fun w' hw' =>
      (IntsAt.mono (ok := okOf gs os) ⟨⟨a, cap, by simp, by simpa using e1, e2, by simpa using e3⟩, e4⟩ (Keeps.below hw')).mono (fun _ _ _ => ⟨trivial, rfl⟩)
    refine ⟨.slice a (tlen xs xs.length) cap, .ints ⟨⟨a, cap, ?_, ?_, e2, fun h0 => ?_⟩, fun y hy => e4 y (List.mem_of_mem_take hy)⟩, fun e => (by cases e), fun w' hw' => ?_⟩
    · simp [Nat.min_eq_left htl]
    · simp [Nat.min_eq_left htl]; omega
    · simp at h0
      obtain ⟨b, off, q1, q2, q3⟩ := e3 (by omega)
      refine ⟨b, off, q1, q2, fun i u hu => q3 i u ?_⟩
      rw [List.map_take, List.getElem?_take] at hu
      split at hu
      · exact hu
      · cases hu
    · unfold Oper.quietAt
      rw [run_call hbd [x] ats _ rfl]
      refine ⟨rfl, ?_⟩
      simp only [List.map_cons, List.map_nil, hv]
      refine (trimmed_k a cap xs w' (hread w' (hw' rfl))).mono ?_
      rintro e w'' ⟨rfl, rfl⟩
      exact ⟨rfl, fun _ => hw' rfl⟩
end
section
variable {env : Env} {os : List AO} {d : Tmp} {ty : TypeId} {pos : String} {af : Array Edge} {g : Option (Nat × Bool)} {l rest : List Oper} {K : APost} {q : Md}
theorem w_trimp {x : Operand} {ats : Array TypeId} {xs : List Int} (hx : evo env x = some (.ints xs)) (hw : wantedA l env ⟨some d, .call { callee := .value (.func 42), args := [x].toArray, argTypes := ats }, ty, pos, af, g⟩ = some true) (hq : q.wl = false)
    (h' : AOps Try.prog q l rest K (env.up d (.ints (xs.take (tlen xs xs.length)))) os) : AOps Try.prog q l (⟨some d, .call { callee := .value (.func 42), args := [x].toArray, argTypes := ats }, ty, pos, af, g⟩ :: rest) K env os :=
  AOps.qo hw (by rw [hq]; exact q_trimmed (ev_of hx)) h'
end
end Go.Proofs.Ytkojhaoflgdjmaa
/-
  Conjugate parametrisations: whether some conjugate of one is the other. No condition.
-/
namespace Go.Proofs.Ytkojhaoflgdjmaa
open Go Go.RowKit
attribute [local irreducible] AWp AOps ResIs Ret1 QOp LOp COp AFnV AFn Imms LeE LeO
set_option maxHeartbeats 1000000
set_option linter.unusedSimpArgs false
set_option linter.unusedVariables false

theorem rtA_in (n : Nat) : inF (rtL n) := srt_in (lst_in _ _) _
/-- The j-th conjugate. -/
def cjG (m : Nat) (b : List Int) (j : Nat) : List Int := conjK b (geti (rtL m) (j : Nat)) b.length
def acOk (m : Nat) (a b : List Int) : Prop := ∃ j : Nat, j < m ∧ trimL a = trimL (cjG m b j)
noncomputable instance (m : Nat) (a b : List Int) : Decidable (acOk m a b) := Classical.propDecidable _
noncomputable def acB (n : Int) (a : List Int) (m : Int) (b : List Int) : Bool := decide (isSerB n a = true ∧ isSerB m b = true ∧ n = m ∧ acOk m.toNat a b)
def acE (n : Int) (a : List Int) (m : Int) (b : List Int) : Int := if isSerB n a = true ∧ isSerB m b = true then 0 else 1
theorem acB_f {n : Int} {a : List Int} {m : Int} {b : List Int} (h : ¬ (isSerB n a = true ∧ isSerB m b = true ∧ n = m ∧ acOk m.toNat a b)) : false = acB n a m b := (decide_eq_false h).symm
theorem acB_t {n : Int} {a : List Int} {m : Int} {b : List Int} (h : isSerB n a = true ∧ isSerB m b = true ∧ n = m ∧ acOk m.toNat a b) : true = acB n a m b := (decide_eq_true h).symm

theorem l01Same_c (xs ys : List Int) : AFnV Try.prog 49 [.ints xs, .ints ys] (.bool (decide (xs = ys))) := by
  (refine AFnV.start Try.func49 Try.ntmps49 rfl (by kernel_rfl) fun hk0 => ?_; simp only [Env.start, enumF, List.length_cons, List.length_nil, Nat.reduceAdd, Nat.reduceSub, List.cons_append, List.nil_append])
  obtain ⟨k1, k2⟩ : ArgOk (.ints xs) := hk0 _ (by simp)
  obtain ⟨k3, k4⟩ : ArgOk (.ints ys) := hk0 _ (by simp)
  by_cases hl : xs.length = ys.length
  · repeat' (first | (apply AOps.nil; try simp only [List.nil_append, List.cons_append, List.set_cons_zero, List.set_cons_succ, List.length_cons, List.length_nil, Nat.reduceAdd, AV.sh, AV.sh1, AV.sh0, AO.sh, List.map_cons, List.map_nil, Nat.zero_add, Nat.add_zero, setAll]) | (apply w_move; exact rfl; exact rfl) | (apply w_assign; exact rfl; exact rfl) | apply AWp.seq | apply AWp.region | ((apply AWp.condP; exact rfl) <;> intro h) | apply AWp.block | apply AWp.ret | apply AWp.skip | (apply w_len; exact rfl; exact rfl; first | exact .ints _ | exact .intss _ | exact .sli rfl | exact .sls rfl | exact .slr rfl | exact .orow rfl | exact .nil) | omega | ((apply w_neq); iterate 3 exact rfl))
    refine AWp.loop (ι := Nat) (fun i => ⟨26, [(0, .ints xs), (1, .ints ys), (5, .i i)]⟩) (fun _ => []) (fun i => i ≤ xs.length ∧ xs.take i = ys.take i) (fun i => xs.length - i) 0 ⟨by omega, rfl⟩ ⟨lee rfl (by (repeat (first | exact le_nil | refine le_eq rfl rfl ?_))), by (repeat (exact lo_nil)), rfl, rfl⟩ ?_
    rintro i ⟨i0, i1⟩
    by_cases hi : i < xs.length
    · by_cases he : geti xs i = geti ys i
      · repeat' (first | (apply AOps.nil; try simp only [List.nil_append, List.cons_append, List.set_cons_zero, List.set_cons_succ, List.length_cons, List.length_nil, Nat.reduceAdd, AV.sh, AV.sh1, AV.sh0, AO.sh, List.map_cons, List.map_nil, Nat.zero_add, Nat.add_zero, setAll]) | (apply w_move; exact rfl; exact rfl) | (apply w_assign; exact rfl; exact rfl) | apply AWp.seq | apply AWp.region | ((apply AWp.condP; exact rfl) <;> intro h) | apply AWp.block | apply AWp.ret | apply AWp.exit | apply AWp.skip | (apply AWp.regionQ; kernel_rfl; kernel_rfl) | (apply w_len; exact rfl; exact rfl; first | exact .ints _ | exact .intss _ | exact .sli rfl | exact .sls rfl | exact .slr rfl | exact .orow rfl | exact .nil) | omega | ((first | apply w_lss | apply w_neq | apply w_add | apply w_idx | apply w_ld); iterate 3 exact rfl) | (apply inI_of <;> omega))
        refine ⟨i + 1, ⟨by omega, ?_⟩, by omega, ⟨lee rfl (by (repeat (first | exact le_nil | refine le_eq rfl rfl ?_))), by (repeat (exact lo_nil)), rfl, rfl⟩⟩
        rw [List.take_succ_eq_append_getElem hi, List.take_succ_eq_append_getElem (by omega), i1]
        simp only [geti, Int.toNat_natCast] at he
        rw [List.getD_eq_getElem?_getD, List.getD_eq_getElem?_getD, List.getElem?_eq_getElem hi, List.getElem?_eq_getElem (by omega)] at he
        simp only [Option.getD_some] at he
        rw [he]
      · repeat' (first | (apply AOps.nil; try simp only [List.nil_append, List.cons_append, List.set_cons_zero, List.set_cons_succ, List.length_cons, List.length_nil, Nat.reduceAdd, AV.sh, AV.sh1, AV.sh0, AO.sh, List.map_cons, List.map_nil, Nat.zero_add, Nat.add_zero, setAll]) | (apply w_move; exact rfl; exact rfl) | (apply w_assign; exact rfl; exact rfl) | apply AWp.seq | apply AWp.region | ((apply AWp.condP; exact rfl) <;> intro h) | apply AWp.block | apply AWp.ret | apply AWp.exit | apply AWp.skip | (apply AWp.regionQ; kernel_rfl; kernel_rfl) | (apply w_len; exact rfl; exact rfl; first | exact .ints _ | exact .intss _ | exact .sli rfl | exact .sls rfl | exact .slr rfl | exact .orow rfl | exact .nil) | omega | ((first | apply w_lss | apply w_neq | apply w_idx | apply w_ld); iterate 3 exact rfl))
        exact .bool Try.results49 rfl (decide_eq_false fun e => he (by rw [e])).symm
    · repeat' (first | (apply AOps.nil; try simp only [List.nil_append, List.cons_append, List.set_cons_zero, List.set_cons_succ, List.length_cons, List.length_nil, Nat.reduceAdd, AV.sh, AV.sh1, AV.sh0, AO.sh, List.map_cons, List.map_nil, Nat.zero_add, Nat.add_zero, setAll]) | (apply w_move; exact rfl; exact rfl) | (apply w_assign; exact rfl; exact rfl) | apply AWp.seq | apply AWp.region | ((apply AWp.condP; exact rfl) <;> intro h) | apply AWp.block | apply AWp.ret | apply AWp.exit | apply AWp.skip | (apply AWp.regionQ; kernel_rfl; kernel_rfl) | (apply w_len; exact rfl; exact rfl; first | exact .ints _ | exact .intss _ | exact .sli rfl | exact .sls rfl | exact .slr rfl | exact .orow rfl | exact .nil) | omega | ((apply w_lss); iterate 3 exact rfl))
      refine .bool Try.results49 rfl (decide_eq_true ?_).symm
      rw [List.take_of_length_le (by omega), List.take_of_length_le (by omega)] at i1
      exact i1
  · repeat' (first | (apply AOps.nil; try simp only [List.nil_append, List.cons_append, List.set_cons_zero, List.set_cons_succ, List.length_cons, List.length_nil, Nat.reduceAdd, AV.sh, AV.sh1, AV.sh0, AO.sh, List.map_cons, List.map_nil, Nat.zero_add, Nat.add_zero, setAll]) | (apply w_move; exact rfl; exact rfl) | (apply w_assign; exact rfl; exact rfl) | apply AWp.seq | apply AWp.region | ((apply AWp.condP; exact rfl) <;> intro h) | apply AWp.block | apply AWp.ret | apply AWp.skip | (apply w_len; exact rfl; exact rfl; first | exact .ints _ | exact .intss _ | exact .sli rfl | exact .sls rfl | exact .slr rfl | exact .orow rfl | exact .nil) | omega | ((apply w_neq); iterate 3 exact rfl))
    exact .bool Try.results49 rfl (decide_eq_false fun e => hl (by rw [e])).symm

theorem slicesEqual_c (xs ys : List Int) : AFnV Try.prog 47 [.ints xs, .ints ys] (.bool (decide (xs = ys))) := by
  (refine AFnV.start Try.func47 Try.ntmps47 rfl (by kernel_rfl) fun hk0 => ?_; simp only [Env.start, enumF, List.length_cons, List.length_nil, Nat.reduceAdd, Nat.reduceSub, List.cons_append, List.nil_append])
  obtain ⟨k1, k2⟩ : ArgOk (.ints xs) := hk0 _ (by simp)
  obtain ⟨k3, k4⟩ : ArgOk (.ints ys) := hk0 _ (by simp)
  by_cases hl : xs.length = ys.length
  · repeat' (first | (apply AOps.nil; try simp only [List.nil_append, List.cons_append, List.set_cons_zero, List.set_cons_succ, List.length_cons, List.length_nil, Nat.reduceAdd, AV.sh, AV.sh1, AV.sh0, AO.sh, List.map_cons, List.map_nil, Nat.zero_add, Nat.add_zero, setAll]) | (apply w_move; exact rfl; exact rfl) | (apply w_assign; exact rfl; exact rfl) | apply AWp.seq | apply AWp.region | ((apply AWp.condP; exact rfl) <;> intro h) | apply AWp.block | apply AWp.ret | apply AWp.skip | (apply w_len; exact rfl; exact rfl; first | exact .ints _ | exact .intss _ | exact .sli rfl | exact .sls rfl | exact .slr rfl | exact .orow rfl | exact .nil) | omega | ((apply w_neq); iterate 3 exact rfl))
    refine AWp.loop (ι := Nat) (fun i => ⟨26, [(0, .ints xs), (1, .ints ys), (12, .i xs.length), (13, .i i)]⟩) (fun _ => []) (fun i => i ≤ xs.length ∧ xs.take i = ys.take i) (fun i => xs.length - i) 0 ⟨by omega, rfl⟩ ⟨lee rfl (by (repeat (first | exact le_nil | refine le_eq rfl rfl ?_))), by (repeat (exact lo_nil)), rfl, rfl⟩ ?_
    rintro i ⟨i0, i1⟩
    by_cases hi : i < xs.length
    · by_cases he : geti xs i = geti ys i
      · repeat' (first | (apply AOps.nil; try simp only [List.nil_append, List.cons_append, List.set_cons_zero, List.set_cons_succ, List.length_cons, List.length_nil, Nat.reduceAdd, AV.sh, AV.sh1, AV.sh0, AO.sh, List.map_cons, List.map_nil, Nat.zero_add, Nat.add_zero, setAll]) | (apply w_move; exact rfl; exact rfl) | (apply w_assign; exact rfl; exact rfl) | apply AWp.seq | apply AWp.region | ((apply AWp.condP; exact rfl) <;> intro h) | apply AWp.block | apply AWp.ret | apply AWp.exit | apply AWp.skip | (apply AWp.regionQ; kernel_rfl; kernel_rfl) | omega | ((first | apply w_lss | apply w_neq | apply w_add | apply w_idx | apply w_ld); iterate 3 exact rfl) | (apply inI_of <;> omega))
        refine ⟨i + 1, ⟨by omega, ?_⟩, by omega, ⟨lee rfl (by (repeat (first | exact le_nil | refine le_eq rfl rfl ?_))), by (repeat (exact lo_nil)), rfl, rfl⟩⟩
        rw [List.take_succ_eq_append_getElem hi, List.take_succ_eq_append_getElem (by omega), i1]
        simp only [geti, Int.toNat_natCast] at he
        rw [List.getD_eq_getElem?_getD, List.getD_eq_getElem?_getD, List.getElem?_eq_getElem hi, List.getElem?_eq_getElem (by omega)] at he
        simp only [Option.getD_some] at he
        rw [he]
      · repeat' (first | (apply AOps.nil; try simp only [List.nil_append, List.cons_append, List.set_cons_zero, List.set_cons_succ, List.length_cons, List.length_nil, Nat.reduceAdd, AV.sh, AV.sh1, AV.sh0, AO.sh, List.map_cons, List.map_nil, Nat.zero_add, Nat.add_zero, setAll]) | (apply w_move; exact rfl; exact rfl) | (apply w_assign; exact rfl; exact rfl) | apply AWp.seq | apply AWp.region | ((apply AWp.condP; exact rfl) <;> intro h) | apply AWp.block | apply AWp.ret | apply AWp.exit | apply AWp.skip | (apply AWp.regionQ; kernel_rfl; kernel_rfl) | omega | ((first | apply w_lss | apply w_neq | apply w_idx | apply w_ld); iterate 3 exact rfl))
        exact .bool Try.results47 rfl (decide_eq_false fun e => he (by rw [e])).symm
    · repeat' (first | (apply AOps.nil; try simp only [List.nil_append, List.cons_append, List.set_cons_zero, List.set_cons_succ, List.length_cons, List.length_nil, Nat.reduceAdd, AV.sh, AV.sh1, AV.sh0, AO.sh, List.map_cons, List.map_nil, Nat.zero_add, Nat.add_zero, setAll]) | (apply w_move; exact rfl; exact rfl) | (apply w_assign; exact rfl; exact rfl) | apply AWp.seq | apply AWp.region | ((apply AWp.condP; exact rfl) <;> intro h) | apply AWp.block | apply AWp.ret | apply AWp.exit | apply AWp.skip | (apply AWp.regionQ; kernel_rfl; kernel_rfl) | omega | ((apply w_lss); iterate 3 exact rfl))
      refine .bool Try.results47 rfl (decide_eq_true ?_).symm
      rw [List.take_of_length_le (by omega), List.take_of_length_le (by omega)] at i1
      exact i1
  · repeat' (first | (apply AOps.nil; try simp only [List.nil_append, List.cons_append, List.set_cons_zero, List.set_cons_succ, List.length_cons, List.length_nil, Nat.reduceAdd, AV.sh, AV.sh1, AV.sh0, AO.sh, List.map_cons, List.map_nil, Nat.zero_add, Nat.add_zero, setAll]) | (apply w_move; exact rfl; exact rfl) | (apply w_assign; exact rfl; exact rfl) | apply AWp.seq | apply AWp.region | ((apply AWp.condP; exact rfl) <;> intro h) | apply AWp.block | apply AWp.ret | apply AWp.skip | (apply w_len; exact rfl; exact rfl; first | exact .ints _ | exact .intss _ | exact .sli rfl | exact .sls rfl | exact .slr rfl | exact .orow rfl | exact .nil) | omega | ((apply w_neq); iterate 3 exact rfl))
    exact .bool Try.results47 rfl (decide_eq_false fun e => hl (by rw [e])).symm

theorem tlen_last (xs : List Int) : ∀ n, tlen xs n = 0 ∨ geti xs ((tlen xs n - 1 : Nat) : Int) ≠ 0
  | 0 => .inl rfl
  | n + 1 => by
    rw [tlen]
    split
    · exact tlen_last xs n
    · rename_i h; right; simpa using h
theorem trim_eq (xs ys : List Int) : xs.take (tlen xs xs.length) = ys.take (tlen ys ys.length) ↔ trimL ys = trimL xs := by
  have key : ∀ zs : List Int, tlen zs zs.length ≠ 0 → zs.take (tlen zs zs.length) ≠ [] ∧ zs.take (tlen zs zs.length) ≠ [0] := by
    intro zs h
    have hl := tlen_le zs zs.length
    rcases tlen_last zs zs.length with h1 | h1
    · exact absurd h1 h
    · refine ⟨fun e => ?_, fun e => ?_⟩
      · have := congrArg List.length e
        rw [List.length_take] at this
        simp only [List.length_nil] at this
        omega
      · have h2 := congrArg List.length e
        rw [List.length_take] at h2
        simp only [List.length_cons, List.length_nil] at h2
        have h3 : tlen zs zs.length = 1 := by omega
        rw [h3] at e h1
        apply h1
        cases zs with
        | nil => simp at h2
        | cons z zs => simp at e; simp [geti, e]
  unfold trimL
  by_cases hx : tlen xs xs.length = 0
  · by_cases hy : tlen ys ys.length = 0
    · simp [hx, hy]
    · have := key ys hy
      rw [if_neg hy, if_pos hx, hx]
      simp only [List.take_zero]
      constructor
      · intro e; exact absurd e.symm this.1
      · intro e; exact absurd e this.2
  · by_cases hy : tlen ys ys.length = 0
    · have := key xs hx
      rw [if_pos hy, if_neg hx, hy]
      simp only [List.take_zero]
      constructor
      · intro e; exact absurd e this.1
      · intro e; exact absurd e.symm this.2
    · rw [if_neg hx, if_neg hy]
      exact ⟨fun e => e.symm, fun e => e.symm⟩

set_option maxHeartbeats 4000000 in
theorem specAreConjugate_c (n : Int) (a : List Int) (m : Int) (b : List Int) : AFnV Try.prog 23 [.agg [.i n, .ints a], .agg [.i m, .ints b]] (.tuple #[.bool (acB n a m b), .int .i64 (acE n a m b)]) := by
  (refine AFnV.start Try.func23 Try.ntmps23 rfl (by kernel_rfl) fun hk => ?_; simp only [Env.start, enumF, List.length_cons, List.length_nil, Nat.reduceAdd, Nat.reduceSub, List.cons_append, List.nil_append])
  have c1 := l16Is_c n a
  have c2 := l16Is_c m b
  cases h1 : isSerB n a with
  | false =>
    rw [h1] at c1
    repeat' (first | (apply AOps.nil; try simp only [List.nil_append, List.cons_append, List.set_cons_zero, List.set_cons_succ, List.length_cons, List.length_nil, Nat.reduceAdd, AV.sh, AV.sh1, AV.sh0, AO.sh, List.map_cons, List.map_nil, Nat.zero_add, Nat.add_zero, setAll]) | (apply w_move; exact rfl; exact rfl) | (apply w_assign; exact rfl; exact rfl) | apply AWp.seq | apply AWp.region | (apply AWp.condT; exact rfl) | apply AWp.ret | (apply w_skip; exact rfl) | (apply w_pickT; exact rfl; exact rfl; exact rfl) | (apply w_call (c1); exact rfl; exact rfl; focus ((repeat (first | exact im_nil | refine im_cons rfl (im_agg2 (.val _) (.ints _)) ?_)); done)) | ((first | apply w_not | apply w_boxa); iterate 2 exact rfl) | (apply w_ldst; iterate 5 exact rfl))
    exact .boolint Try.results23 rfl rfl (acB_f (by simp [h1])) (by simp [acE, h1])
  | true =>
  rw [h1] at c1
  cases h2 : isSerB m b with
  | false =>
    rw [h2] at c2
    repeat' (first | (apply AOps.nil; try simp only [List.nil_append, List.cons_append, List.set_cons_zero, List.set_cons_succ, List.length_cons, List.length_nil, Nat.reduceAdd, AV.sh, AV.sh1, AV.sh0, AO.sh, List.map_cons, List.map_nil, Nat.zero_add, Nat.add_zero, setAll]) | (apply w_move; exact rfl; exact rfl) | (apply w_assign; exact rfl; exact rfl) | apply AWp.seq | apply AWp.region | (apply AWp.condT; exact rfl) | apply AWp.ret | (apply w_pickF; exact rfl; exact rfl; exact rfl) | (apply w_call (c1); exact rfl; exact rfl; focus ((repeat (first | exact im_nil | refine im_cons rfl (im_agg2 (.val _) (.ints _)) ?_)); done)) | (apply w_call (c2); exact rfl; exact rfl; focus ((repeat (first | exact im_nil | refine im_cons rfl (im_agg2 (.val _) (.ints _)) ?_)); done)) | ((first | apply w_not | apply w_boxa); iterate 2 exact rfl) | (apply w_ldst; iterate 5 exact rfl))
    exact .boolint Try.results23 rfl rfl (acB_f (by simp [h2])) (by simp [acE, h2])
  | true =>
  rw [h2] at c2
  by_cases hnm : n = m
  · subst hnm
    obtain ⟨s1, s2, s3, s4, s5⟩ := isSerB_n h1
    obtain ⟨t1, t2, t3, t4, t5⟩ := isSerB_n h2
    obtain ⟨N, rfl⟩ := Int.eq_ofNat_of_zero_le (show 0 ≤ n by omega)
    have hr := l16Roots_c N (by omega)
    have rl := rtL_len N
    repeat' (first | (apply AOps.nil; try simp only [List.nil_append, List.cons_append, List.set_cons_zero, List.set_cons_succ, List.length_cons, List.length_nil, Nat.reduceAdd, AV.sh, AV.sh1, AV.sh0, AO.sh, List.map_cons, List.map_nil, Nat.zero_add, Nat.add_zero, setAll]) | (apply w_move; exact rfl; exact rfl) | (apply w_assign; exact rfl; exact rfl) | apply AWp.seq | apply AWp.region | ((apply AWp.condP; exact rfl) <;> intro h) | (apply AWp.condF; exact rfl) | apply AWp.block | apply AWp.ret | apply AWp.skip | (apply w_pickF; exact rfl; exact rfl; exact rfl) | (apply w_call (c1); exact rfl; exact rfl; focus ((repeat (first | exact im_nil | refine im_cons rfl (im_agg2 (.val _) (.ints _)) ?_)); done)) | (apply w_call (c2); exact rfl; exact rfl; focus ((repeat (first | exact im_nil | refine im_cons rfl (im_agg2 (.val _) (.ints _)) ?_)); done)) | (apply w_callm (hr); (focus ((repeat (first | exact im_nil | refine im_cons rfl (.val _) ?_)); done)); rintro r os0 ⟨rfl, rfl⟩; try simp only [List.nil_append, List.cons_append, List.set_cons_zero, List.set_cons_succ, List.length_cons, List.length_nil, Nat.reduceAdd, AV.sh, AV.sh1, AV.sh0, AO.sh, List.map_cons, List.map_nil, Nat.zero_add, Nat.add_zero, setAll]) | omega | ((first | apply w_neq | apply w_ld | apply w_fa); iterate 3 exact rfl) | ((first | apply w_not | apply w_boxa); iterate 2 exact rfl) | (apply w_ldb; iterate 5 exact rfl) | (apply w_ldst; iterate 5 exact rfl))
    refine AWp.loop (ι := Nat) (fun j => ⟨42, [(2, .optr 0 0), (3, .optr 1 0), (6, .own 2), (7, .i j)]⟩) (fun j => [.bx 26 [.i N, .ints a], .bx 26 [.i N, .ints b], .sli 2 (rtL N)]) (fun j => j ≤ N ∧ ∀ i : Nat, i < j → trimL a ≠ trimL (cjG N b i)) (fun j => N - j) 0 ⟨by omega, fun i hi => by omega⟩ ⟨lee rfl (by (repeat (first | exact le_nil | refine le_eq rfl rfl ?_))), by (repeat (first | exact lo_nil | refine lo_eq rfl ?_)), rfl, rfl⟩ ?_
    rintro j ⟨j0, j1⟩
    by_cases hj : j < N
    · have zr := rtA_in N (j : Nat)
      have zr' : 0 ≤ geti (rtL N) (((j : Int).toNat : Nat) : Int) ∧ geti (rtL N) (((j : Int).toNat : Nat) : Int) ≤ 55440 := zr
      have hcj := l16Conjugate_c N b h2 (geti (rtL N) (((j : Int).toNat : Nat) : Int)) zr'
      have eG : conjK b (geti (rtL N) (((j : Int).toNat : Nat) : Int)) b.length = cjG N b j := rfl
      rw [eG] at hcj
      have gl : (cjG N b j).length = b.length := conjK_len _ _ _
      have ht1 := l16Trim_c a (by omega) (by omega)
      have ht2 := l16Trim_c (cjG N b j) (by omega) (by omega)
      have hsm := l01Same_c (trimL a) (trimL (cjG N b j))
      repeat' (first | (apply AOps.nil; try simp only [List.nil_append, List.cons_append, List.set_cons_zero, List.set_cons_succ, List.length_cons, List.length_nil, Nat.reduceAdd, AV.sh, AV.sh1, AV.sh0, AO.sh, List.map_cons, List.map_nil, Nat.zero_add, Nat.add_zero, setAll]) | (apply w_move; exact rfl; exact rfl) | (apply w_assign; exact rfl; exact rfl) | apply AWp.seq | apply AWp.region | ((apply AWp.condP; exact rfl) <;> intro h) | apply AWp.block | apply AWp.ret | apply AWp.exit | apply AWp.skip | (apply w_len; exact rfl; exact rfl; first | exact .ints _ | exact .intss _ | exact .sli rfl | exact .sls rfl | exact .slr rfl | exact .orow rfl | exact .nil) | omega | ((apply w_lss); iterate 3 exact rfl))
      refine AWp.regionG [] (by kernel_rfl) (envC := ⟨42, [(2, .optr 0 0), (3, .optr 1 0), (6, .own 2), (7, .i j), (41, .b (decide (trimL a = trimL (cjG N b j))))]⟩) (osC := [.bx 26 [.i N, .ints a], .bx 26 [.i N, .ints b], .sli 2 (rtL N)]) rfl rfl ?_ ?_
      · repeat' (first | (apply AOps.nil; try simp only [List.nil_append, List.cons_append, List.set_cons_zero, List.set_cons_succ, List.length_cons, List.length_nil, Nat.reduceAdd, AV.sh, AV.sh1, AV.sh0, AO.sh, List.map_cons, List.map_nil, Nat.zero_add, Nat.add_zero, setAll]) | (apply w_move; exact rfl; exact rfl) | apply AllOfG.nil | (apply AllOfG.consQ; exact rfl; exact rfl) | (apply AllOfG.consS; exact rfl; exact rfl) | (apply AAnyG.takeW; exact rfl; exact rfl; kernel_rfl; kernel_rfl) | (apply AAnyG.takeL; exact rfl; exact rfl; kernel_rfl) | (apply AAnyG.all; exact rfl) | (apply AAnyG.done; exact rfl) | (apply w_callm (ht1); (focus ((repeat (first | exact im_nil | refine im_cons rfl (.ints _) ?_)); done)); rintro r os0 ⟨rfl, rfl⟩; try simp only [List.nil_append, List.cons_append, List.set_cons_zero, List.set_cons_succ, List.length_cons, List.length_nil, Nat.reduceAdd, AV.sh, AV.sh1, AV.sh0, AO.sh, List.map_cons, List.map_nil, Nat.zero_add, Nat.add_zero, setAll]) | (apply w_callm (hcj); (focus ((repeat (first | exact im_nil | refine im_cons rfl (.val _) ?_ | refine im_cons rfl (.ints _) ?_)); done)); rintro r os0 ⟨rfl, rfl⟩; try simp only [List.nil_append, List.cons_append, List.set_cons_zero, List.set_cons_succ, List.length_cons, List.length_nil, Nat.reduceAdd, AV.sh, AV.sh1, AV.sh0, AO.sh, List.map_cons, List.map_nil, Nat.zero_add, Nat.add_zero, setAll]) | (apply w_callm (ht2); (focus ((repeat (first | exact im_nil | refine im_cons rfl (.sli rfl) ?_)); done)); rintro r os0 ⟨rfl, rfl⟩; try simp only [List.nil_append, List.cons_append, List.set_cons_zero, List.set_cons_succ, List.length_cons, List.length_nil, Nat.reduceAdd, AV.sh, AV.sh1, AV.sh0, AO.sh, List.map_cons, List.map_nil, Nat.zero_add, Nat.add_zero, setAll]) | (apply w_call (hsm); exact rfl; exact rfl; focus ((repeat (first | exact im_nil | refine im_cons rfl (.sli rfl) ?_)); done)) | omega | ((first | apply w_idx | apply w_ld | apply w_fa); iterate 3 exact rfl) | (apply w_idxo; exact rfl; exact rfl; (exact .sli rfl); exact rfl) | (apply w_ldo; iterate 4 exact rfl) | (apply w_ldb; iterate 5 exact rfl))
        all_goals (apply Or.inl; refine ⟨lee rfl ?_, ?_, rfl, rfl⟩; (focus ((repeat (first | exact le_nil | refine le_eq rfl rfl ?_)); done)); (focus ((repeat (first | exact lo_nil | refine lo_eq rfl ?_)); done)))
      by_cases he : trimL a = trimL (cjG N b j)
      · rw [decide_eq_true he]
        repeat' (first | (apply AOps.nil; try simp only [List.nil_append, List.cons_append, List.set_cons_zero, List.set_cons_succ, List.length_cons, List.length_nil, Nat.reduceAdd, AV.sh, AV.sh1, AV.sh0, AO.sh, List.map_cons, List.map_nil, Nat.zero_add, Nat.add_zero, setAll]) | (apply w_assign; exact rfl; exact rfl) | apply AWp.seq | apply AWp.region | (apply AWp.condT; exact rfl) | apply AWp.ret)
        exact .boolint Try.results23 rfl rfl (acB_t ⟨h1, h2, rfl, j, by simpa using hj, he⟩) (by simp [acE, h1, h2])
      · rw [decide_eq_false he]
        repeat' (first | (apply AOps.nil; try simp only [List.nil_append, List.cons_append, List.set_cons_zero, List.set_cons_succ, List.length_cons, List.length_nil, Nat.reduceAdd, AV.sh, AV.sh1, AV.sh0, AO.sh, List.map_cons, List.map_nil, Nat.zero_add, Nat.add_zero, setAll]) | (apply w_move; exact rfl; exact rfl) | (apply w_assign; exact rfl; exact rfl) | apply AWp.region | (apply AWp.condF; exact rfl) | apply AWp.skip | ((apply w_add); iterate 3 exact rfl) | (apply inI_of <;> omega))
        refine ⟨j + 1, ⟨by omega, fun i hi => ?_⟩, by omega, ⟨lee rfl (by (repeat (first | exact le_nil | refine le_eq rfl rfl ?_))), by (repeat (first | exact lo_nil | refine lo_eq rfl ?_)), rfl, rfl⟩⟩
        by_cases e : i = j
        · subst e; exact he
        · exact j1 i (by omega)
    · have e : j = N := by omega
      subst e
      repeat' (first | (apply AOps.nil; try simp only [List.nil_append, List.cons_append, List.set_cons_zero, List.set_cons_succ, List.length_cons, List.length_nil, Nat.reduceAdd, AV.sh, AV.sh1, AV.sh0, AO.sh, List.map_cons, List.map_nil, Nat.zero_add, Nat.add_zero, setAll]) | (apply w_move; exact rfl; exact rfl) | (apply w_assign; exact rfl; exact rfl) | apply AWp.seq | apply AWp.region | ((apply AWp.condP; exact rfl) <;> intro h) | apply AWp.block | apply AWp.ret | apply AWp.exit | apply AWp.skip | (apply w_len; exact rfl; exact rfl; first | exact .ints _ | exact .intss _ | exact .sli rfl | exact .sls rfl | exact .slr rfl | exact .orow rfl | exact .nil) | omega | ((apply w_lss); iterate 3 exact rfl))
      refine .boolint Try.results23 rfl rfl (acB_f ?_) (by simp [acE, h1, h2])
      rintro ⟨_, _, _, i, hi, he⟩
      exact j1 i (by simpa using hi) he
  · repeat' (first | (apply AOps.nil; try simp only [List.nil_append, List.cons_append, List.set_cons_zero, List.set_cons_succ, List.length_cons, List.length_nil, Nat.reduceAdd, AV.sh, AV.sh1, AV.sh0, AO.sh, List.map_cons, List.map_nil, Nat.zero_add, Nat.add_zero, setAll]) | (apply w_move; exact rfl; exact rfl) | (apply w_assign; exact rfl; exact rfl) | apply AWp.seq | apply AWp.region | ((apply AWp.condP; exact rfl) <;> intro h) | (apply AWp.condF; exact rfl) | apply AWp.ret | apply AWp.skip | (apply w_pickF; exact rfl; exact rfl; exact rfl) | (apply w_call (c1); exact rfl; exact rfl; focus ((repeat (first | exact im_nil | refine im_cons rfl (im_agg2 (.val _) (.ints _)) ?_)); done)) | (apply w_call (c2); exact rfl; exact rfl; focus ((repeat (first | exact im_nil | refine im_cons rfl (im_agg2 (.val _) (.ints _)) ?_)); done)) | omega | ((first | apply w_neq | apply w_ld | apply w_fa); iterate 3 exact rfl) | ((first | apply w_not | apply w_boxa); iterate 2 exact rfl) | (apply w_ldb; iterate 5 exact rfl) | (apply w_ldst; iterate 5 exact rfl))
    exact .boolint Try.results23 rfl rfl (acB_f (by simp [hnm])) (by simp [acE, h1, h2])

set_option maxHeartbeats 4000000 in
theorem implAreConjugate_c (n : Int) (a : List Int) (m : Int) (b : List Int) : AFnV Try.prog 22 [.agg [.i n, .ints a], .agg [.i m, .ints b]] (.tuple #[.bool (acB n a m b), .int .i64 (acE n a m b)]) := by
  (refine AFnV.start Try.func22 Try.ntmps22 rfl (by kernel_rfl) fun hk => ?_; simp only [Env.start, enumF, List.length_cons, List.length_nil, Nat.reduceAdd, Nat.reduceSub, List.cons_append, List.nil_append])
  have c1 := implIsSeries_c n a
  have c2 := implIsSeries_c m b
  cases h1 : isSerB n a with
  | false =>
    rw [h1] at c1
    repeat' (first | (apply AOps.nil; try simp only [List.nil_append, List.cons_append, List.set_cons_zero, List.set_cons_succ, List.length_cons, List.length_nil, Nat.reduceAdd, AV.sh, AV.sh1, AV.sh0, AO.sh, List.map_cons, List.map_nil, Nat.zero_add, Nat.add_zero, setAll]) | (apply w_move; exact rfl; exact rfl) | (apply w_assign; exact rfl; exact rfl) | apply AWp.seq | apply AWp.region | (apply AWp.condT; exact rfl) | apply AWp.ret | (apply w_skip; exact rfl) | (apply w_pickT; exact rfl; exact rfl; exact rfl) | (apply w_call (c1); exact rfl; exact rfl; focus ((repeat (first | exact im_nil | refine im_cons rfl (im_agg2 (.val _) (.ints _)) ?_)); done)) | ((first | apply w_not | apply w_boxa); iterate 2 exact rfl) | (apply w_ldst; iterate 5 exact rfl))
    exact .boolint Try.results22 rfl rfl (acB_f (by simp [h1])) (by simp [acE, h1])
  | true =>
  rw [h1] at c1
  cases h2 : isSerB m b with
  | false =>
    rw [h2] at c2
    repeat' (first | (apply AOps.nil; try simp only [List.nil_append, List.cons_append, List.set_cons_zero, List.set_cons_succ, List.length_cons, List.length_nil, Nat.reduceAdd, AV.sh, AV.sh1, AV.sh0, AO.sh, List.map_cons, List.map_nil, Nat.zero_add, Nat.add_zero, setAll]) | (apply w_move; exact rfl; exact rfl) | (apply w_assign; exact rfl; exact rfl) | apply AWp.seq | apply AWp.region | (apply AWp.condT; exact rfl) | apply AWp.ret | (apply w_pickF; exact rfl; exact rfl; exact rfl) | (apply w_call (c1); exact rfl; exact rfl; focus ((repeat (first | exact im_nil | refine im_cons rfl (im_agg2 (.val _) (.ints _)) ?_)); done)) | (apply w_call (c2); exact rfl; exact rfl; focus ((repeat (first | exact im_nil | refine im_cons rfl (im_agg2 (.val _) (.ints _)) ?_)); done)) | ((first | apply w_not | apply w_boxa); iterate 2 exact rfl) | (apply w_ldst; iterate 5 exact rfl))
    exact .boolint Try.results22 rfl rfl (acB_f (by simp [h2])) (by simp [acE, h2])
  | true =>
  rw [h2] at c2
  by_cases hnm : n = m
  · subst hnm
    obtain ⟨s1, s2, s3, s4, s5⟩ := isSerB_n h1
    obtain ⟨t1, t2, t3, t4, t5⟩ := isSerB_n h2
    obtain ⟨N, rfl⟩ := Int.eq_ofNat_of_zero_le (show 0 ≤ n by omega)
    have hr := roots_c N (by omega)
    have rl := rtL_len N
    repeat' (first | (apply AOps.nil; try simp only [List.nil_append, List.cons_append, List.set_cons_zero, List.set_cons_succ, List.length_cons, List.length_nil, Nat.reduceAdd, AV.sh, AV.sh1, AV.sh0, AO.sh, List.map_cons, List.map_nil, Nat.zero_add, Nat.add_zero, setAll]) | (apply w_move; exact rfl; exact rfl) | (apply w_assign; exact rfl; exact rfl) | apply AWp.seq | apply AWp.region | ((apply AWp.condP; exact rfl) <;> intro h) | (apply AWp.condF; exact rfl) | apply AWp.block | apply AWp.ret | apply AWp.skip | (apply w_pickF; exact rfl; exact rfl; exact rfl) | (apply w_len; exact rfl; exact rfl; first | exact .ints _ | exact .intss _ | exact .sli rfl | exact .sls rfl | exact .slr rfl | exact .orow rfl | exact .nil) | ((first | apply w_trimp | apply w_neq | apply w_ld | apply w_fa); iterate 3 exact rfl) | (apply w_call (c1); exact rfl; exact rfl; focus ((repeat (first | exact im_nil | refine im_cons rfl (im_agg2 (.val _) (.ints _)) ?_)); done)) | (apply w_call (c2); exact rfl; exact rfl; focus ((repeat (first | exact im_nil | refine im_cons rfl (im_agg2 (.val _) (.ints _)) ?_)); done)) | (apply w_callm (hr); (focus ((repeat (first | exact im_nil | refine im_cons rfl (.val _) ?_)); done)); rintro r os0 ⟨rfl, rfl⟩; try simp only [List.nil_append, List.cons_append, List.set_cons_zero, List.set_cons_succ, List.length_cons, List.length_nil, Nat.reduceAdd, AV.sh, AV.sh1, AV.sh0, AO.sh, List.map_cons, List.map_nil, Nat.zero_add, Nat.add_zero, setAll]) | omega | ((first | apply w_not | apply w_boxa); iterate 2 exact rfl) | (apply w_ldb; iterate 5 exact rfl) | (apply w_ldst; iterate 5 exact rfl))
    refine AWp.loop (ι := Nat) (fun j => ⟨41, [(2, .optr 0 0), (3, .optr 1 0), (6, .ints (a.take (tlen a a.length))), (27, .own 2), (28, .i (rtL N).length), (29, .i j)]⟩) (fun j => [.bx 26 [.i N, .ints a], .bx 26 [.i N, .ints b], .sli 2 (rtL N)]) (fun j => j ≤ N ∧ ∀ i : Nat, i < j → trimL a ≠ trimL (cjG N b i)) (fun j => N - j) 0 ⟨by omega, fun i hi => by omega⟩ ⟨lee rfl (by (repeat (first | exact le_nil | refine le_eq rfl rfl ?_))), by (repeat (first | exact lo_nil | refine lo_eq rfl ?_)), rfl, rfl⟩ ?_
    rintro j ⟨j0, j1⟩
    by_cases hj : j < N
    · have zr := rtA_in N (j : Nat)
      have zr' : 0 ≤ geti (rtL N) (((j : Int).toNat : Nat) : Int) ∧ geti (rtL N) (((j : Int).toNat : Nat) : Int) ≤ 55440 := zr
      have hcj := conjugate_c N b h2 (geti (rtL N) (((j : Int).toNat : Nat) : Int)) zr'
      have eG : conjK b (geti (rtL N) (((j : Int).toNat : Nat) : Int)) b.length = cjG N b j := rfl
      rw [eG] at hcj
      have gl : (cjG N b j).length = b.length := conjK_len _ _ _
      have ht := trimmed_c 2 (cjG N b j) (by omega)
      have htl := tlen_le (cjG N b j) (cjG N b j).length
      have hsm := slicesEqual_c (((cjG N b j).drop 0).take (tlen (cjG N b j) (cjG N b j).length)) (a.take (tlen a a.length))
      have ed : decide (((cjG N b j).drop 0).take (tlen (cjG N b j) (cjG N b j).length) = a.take (tlen a a.length)) = decide (trimL a = trimL (cjG N b j)) := by
        rw [List.drop_zero]
        exact decide_eq_decide.2 (trim_eq _ _)
      rw [ed] at hsm
      by_cases he : trimL a = trimL (cjG N b j)
      · rw [decide_eq_true he] at hsm
        repeat' (first | (apply AOps.nil; try simp only [List.nil_append, List.cons_append, List.set_cons_zero, List.set_cons_succ, List.length_cons, List.length_nil, Nat.reduceAdd, AV.sh, AV.sh1, AV.sh0, AO.sh, List.map_cons, List.map_nil, Nat.zero_add, Nat.add_zero, setAll]) | (apply w_move; exact rfl; exact rfl) | (apply w_assign; exact rfl; exact rfl) | apply AWp.seq | apply AWp.region | ((apply AWp.condP; exact rfl) <;> intro h) | (apply AWp.condT; exact rfl) | apply AWp.block | apply AWp.ret | apply AWp.exit | apply AWp.skip | (apply w_callm (hcj); (focus ((repeat (first | exact im_nil | refine im_cons rfl (.val _) ?_ | refine im_cons rfl (.ints _) ?_)); done)); rintro r os0 ⟨rfl, rfl⟩; try simp only [List.nil_append, List.cons_append, List.set_cons_zero, List.set_cons_succ, List.length_cons, List.length_nil, Nat.reduceAdd, AV.sh, AV.sh1, AV.sh0, AO.sh, List.map_cons, List.map_nil, Nat.zero_add, Nat.add_zero, setAll]) | (apply w_callr (ht); exact rfl; exact rfl) | (apply w_call (hsm); exact rfl; exact rfl; focus ((repeat (first | exact im_nil | refine im_cons rfl (.ints _) ?_ | refine im_cons rfl (.osub rfl (by simp; omega)) ?_)); done)) | omega | ((first | apply w_lss | apply w_idx | apply w_ld | apply w_fa); iterate 3 exact rfl) | (apply w_idxo; exact rfl; exact rfl; (exact .sli rfl); exact rfl) | (apply w_ldo; iterate 4 exact rfl) | (apply w_ldb; iterate 5 exact rfl))
        exact .boolint Try.results22 rfl rfl (acB_t ⟨h1, h2, rfl, j, by simpa using hj, he⟩) (by simp [acE, h1, h2])
      · rw [decide_eq_false he] at hsm
        repeat' (first | (apply AOps.nil; try simp only [List.nil_append, List.cons_append, List.set_cons_zero, List.set_cons_succ, List.length_cons, List.length_nil, Nat.reduceAdd, AV.sh, AV.sh1, AV.sh0, AO.sh, List.map_cons, List.map_nil, Nat.zero_add, Nat.add_zero, setAll]) | (apply w_move; exact rfl; exact rfl) | (apply w_assign; exact rfl; exact rfl) | apply AWp.seq | apply AWp.region | ((apply AWp.condP; exact rfl) <;> intro h) | (apply AWp.condF; exact rfl) | apply AWp.block | apply AWp.ret | apply AWp.exit | apply AWp.skip | (apply w_callm (hcj); (focus ((repeat (first | exact im_nil | refine im_cons rfl (.val _) ?_ | refine im_cons rfl (.ints _) ?_)); done)); rintro r os0 ⟨rfl, rfl⟩; try simp only [List.nil_append, List.cons_append, List.set_cons_zero, List.set_cons_succ, List.length_cons, List.length_nil, Nat.reduceAdd, AV.sh, AV.sh1, AV.sh0, AO.sh, List.map_cons, List.map_nil, Nat.zero_add, Nat.add_zero, setAll]) | (apply w_callr (ht); exact rfl; exact rfl) | (apply w_call (hsm); exact rfl; exact rfl; focus ((repeat (first | exact im_nil | refine im_cons rfl (.ints _) ?_ | refine im_cons rfl (.osub rfl (by simp; omega)) ?_)); done)) | omega | ((first | apply w_lss | apply w_add | apply w_idx | apply w_ld | apply w_fa); iterate 3 exact rfl) | (apply w_idxo; exact rfl; exact rfl; (exact .sli rfl); exact rfl) | (apply w_ldo; iterate 4 exact rfl) | (apply w_ldb; iterate 5 exact rfl) | (apply inI_of <;> omega))
        refine ⟨j + 1, ⟨by omega, fun i hi => ?_⟩, by omega, ⟨lee rfl (by (repeat (first | exact le_nil | refine le_eq rfl rfl ?_))), by (repeat (first | exact lo_nil | refine lo_eq rfl ?_)), rfl, rfl⟩⟩
        by_cases e : i = j
        · subst e; exact he
        · exact j1 i (by omega)
    · have e : j = N := by omega
      subst e
      repeat' (first | (apply AOps.nil; try simp only [List.nil_append, List.cons_append, List.set_cons_zero, List.set_cons_succ, List.length_cons, List.length_nil, Nat.reduceAdd, AV.sh, AV.sh1, AV.sh0, AO.sh, List.map_cons, List.map_nil, Nat.zero_add, Nat.add_zero, setAll]) | (apply w_assign; exact rfl; exact rfl) | apply AWp.seq | apply AWp.region | ((apply AWp.condP; exact rfl) <;> intro h) | apply AWp.block | apply AWp.ret | apply AWp.exit | apply AWp.skip | omega | ((apply w_lss); iterate 3 exact rfl))
      refine .boolint Try.results22 rfl rfl (acB_f ?_) (by simp [acE, h1, h2])
      rintro ⟨_, _, _, i, hi, he⟩
      exact j1 i (by simpa using hi) he
  · repeat' (first | (apply AOps.nil; try simp only [List.nil_append, List.cons_append, List.set_cons_zero, List.set_cons_succ, List.length_cons, List.length_nil, Nat.reduceAdd, AV.sh, AV.sh1, AV.sh0, AO.sh, List.map_cons, List.map_nil, Nat.zero_add, Nat.add_zero, setAll]) | (apply w_move; exact rfl; exact rfl) | (apply w_assign; exact rfl; exact rfl) | apply AWp.seq | apply AWp.region | ((apply AWp.condP; exact rfl) <;> intro h) | (apply AWp.condF; exact rfl) | apply AWp.ret | apply AWp.skip | (apply w_pickF; exact rfl; exact rfl; exact rfl) | (apply w_call (c1); exact rfl; exact rfl; focus ((repeat (first | exact im_nil | refine im_cons rfl (im_agg2 (.val _) (.ints _)) ?_)); done)) | (apply w_call (c2); exact rfl; exact rfl; focus ((repeat (first | exact im_nil | refine im_cons rfl (im_agg2 (.val _) (.ints _)) ?_)); done)) | omega | ((first | apply w_neq | apply w_ld | apply w_fa); iterate 3 exact rfl) | ((first | apply w_not | apply w_boxa); iterate 2 exact rfl) | (apply w_ldb; iterate 5 exact rfl) | (apply w_ldst; iterate 5 exact rfl))
    exact .boolint Try.results22 rfl rfl (acB_f (by simp [hnm])) (by simp [acE, h1, h2])
end Go.Proofs.Ytkojhaoflgdjmaa
/-
  Parametrisations: sums. No condition.
-/
namespace Go.Proofs.Ytkojhaoflgdjmaa
open Go Go.RowKit
attribute [local irreducible] AWp AOps ResIs Ret1 QOp LOp COp AFnV AFn Imms LeE LeO
set_option maxHeartbeats 1000000
set_option linter.unusedSimpArgs false
set_option linter.unusedVariables false

def addLen (a b : List Int) : Nat := max a.length b.length
/-- a plus k times b, as far as b was walked. -/
def addK (a : List Int) (k : Int) (b : List Int) (m : Nat) : List Int := (List.range (addLen a b)).map fun i => if i < m then (geti a (i : Nat) + k * geti b (i : Nat)) % 55441 else geti a (i : Nat)
theorem addK_len (a : List Int) (k : Int) (b : List Int) (m : Nat) : (addK a k b m).length = addLen a b := by simp [addK]
theorem addK_get (a : List Int) (k : Int) (b : List Int) (m i : Nat) (h : i < addLen a b) (hm : m ≤ i) : geti (addK a k b m) i = geti a i := by
  have : ¬ i < m := by omega
  simp [addK, geti, h, this]
theorem addK_zero (a : List Int) (k : Int) (b : List Int) : over (List.replicate (addLen a b) 0) 0 (addLen a b) a = addK a k b 0 := by
  apply List.ext_getElem?
  intro i
  have h1 : a.length ≤ addLen a b := Nat.le_max_left _ _
  have hl : (a.take (addLen a b)).length = a.length := by simp; omega
  simp only [over, addK, List.take_zero, List.nil_append, Nat.zero_add, List.getElem?_append, hl, List.getElem?_map, Nat.not_lt_zero, if_false]
  by_cases hi : i < a.length
  · have h2 : i < addLen a b := by omega
    rw [if_pos hi, List.getElem?_take_of_lt h2]
    simp [h2, geti, hi]
  · rw [if_neg hi, Nat.min_eq_right h1]
    by_cases h2 : i < addLen a b
    · simp only [List.drop_replicate, List.getElem?_replicate]
      rw [if_pos (by omega)]
      simp [h2, geti, hi]
    · simp only [List.drop_replicate, List.getElem?_replicate]
      rw [if_neg (by omega)]
      simp [h2]
theorem addK_set (a : List Int) (k : Int) (b : List Int) (m : Nat) (h : m < addLen a b) : (addK a k b m).set m ((geti a m + k * geti b m) % 55441) = addK a k b (m + 1) := by
  apply List.ext_getElem?
  intro i
  rw [List.getElem?_set, addK_len]
  by_cases e : m = i
  · subst e
    simp [h, addK]
  · rw [if_neg e]
    simp only [addK, List.getElem?_map]
    by_cases h2 : i < addLen a b
    · simp only [List.getElem?_range h2, Option.map_some]
      by_cases h3 : i < m
      · rw [if_pos h3, if_pos (by omega)]
      · rw [if_neg h3, if_neg (by omega)]
    · rw [List.getElem?_eq_none (by simp; omega)]
      rfl

def addE (n : Int) (a : List Int) (k : Int) (m : Int) (b : List Int) : Int := if isSerB n a = true ∧ isSerB m b = true then (if 0 ≤ k ∧ k ≤ 55440 then (if n = m then 0 else 5) else 2) else 1
def addN (n : Int) (a : List Int) (k : Int) (m : Int) (b : List Int) : Int := if addE n a k m b = 0 then n else 0
def addL (n : Int) (a : List Int) (k : Int) (m : Int) (b : List Int) : List Int := if addE n a k m b = 0 then addK a k b b.length else []

theorem implAddSeries_c (n : Int) (a : List Int) (k : Int) (m : Int) (b : List Int) : AFn Try.prog 15 [.agg [.i n, .ints a], .i k, .agg [.i m, .ints b]] (IsSerE 2 (addN n a k m b) (addL n a k m b) (addE n a k m b)) := by
  (refine AFn.start Try.func15 Try.ntmps15 rfl (by kernel_rfl) fun hk => ?_; simp only [Env.start, enumF, List.length_cons, List.length_nil, Nat.reduceAdd, Nat.reduceSub, List.cons_append, List.nil_append])
  have c1 := implIsSeries_c n a
  have c2 := implIsSeries_c m b
  cases h1 : isSerB n a with
  | false =>
    rw [h1] at c1
    repeat' (first | (apply AOps.nil; try simp only [List.nil_append, List.cons_append, List.set_cons_zero, List.set_cons_succ, List.length_cons, List.length_nil, Nat.reduceAdd, AV.sh, AV.sh1, AV.sh0, AO.sh, List.map_cons, List.map_nil, Nat.zero_add, Nat.add_zero, setAll]) | (apply w_move; exact rfl; exact rfl) | (apply w_assign; exact rfl; exact rfl) | apply AWp.seq | apply AWp.region | (apply AWp.condT; exact rfl) | apply AWp.ret | (apply w_skip; exact rfl) | (apply w_pickT; exact rfl; exact rfl; exact rfl) | (apply w_call (c1); exact rfl; exact rfl; focus ((repeat (first | exact im_nil | refine im_cons rfl (im_agg2 (.val _) (.ints _)) ?_)); done)) | ((first | apply w_not | apply w_build0 | apply w_boxa); iterate 2 exact rfl) | (apply w_ldst; iterate 5 exact rfl) | (apply w_alst; iterate 2 exact rfl) | (apply w_stst; iterate 5 exact rfl))
    have e : addE n a k m b = 1 := by rw [addE, if_neg (by simp [h1])]
    exact ⟨_, _, _, .c1u Try.results15 rfl rfl rfl rfl, .tup2 (.agg2 (.nil 2)), by rw [addN, e]; rfl, by rw [addL, e]; rfl⟩
  | true =>
  rw [h1] at c1
  cases h2 : isSerB m b with
  | false =>
    rw [h2] at c2
    repeat' (first | (apply AOps.nil; try simp only [List.nil_append, List.cons_append, List.set_cons_zero, List.set_cons_succ, List.length_cons, List.length_nil, Nat.reduceAdd, AV.sh, AV.sh1, AV.sh0, AO.sh, List.map_cons, List.map_nil, Nat.zero_add, Nat.add_zero, setAll]) | (apply w_move; exact rfl; exact rfl) | (apply w_assign; exact rfl; exact rfl) | apply AWp.seq | apply AWp.region | (apply AWp.condT; exact rfl) | apply AWp.ret | (apply w_pickF; exact rfl; exact rfl; exact rfl) | (apply w_call (c1); exact rfl; exact rfl; focus ((repeat (first | exact im_nil | refine im_cons rfl (im_agg2 (.val _) (.ints _)) ?_)); done)) | (apply w_call (c2); exact rfl; exact rfl; focus ((repeat (first | exact im_nil | refine im_cons rfl (im_agg2 (.val _) (.ints _)) ?_)); done)) | ((first | apply w_not | apply w_build0 | apply w_boxa); iterate 2 exact rfl) | (apply w_ldst; iterate 5 exact rfl) | (apply w_alst; iterate 2 exact rfl) | (apply w_stst; iterate 5 exact rfl))
    have e : addE n a k m b = 1 := by rw [addE, if_neg (by simp [h2])]
    exact ⟨_, _, _, .c1u Try.results15 rfl rfl rfl rfl, .tup2 (.agg2 (.nil 2)), by rw [addN, e]; rfl, by rw [addL, e]; rfl⟩
  | true =>
  rw [h2] at c2
  obtain ⟨s1, s2, s3, s4, s5⟩ := isSerB_n h1
  obtain ⟨t1, t2, t3, t4, t5⟩ := isSerB_n h2
  have hL : addLen a b ≤ 81 := by unfold addLen; omega
  repeat' (first | (apply AOps.nil; try simp only [List.nil_append, List.cons_append, List.set_cons_zero, List.set_cons_succ, List.length_cons, List.length_nil, Nat.reduceAdd, AV.sh, AV.sh1, AV.sh0, AO.sh, List.map_cons, List.map_nil, Nat.zero_add, Nat.add_zero, setAll]) | (apply w_move; exact rfl; exact rfl) | (apply w_assign; exact rfl; exact rfl) | apply AWp.seq | apply AWp.region | ((apply AWp.condP; exact rfl) <;> intro h) | ((apply AWp.condN; exact rfl) <;> intro h) | (apply AWp.condF; exact rfl) | apply AWp.block | apply AWp.ret | apply AWp.skip | (apply w_pickF; exact rfl; exact rfl; exact rfl) | (apply w_len; exact rfl; exact rfl; first | exact .ints _ | exact .intss _ | exact .sli rfl | exact .sls rfl | exact .slr rfl | exact .orow rfl | exact .nil) | (apply w_call (c1); exact rfl; exact rfl; focus ((repeat (first | exact im_nil | refine im_cons rfl (im_agg2 (.val _) (.ints _)) ?_)); done)) | (apply w_call (c2); exact rfl; exact rfl; focus ((repeat (first | exact im_nil | refine im_cons rfl (im_agg2 (.val _) (.ints _)) ?_)); done)) | (apply w_call (isNumber_c _); exact rfl; exact rfl; focus ((repeat (first | exact im_nil | refine im_cons rfl (.val _) ?_)); done)) | ((first | apply w_neq | apply w_ld | apply w_fa | apply w_max); iterate 3 exact rfl) | ((first | apply w_not | apply w_build0 | apply w_boxa); iterate 2 exact rfl) | (apply w_ldb; iterate 5 exact rfl) | (apply w_ldst; iterate 5 exact rfl) | (apply w_copy; exact rfl; (exact .own rfl rfl rfl); exact rfl; rotate_left 1; exact rfl; (exact .ints _)) | (apply w_alst; iterate 2 exact rfl) | (apply w_mki; exact rfl; exact rfl; rotate_left 3; exact rfl; rotate_left 1) | (apply w_stst; iterate 5 exact rfl) | omega)
  · have e : addE n a k m b = 2 := by rw [addE, if_pos ⟨h1, h2⟩, if_neg (by assumption)]
    exact ⟨_, _, _, .c1u Try.results15 rfl rfl rfl rfl, .tup2 (.agg2 (.nil 2)), by rw [addN, e]; rfl, by rw [addL, e]; rfl⟩
  · have e : addE n a k m b = 5 := by rw [addE, if_pos ⟨h1, h2⟩, if_pos (by assumption), if_neg (by assumption)]
    exact ⟨_, _, _, .c1u Try.results15 rfl rfl rfl rfl, .tup2 (.agg2 (.nil 2)), by rw [addN, e]; rfl, by rw [addL, e]; rfl⟩
  have hkk : 0 ≤ k ∧ k ≤ 55440 := by assumption
  have hnm : n = m := by omega
  have eM : (max (a.length : Int) b.length).toNat = addLen a b := by unfold addLen; omega
  have eo : over (List.replicate (max (a.length : Int) b.length).toNat 0) 0 (List.replicate (max (a.length : Int) b.length).toNat (0 : Int)).length a = addK a k b 0 := by
    rw [List.length_replicate, eM, addK_zero]
  refine AWp.loop (ι := Nat) (fun i => ⟨67, [(1, .i k), (3, .optr 0 0), (6, .optr 2 0), (8, .own 3), (43, .ints b), (44, .i b.length), (45, .i i)]⟩)
    (fun i => [.bx 26 [.i n, .ints a], .dead, .bx 26 [.i 0, .val (.slice none 0 0)], .sli 2 (addK a k b i)]) (fun i => i ≤ b.length) (fun i => b.length - i) 0 (by omega) ⟨lee rfl (by (repeat (first | exact le_nil | refine le_eq rfl rfl ?_))), by (repeat (first | exact lo_nil | refine lo_dead ?_ | refine lo_eq rfl ?_ | refine lo_eq (congrArg (AO.sli _) (eo)) ?_)), rfl, rfl⟩ ?_
  rintro i h0
  have e1 := addK_len a k b i
  have e2 : i < b.length → i < addLen a b := fun h => by unfold addLen; omega
  by_cases hi : i < b.length
  · have e3 := e2 hi
    have e4 : geti (addK a k b i) ((i : Int).toNat : Nat) = geti a i := addK_get a k b i i e3 (Nat.le_refl _)
    have b1 := isSerB_get h1 i
    have b2 := isSerB_get h2 i
    have b3 := mulB hkk.1 hkk.2 b2.1 b2.2
    have b4 := modF (geti a i + k * geti b i)
    repeat' (first | (apply AOps.nil; try simp only [List.nil_append, List.cons_append, List.set_cons_zero, List.set_cons_succ, List.length_cons, List.length_nil, Nat.reduceAdd, AV.sh, AV.sh1, AV.sh0, AO.sh, List.map_cons, List.map_nil, Nat.zero_add, Nat.add_zero, setAll]) | (apply w_move; exact rfl; exact rfl) | (apply w_assign; exact rfl; exact rfl) | apply AWp.seq | apply AWp.region | ((apply AWp.condP; exact rfl) <;> intro h) | apply AWp.block | apply AWp.ret | apply AWp.exit | apply AWp.skip | ((first | apply w_lss | apply w_add | apply w_mul | apply w_idx | apply w_ld | apply w_fa); iterate 3 exact rfl) | (apply w_rem; exact rfl; exact rfl; exact rfl; (focus (omega; done)); (focus (omega; done))) | (apply w_idxo; exact rfl; exact rfl; (exact .sli rfl); exact rfl) | (apply w_ldo; iterate 4 exact rfl) | (apply w_ldb; iterate 5 exact rfl) | (apply w_build2; exact rfl; exact rfl; exact rfl; (exact one_val rfl rfl); (exact one_own rfl True.intro)) | (apply w_sti; exact rfl; exact rfl; rotate_left 1; exact rfl; rotate_left 2) | (apply w_stst; iterate 5 exact rfl) | (apply inI_of <;> omega) | omega)
    have e6 : (addK a k b i).set ((i : Int)).toNat ((geti (addK a k b i) ((i : Int).toNat : Nat) + k * geti b i) % 55441) = addK a k b (i + 1) := by
      rw [e4]; exact addK_set a k b i e3
    exact ⟨i + 1, by omega, by omega, ⟨lee rfl (by (repeat (first | exact le_nil | refine le_eq rfl rfl ?_))), by (repeat (first | exact lo_nil | refine lo_dead ?_ | refine lo_eq rfl ?_ | refine lo_eq (congrArg (AO.sli _) (e6)) ?_)), rfl, rfl⟩⟩
  · repeat' (first | (apply AOps.nil; try simp only [List.nil_append, List.cons_append, List.set_cons_zero, List.set_cons_succ, List.length_cons, List.length_nil, Nat.reduceAdd, AV.sh, AV.sh1, AV.sh0, AO.sh, List.map_cons, List.map_nil, Nat.zero_add, Nat.add_zero, setAll]) | (apply w_move; exact rfl; exact rfl) | (apply w_assign; exact rfl; exact rfl) | apply AWp.seq | apply AWp.region | ((apply AWp.condP; exact rfl) <;> intro h) | apply AWp.block | apply AWp.ret | apply AWp.exit | apply AWp.skip | ((first | apply w_lss | apply w_add | apply w_mul | apply w_idx | apply w_ld | apply w_fa); iterate 3 exact rfl) | (apply w_rem; exact rfl; exact rfl; exact rfl; (focus (omega; done)); (focus (omega; done))) | (apply w_idxo; exact rfl; exact rfl; (exact .sli rfl); exact rfl) | (apply w_ldo; iterate 4 exact rfl) | (apply w_ldb; iterate 5 exact rfl) | (apply w_build2; exact rfl; exact rfl; exact rfl; (exact one_val rfl rfl); (exact one_own rfl True.intro)) | (apply w_sti; exact rfl; exact rfl; rotate_left 1; exact rfl; rotate_left 2) | (apply w_stst; iterate 5 exact rfl) | (apply inI_of <;> omega) | omega)
    have e : i = b.length := by omega
    subst e
    have e5 : addE n a k m b = 0 := by rw [addE, if_pos ⟨h1, h2⟩, if_pos hkk, if_pos hnm]
    exact ⟨_, _, _, .c1u Try.results15 rfl rfl rfl rfl, .tup2 (.agg2 (.sli rfl)), by rw [addN, e5]; rfl, by rw [addL, e5]; rfl⟩

set_option maxHeartbeats 8000000 in
theorem specAddSeries_c (n : Int) (a : List Int) (k : Int) (m : Int) (b : List Int) : AFn Try.prog 16 [.agg [.i n, .ints a], .i k, .agg [.i m, .ints b]] (IsSerE 2 (addN n a k m b) (addL n a k m b) (addE n a k m b)) := by
  (refine AFn.start Try.func16 Try.ntmps16 rfl (by kernel_rfl) fun hk => ?_; simp only [Env.start, enumF, List.length_cons, List.length_nil, Nat.reduceAdd, Nat.reduceSub, List.cons_append, List.nil_append])
  have c1 := l16Is_c n a
  have c2 := l16Is_c m b
  cases h1 : isSerB n a with
  | false =>
    rw [h1] at c1
    repeat' (first | (apply AOps.nil; try simp only [List.nil_append, List.cons_append, List.set_cons_zero, List.set_cons_succ, List.length_cons, List.length_nil, Nat.reduceAdd, AV.sh, AV.sh1, AV.sh0, AO.sh, List.map_cons, List.map_nil, Nat.zero_add, Nat.add_zero, setAll]) | (apply w_move; exact rfl; exact rfl) | (apply w_assign; exact rfl; exact rfl) | apply AWp.seq | apply AWp.region | (apply AWp.condT; exact rfl) | apply AWp.block | apply AWp.ret | (apply w_skip; exact rfl) | (apply w_pickT; exact rfl; exact rfl; exact rfl) | (apply w_call (c1); exact rfl; exact rfl; focus ((repeat (first | exact im_nil | refine im_cons rfl (im_agg2 (.val _) (.ints _)) ?_)); done)) | ((first | apply w_not | apply w_build0 | apply w_boxa); iterate 2 exact rfl) | (apply w_ldst; iterate 5 exact rfl) | (apply w_alst; iterate 2 exact rfl) | (apply w_stst; iterate 5 exact rfl))
    have e : addE n a k m b = 1 := by rw [addE, if_neg (by simp [h1])]
    exact ⟨_, _, _, .c1u Try.results16 rfl rfl rfl rfl, .tup2 (.agg2 (.nil 2)), by rw [addN, e]; rfl, by rw [addL, e]; rfl⟩
  | true =>
  rw [h1] at c1
  cases h2 : isSerB m b with
  | false =>
    rw [h2] at c2
    repeat' (first | (apply AOps.nil; try simp only [List.nil_append, List.cons_append, List.set_cons_zero, List.set_cons_succ, List.length_cons, List.length_nil, Nat.reduceAdd, AV.sh, AV.sh1, AV.sh0, AO.sh, List.map_cons, List.map_nil, Nat.zero_add, Nat.add_zero, setAll]) | (apply w_move; exact rfl; exact rfl) | (apply w_assign; exact rfl; exact rfl) | apply AWp.seq | apply AWp.region | (apply AWp.condT; exact rfl) | apply AWp.block | apply AWp.ret | (apply w_pickF; exact rfl; exact rfl; exact rfl) | (apply w_call (c1); exact rfl; exact rfl; focus ((repeat (first | exact im_nil | refine im_cons rfl (im_agg2 (.val _) (.ints _)) ?_)); done)) | (apply w_call (c2); exact rfl; exact rfl; focus ((repeat (first | exact im_nil | refine im_cons rfl (im_agg2 (.val _) (.ints _)) ?_)); done)) | ((first | apply w_not | apply w_build0 | apply w_boxa); iterate 2 exact rfl) | (apply w_ldst; iterate 5 exact rfl) | (apply w_alst; iterate 2 exact rfl) | (apply w_stst; iterate 5 exact rfl))
    have e : addE n a k m b = 1 := by rw [addE, if_neg (by simp [h2])]
    exact ⟨_, _, _, .c1u Try.results16 rfl rfl rfl rfl, .tup2 (.agg2 (.nil 2)), by rw [addN, e]; rfl, by rw [addL, e]; rfl⟩
  | true =>
  rw [h2] at c2
  obtain ⟨s1, s2, s3, s4, s5⟩ := isSerB_n h1
  obtain ⟨t1, t2, t3, t4, t5⟩ := isSerB_n h2
  have hL : addLen a b ≤ 81 := by unfold addLen; omega
  repeat' (first | (apply AOps.nil; try simp only [List.nil_append, List.cons_append, List.set_cons_zero, List.set_cons_succ, List.length_cons, List.length_nil, Nat.reduceAdd, AV.sh, AV.sh1, AV.sh0, AO.sh, List.map_cons, List.map_nil, Nat.zero_add, Nat.add_zero, setAll]) | (apply w_move; exact rfl; exact rfl) | (apply w_assign; exact rfl; exact rfl) | apply AWp.seq | apply AWp.region | ((apply AWp.condP; exact rfl) <;> intro h) | ((apply AWp.condN; exact rfl) <;> intro h) | (apply AWp.condF; exact rfl) | apply AWp.block | apply AWp.ret | apply AWp.skip | (apply w_pickF; exact rfl; exact rfl; exact rfl) | (apply w_call (c1); exact rfl; exact rfl; focus ((repeat (first | exact im_nil | refine im_cons rfl (im_agg2 (.val _) (.ints _)) ?_)); done)) | (apply w_call (c2); exact rfl; exact rfl; focus ((repeat (first | exact im_nil | refine im_cons rfl (im_agg2 (.val _) (.ints _)) ?_)); done)) | (apply w_call (l01In_c _ _ _); exact rfl; exact rfl; focus ((repeat (first | exact im_nil | refine im_cons rfl (.val _) ?_)); done)) | ((first | apply w_neq | apply w_ld | apply w_fa); iterate 3 exact rfl) | ((first | apply w_not | apply w_build0 | apply w_boxa); iterate 2 exact rfl) | (apply w_ldb; iterate 5 exact rfl) | (apply w_ldst; iterate 5 exact rfl) | (apply w_alst; iterate 2 exact rfl) | (apply w_stst; iterate 5 exact rfl))
  · have e : addE n a k m b = 2 := by rw [addE, if_pos ⟨h1, h2⟩, if_neg (by assumption)]
    exact ⟨_, _, _, .c1u Try.results16 rfl rfl rfl rfl, .tup2 (.agg2 (.nil 2)), by rw [addN, e]; rfl, by rw [addL, e]; rfl⟩
  · have e : addE n a k m b = 5 := by rw [addE, if_pos ⟨h1, h2⟩, if_pos (by assumption), if_neg (by assumption)]
    exact ⟨_, _, _, .c1u Try.results16 rfl rfl rfl rfl, .tup2 (.agg2 (.nil 2)), by rw [addN, e]; rfl, by rw [addL, e]; rfl⟩
  have hkk : 0 ≤ k ∧ k ≤ 55440 := by assumption
  have hnm : n = m := by omega
  have eM : (max (a.length : Int) b.length).toNat = addLen a b := by unfold addLen; omega
  have eo : over (List.replicate (max (a.length : Int) b.length).toNat 0) 0 (List.replicate (max (a.length : Int) b.length).toNat (0 : Int)).length a = addK a k b 0 := by
    rw [List.length_replicate, eM, addK_zero]
  refine AWp.regionA (by kernel_rfl) (envC := ⟨74, [(1, .i k), (3, .optr 0 0), (5, .optr 1 0), (6, .optr 2 0), (8, .optr 4 0)]⟩) (osC := [.bx 26 [.i n, .ints a], .bx 26 [.i m, .ints b], .bx 26 [.i 0, .val (.slice none 0 0)], .sli 2 (List.replicate (max (a.length : Int) b.length).toNat (0 : Int)), .bx 26 [.i n, .own 3]]) rfl rfl ?_ ?_
  · repeat' (first | (apply AOps.nil; try simp only [List.nil_append, List.cons_append, List.set_cons_zero, List.set_cons_succ, List.length_cons, List.length_nil, Nat.reduceAdd, AV.sh, AV.sh1, AV.sh0, AO.sh, List.map_cons, List.map_nil, Nat.zero_add, Nat.add_zero, setAll]) | (apply w_len; exact rfl; exact rfl; first | exact .ints _ | exact .intss _ | exact .sli rfl | exact .sls rfl | exact .slr rfl | exact .orow rfl | exact .nil) | ((first | apply w_ld | apply w_fa | apply w_max); iterate 3 exact rfl) | (apply w_ldb; iterate 5 exact rfl) | (apply w_build2; exact rfl; exact rfl; exact rfl; (exact one_val rfl rfl); (exact one_own rfl True.intro)) | (apply w_alst; iterate 2 exact rfl) | (apply w_mki; exact rfl; exact rfl; rotate_left 3; exact rfl; rotate_left 1) | (apply w_stst; iterate 5 exact rfl) | apply AllOf.nil | (apply AllOf.cons; exact rfl) | (apply AAny.take; exact rfl; exact rfl; kernel_rfl; kernel_rfl) | (apply AAny.all; exact rfl) | (apply AAny.done; exact rfl) | omega)
    all_goals (first | (apply Or.inl; refine ⟨lee rfl ?_, ?_, rfl, rfl⟩; (focus ((repeat (first | exact le_nil | refine le_eq rfl rfl ?_)); done)); (focus ((repeat (first | exact lo_nil | refine lo_eq rfl ?_)); done))) | (apply Or.inr; refine ⟨[0, 1, 2, 4, 3], ⟨by decide, fun x hx => Nat.lt_of_lt_of_le ((by decide : ∀ x ∈ ([0, 1, 2, 4, 3] : List Nat), x < 5) x hx) (Nat.le_of_ble_eq_true rfl)⟩, lee rfl ?_, ?_, rfl, rfl⟩; (focus ((repeat (first | exact le_nil | refine le_eq rfl rfl ?_)); done)); (focus ((repeat (first | exact lo_nil | refine lo_eq rfl ?_)); done))))
  repeat' (first | (apply AOps.nil; try simp only [List.nil_append, List.cons_append, List.set_cons_zero, List.set_cons_succ, List.length_cons, List.length_nil, Nat.reduceAdd, AV.sh, AV.sh1, AV.sh0, AO.sh, List.map_cons, List.map_nil, Nat.zero_add, Nat.add_zero, setAll]) | (apply w_assign; exact rfl; exact rfl) | apply AWp.seq | apply AWp.region | apply AWp.block | ((first | apply w_ld | apply w_fa); iterate 3 exact rfl) | (apply w_ldb; iterate 5 exact rfl) | (apply w_copy; exact rfl; (exact .own rfl rfl rfl); exact rfl; rotate_left 1; exact rfl; (exact .ints _)) | omega)
  refine AWp.loop (ι := Nat) (fun i => ⟨74, [(1, .i k), (3, .optr 0 0), (5, .optr 1 0), (6, .optr 2 0), (8, .optr 4 0), (9, .i i)]⟩)
    (fun i => [.bx 26 [.i n, .ints a], .bx 26 [.i m, .ints b], .bx 26 [.i 0, .val (.slice none 0 0)], .sli 2 (addK a k b i), .bx 26 [.i n, .own 3]]) (fun i => i ≤ b.length) (fun i => b.length - i) 0 (by omega) ⟨lee rfl (by (repeat (first | exact le_nil | refine le_eq rfl rfl ?_))), by (repeat (first | exact lo_nil | refine lo_eq rfl ?_ | refine lo_eq (congrArg (AO.sli _) (eo)) ?_)), rfl, rfl⟩ ?_
  rintro i h0
  have e1 := addK_len a k b i
  have e2 : i < b.length → i < addLen a b := fun h => by unfold addLen; omega
  by_cases hi : i < b.length
  · have e3 := e2 hi
    have e4 : geti (addK a k b i) ((i : Int).toNat : Nat) = geti a i := addK_get a k b i i e3 (Nat.le_refl _)
    have b1 := isSerB_get h1 i
    have b2 := isSerB_get h2 i
    have b3 := mulB hkk.1 hkk.2 b2.1 b2.2
    have b4 := modF (geti a i + k * geti b i)
    have e6 : (addK a k b i).set ((i : Int)).toNat ((geti (addK a k b i) ((i : Int).toNat : Nat) + k * geti b i) % 55441) = addK a k b (i + 1) := by
      rw [e4]; exact addK_set a k b i e3
    repeat' (first | (apply AOps.nil; try simp only [List.nil_append, List.cons_append, List.set_cons_zero, List.set_cons_succ, List.length_cons, List.length_nil, Nat.reduceAdd, AV.sh, AV.sh1, AV.sh0, AO.sh, List.map_cons, List.map_nil, Nat.zero_add, Nat.add_zero, setAll]) | (apply w_move; exact rfl; exact rfl) | (apply w_assign; exact rfl; exact rfl) | apply AWp.seq | apply AWp.region | ((apply AWp.condP; exact rfl) <;> intro h) | apply AWp.block | apply AWp.ret | apply AWp.exit | apply AWp.skip | (apply w_len; exact rfl; exact rfl; first | exact .ints _ | exact .intss _ | exact .sli rfl | exact .sls rfl | exact .slr rfl | exact .orow rfl | exact .nil) | ((first | apply w_lss | apply w_ld | apply w_fa); iterate 3 exact rfl) | (apply w_ldb; iterate 5 exact rfl) | (apply w_ldst; iterate 5 exact rfl) | (apply w_stst; iterate 5 exact rfl) | omega)
    refine AWp.regionA (by kernel_rfl) (envC := ⟨74, [(1, .i k), (3, .optr 0 0), (5, .optr 1 0), (6, .optr 2 0), (8, .optr 4 0), (9, .i i)]⟩) (osC := [.bx 26 [.i n, .ints a], .bx 26 [.i m, .ints b], .bx 26 [.i 0, .val (.slice none 0 0)], .sli 2 ((addK a k b i).set ((i : Int)).toNat ((geti (addK a k b i) ((i : Int).toNat : Nat) + k * geti b i) % 55441)), .bx 26 [.i n, .own 3]]) rfl rfl ?_ ?_
    · repeat' (first | (apply AOps.nil; try simp only [List.nil_append, List.cons_append, List.set_cons_zero, List.set_cons_succ, List.length_cons, List.length_nil, Nat.reduceAdd, AV.sh, AV.sh1, AV.sh0, AO.sh, List.map_cons, List.map_nil, Nat.zero_add, Nat.add_zero, setAll]) | (apply w_move; exact rfl; exact rfl) | ((first | apply w_add | apply w_mul | apply w_idx | apply w_ld | apply w_fa); iterate 3 exact rfl) | (apply w_rem; exact rfl; exact rfl; exact rfl; (focus (omega; done)); (focus (omega; done))) | (apply w_idxo; exact rfl; exact rfl; (exact .sli rfl); exact rfl) | (apply w_ldo; iterate 4 exact rfl) | (apply w_ldb; iterate 5 exact rfl) | (apply w_sti; exact rfl; exact rfl; rotate_left 1; exact rfl; rotate_left 2) | apply AllOf.nil | (apply AllOf.cons; exact rfl) | (apply AAny.take; exact rfl; exact rfl; kernel_rfl; kernel_rfl) | (apply AAny.all; exact rfl) | (apply AAny.done; exact rfl) | (apply inI_of <;> omega) | omega)
      all_goals (apply Or.inl; refine ⟨lee rfl ?_, ?_, rfl, rfl⟩; (focus ((repeat (first | exact le_nil | refine le_eq rfl rfl ?_)); done)); (focus ((repeat (first | exact lo_nil | refine lo_eq rfl ?_)); done)))
    repeat' (first | (apply AOps.nil; try simp only [List.nil_append, List.cons_append, List.set_cons_zero, List.set_cons_succ, List.length_cons, List.length_nil, Nat.reduceAdd, AV.sh, AV.sh1, AV.sh0, AO.sh, List.map_cons, List.map_nil, Nat.zero_add, Nat.add_zero, setAll]) | (apply w_move; exact rfl; exact rfl) | (apply w_assign; exact rfl; exact rfl) | apply AWp.region | ((apply w_add); iterate 3 exact rfl) | (apply inI_of <;> omega))
    exact ⟨i + 1, by omega, by omega, ⟨lee rfl (by (repeat (first | exact le_nil | refine le_eq rfl rfl ?_))), by (repeat (first | exact lo_nil | refine lo_eq rfl ?_ | refine lo_eq (congrArg (AO.sli _) (e6)) ?_)), rfl, rfl⟩⟩
  · repeat' (first | (apply AOps.nil; try simp only [List.nil_append, List.cons_append, List.set_cons_zero, List.set_cons_succ, List.length_cons, List.length_nil, Nat.reduceAdd, AV.sh, AV.sh1, AV.sh0, AO.sh, List.map_cons, List.map_nil, Nat.zero_add, Nat.add_zero, setAll]) | (apply w_move; exact rfl; exact rfl) | (apply w_assign; exact rfl; exact rfl) | apply AWp.seq | apply AWp.region | ((apply AWp.condP; exact rfl) <;> intro h) | apply AWp.block | apply AWp.ret | apply AWp.exit | apply AWp.skip | (apply w_len; exact rfl; exact rfl; first | exact .ints _ | exact .intss _ | exact .sli rfl | exact .sls rfl | exact .slr rfl | exact .orow rfl | exact .nil) | ((first | apply w_lss | apply w_ld | apply w_fa); iterate 3 exact rfl) | (apply w_ldb; iterate 5 exact rfl) | (apply w_ldst; iterate 5 exact rfl) | (apply w_stst; iterate 5 exact rfl) | omega)
    have e : i = b.length := by omega
    subst e
    have e5 : addE n a k m b = 0 := by rw [addE, if_pos ⟨h1, h2⟩, if_pos hkk, if_pos hnm]
    exact ⟨_, _, _, .c1u Try.results16 rfl rfl rfl rfl, .tup2 (.agg2 (.sli rfl)), by rw [addN, e5]; rfl, by rw [addL, e5]; rfl⟩
end Go.Proofs.Ytkojhaoflgdjmaa
/-
  The law of contacts. No condition.
-/
namespace Go.Proofs.Ytkojhaoflgdjmaa
open Go Go.RowKit
theorem AWp.cut {P : Program} {c : Code} {N : APost} {X : Nat → APost} {Rt : APost} {env env' : Env} {os os' : List AO} (f : Fit env os env' os' ∨ ∃ σ, FitS σ env os env' os') (h : AWp P c N X Rt env' os') : AWp P c N X Rt env os := by
  intro base w0 w gs tm hr hb
  rcases f with f | ⟨σ, f⟩
  · obtain ⟨gs2, r2⟩ := hr.fit f
    exact h base w0 w gs2 tm r2 hb
  · obtain ⟨gs2, r2⟩ := hr.fits f
    exact h base w0 w gs2 tm r2 hb
attribute [local irreducible] AWp AOps ResIs Ret1 QOp LOp COp AFnV AFn Imms LeE LeO
set_option maxHeartbeats 1000000
set_option linter.unusedSimpArgs false
set_option linter.unusedVariables false

theorem csL_len3 (n : Int) (a : List Int) (m : Int) (b : List Int) : (csL n a m b).length ≤ 1048576 := by
  unfold csL
  split
  · rename_i h
    rw [ctL_len]
    unfold csE at h
    split at h
    · rename_i h1
      have := isSerB_n h1.2
      omega
    · cases h
  · simp
theorem addL_len3 (n : Int) (a : List Int) (k : Int) (m : Int) (b : List Int) (ha : a.length ≤ 30) (hb : b.length ≤ 30) : (addL n a k m b).length ≤ 1048576 := by
  unfold addL; split
  · rw [addK_len]; unfold addLen; omega
  · simp
theorem muL_len3 (n : Int) (a : List Int) (m : Int) (b : List Int) : (muL n a m b).length ≤ 1048576 := by
  unfold muL; split
  · have := trimL_len (prd a b ((80 : Int) + 1).toNat a.length)
    rw [prd_len] at this
    omega
  · simp
theorem in_zero {n : Int} {a : List Int} {m : Int} {b : List Int} (h : csE n a m b ≠ 0) : inA n a m b = 0 := by unfold inA; rw [if_neg h]
theorem ro_mem {m x : Int} (ro2 : roL m = rtL m.toNat) (ro4 : 1 ≤ (roL m).length) (hx : 0 ≤ x ∧ (1 ≤ ((roL m).length : Int) → x < ((roL m).length : Int)) ∧ (((roL m).length : Int) < 1 → x = 0)) : geti (roL m) (x.toNat : Nat) ∈ rtL m.toNat := by
  have h1 := hx.2.1 (by omega)
  have h2 : x.toNat < (roL m).length := by omega
  have e : geti (roL m) (x.toNat : Nat) = (roL m)[x.toNat] := by rw [geti, Int.toNat_natCast, List.getD_eq_getElem?_getD, List.getElem?_eq_getElem h2]; rfl
  rw [← ro2, e]
  exact List.getElem_mem _
/-- What is known where there is an intersection number. -/
structure InOk (n : Int) (a : List Int) (m : Int) (b : List Int) : Prop where
  sw : csE m b n a = 0 ∧ inA m b n a = inA n a m b
  ro : roE m = 0 ∧ roL m = rtL m.toNat ∧ (roL m).length = (csL n a m b).length ∧ 1 ≤ (roL m).length
theorem in_ok {n : Int} {a : List Int} {m : Int} {b : List Int} (h : csE n a m b = 0) : InOk n a m b := by
  refine ⟨in_swap h, ?_⟩
  have h0 := h
  unfold csE at h
  split at h
  · rename_i h1
    have hM := isSerB_n h1.2
    have e1 : roL m = rtL m.toNat := by unfold roL; rw [if_pos ⟨hM.1, hM.2.1⟩]
    refine ⟨by unfold roE; rw [if_pos ⟨hM.1, hM.2.1⟩], e1, ?_, by rw [e1, rtL_len]; omega⟩
    unfold csL
    rw [if_pos h0, ctL_len, e1, rtL_len]
  · cases h
set_option maxRecDepth 8000 in
set_option maxHeartbeats 64000000 in
theorem lawContacts_c (bs : List Int) (hbs : ∀ x ∈ bs, 0 ≤ x ∧ x ≤ 255) : AFnV Try.prog 3 [.ro (byR bs)] (.bool true) := by
  have hb0 : ∀ i, 0 ≤ geti bs i ∧ geti bs i ≤ 255 := fun i => by
    unfold geti
    rw [List.getD_eq_getElem?_getD]
    cases h : bs[i.toNat]? with
    | none => simp
    | some x => exact hbs x (List.mem_of_getElem? h)
  have hbig := big_c bs
  (refine AFnV.start Try.func3 Try.ntmps3 rfl (by kernel_rfl) fun hk => ?_; simp only [Env.start, enumF, List.length_cons, List.length_nil, Nat.reduceAdd, Nat.reduceSub, List.cons_append, List.nil_append])
  by_cases hl : (4096 : Int) < bs.length
  · rw [decide_eq_true hl] at hbig
    repeat' (first | (apply AOps.nil; try simp only [List.nil_append, List.cons_append, List.set_cons_zero, List.set_cons_succ, List.length_cons, List.length_nil, Nat.reduceAdd, AV.sh, AV.sh1, AV.sh0, AO.sh, List.map_cons, List.map_nil, Nat.zero_add, Nat.add_zero, setAll]) | (apply w_move; exact rfl; exact rfl) | (apply w_assign; exact rfl; exact rfl) | apply AWp.seq | apply AWp.region | (apply AWp.condT; exact rfl) | apply AWp.ret | (apply w_call (hbig); exact rfl; exact rfl; focus ((repeat (first | exact im_nil | refine im_cons rfl (.ro _) ?_)); done)))
    all_goals exact .bool Try.results3 rfl rfl
  rw [decide_eq_false hl] at hbig
  have hl2 : bs.length ≤ 1048576 := by omega
  have hd1 := drawInt_c bs hl2 hb0
  have hd2 := drawRoots_c bs hl2 hb0
  have hd3 := drawAdd_c bs hl2 hb0
  have hd4 := drawMul_c bs hl2 hb0
  have hd5 := drawAre_c bs hl2 hb0
  have hcs : ∀ n a m b, AFnV Try.prog 10 [.ints (csL n a m b), .ints (csL n a m b)] (.bool true) := fun n a m b => likeInts_t _ (csL_len3 n a m b)
  have hro : ∀ k, AFnV Try.prog 10 [.ints (roL k), .ints (roL k)] (.bool true) := fun k => likeInts_t _ (by have := roL_len k; omega)
  have hmu : ∀ n a m b, AFnV Try.prog 17 [.agg [.i (muN n a m b), .ints (muL n a m b)], .agg [.i (muN n a m b), .ints (muL n a m b)]] (.bool true) := fun n a m b => series9_t _ _ (muL_len3 n a m b)
  repeat' (first | (apply AOps.nil; try simp only [List.nil_append, List.cons_append, List.set_cons_zero, List.set_cons_succ, List.length_cons, List.length_nil, Nat.reduceAdd, AV.sh, AV.sh1, AV.sh0, AO.sh, List.map_cons, List.map_nil, Nat.zero_add, Nat.add_zero, setAll]) | ((apply AOps.splitP; exact rfl; exact rfl) <;> intro h) | (apply w_move; exact rfl; exact rfl) | (apply w_assign; exact rfl; exact rfl) | apply AWp.seq | apply AWp.region | ((apply AWp.condP; exact rfl) <;> intro h) | (apply AWp.condT; exact rfl) | (apply AWp.condF; exact rfl) | apply AWp.ret | apply AWp.skip | (apply w_skip; exact rfl) | (apply w_pickT; exact rfl; exact rfl; exact rfl) | (apply w_pickF; exact rfl; exact rfl; exact rfl) | ((apply w_not); iterate 2 exact rfl) | (apply w_call (hbig); exact rfl; exact rfl; focus ((repeat (first | exact im_nil | refine im_cons rfl (.ro _) ?_)); done)) | (apply w_callm (hd1); (focus ((repeat (first | exact im_nil | refine im_cons rfl (.ro _) ?_)); done)); rintro r os0 ⟨n, a, m, b, rfl, hA, hB, rfl⟩; try simp only [List.nil_append, List.cons_append, List.set_cons_zero, List.set_cons_succ, List.length_cons, List.length_nil, Nat.reduceAdd, AV.sh, AV.sh1, AV.sh0, AO.sh, List.map_cons, List.map_nil, Nat.zero_add, Nat.add_zero, setAll]) | (apply w_call (implIntersectionOf_c _ _ _ _); exact rfl; exact rfl; focus ((repeat (first | exact im_nil | refine im_cons rfl (im_agg2 (.val _) (.sli rfl)) ?_)); done)) | (apply w_call (specIntersectionOf_c _ _ _ _); exact rfl; exact rfl; focus ((repeat (first | exact im_nil | refine im_cons rfl (im_agg2 (.val _) (.sli rfl)) ?_)); done)) | (apply w_callm (implContactsOf_c _ _ _ _); (focus ((repeat (first | exact im_nil | refine im_cons rfl (im_agg2 (.val _) (.sli rfl)) ?_)); done)); rintro r os0 ⟨rfl, rfl⟩; try simp only [List.nil_append, List.cons_append, List.set_cons_zero, List.set_cons_succ, List.length_cons, List.length_nil, Nat.reduceAdd, AV.sh, AV.sh1, AV.sh0, AO.sh, List.map_cons, List.map_nil, Nat.zero_add, Nat.add_zero, setAll]) | (apply w_callm (specContactsOf_c _ _ _ _); (focus ((repeat (first | exact im_nil | refine im_cons rfl (im_agg2 (.val _) (.sli rfl)) ?_)); done)); rintro r os0 ⟨rfl, rfl⟩; try simp only [List.nil_append, List.cons_append, List.set_cons_zero, List.set_cons_succ, List.length_cons, List.length_nil, Nat.reduceAdd, AV.sh, AV.sh1, AV.sh0, AO.sh, List.map_cons, List.map_nil, Nat.zero_add, Nat.add_zero, setAll]) | (apply w_call (hcs _ _ _ _); exact rfl; exact rfl; focus ((repeat (first | exact im_nil | refine im_cons rfl (.sli rfl) ?_)); done)) | (apply w_callm (hd2); (focus ((repeat (first | exact im_nil | refine im_cons rfl (.ro _) ?_)); done)); rintro r os0 ⟨k, rfl, hk2, rfl⟩; try simp only [List.nil_append, List.cons_append, List.set_cons_zero, List.set_cons_succ, List.length_cons, List.length_nil, Nat.reduceAdd, AV.sh, AV.sh1, AV.sh0, AO.sh, List.map_cons, List.map_nil, Nat.zero_add, Nat.add_zero, setAll]) | (apply w_callm (implRootsOf_c _); (focus ((repeat (first | exact im_nil | refine im_cons rfl (.val _) ?_)); done)); rintro r os0 ⟨rfl, rfl⟩; try simp only [List.nil_append, List.cons_append, List.set_cons_zero, List.set_cons_succ, List.length_cons, List.length_nil, Nat.reduceAdd, AV.sh, AV.sh1, AV.sh0, AO.sh, List.map_cons, List.map_nil, Nat.zero_add, Nat.add_zero, setAll]) | (apply w_callm (specRootsOf_c _); (focus ((repeat (first | exact im_nil | refine im_cons rfl (.val _) ?_)); done)); rintro r os0 ⟨rfl, rfl⟩; try simp only [List.nil_append, List.cons_append, List.set_cons_zero, List.set_cons_succ, List.length_cons, List.length_nil, Nat.reduceAdd, AV.sh, AV.sh1, AV.sh0, AO.sh, List.map_cons, List.map_nil, Nat.zero_add, Nat.add_zero, setAll]) | (apply w_call (hro _); exact rfl; exact rfl; focus ((repeat (first | exact im_nil | refine im_cons rfl (.sli rfl) ?_)); done)) | (apply w_callm (hd3); (focus ((repeat (first | exact im_nil | refine im_cons rfl (.ro _) ?_)); done)); rintro r os0 ⟨n2, a2, f2, m2, b2, rfl, hA2, hB2, hf2, rfl⟩; try simp only [List.nil_append, List.cons_append, List.set_cons_zero, List.set_cons_succ, List.length_cons, List.length_nil, Nat.reduceAdd, AV.sh, AV.sh1, AV.sh0, AO.sh, List.map_cons, List.map_nil, Nat.zero_add, Nat.add_zero, setAll]) | omega | ((first | apply w_neq | apply w_extv); iterate 3 exact rfl) | ((apply w_ext); iterate 3 exact rfl) | (apply w_ldst; iterate 5 exact rfl) | (apply w_alst; iterate 2 exact rfl) | (apply w_stst; iterate 5 exact rfl))
  all_goals try (exfalso; omega)
  have had := series9_t (addN n2 a2 f2 m2 b2) (addL n2 a2 f2 m2 b2) (addL_len3 n2 a2 f2 m2 b2 hA2.2.1 hB2.2.1)
  repeat' (first | (apply AOps.nil; try simp only [List.nil_append, List.cons_append, List.set_cons_zero, List.set_cons_succ, List.length_cons, List.length_nil, Nat.reduceAdd, AV.sh, AV.sh1, AV.sh0, AO.sh, List.map_cons, List.map_nil, Nat.zero_add, Nat.add_zero, setAll]) | ((apply AOps.splitP; exact rfl; exact rfl) <;> intro h) | (apply w_move; exact rfl; exact rfl) | (apply w_assign; exact rfl; exact rfl) | apply AWp.seq | apply AWp.region | (apply AWp.condT; exact rfl) | (apply AWp.condF; exact rfl) | apply AWp.ret | apply AWp.skip | (apply w_skip; exact rfl) | (apply w_pickT; exact rfl; exact rfl; exact rfl) | (apply w_pickF; exact rfl; exact rfl; exact rfl) | ((apply w_not); iterate 2 exact rfl) | (apply w_callm (implAddSeries_c _ _ _ _ _); (focus ((repeat (first | exact im_nil | refine im_cons rfl (.val _) ?_ | refine im_cons rfl (im_agg2 (.val _) (.sli rfl)) ?_)); done)); rintro r os0 ⟨rfl, rfl⟩; try simp only [List.nil_append, List.cons_append, List.set_cons_zero, List.set_cons_succ, List.length_cons, List.length_nil, Nat.reduceAdd, AV.sh, AV.sh1, AV.sh0, AO.sh, List.map_cons, List.map_nil, Nat.zero_add, Nat.add_zero, setAll]) | (apply w_callm (specAddSeries_c _ _ _ _ _); (focus ((repeat (first | exact im_nil | refine im_cons rfl (.val _) ?_ | refine im_cons rfl (im_agg2 (.val _) (.sli rfl)) ?_)); done)); rintro r os0 ⟨rfl, rfl⟩; try simp only [List.nil_append, List.cons_append, List.set_cons_zero, List.set_cons_succ, List.length_cons, List.length_nil, Nat.reduceAdd, AV.sh, AV.sh1, AV.sh0, AO.sh, List.map_cons, List.map_nil, Nat.zero_add, Nat.add_zero, setAll]) | (apply w_call (had); exact rfl; exact rfl; focus ((repeat (first | exact im_nil | refine im_cons rfl (im_agg2 (.val _) (.sli rfl)) ?_)); done)) | (apply w_callm (hd4); (focus ((repeat (first | exact im_nil | refine im_cons rfl (.ro _) ?_)); done)); rintro r os0 ⟨n3, a3, m3, b3, rfl, hA3, hB3, rfl⟩; try simp only [List.nil_append, List.cons_append, List.set_cons_zero, List.set_cons_succ, List.length_cons, List.length_nil, Nat.reduceAdd, AV.sh, AV.sh1, AV.sh0, AO.sh, List.map_cons, List.map_nil, Nat.zero_add, Nat.add_zero, setAll]) | omega | ((first | apply w_neq | apply w_extv); iterate 3 exact rfl) | ((apply w_ext); iterate 3 exact rfl) | (apply w_ldst; iterate 5 exact rfl) | (apply w_alst; iterate 2 exact rfl) | (apply w_stst; iterate 5 exact rfl))
  all_goals try (exfalso; omega)
  by_cases hE3 : muE n3 a3 m3 b3 = 0
  · obtain ⟨q1, q2, q3⟩ := mu_comm hE3
    have hm3 := implMultiplySeries_c m3 b3 n3 a3
    rw [q1, q2, q3] at hm3
    have hm1 := implMultiplySeries_c n3 a3 m3 b3
    have hm2 := specMultiplySeries_c n3 a3 m3 b3
    rw [hE3] at hm1 hm2
    repeat' (first | (apply AOps.nil; try simp only [List.nil_append, List.cons_append, List.set_cons_zero, List.set_cons_succ, List.length_cons, List.length_nil, Nat.reduceAdd, AV.sh, AV.sh1, AV.sh0, AO.sh, List.map_cons, List.map_nil, Nat.zero_add, Nat.add_zero, setAll]) | ((apply AOps.splitP; exact rfl; exact rfl) <;> intro h) | (apply w_move; exact rfl; exact rfl) | (apply w_assign; exact rfl; exact rfl) | apply AWp.seq | apply AWp.region | ((apply AWp.condP; exact rfl) <;> intro h) | (apply AWp.condT; exact rfl) | (apply AWp.condF; exact rfl) | apply AWp.ret | apply AWp.skip | (apply w_skip; exact rfl) | (apply w_pickT; exact rfl; exact rfl; exact rfl) | (apply w_pickF; exact rfl; exact rfl; exact rfl) | ((apply w_not); iterate 2 exact rfl) | (apply w_callm (hm1); (focus ((repeat (first | exact im_nil | refine im_cons rfl (im_agg2 (.val _) (.sli rfl)) ?_)); done)); rintro r os0 ⟨rfl, rfl⟩; try simp only [List.nil_append, List.cons_append, List.set_cons_zero, List.set_cons_succ, List.length_cons, List.length_nil, Nat.reduceAdd, AV.sh, AV.sh1, AV.sh0, AO.sh, List.map_cons, List.map_nil, Nat.zero_add, Nat.add_zero, setAll]) | (apply w_callm (hm2); (focus ((repeat (first | exact im_nil | refine im_cons rfl (im_agg2 (.val _) (.sli rfl)) ?_)); done)); rintro r os0 ⟨rfl, rfl⟩; try simp only [List.nil_append, List.cons_append, List.set_cons_zero, List.set_cons_succ, List.length_cons, List.length_nil, Nat.reduceAdd, AV.sh, AV.sh1, AV.sh0, AO.sh, List.map_cons, List.map_nil, Nat.zero_add, Nat.add_zero, setAll]) | (apply w_callm (hm3); (focus ((repeat (first | exact im_nil | refine im_cons rfl (im_agg2 (.val _) (.sli rfl)) ?_)); done)); rintro r os0 ⟨rfl, rfl⟩; try simp only [List.nil_append, List.cons_append, List.set_cons_zero, List.set_cons_succ, List.length_cons, List.length_nil, Nat.reduceAdd, AV.sh, AV.sh1, AV.sh0, AO.sh, List.map_cons, List.map_nil, Nat.zero_add, Nat.add_zero, setAll]) | (apply w_call (hmu n3 a3 m3 b3); exact rfl; exact rfl; focus ((repeat (first | exact im_nil | refine im_cons rfl (im_agg2 (.val _) (.sli rfl)) ?_)); done)) | (apply w_callm (hd5); (focus ((repeat (first | exact im_nil | refine im_cons rfl (.ro _) ?_)); done)); rintro r os0 ⟨n4, a4, m4, b4, rfl, hA4, hB4, rfl⟩; try simp only [List.nil_append, List.cons_append, List.set_cons_zero, List.set_cons_succ, List.length_cons, List.length_nil, Nat.reduceAdd, AV.sh, AV.sh1, AV.sh0, AO.sh, List.map_cons, List.map_nil, Nat.zero_add, Nat.add_zero, setAll]) | (apply w_call (implAreConjugate_c _ _ _ _); exact rfl; exact rfl; focus ((repeat (first | exact im_nil | refine im_cons rfl (im_agg2 (.val _) (.sli rfl)) ?_)); done)) | (apply w_call (specAreConjugate_c _ _ _ _); exact rfl; exact rfl; focus ((repeat (first | exact im_nil | refine im_cons rfl (im_agg2 (.val _) (.sli rfl)) ?_)); done)) | omega | ((first | apply w_eql | apply w_neq | apply w_extv); iterate 3 exact rfl) | ((first | apply w_neqb | apply w_ext); iterate 3 exact rfl) | (apply w_ldst; iterate 5 exact rfl) | (apply w_alst; iterate 2 exact rfl) | (apply w_stst; iterate 5 exact rfl))
    all_goals try (exfalso; omega)
    all_goals try contradiction
    all_goals try (exact absurd trivial (by assumption))
    · exact .bool Try.results3 rfl (by simp [in_zero h])
    · have hc0 : csE n a m b = 0 := by omega
      obtain ⟨⟨sw1, sw2⟩, ro1, ro2, ro3, ro4⟩ := in_ok hc0
      have hi2 := implIntersectionOf_c m b n a
      rw [sw1, sw2] at hi2
      have hr2 := implRootsOf_c m
      rw [ro1] at hr2
      repeat' (first | (apply AOps.nil; try simp only [List.nil_append, List.cons_append, List.set_cons_zero, List.set_cons_succ, List.length_cons, List.length_nil, Nat.reduceAdd, AV.sh, AV.sh1, AV.sh0, AO.sh, List.map_cons, List.map_nil, Nat.zero_add, Nat.add_zero, setAll]) | ((apply AOps.splitP; exact rfl; exact rfl) <;> intro h) | (apply w_move; exact rfl; exact rfl) | (apply w_assign; exact rfl; exact rfl) | apply AWp.seq | apply AWp.region | ((apply AWp.condP; exact rfl) <;> intro h) | (apply AWp.condT; exact rfl) | apply AWp.ret | apply AWp.skip | (apply w_skip; exact rfl) | (apply w_pickT; exact rfl; exact rfl; exact rfl) | (apply w_pickF; exact rfl; exact rfl; exact rfl) | (apply w_len; exact rfl; exact rfl; first | exact .ints _ | exact .intss _ | exact .sli rfl | exact .sls rfl | exact .slr rfl | exact .orow rfl | exact .nil) | (apply w_call (hi2); exact rfl; exact rfl; focus ((repeat (first | exact im_nil | refine im_cons rfl (im_agg2 (.val _) (.sli rfl)) ?_)); done)) | (apply w_callm (hr2); (focus ((repeat (first | exact im_nil | refine im_cons rfl (.val _) ?_)); done)); rintro r os0 ⟨rfl, rfl⟩; try simp only [List.nil_append, List.cons_append, List.set_cons_zero, List.set_cons_succ, List.length_cons, List.length_nil, Nat.reduceAdd, AV.sh, AV.sh1, AV.sh0, AO.sh, List.map_cons, List.map_nil, Nat.zero_add, Nat.add_zero, setAll]) | omega | ((first | apply w_neq | apply w_ld | apply w_fa | apply w_extv); iterate 3 exact rfl) | ((first | apply w_lds | apply w_ext); iterate 3 exact rfl) | (apply w_ldb; iterate 5 exact rfl))
      all_goals try (exfalso; omega)
      refine AWp.cut (env' := ⟨281, [(0, .ro (byR bs)), (3, .optr 0 0), (4, .optr 2 0), (5, .i (inA n a m b)), (41, .own 4)]⟩) (os' := [.bx 26 [.i n, .own 1], .sli 2 a, .bx 26 [.i m, .own 3], .sli 2 b, .sli 2 (roL m)]) ?_ ?_
      · (apply Or.inr; refine ⟨[2, 0, 3, 1, 30], ⟨by decide, fun x hx => Nat.lt_of_lt_of_le ((by decide : ∀ x ∈ ([2, 0, 3, 1, 30] : List Nat), x < 31) x hx) (Nat.le_of_ble_eq_true rfl)⟩, lee rfl ?_, ?_, rfl, rfl⟩; (focus ((repeat (first | exact le_nil | refine le_eq rfl rfl ?_)); done)); (focus ((repeat (first | exact lo_nil | refine lo_eq rfl ?_)); done)))
      have hbl := below_c bs hl2 hb0 (roL m).length (by have := roL_len m; omega)
      refine AWp.regionAI (ι := Int) (fun z => z ∈ rtL m.toNat) (fun z => ⟨281, [(3, .optr 0 0), (5, .i (inA n a m b)), (43, .optr 2 0), (44, .i (conjE m b z))]⟩) (fun z => [.bx 26 [.i n, .own 1], .sli 2 a, .bx 26 [.i (conjN m b z), .own 3], .sli 2 (conjL m b z)]) (by kernel_rfl) rfl rfl ?_ ?_
      · repeat' (first | (apply AOps.nil; try simp only [List.nil_append, List.cons_append, List.set_cons_zero, List.set_cons_succ, List.length_cons, List.length_nil, Nat.reduceAdd, AV.sh, AV.sh1, AV.sh0, AO.sh, List.map_cons, List.map_nil, Nat.zero_add, Nat.add_zero, setAll]) | (apply w_move; exact rfl; exact rfl) | (apply w_assign; exact rfl; exact rfl) | (apply w_len; exact rfl; exact rfl; first | exact .ints _ | exact .intss _ | exact .sli rfl | exact .sls rfl | exact .slr rfl | exact .orow rfl | exact .nil) | (apply w_callsog ((roll_c bs hl2 hb0 5018)); exact rfl; exact rfl; (exact rdB_by _); exact rfl; try simp only [List.nil_append, List.cons_append, List.set_cons_zero, List.set_cons_succ, List.length_cons, List.length_nil, Nat.reduceAdd, AV.sh, AV.sh1, AV.sh0, AO.sh, List.map_cons, List.map_nil, Nat.zero_add, Nat.add_zero, setAll]) | (apply w_callso (hbl); exact rfl; exact rfl; exact rfl; exact rfl; (exact rdB_by _); (rintro _ ⟨x, rfl, hx⟩)) | (apply w_callm (implConjugateSeries_c _ _ _); (focus ((repeat (first | exact im_nil | refine im_cons rfl (.val _) ?_ | refine im_cons rfl (im_agg2 (.val _) (.sli rfl)) ?_)); done)); rintro r os0 ⟨rfl, rfl⟩; try simp only [List.nil_append, List.cons_append, List.set_cons_zero, List.set_cons_succ, List.length_cons, List.length_nil, Nat.reduceAdd, AV.sh, AV.sh1, AV.sh0, AO.sh, List.map_cons, List.map_nil, Nat.zero_add, Nat.add_zero, setAll]) | omega | ((first | apply w_idxs | apply w_lds | apply w_ext); iterate 3 exact rfl) | (apply w_idxo; exact rfl; exact rfl; (exact .sli rfl); exact rfl) | (apply w_ldo; iterate 4 exact rfl) | (apply w_ldst; iterate 5 exact rfl) | (apply w_alst; iterate 2 exact rfl) | (apply w_stst; iterate 5 exact rfl) | apply AllOf.nil | (apply AllOf.cons; exact rfl) | (apply AAny.take; exact rfl; exact rfl; kernel_rfl; kernel_rfl) | (apply AAny.all; exact rfl) | (apply AAny.done; exact rfl))
        all_goals
          apply Exists.intro
          apply And.intro
          rotate_left 1
          · first
              | (apply Or.inr; refine ⟨[0, 1, 7, 6], ⟨by decide, fun x hx => Nat.lt_of_lt_of_le ((by decide : ∀ x ∈ ([0, 1, 7, 6] : List Nat), x < 8) x hx) (Nat.le_of_ble_eq_true rfl)⟩, lee rfl ?_, ?_, rfl, rfl⟩; (focus ((repeat (first | exact le_nil | refine le_eq rfl rfl ?_)); done)); (focus ((repeat (first | exact lo_nil | refine lo_eq rfl ?_)); done)))
              | (apply Or.inr; refine ⟨[0, 1, 6, 7], ⟨by decide, fun x hx => Nat.lt_of_lt_of_le ((by decide : ∀ x ∈ ([0, 1, 6, 7] : List Nat), x < 8) x hx) (Nat.le_of_ble_eq_true rfl)⟩, lee rfl ?_, ?_, rfl, rfl⟩; (focus ((repeat (first | exact le_nil | refine le_eq rfl rfl ?_)); done)); (focus ((repeat (first | exact lo_nil | refine lo_eq rfl ?_)); done)))
              | (apply Or.inr; refine ⟨[0, 1, 5, 7], ⟨by decide, fun x hx => Nat.lt_of_lt_of_le ((by decide : ∀ x ∈ ([0, 1, 5, 7] : List Nat), x < 8) x hx) (Nat.le_of_ble_eq_true rfl)⟩, lee rfl ?_, ?_, rfl, rfl⟩; (focus ((repeat (first | exact le_nil | refine le_eq rfl rfl ?_)); done)); (focus ((repeat (first | exact lo_nil | refine lo_eq rfl ?_)); done)))
          · exact ro_mem ro2 ro4 hx
      rintro z hz
      obtain ⟨g1, g2, g3, g4⟩ := in_conj hc0 hz
      have hi3 := implIntersectionOf_c n a m (conjL m b z)
      rw [g3, g4] at hi3
      rw [g1, g2]
      repeat' (first | (apply AOps.nil; try simp only [List.nil_append, List.cons_append, List.set_cons_zero, List.set_cons_succ, List.length_cons, List.length_nil, Nat.reduceAdd, AV.sh, AV.sh1, AV.sh0, AO.sh, List.map_cons, List.map_nil, Nat.zero_add, Nat.add_zero, setAll]) | ((apply AOps.splitP; exact rfl; exact rfl) <;> intro h) | (apply w_move; exact rfl; exact rfl) | (apply w_assign; exact rfl; exact rfl) | apply AWp.seq | apply AWp.region | apply AWp.ret | (apply w_skip; exact rfl) | (apply w_pickT; exact rfl; exact rfl; exact rfl) | (apply w_pickF; exact rfl; exact rfl; exact rfl) | (apply w_call (hi3); exact rfl; exact rfl; focus ((repeat (first | exact im_nil | refine im_cons rfl (im_agg2 (.val _) (.sli rfl)) ?_)); done)) | omega | ((first | apply w_eql | apply w_extv); iterate 3 exact rfl) | (apply w_ldst; iterate 5 exact rfl))
      all_goals exact .bool Try.results3 rfl (by simp)
  · repeat' (first | (apply AOps.nil; try simp only [List.nil_append, List.cons_append, List.set_cons_zero, List.set_cons_succ, List.length_cons, List.length_nil, Nat.reduceAdd, AV.sh, AV.sh1, AV.sh0, AO.sh, List.map_cons, List.map_nil, Nat.zero_add, Nat.add_zero, setAll]) | ((apply AOps.splitP; exact rfl; exact rfl) <;> intro h) | (apply w_move; exact rfl; exact rfl) | (apply w_assign; exact rfl; exact rfl) | apply AWp.seq | apply AWp.region | ((apply AWp.condP; exact rfl) <;> intro h) | (apply AWp.condT; exact rfl) | (apply AWp.condF; exact rfl) | apply AWp.ret | apply AWp.skip | (apply w_skip; exact rfl) | (apply w_pickT; exact rfl; exact rfl; exact rfl) | (apply w_pickF; exact rfl; exact rfl; exact rfl) | ((apply w_not); iterate 2 exact rfl) | (apply w_callm (implMultiplySeries_c _ _ _ _); (focus ((repeat (first | exact im_nil | refine im_cons rfl (im_agg2 (.val _) (.sli rfl)) ?_)); done)); rintro r os0 ⟨rfl, rfl⟩; try simp only [List.nil_append, List.cons_append, List.set_cons_zero, List.set_cons_succ, List.length_cons, List.length_nil, Nat.reduceAdd, AV.sh, AV.sh1, AV.sh0, AO.sh, List.map_cons, List.map_nil, Nat.zero_add, Nat.add_zero, setAll]) | (apply w_callm (specMultiplySeries_c _ _ _ _); (focus ((repeat (first | exact im_nil | refine im_cons rfl (im_agg2 (.val _) (.sli rfl)) ?_)); done)); rintro r os0 ⟨rfl, rfl⟩; try simp only [List.nil_append, List.cons_append, List.set_cons_zero, List.set_cons_succ, List.length_cons, List.length_nil, Nat.reduceAdd, AV.sh, AV.sh1, AV.sh0, AO.sh, List.map_cons, List.map_nil, Nat.zero_add, Nat.add_zero, setAll]) | (apply w_call (hmu n3 a3 m3 b3); exact rfl; exact rfl; focus ((repeat (first | exact im_nil | refine im_cons rfl (im_agg2 (.val _) (.sli rfl)) ?_)); done)) | (apply w_callm (hd5); (focus ((repeat (first | exact im_nil | refine im_cons rfl (.ro _) ?_)); done)); rintro r os0 ⟨n4, a4, m4, b4, rfl, hA4, hB4, rfl⟩; try simp only [List.nil_append, List.cons_append, List.set_cons_zero, List.set_cons_succ, List.length_cons, List.length_nil, Nat.reduceAdd, AV.sh, AV.sh1, AV.sh0, AO.sh, List.map_cons, List.map_nil, Nat.zero_add, Nat.add_zero, setAll]) | (apply w_call (implAreConjugate_c _ _ _ _); exact rfl; exact rfl; focus ((repeat (first | exact im_nil | refine im_cons rfl (im_agg2 (.val _) (.sli rfl)) ?_)); done)) | (apply w_call (specAreConjugate_c _ _ _ _); exact rfl; exact rfl; focus ((repeat (first | exact im_nil | refine im_cons rfl (im_agg2 (.val _) (.sli rfl)) ?_)); done)) | omega | ((first | apply w_eql | apply w_neq | apply w_extv); iterate 3 exact rfl) | ((first | apply w_neqb | apply w_ext); iterate 3 exact rfl) | (apply w_ldst; iterate 5 exact rfl) | (apply w_alst; iterate 2 exact rfl) | (apply w_stst; iterate 5 exact rfl))
    all_goals try (exfalso; omega)
    all_goals try contradiction
    all_goals try (exact absurd trivial (by assumption))
    · exact .bool Try.results3 rfl (by simp [in_zero h])
    · have hc0 : csE n a m b = 0 := by omega
      obtain ⟨⟨sw1, sw2⟩, ro1, ro2, ro3, ro4⟩ := in_ok hc0
      have hi2 := implIntersectionOf_c m b n a
      rw [sw1, sw2] at hi2
      have hr2 := implRootsOf_c m
      rw [ro1] at hr2
      repeat' (first | (apply AOps.nil; try simp only [List.nil_append, List.cons_append, List.set_cons_zero, List.set_cons_succ, List.length_cons, List.length_nil, Nat.reduceAdd, AV.sh, AV.sh1, AV.sh0, AO.sh, List.map_cons, List.map_nil, Nat.zero_add, Nat.add_zero, setAll]) | ((apply AOps.splitP; exact rfl; exact rfl) <;> intro h) | (apply w_move; exact rfl; exact rfl) | (apply w_assign; exact rfl; exact rfl) | apply AWp.seq | apply AWp.region | ((apply AWp.condP; exact rfl) <;> intro h) | (apply AWp.condT; exact rfl) | apply AWp.ret | apply AWp.skip | (apply w_skip; exact rfl) | (apply w_pickT; exact rfl; exact rfl; exact rfl) | (apply w_pickF; exact rfl; exact rfl; exact rfl) | (apply w_len; exact rfl; exact rfl; first | exact .ints _ | exact .intss _ | exact .sli rfl | exact .sls rfl | exact .slr rfl | exact .orow rfl | exact .nil) | (apply w_call (hi2); exact rfl; exact rfl; focus ((repeat (first | exact im_nil | refine im_cons rfl (im_agg2 (.val _) (.sli rfl)) ?_)); done)) | (apply w_callm (hr2); (focus ((repeat (first | exact im_nil | refine im_cons rfl (.val _) ?_)); done)); rintro r os0 ⟨rfl, rfl⟩; try simp only [List.nil_append, List.cons_append, List.set_cons_zero, List.set_cons_succ, List.length_cons, List.length_nil, Nat.reduceAdd, AV.sh, AV.sh1, AV.sh0, AO.sh, List.map_cons, List.map_nil, Nat.zero_add, Nat.add_zero, setAll]) | omega | ((first | apply w_neq | apply w_ld | apply w_fa | apply w_extv); iterate 3 exact rfl) | ((first | apply w_lds | apply w_ext); iterate 3 exact rfl) | (apply w_ldb; iterate 5 exact rfl))
      all_goals try (exfalso; omega)
      refine AWp.cut (env' := ⟨281, [(0, .ro (byR bs)), (3, .optr 0 0), (4, .optr 2 0), (5, .i (inA n a m b)), (41, .own 4)]⟩) (os' := [.bx 26 [.i n, .own 1], .sli 2 a, .bx 26 [.i m, .own 3], .sli 2 b, .sli 2 (roL m)]) ?_ ?_
      · (apply Or.inr; refine ⟨[2, 0, 3, 1, 28], ⟨by decide, fun x hx => Nat.lt_of_lt_of_le ((by decide : ∀ x ∈ ([2, 0, 3, 1, 28] : List Nat), x < 29) x hx) (Nat.le_of_ble_eq_true rfl)⟩, lee rfl ?_, ?_, rfl, rfl⟩; (focus ((repeat (first | exact le_nil | refine le_eq rfl rfl ?_)); done)); (focus ((repeat (first | exact lo_nil | refine lo_eq rfl ?_)); done)))
      have hbl := below_c bs hl2 hb0 (roL m).length (by have := roL_len m; omega)
      refine AWp.regionAI (ι := Int) (fun z => z ∈ rtL m.toNat) (fun z => ⟨281, [(3, .optr 0 0), (5, .i (inA n a m b)), (43, .optr 2 0), (44, .i (conjE m b z))]⟩) (fun z => [.bx 26 [.i n, .own 1], .sli 2 a, .bx 26 [.i (conjN m b z), .own 3], .sli 2 (conjL m b z)]) (by kernel_rfl) rfl rfl ?_ ?_
      · repeat' (first | (apply AOps.nil; try simp only [List.nil_append, List.cons_append, List.set_cons_zero, List.set_cons_succ, List.length_cons, List.length_nil, Nat.reduceAdd, AV.sh, AV.sh1, AV.sh0, AO.sh, List.map_cons, List.map_nil, Nat.zero_add, Nat.add_zero, setAll]) | (apply w_move; exact rfl; exact rfl) | (apply w_assign; exact rfl; exact rfl) | (apply w_len; exact rfl; exact rfl; first | exact .ints _ | exact .intss _ | exact .sli rfl | exact .sls rfl | exact .slr rfl | exact .orow rfl | exact .nil) | (apply w_callsog ((roll_c bs hl2 hb0 5018)); exact rfl; exact rfl; (exact rdB_by _); exact rfl; try simp only [List.nil_append, List.cons_append, List.set_cons_zero, List.set_cons_succ, List.length_cons, List.length_nil, Nat.reduceAdd, AV.sh, AV.sh1, AV.sh0, AO.sh, List.map_cons, List.map_nil, Nat.zero_add, Nat.add_zero, setAll]) | (apply w_callso (hbl); exact rfl; exact rfl; exact rfl; exact rfl; (exact rdB_by _); (rintro _ ⟨x, rfl, hx⟩)) | (apply w_callm (implConjugateSeries_c _ _ _); (focus ((repeat (first | exact im_nil | refine im_cons rfl (.val _) ?_ | refine im_cons rfl (im_agg2 (.val _) (.sli rfl)) ?_)); done)); rintro r os0 ⟨rfl, rfl⟩; try simp only [List.nil_append, List.cons_append, List.set_cons_zero, List.set_cons_succ, List.length_cons, List.length_nil, Nat.reduceAdd, AV.sh, AV.sh1, AV.sh0, AO.sh, List.map_cons, List.map_nil, Nat.zero_add, Nat.add_zero, setAll]) | omega | ((first | apply w_idxs | apply w_lds | apply w_ext); iterate 3 exact rfl) | (apply w_idxo; exact rfl; exact rfl; (exact .sli rfl); exact rfl) | (apply w_ldo; iterate 4 exact rfl) | (apply w_ldst; iterate 5 exact rfl) | (apply w_alst; iterate 2 exact rfl) | (apply w_stst; iterate 5 exact rfl) | apply AllOf.nil | (apply AllOf.cons; exact rfl) | (apply AAny.take; exact rfl; exact rfl; kernel_rfl; kernel_rfl) | (apply AAny.all; exact rfl) | (apply AAny.done; exact rfl))
        all_goals
          apply Exists.intro
          apply And.intro
          rotate_left 1
          · first
              | (apply Or.inr; refine ⟨[0, 1, 7, 6], ⟨by decide, fun x hx => Nat.lt_of_lt_of_le ((by decide : ∀ x ∈ ([0, 1, 7, 6] : List Nat), x < 8) x hx) (Nat.le_of_ble_eq_true rfl)⟩, lee rfl ?_, ?_, rfl, rfl⟩; (focus ((repeat (first | exact le_nil | refine le_eq rfl rfl ?_)); done)); (focus ((repeat (first | exact lo_nil | refine lo_eq rfl ?_)); done)))
              | (apply Or.inr; refine ⟨[0, 1, 6, 7], ⟨by decide, fun x hx => Nat.lt_of_lt_of_le ((by decide : ∀ x ∈ ([0, 1, 6, 7] : List Nat), x < 8) x hx) (Nat.le_of_ble_eq_true rfl)⟩, lee rfl ?_, ?_, rfl, rfl⟩; (focus ((repeat (first | exact le_nil | refine le_eq rfl rfl ?_)); done)); (focus ((repeat (first | exact lo_nil | refine lo_eq rfl ?_)); done)))
              | (apply Or.inr; refine ⟨[0, 1, 5, 7], ⟨by decide, fun x hx => Nat.lt_of_lt_of_le ((by decide : ∀ x ∈ ([0, 1, 5, 7] : List Nat), x < 8) x hx) (Nat.le_of_ble_eq_true rfl)⟩, lee rfl ?_, ?_, rfl, rfl⟩; (focus ((repeat (first | exact le_nil | refine le_eq rfl rfl ?_)); done)); (focus ((repeat (first | exact lo_nil | refine lo_eq rfl ?_)); done)))
          · exact ro_mem ro2 ro4 hx
      rintro z hz
      obtain ⟨g1, g2, g3, g4⟩ := in_conj hc0 hz
      have hi3 := implIntersectionOf_c n a m (conjL m b z)
      rw [g3, g4] at hi3
      rw [g1, g2]
      repeat' (first | (apply AOps.nil; try simp only [List.nil_append, List.cons_append, List.set_cons_zero, List.set_cons_succ, List.length_cons, List.length_nil, Nat.reduceAdd, AV.sh, AV.sh1, AV.sh0, AO.sh, List.map_cons, List.map_nil, Nat.zero_add, Nat.add_zero, setAll]) | ((apply AOps.splitP; exact rfl; exact rfl) <;> intro h) | (apply w_move; exact rfl; exact rfl) | (apply w_assign; exact rfl; exact rfl) | apply AWp.seq | apply AWp.region | apply AWp.ret | (apply w_skip; exact rfl) | (apply w_pickT; exact rfl; exact rfl; exact rfl) | (apply w_pickF; exact rfl; exact rfl; exact rfl) | (apply w_call (hi3); exact rfl; exact rfl; focus ((repeat (first | exact im_nil | refine im_cons rfl (im_agg2 (.val _) (.sli rfl)) ?_)); done)) | omega | ((first | apply w_eql | apply w_extv); iterate 3 exact rfl) | (apply w_ldst; iterate 5 exact rfl))
      all_goals exact .bool Try.results3 rfl (by simp)
end Go.Proofs.Ytkojhaoflgdjmaa
