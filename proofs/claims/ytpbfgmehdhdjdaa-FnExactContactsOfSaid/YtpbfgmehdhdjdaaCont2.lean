
/-
  Contacts of parametrisations: the program's. No condition.
-/
import Derived.Test.YtpbfgmehdhdjdaaRoots3
import Derived.Test.YtpbfgmehdhdjdaaCont1
import Derived.Test.YtpbfgmehdhdjdaaAmMore6
namespace Go.Proofs.Ytpbfgmehdhdjdaa
open Go Go.RowKit

theorem rt_in (n : Nat) : inF (rtL n) := srt_in (lst_in _ _) _

def cC (n m : Int) : Int := n / (Int.gcd n m : Int) * m
def cA (n m : Int) : Int := cC n m / n
def cB (n m : Int) : Int := cC n m / m
def cS (n m : Int) : Int := 80 * max (cA n m) (cB n m) + 1
structure CtOk (n m : Int) : Prop where
  g : 1 ≤ (Int.gcd n m : Int) ∧ (Int.gcd n m : Int) ≤ 12
  q : 0 ≤ n / (Int.gcd n m : Int) ∧ n / (Int.gcd n m : Int) ≤ 12
  c : 0 ≤ n / (Int.gcd n m : Int) * m ∧ n / (Int.gcd n m : Int) * m ≤ 144
  a : 1 ≤ cA n m ∧ cA n m ≤ 12
  b : 1 ≤ cB n m ∧ cB n m ≤ 12
  e : cA n m = m / (Int.gcd n m : Int)
set_option maxRecDepth 100000 in
theorem ctOk_all : ∀ n ∈ List.range 13, ∀ m ∈ List.range 13, 0 < n → 0 < m → ((1 ≤ (Int.gcd n m : Int) ∧ (Int.gcd n m : Int) ≤ 12) ∧ (0 ≤ (n : Int) / (Int.gcd n m : Int) ∧ (n : Int) / (Int.gcd n m : Int) ≤ 12) ∧ (0 ≤ (n : Int) / (Int.gcd n m : Int) * m ∧ (n : Int) / (Int.gcd n m : Int) * m ≤ 144) ∧
    (1 ≤ cA n m ∧ cA n m ≤ 12) ∧ (1 ≤ cB n m ∧ cB n m ≤ 12) ∧ cA n m = (m : Int) / (Int.gcd n m : Int)) := by decide +kernel
theorem ctOk {n m : Nat} (h0 : 1 ≤ n ∧ n ≤ 12) (h1 : 1 ≤ m ∧ m ≤ 12) : CtOk n m := by
  obtain ⟨a, b, c, d, e, f⟩ := ctOk_all n (List.mem_range.2 (by omega)) m (List.mem_range.2 (by omega)) (by omega) (by omega)
  exact ⟨a, b, c, d, e, f⟩

theorem mulK {i k c : Int} (hi : 0 ≤ i) (hk : 0 ≤ k) (hc : k ≤ c) (h : i ≤ 80) : 0 ≤ i * k ∧ i * k ≤ 80 * c := by
  refine ⟨Int.mul_nonneg hi hk, ?_⟩
  have := Int.mul_le_mul h hc hk (by omega : (0 : Int) ≤ 80)
  omega

theorem conjK_in {m : Int} {b : List Int} (h : isSerB m b = true) {z : Int} (hz : 0 ≤ z ∧ z ≤ 55440) : inF (conjK b z b.length) := fun i => by
  unfold geti conjK
  rw [List.getD_eq_getElem?_getD, List.getElem?_map]
  cases e : (List.range b.length)[i.toNat]? with
  | none => simp
  | some k => simpa using modF _
/-- The z of the j-th conjugate, and where it parts. -/
def ctG (m : Nat) (b : List Int) (j : Nat) : List Int := conjK b (geti (rtL m) (j : Nat)) b.length
def ctD (n m : Nat) (a b : List Int) (j : Nat) : Nat := dif (val a (cA n m).toNat a.length) (val (ctG m b j) (cB n m).toNat (ctG m b j).length) (cS n m).toNat
theorem ctD_le (n m : Nat) (a b : List Int) (j : Nat) : ctD n m a b j ≤ (cS n m).toNat := dif_le _ _ _
theorem ctD_is {n m : Nat} {a b : List Int} {j s : Nat} (h : ∀ t, t < s → val a (cA n m).toNat a.length t = val (ctG m b j) (cB n m).toNat (ctG m b j).length t) (hs : s < (cS n m).toNat) (hn : val a (cA n m).toNat a.length s ≠ val (ctG m b j) (cB n m).toNat (ctG m b j).length s) : ctD n m a b j = s := dif_is h hs hn
theorem ctD_all {n m : Nat} {a b : List Int} {j : Nat} (h : ∀ t, t < (cS n m).toNat → val a (cA n m).toNat a.length t = val (ctG m b j) (cB n m).toNat (ctG m b j).length t) : ctD n m a b j = (cS n m).toNat := dif_all h
def ctL (n m : Nat) (a b : List Int) (j : Nat) : List Int := (List.range j).map fun i : Nat => (ctD n m a b i : Int)
theorem ctL_len (n m : Nat) (a b : List Int) (j : Nat) : (ctL n m a b j).length = j := by simp [ctL]
theorem ctL_succ (n m : Nat) (a b : List Int) (j : Nat) : ctL n m a b j ++ [(ctD n m a b j : Int)] = ctL n m a b (j + 1) := by simp [ctL, List.range_succ]
def CtAll (n m : Nat) (a b : List Int) : Prop := ∀ j : Nat, j < m → ctD n m a b j ≠ (cS n m).toNat
noncomputable instance (n m : Nat) (a b : List Int) : Decidable (CtAll n m a b) := Classical.propDecidable _

/-- New contacts, a number and whether all are there. -/
def IsCt (T : TypeId) (l : List Int) (a : Int) (ok : Bool) (r : AV) (os : List AO) : Prop := r = .tup [.own 0, .i a, .b ok] ∧ os = [.sli T l]
noncomputable def coL (n m : Nat) (a b : List Int) : List Int := if CtAll n m a b then ctL n m a b m else []
noncomputable def coA (n m : Nat) (a b : List Int) : Int := if CtAll n m a b then cA n m else 0
noncomputable def coK (n m : Nat) (a b : List Int) : Bool := decide (CtAll n m a b)

attribute [local irreducible] AWp AOps ResIs Ret1 QOp LOp COp AFnV AFn Imms LeE LeO
set_option maxHeartbeats 1000000
set_option linter.unusedSimpArgs false
set_option linter.unusedVariables false

theorem spread_c (cs : List Int) (hF : inF cs) (k size c : Int) (hkk : 0 ≤ k ∧ k ≤ c) (hc : c ≤ 12) (hl : cs.length ≤ 81) (hs : 80 * c < size ∧ size ≤ 20000) : AFn Try.prog 99 [.ints cs, .i k, .i size] (IsInts 2 (spL cs k.toNat size.toNat cs.length)) := by
  refine AFn.start Try.func99 Try.ntmps99 rfl (by kernel_rfl) fun hk => ?_
  simp only [Env.start, enumF, List.length_cons, List.length_nil, Nat.reduceAdd, Nat.reduceSub, List.cons_append, List.nil_append]
  repeat' (first
  | (apply AOps.nil; try simp only [List.nil_append, List.cons_append, List.set_cons_zero, List.set_cons_succ, List.length_cons, List.length_nil, Nat.reduceAdd, AV.sh, AV.sh1, AV.sh0, AO.sh, List.map_cons, List.map_nil, Nat.zero_add, Nat.add_zero, setAll])
  | ((apply AOps.splitP; exact rfl; exact rfl) <;> intro h)
  | ((apply AOps.splitN; exact rfl; exact rfl) <;> intro h)
  | (apply w_move; exact rfl; exact rfl)
  | (apply w_assign; exact rfl; exact rfl)
  | apply AWp.seq
  | apply AWp.region
  | ((apply AWp.condP; exact rfl) <;> intro h)
  | ((apply AWp.condN; exact rfl) <;> intro h)
  | (apply AWp.condT; exact rfl)
  | (apply AWp.condF; exact rfl)
  | ((apply AWp.condB; exact rfl) <;> intro h)
  | apply AWp.block
  | apply AWp.ret
  | apply AWp.exit
  | apply AWp.skip
  | (apply if_pos'; exact rfl)
  | (apply if_neg'; decide)
  | (apply w_skip; exact rfl)
  | (apply w_pickT; exact rfl; exact rfl; exact rfl)
  | (apply w_pickF; exact rfl; exact rfl; exact rfl)
  | (apply w_len; exact rfl; exact rfl; first | exact .ints _ | exact .intss _ | exact .sli rfl | exact .sls rfl | exact .slr rfl | exact .orow rfl | exact .nil)
  | omega
  | ((first | apply w_lss | apply w_leq | apply w_gtr | apply w_geq | apply w_eql | apply w_neq | apply w_add | apply w_sub | apply w_mul | apply w_idx | apply w_ld | apply w_fld | apply w_fa | apply w_extv | apply w_min | apply w_max | apply w_slhi | apply w_sllo | apply w_bs2); iterate 3 exact rfl)
  | ((first | apply w_eqlb | apply w_neqb | apply w_idxs | apply w_lds | apply w_ext); iterate 3 exact rfl)
  | (apply w_rem; exact rfl; exact rfl; exact rfl; (focus (omega; done)); (focus (omega; done)))
  | (apply w_quo; exact rfl; exact rfl; exact rfl; (focus (omega; done)); (focus (omega; done)))
  | (apply w_remT; exact rfl; exact rfl; exact rfl)
  | (apply w_quoT; exact rfl; exact rfl; exact rfl)
  | ((first | apply w_not | apply w_neg | apply w_conv | apply w_build0 | apply w_bs1 | apply w_boxa); iterate 2 exact rfl)
  | (apply w_idxo; exact rfl; exact rfl; (first | exact .sli rfl | exact .sls rfl | exact .slr rfl); exact rfl)
  | ((first | apply w_idxr | apply w_ldr); iterate 4 exact rfl)
  | (apply w_ldo; iterate 4 exact rfl)
  | (apply w_ldls; iterate 4 exact rfl)
  | (apply w_ldrp; iterate 4 exact rfl)
  | (apply w_ldb; iterate 5 exact rfl)
  | (apply w_ldst; iterate 5 exact rfl)
  | ((first | apply w_sllh | apply w_stbi); iterate 4 exact rfl)
  | ((first | apply w_oslo | apply w_oshi | apply w_stbii); iterate 4 exact rfl)
  | (apply w_build1; exact rfl; exact rfl; (first | exact one_val rfl rfl | exact one_ints | exact one_intss | exact one_own rfl True.intro))
  | (apply w_build2; exact rfl; exact rfl; exact rfl; (first | exact one_val rfl rfl | exact one_ints | exact one_intss | exact one_own rfl True.intro); (first | exact one_val rfl rfl | exact one_ints | exact one_intss | exact one_own rfl True.intro))
  | (apply w_bs0; iterate 1 exact rfl)
  | (apply w_appn; exact rfl; exact rfl; (first | exact .ints _ | exact .sli rfl | exact .orow rfl | exact .nil | exact .osub rfl (by simp; omega)); exact rfl)
  | (apply w_app; exact rfl; exact rfl; exact rfl; exact rfl; (first | exact .ints _ | exact .sli rfl | exact .orow rfl | exact .nil | exact .osub rfl (by simp; omega)); rotate_left 1; simp only [Env.mp, List.map_cons, List.map_nil, List.set_cons_zero, List.set_cons_succ, AV.kill, AV.kill1, AO.kill, AV.noRow, AV.noRow1, AO.via, reduceIte, Nat.reduceEqDiff, Nat.reduceLT, Env.up, Nat.zero_ne_one, Nat.one_ne_zero, Nat.reduceAdd, List.cons_append, List.nil_append]; rotate_left 1)
  | (apply w_alst; iterate 2 exact rfl)
  | (apply w_alone; iterate 3 exact rfl)
  | (apply w_mki; exact rfl; exact rfl; rotate_left 3; exact rfl; rotate_left 1)
  | (apply w_sti; exact rfl; exact rfl; rotate_left 1; exact rfl; rotate_left 2)
  | (apply w_stst; iterate 5 exact rfl)
  | (apply w_stbv; iterate 6 exact rfl)
  | (apply w_stbo; exact rfl; exact rfl; exact rfl; exact rfl; exact rfl; exact True.intro)
  | ((apply AOps.splitB; exact rfl; exact rfl) <;> intro h)
  | apply AllOf.nil
  | (apply AllOf.cons; exact rfl)
  | (apply AAny.take; exact rfl; exact rfl; kernel_rfl; kernel_rfl)
  | (apply AAny.all; exact rfl)
  | (apply AAny.done; exact rfl)
  | (apply inI_of <;> omega)
  | omega
  | (simp <;> omega))
  refine AWp.loop (ι := Nat) (fun i => ⟨27, [(1, .i k), (7, .own 0), (12, .ints cs), (13, .i cs.length), (14, .i i)]⟩) (fun i => [.sli 2 (spL cs k.toNat size.toNat i)]) (fun i => i ≤ cs.length) (fun i => cs.length - i) 0 (by omega) ⟨lee rfl (by (repeat (first | exact le_nil | refine le_eq rfl rfl ?_ | refine le_eq rfl (congrArg AV.i (by omega)) ?_ | refine le_eq rfl (congrArg AV.i (spL_zero cs k.toNat size.toNat)) ?_))), by (repeat (first | exact lo_nil | refine lo_dead ?_ | refine lo_eq rfl ?_ | refine lo_eq (congrArg (AO.sli _) (spL_zero cs k.toNat size.toNat)) ?_ | refine lo_eq (congrArg (AO.sls _ _) (spL_zero cs k.toNat size.toNat)) ?_)), rfl, rfl⟩ ?_
  rintro i i0
  have l1 := spL_len cs k.toNat size.toNat i
  by_cases hi : i < cs.length
  · have b1 := mulK (i := (i : Int)) (k := k) (c := c) (by omega) hkk.1 hkk.2 (by omega)
    have b2 := hF i
    have et : ((i : Int) * k).toNat = i * k.toNat := by
      obtain ⟨k', rfl⟩ := Int.eq_ofNat_of_zero_le hkk.1
      rw [Int.toNat_natCast]
      exact Int.toNat_natCast (i * k')
    have e6 : (spL cs k.toNat size.toNat i).set ((i : Int) * k).toNat (geti cs i) = spL cs k.toNat size.toNat (i + 1) := by
      rw [et]; exact spL_set cs k.toNat size.toNat i (by omega)
    repeat' (first
  | (apply AOps.nil; try simp only [List.nil_append, List.cons_append, List.set_cons_zero, List.set_cons_succ, List.length_cons, List.length_nil, Nat.reduceAdd, AV.sh, AV.sh1, AV.sh0, AO.sh, List.map_cons, List.map_nil, Nat.zero_add, Nat.add_zero, setAll])
  | ((apply AOps.splitP; exact rfl; exact rfl) <;> intro h)
  | ((apply AOps.splitN; exact rfl; exact rfl) <;> intro h)
  | (apply w_move; exact rfl; exact rfl)
  | (apply w_assign; exact rfl; exact rfl)
  | apply AWp.seq
  | apply AWp.region
  | ((apply AWp.condP; exact rfl) <;> intro h)
  | ((apply AWp.condN; exact rfl) <;> intro h)
  | (apply AWp.condT; exact rfl)
  | (apply AWp.condF; exact rfl)
  | ((apply AWp.condB; exact rfl) <;> intro h)
  | apply AWp.block
  | apply AWp.ret
  | apply AWp.exit
  | apply AWp.skip
  | (apply if_pos'; exact rfl)
  | (apply if_neg'; decide)
  | (apply w_skip; exact rfl)
  | (apply w_pickT; exact rfl; exact rfl; exact rfl)
  | (apply w_pickF; exact rfl; exact rfl; exact rfl)
  | (apply w_len; exact rfl; exact rfl; first | exact .ints _ | exact .intss _ | exact .sli rfl | exact .sls rfl | exact .slr rfl | exact .orow rfl | exact .nil)
  | omega
  | ((first | apply w_lss | apply w_leq | apply w_gtr | apply w_geq | apply w_eql | apply w_neq | apply w_add | apply w_sub | apply w_mul | apply w_idx | apply w_ld | apply w_fld | apply w_fa | apply w_extv | apply w_min | apply w_max | apply w_slhi | apply w_sllo | apply w_bs2); iterate 3 exact rfl)
  | ((first | apply w_eqlb | apply w_neqb | apply w_idxs | apply w_lds | apply w_ext); iterate 3 exact rfl)
  | (apply w_rem; exact rfl; exact rfl; exact rfl; (focus (omega; done)); (focus (omega; done)))
  | (apply w_quo; exact rfl; exact rfl; exact rfl; (focus (omega; done)); (focus (omega; done)))
  | (apply w_remT; exact rfl; exact rfl; exact rfl)
  | (apply w_quoT; exact rfl; exact rfl; exact rfl)
  | ((first | apply w_not | apply w_neg | apply w_conv | apply w_build0 | apply w_bs1 | apply w_boxa); iterate 2 exact rfl)
  | (apply w_idxo; exact rfl; exact rfl; (first | exact .sli rfl | exact .sls rfl | exact .slr rfl); exact rfl)
  | ((first | apply w_idxr | apply w_ldr); iterate 4 exact rfl)
  | (apply w_ldo; iterate 4 exact rfl)
  | (apply w_ldls; iterate 4 exact rfl)
  | (apply w_ldrp; iterate 4 exact rfl)
  | (apply w_ldb; iterate 5 exact rfl)
  | (apply w_ldst; iterate 5 exact rfl)
  | ((first | apply w_sllh | apply w_stbi); iterate 4 exact rfl)
  | ((first | apply w_oslo | apply w_oshi | apply w_stbii); iterate 4 exact rfl)
  | (apply w_build1; exact rfl; exact rfl; (first | exact one_val rfl rfl | exact one_ints | exact one_intss | exact one_own rfl True.intro))
  | (apply w_build2; exact rfl; exact rfl; exact rfl; (first | exact one_val rfl rfl | exact one_ints | exact one_intss | exact one_own rfl True.intro); (first | exact one_val rfl rfl | exact one_ints | exact one_intss | exact one_own rfl True.intro))
  | (apply w_bs0; iterate 1 exact rfl)
  | (apply w_appn; exact rfl; exact rfl; (first | exact .ints _ | exact .sli rfl | exact .orow rfl | exact .nil | exact .osub rfl (by simp; omega)); exact rfl)
  | (apply w_app; exact rfl; exact rfl; exact rfl; exact rfl; (first | exact .ints _ | exact .sli rfl | exact .orow rfl | exact .nil | exact .osub rfl (by simp; omega)); rotate_left 1; simp only [Env.mp, List.map_cons, List.map_nil, List.set_cons_zero, List.set_cons_succ, AV.kill, AV.kill1, AO.kill, AV.noRow, AV.noRow1, AO.via, reduceIte, Nat.reduceEqDiff, Nat.reduceLT, Env.up, Nat.zero_ne_one, Nat.one_ne_zero, Nat.reduceAdd, List.cons_append, List.nil_append]; rotate_left 1)
  | (apply w_alst; iterate 2 exact rfl)
  | (apply w_alone; iterate 3 exact rfl)
  | (apply w_mki; exact rfl; exact rfl; rotate_left 3; exact rfl; rotate_left 1)
  | (apply w_sti; exact rfl; exact rfl; rotate_left 1; exact rfl; rotate_left 2)
  | (apply w_stst; iterate 5 exact rfl)
  | (apply w_stbv; iterate 6 exact rfl)
  | (apply w_stbo; exact rfl; exact rfl; exact rfl; exact rfl; exact rfl; exact True.intro)
  | ((apply AOps.splitB; exact rfl; exact rfl) <;> intro h)
  | apply AllOf.nil
  | (apply AllOf.cons; exact rfl)
  | (apply AAny.take; exact rfl; exact rfl; kernel_rfl; kernel_rfl)
  | (apply AAny.all; exact rfl)
  | (apply AAny.done; exact rfl)
  | (apply inI_of <;> omega)
  | omega
  | (simp <;> omega))
    all_goals exact ⟨i + 1, by omega, by omega, ⟨lee rfl (by (repeat (first | exact le_nil | refine le_eq rfl rfl ?_ | refine le_eq rfl (congrArg AV.i (by omega)) ?_ | refine le_eq rfl (congrArg AV.i (e6)) ?_))), by (repeat (first | exact lo_nil | refine lo_dead ?_ | refine lo_eq rfl ?_ | refine lo_eq (congrArg (AO.sli _) (e6)) ?_ | refine lo_eq (congrArg (AO.sls _ _) (e6)) ?_)), rfl, rfl⟩⟩
  · repeat' (first
  | (apply AOps.nil; try simp only [List.nil_append, List.cons_append, List.set_cons_zero, List.set_cons_succ, List.length_cons, List.length_nil, Nat.reduceAdd, AV.sh, AV.sh1, AV.sh0, AO.sh, List.map_cons, List.map_nil, Nat.zero_add, Nat.add_zero, setAll])
  | ((apply AOps.splitP; exact rfl; exact rfl) <;> intro h)
  | ((apply AOps.splitN; exact rfl; exact rfl) <;> intro h)
  | (apply w_move; exact rfl; exact rfl)
  | (apply w_assign; exact rfl; exact rfl)
  | apply AWp.seq
  | apply AWp.region
  | ((apply AWp.condP; exact rfl) <;> intro h)
  | ((apply AWp.condN; exact rfl) <;> intro h)
  | (apply AWp.condT; exact rfl)
  | (apply AWp.condF; exact rfl)
  | ((apply AWp.condB; exact rfl) <;> intro h)
  | apply AWp.block
  | apply AWp.ret
  | apply AWp.exit
  | apply AWp.skip
  | (apply if_pos'; exact rfl)
  | (apply if_neg'; decide)
  | (apply w_skip; exact rfl)
  | (apply w_pickT; exact rfl; exact rfl; exact rfl)
  | (apply w_pickF; exact rfl; exact rfl; exact rfl)
  | (apply w_len; exact rfl; exact rfl; first | exact .ints _ | exact .intss _ | exact .sli rfl | exact .sls rfl | exact .slr rfl | exact .orow rfl | exact .nil)
  | omega
  | ((first | apply w_lss | apply w_leq | apply w_gtr | apply w_geq | apply w_eql | apply w_neq | apply w_add | apply w_sub | apply w_mul | apply w_idx | apply w_ld | apply w_fld | apply w_fa | apply w_extv | apply w_min | apply w_max | apply w_slhi | apply w_sllo | apply w_bs2); iterate 3 exact rfl)
  | ((first | apply w_eqlb | apply w_neqb | apply w_idxs | apply w_lds | apply w_ext); iterate 3 exact rfl)
  | (apply w_rem; exact rfl; exact rfl; exact rfl; (focus (omega; done)); (focus (omega; done)))
  | (apply w_quo; exact rfl; exact rfl; exact rfl; (focus (omega; done)); (focus (omega; done)))
  | (apply w_remT; exact rfl; exact rfl; exact rfl)
  | (apply w_quoT; exact rfl; exact rfl; exact rfl)
  | ((first | apply w_not | apply w_neg | apply w_conv | apply w_build0 | apply w_bs1 | apply w_boxa); iterate 2 exact rfl)
  | (apply w_idxo; exact rfl; exact rfl; (first | exact .sli rfl | exact .sls rfl | exact .slr rfl); exact rfl)
  | ((first | apply w_idxr | apply w_ldr); iterate 4 exact rfl)
  | (apply w_ldo; iterate 4 exact rfl)
  | (apply w_ldls; iterate 4 exact rfl)
  | (apply w_ldrp; iterate 4 exact rfl)
  | (apply w_ldb; iterate 5 exact rfl)
  | (apply w_ldst; iterate 5 exact rfl)
  | ((first | apply w_sllh | apply w_stbi); iterate 4 exact rfl)
  | ((first | apply w_oslo | apply w_oshi | apply w_stbii); iterate 4 exact rfl)
  | (apply w_build1; exact rfl; exact rfl; (first | exact one_val rfl rfl | exact one_ints | exact one_intss | exact one_own rfl True.intro))
  | (apply w_build2; exact rfl; exact rfl; exact rfl; (first | exact one_val rfl rfl | exact one_ints | exact one_intss | exact one_own rfl True.intro); (first | exact one_val rfl rfl | exact one_ints | exact one_intss | exact one_own rfl True.intro))
  | (apply w_bs0; iterate 1 exact rfl)
  | (apply w_appn; exact rfl; exact rfl; (first | exact .ints _ | exact .sli rfl | exact .orow rfl | exact .nil | exact .osub rfl (by simp; omega)); exact rfl)
  | (apply w_app; exact rfl; exact rfl; exact rfl; exact rfl; (first | exact .ints _ | exact .sli rfl | exact .orow rfl | exact .nil | exact .osub rfl (by simp; omega)); rotate_left 1; simp only [Env.mp, List.map_cons, List.map_nil, List.set_cons_zero, List.set_cons_succ, AV.kill, AV.kill1, AO.kill, AV.noRow, AV.noRow1, AO.via, reduceIte, Nat.reduceEqDiff, Nat.reduceLT, Env.up, Nat.zero_ne_one, Nat.one_ne_zero, Nat.reduceAdd, List.cons_append, List.nil_append]; rotate_left 1)
  | (apply w_alst; iterate 2 exact rfl)
  | (apply w_alone; iterate 3 exact rfl)
  | (apply w_mki; exact rfl; exact rfl; rotate_left 3; exact rfl; rotate_left 1)
  | (apply w_sti; exact rfl; exact rfl; rotate_left 1; exact rfl; rotate_left 2)
  | (apply w_stst; iterate 5 exact rfl)
  | (apply w_stbv; iterate 6 exact rfl)
  | (apply w_stbo; exact rfl; exact rfl; exact rfl; exact rfl; exact rfl; exact True.intro)
  | ((apply AOps.splitB; exact rfl; exact rfl) <;> intro h)
  | apply AllOf.nil
  | (apply AllOf.cons; exact rfl)
  | (apply AAny.take; exact rfl; exact rfl; kernel_rfl; kernel_rfl)
  | (apply AAny.all; exact rfl)
  | (apply AAny.done; exact rfl)
  | (apply inI_of <;> omega)
  | omega
  | (simp <;> omega))
    have e : i = cs.length := by omega
    subst e
    exact ⟨_, _, _, .v1 Try.results99 rfl, .sli rfl, rfl, rfl⟩

attribute [local irreducible] spL rtL conjK ctD dif
set_option maxHeartbeats 4000000 in
theorem contacts_c (n m : Nat) (a b : List Int) (h1 : isSerB n a = true) (h2 : isSerB m b = true) : AFn Try.prog 86 [.agg [.i n, .ints a], .agg [.i m, .ints b]] (IsCt 2 (coL n m a b) (coA n m a b) (coK n m a b)) := by
  obtain ⟨s1, s2, s3, s4, s5⟩ := isSerB_n h1
  obtain ⟨t1, t2, t3, t4, t5⟩ := isSerB_n h2
  have ok := ctOk (n := n) (m := m) (by omega) (by omega)
  obtain ⟨o1, o2, o3, o4, o5, o6⟩ := ok
  have m1 : mid (n : Int) := by unfold mid; omega
  have m2 : mid (m : Int) := by unfold mid; omega
  have hS : 80 * max (cA n m) (cB n m) < cS n m ∧ cS n m ≤ 20000 := by unfold cS; omega
  have hA : (n : Int) / (Int.gcd n m : Int) * m / n = cA n m := rfl
  have hB : (n : Int) / (Int.gcd n m : Int) * m / m = cB n m := rfl
  have hp1 := spread_c a (isSerB_get h1) (cA n m) (cS n m) (max (cA n m) (cB n m)) (by omega) (by omega) (by omega) hS
  have hr := roots_c m (by omega)
  have rl := rtL_len m
  refine AFn.start Try.func86 Try.ntmps86 rfl (by kernel_rfl) fun hk => ?_
  simp only [Env.start, enumF, List.length_cons, List.length_nil, Nat.reduceAdd, Nat.reduceSub, List.cons_append, List.nil_append]
  repeat' (first
  | (apply AOps.nil; try simp only [List.nil_append, List.cons_append, List.set_cons_zero, List.set_cons_succ, List.length_cons, List.length_nil, Nat.reduceAdd, AV.sh, AV.sh1, AV.sh0, AO.sh, List.map_cons, List.map_nil, Nat.zero_add, Nat.add_zero, setAll])
  | ((apply AOps.splitP; exact rfl; exact rfl) <;> intro h)
  | ((apply AOps.splitN; exact rfl; exact rfl) <;> intro h)
  | (apply w_move; exact rfl; exact rfl)
  | (apply w_assign; exact rfl; exact rfl)
  | apply AWp.seq
  | apply AWp.region
  | ((apply AWp.condP; exact rfl) <;> intro h)
  | ((apply AWp.condN; exact rfl) <;> intro h)
  | (apply AWp.condT; exact rfl)
  | (apply AWp.condF; exact rfl)
  | ((apply AWp.condB; exact rfl) <;> intro h)
  | apply AWp.block
  | apply AWp.ret
  | apply AWp.exit
  | apply AWp.skip
  | (apply AWp.regionQ; kernel_rfl; kernel_rfl)
  | (apply if_pos'; exact rfl)
  | (apply if_neg'; decide)
  | (apply w_skip; exact rfl)
  | (apply w_pickT; exact rfl; exact rfl; exact rfl)
  | (apply w_pickF; exact rfl; exact rfl; exact rfl)
  | (apply w_len; exact rfl; exact rfl; first | exact .ints _ | exact .intss _ | exact .sli rfl | exact .sls rfl | exact .slr rfl | exact .orow rfl | exact .nil)
  | (apply w_call (divisor_c _ _ m1 m2); exact rfl; exact rfl; focus ((repeat (first | exact im_nil | refine im_cons rfl (.val _) ?_ | refine im_cons rfl (.ints _) ?_ | refine im_cons rfl (.intss _) ?_ | refine im_cons rfl (.sli rfl) ?_ | refine im_cons rfl (.sls rfl) ?_ | refine im_cons rfl (.slr rfl) ?_ | refine im_cons rfl (.orow rfl) ?_ | refine im_cons rfl (.osub rfl (by simp; omega)) ?_ | refine im_cons rfl (.nil) ?_ | refine im_cons rfl (.nils) ?_ | refine im_cons rfl (im_agg2 (.val _) (.ints _)) ?_ | refine im_cons rfl (im_agg2 (.val _) (.sli rfl)) ?_ | refine im_cons rfl (im_agg2 (.val _) (.nil)) ?_ | refine im_cons rfl (im_agg2 (.ints _) (.intss _)) ?_ | refine im_cons rfl (im_agg2 (.ints _) (.sls rfl)) ?_ | refine im_cons rfl (im_agg2 (.sli rfl) (.intss _)) ?_ | refine im_cons rfl (im_agg2 (.sli rfl) (.sls rfl)) ?_ | refine im_cons rfl (im_agg1 (.ints _)) ?_ | refine im_cons rfl (im_agg1 (.sli rfl)) ?_ | refine im_cons rfl (im_agg1 (.intss _)) ?_ | refine im_cons rfl (im_agg1 (.sls rfl)) ?_ | refine im_cons rfl (im_agg1 (.slr rfl)) ?_ | refine im_cons rfl (im_agg1 (.nil)) ?_ | refine im_cons rfl (im_agg1 (.nils)) ?_)); done))
  | (apply w_callm (hp1); (focus ((repeat (first | exact im_nil | refine im_cons rfl (.val _) ?_ | refine im_cons rfl (.ints _) ?_ | refine im_cons rfl (.intss _) ?_ | refine im_cons rfl (.sli rfl) ?_ | refine im_cons rfl (.sls rfl) ?_ | refine im_cons rfl (.slr rfl) ?_ | refine im_cons rfl (.orow rfl) ?_ | refine im_cons rfl (.osub rfl (by simp; omega)) ?_ | refine im_cons rfl (.nil) ?_ | refine im_cons rfl (.nils) ?_ | refine im_cons rfl (im_agg2 (.val _) (.ints _)) ?_ | refine im_cons rfl (im_agg2 (.val _) (.sli rfl)) ?_ | refine im_cons rfl (im_agg2 (.val _) (.nil)) ?_ | refine im_cons rfl (im_agg2 (.ints _) (.intss _)) ?_ | refine im_cons rfl (im_agg2 (.ints _) (.sls rfl)) ?_ | refine im_cons rfl (im_agg2 (.sli rfl) (.intss _)) ?_ | refine im_cons rfl (im_agg2 (.sli rfl) (.sls rfl)) ?_ | refine im_cons rfl (im_agg1 (.ints _)) ?_ | refine im_cons rfl (im_agg1 (.sli rfl)) ?_ | refine im_cons rfl (im_agg1 (.intss _)) ?_ | refine im_cons rfl (im_agg1 (.sls rfl)) ?_ | refine im_cons rfl (im_agg1 (.slr rfl)) ?_ | refine im_cons rfl (im_agg1 (.nil)) ?_ | refine im_cons rfl (im_agg1 (.nils)) ?_)); done)); rintro r os0 ⟨rfl, rfl⟩; try simp only [List.nil_append, List.cons_append, List.set_cons_zero, List.set_cons_succ, List.length_cons, List.length_nil, Nat.reduceAdd, AV.sh, AV.sh1, AV.sh0, AO.sh, List.map_cons, List.map_nil, Nat.zero_add, Nat.add_zero, setAll])
  | (apply w_callm (hr); (focus ((repeat (first | exact im_nil | refine im_cons rfl (.val _) ?_ | refine im_cons rfl (.ints _) ?_ | refine im_cons rfl (.intss _) ?_ | refine im_cons rfl (.sli rfl) ?_ | refine im_cons rfl (.sls rfl) ?_ | refine im_cons rfl (.slr rfl) ?_ | refine im_cons rfl (.orow rfl) ?_ | refine im_cons rfl (.osub rfl (by simp; omega)) ?_ | refine im_cons rfl (.nil) ?_ | refine im_cons rfl (.nils) ?_ | refine im_cons rfl (im_agg2 (.val _) (.ints _)) ?_ | refine im_cons rfl (im_agg2 (.val _) (.sli rfl)) ?_ | refine im_cons rfl (im_agg2 (.val _) (.nil)) ?_ | refine im_cons rfl (im_agg2 (.ints _) (.intss _)) ?_ | refine im_cons rfl (im_agg2 (.ints _) (.sls rfl)) ?_ | refine im_cons rfl (im_agg2 (.sli rfl) (.intss _)) ?_ | refine im_cons rfl (im_agg2 (.sli rfl) (.sls rfl)) ?_ | refine im_cons rfl (im_agg1 (.ints _)) ?_ | refine im_cons rfl (im_agg1 (.sli rfl)) ?_ | refine im_cons rfl (im_agg1 (.intss _)) ?_ | refine im_cons rfl (im_agg1 (.sls rfl)) ?_ | refine im_cons rfl (im_agg1 (.slr rfl)) ?_ | refine im_cons rfl (im_agg1 (.nil)) ?_ | refine im_cons rfl (im_agg1 (.nils)) ?_)); done)); rintro r os0 ⟨rfl, rfl⟩; try simp only [List.nil_append, List.cons_append, List.set_cons_zero, List.set_cons_succ, List.length_cons, List.length_nil, Nat.reduceAdd, AV.sh, AV.sh1, AV.sh0, AO.sh, List.map_cons, List.map_nil, Nat.zero_add, Nat.add_zero, setAll])
  | omega
  | ((first | apply w_lss | apply w_leq | apply w_gtr | apply w_geq | apply w_eql | apply w_neq | apply w_add | apply w_sub | apply w_mul | apply w_idx | apply w_ld | apply w_fld | apply w_fa | apply w_extv | apply w_min | apply w_max | apply w_slhi | apply w_sllo | apply w_bs2); iterate 3 exact rfl)
  | ((first | apply w_eqlb | apply w_neqb | apply w_idxs | apply w_lds | apply w_ext); iterate 3 exact rfl)
  | (apply w_rem; exact rfl; exact rfl; exact rfl; (focus (omega; done)); (focus (omega; done)))
  | (apply w_quo; exact rfl; exact rfl; exact rfl; (focus (omega; done)); (focus (omega; done)))
  | (apply w_remT; exact rfl; exact rfl; exact rfl)
  | (apply w_quoT; exact rfl; exact rfl; exact rfl)
  | ((first | apply w_not | apply w_neg | apply w_conv | apply w_build0 | apply w_bs1 | apply w_boxa); iterate 2 exact rfl)
  | (apply w_idxo; exact rfl; exact rfl; (first | exact .sli rfl | exact .sls rfl | exact .slr rfl); exact rfl)
  | ((first | apply w_idxr | apply w_ldr); iterate 4 exact rfl)
  | (apply w_ldo; iterate 4 exact rfl)
  | (apply w_ldls; iterate 4 exact rfl)
  | (apply w_ldrp; iterate 4 exact rfl)
  | (apply w_ldb; iterate 5 exact rfl)
  | (apply w_ldst; iterate 5 exact rfl)
  | ((first | apply w_sllh | apply w_stbi); iterate 4 exact rfl)
  | ((first | apply w_oslo | apply w_oshi | apply w_stbii); iterate 4 exact rfl)
  | (apply w_build1; exact rfl; exact rfl; (first | exact one_val rfl rfl | exact one_ints | exact one_intss | exact one_own rfl True.intro))
  | (apply w_build2; exact rfl; exact rfl; exact rfl; (first | exact one_val rfl rfl | exact one_ints | exact one_intss | exact one_own rfl True.intro); (first | exact one_val rfl rfl | exact one_ints | exact one_intss | exact one_own rfl True.intro))
  | (apply w_bs0; iterate 1 exact rfl)
  | (apply w_appn; exact rfl; exact rfl; (first | exact .ints _ | exact .sli rfl | exact .orow rfl | exact .nil | exact .osub rfl (by simp; omega)); exact rfl)
  | (apply w_app; exact rfl; exact rfl; exact rfl; exact rfl; (first | exact .ints _ | exact .sli rfl | exact .orow rfl | exact .nil | exact .osub rfl (by simp; omega)); rotate_left 1; simp only [Env.mp, List.map_cons, List.map_nil, List.set_cons_zero, List.set_cons_succ, AV.kill, AV.kill1, AO.kill, AV.noRow, AV.noRow1, AO.via, reduceIte, Nat.reduceEqDiff, Nat.reduceLT, Env.up, Nat.zero_ne_one, Nat.one_ne_zero, Nat.reduceAdd, List.cons_append, List.nil_append]; rotate_left 1)
  | (apply w_alst; iterate 2 exact rfl)
  | (apply w_alone; iterate 3 exact rfl)
  | (apply w_mki; exact rfl; exact rfl; rotate_left 3; exact rfl; rotate_left 1)
  | (apply w_sti; exact rfl; exact rfl; rotate_left 1; exact rfl; rotate_left 2)
  | (apply w_stst; iterate 5 exact rfl)
  | (apply w_stbv; iterate 6 exact rfl)
  | (apply w_stbo; exact rfl; exact rfl; exact rfl; exact rfl; exact rfl; exact True.intro)
  | ((apply AOps.splitB; exact rfl; exact rfl) <;> intro h)
  | apply AllOf.nil
  | (apply AllOf.cons; exact rfl)
  | (apply AAny.take; exact rfl; exact rfl; kernel_rfl; kernel_rfl)
  | (apply AAny.all; exact rfl)
  | (apply AAny.done; exact rfl)
  | (apply inI_of <;> omega)
  | omega
  | (simp <;> omega))
  refine AWp.loop (ι := Nat) (fun j => ⟨88, [(3, .optr 1 0), (8, .i (cA n m)), (9, .i (cB n m)), (10, .i (cS n m)), (11, .own 2), (12, .own 3), (49, .own 4), (50, .i (rtL m).length), (51, .i j)]⟩) (fun j => [.bx 27 [.i n, .ints a], .bx 27 [.i m, .ints b], .sli 2 (spL a (cA n m).toNat (cS n m).toNat a.length), .sli 2 (ctL n m a b j), .sli 2 (rtL m)]) (fun j => j ≤ m ∧ ∀ i : Nat, i < j → ctD n m a b i ≠ (cS n m).toNat) (fun j => m - j) 0 ⟨by omega, fun i hi => by omega⟩ ⟨lee rfl (by (repeat (first | exact le_nil | refine le_eq rfl rfl ?_ | refine le_eq rfl (congrArg AV.i (by omega)) ?_))), by (repeat (first | exact lo_nil | refine lo_dead ?_ | refine lo_eq rfl ?_)), rfl, rfl⟩ ?_
  rintro j ⟨j0, j1⟩
  have l1 := ctL_len n m a b j
  by_cases hj : j < m
  · have zr := rt_in m (j : Nat)
    have zr' : 0 ≤ geti (rtL m) (((j : Int).toNat : Nat) : Int) ∧ geti (rtL m) (((j : Int).toNat : Nat) : Int) ≤ 55440 := zr
    have hcj := conjugate_c m b h2 (geti (rtL m) (((j : Int).toNat : Nat) : Int)) zr'
    have gl : (ctG m b j).length = b.length := conjK_len _ _ _
    have gF : inF (ctG m b j) := conjK_in h2 zr
    have hp2 := spread_c (ctG m b j) gF (cB n m) (cS n m) (max (cA n m) (cB n m)) (by omega) (by omega) (by omega) hS
    have eG : conjK b (geti (rtL m) (((j : Int).toNat : Nat) : Int)) b.length = ctG m b j := rfl
    rw [eG] at hcj
    repeat' (first
  | (apply AOps.nil; try simp only [List.nil_append, List.cons_append, List.set_cons_zero, List.set_cons_succ, List.length_cons, List.length_nil, Nat.reduceAdd, AV.sh, AV.sh1, AV.sh0, AO.sh, List.map_cons, List.map_nil, Nat.zero_add, Nat.add_zero, setAll])
  | ((apply AOps.splitP; exact rfl; exact rfl) <;> intro h)
  | ((apply AOps.splitN; exact rfl; exact rfl) <;> intro h)
  | (apply w_move; exact rfl; exact rfl)
  | (apply w_assign; exact rfl; exact rfl)
  | apply AWp.seq
  | apply AWp.region
  | ((apply AWp.condP; exact rfl) <;> intro h)
  | ((apply AWp.condN; exact rfl) <;> intro h)
  | (apply AWp.condT; exact rfl)
  | (apply AWp.condF; exact rfl)
  | ((apply AWp.condB; exact rfl) <;> intro h)
  | apply AWp.block
  | apply AWp.ret
  | apply AWp.exit
  | apply AWp.skip
  | (apply if_pos'; exact rfl)
  | (apply if_neg'; decide)
  | (apply w_skip; exact rfl)
  | (apply w_pickT; exact rfl; exact rfl; exact rfl)
  | (apply w_pickF; exact rfl; exact rfl; exact rfl)
  | (apply w_len; exact rfl; exact rfl; first | exact .ints _ | exact .intss _ | exact .sli rfl | exact .sls rfl | exact .slr rfl | exact .orow rfl | exact .nil)
  | (apply w_callm (hcj); (focus ((repeat (first | exact im_nil | refine im_cons rfl (.val _) ?_ | refine im_cons rfl (.ints _) ?_ | refine im_cons rfl (.intss _) ?_ | refine im_cons rfl (.sli rfl) ?_ | refine im_cons rfl (.sls rfl) ?_ | refine im_cons rfl (.slr rfl) ?_ | refine im_cons rfl (.orow rfl) ?_ | refine im_cons rfl (.osub rfl (by simp; omega)) ?_ | refine im_cons rfl (.nil) ?_ | refine im_cons rfl (.nils) ?_ | refine im_cons rfl (im_agg2 (.val _) (.ints _)) ?_ | refine im_cons rfl (im_agg2 (.val _) (.sli rfl)) ?_ | refine im_cons rfl (im_agg2 (.val _) (.nil)) ?_ | refine im_cons rfl (im_agg2 (.ints _) (.intss _)) ?_ | refine im_cons rfl (im_agg2 (.ints _) (.sls rfl)) ?_ | refine im_cons rfl (im_agg2 (.sli rfl) (.intss _)) ?_ | refine im_cons rfl (im_agg2 (.sli rfl) (.sls rfl)) ?_ | refine im_cons rfl (im_agg1 (.ints _)) ?_ | refine im_cons rfl (im_agg1 (.sli rfl)) ?_ | refine im_cons rfl (im_agg1 (.intss _)) ?_ | refine im_cons rfl (im_agg1 (.sls rfl)) ?_ | refine im_cons rfl (im_agg1 (.slr rfl)) ?_ | refine im_cons rfl (im_agg1 (.nil)) ?_ | refine im_cons rfl (im_agg1 (.nils)) ?_)); done)); rintro r os0 ⟨rfl, rfl⟩; try simp only [List.nil_append, List.cons_append, List.set_cons_zero, List.set_cons_succ, List.length_cons, List.length_nil, Nat.reduceAdd, AV.sh, AV.sh1, AV.sh0, AO.sh, List.map_cons, List.map_nil, Nat.zero_add, Nat.add_zero, setAll])
  | (apply w_callm (hp2); (focus ((repeat (first | exact im_nil | refine im_cons rfl (.val _) ?_ | refine im_cons rfl (.ints _) ?_ | refine im_cons rfl (.intss _) ?_ | refine im_cons rfl (.sli rfl) ?_ | refine im_cons rfl (.sls rfl) ?_ | refine im_cons rfl (.slr rfl) ?_ | refine im_cons rfl (.orow rfl) ?_ | refine im_cons rfl (.osub rfl (by simp; omega)) ?_ | refine im_cons rfl (.nil) ?_ | refine im_cons rfl (.nils) ?_ | refine im_cons rfl (im_agg2 (.val _) (.ints _)) ?_ | refine im_cons rfl (im_agg2 (.val _) (.sli rfl)) ?_ | refine im_cons rfl (im_agg2 (.val _) (.nil)) ?_ | refine im_cons rfl (im_agg2 (.ints _) (.intss _)) ?_ | refine im_cons rfl (im_agg2 (.ints _) (.sls rfl)) ?_ | refine im_cons rfl (im_agg2 (.sli rfl) (.intss _)) ?_ | refine im_cons rfl (im_agg2 (.sli rfl) (.sls rfl)) ?_ | refine im_cons rfl (im_agg1 (.ints _)) ?_ | refine im_cons rfl (im_agg1 (.sli rfl)) ?_ | refine im_cons rfl (im_agg1 (.intss _)) ?_ | refine im_cons rfl (im_agg1 (.sls rfl)) ?_ | refine im_cons rfl (im_agg1 (.slr rfl)) ?_ | refine im_cons rfl (im_agg1 (.nil)) ?_ | refine im_cons rfl (im_agg1 (.nils)) ?_)); done)); rintro r os0 ⟨rfl, rfl⟩; try simp only [List.nil_append, List.cons_append, List.set_cons_zero, List.set_cons_succ, List.length_cons, List.length_nil, Nat.reduceAdd, AV.sh, AV.sh1, AV.sh0, AO.sh, List.map_cons, List.map_nil, Nat.zero_add, Nat.add_zero, setAll])
  | omega
  | ((first | apply w_lss | apply w_leq | apply w_gtr | apply w_geq | apply w_eql | apply w_neq | apply w_add | apply w_sub | apply w_mul | apply w_idx | apply w_ld | apply w_fld | apply w_fa | apply w_extv | apply w_min | apply w_max | apply w_slhi | apply w_sllo | apply w_bs2); iterate 3 exact rfl)
  | ((first | apply w_eqlb | apply w_neqb | apply w_idxs | apply w_lds | apply w_ext); iterate 3 exact rfl)
  | (apply w_rem; exact rfl; exact rfl; exact rfl; (focus (omega; done)); (focus (omega; done)))
  | (apply w_quo; exact rfl; exact rfl; exact rfl; (focus (omega; done)); (focus (omega; done)))
  | (apply w_remT; exact rfl; exact rfl; exact rfl)
  | (apply w_quoT; exact rfl; exact rfl; exact rfl)
  | ((first | apply w_not | apply w_neg | apply w_conv | apply w_build0 | apply w_bs1 | apply w_boxa); iterate 2 exact rfl)
  | (apply w_idxo; exact rfl; exact rfl; (first | exact .sli rfl | exact .sls rfl | exact .slr rfl); exact rfl)
  | ((first | apply w_idxr | apply w_ldr); iterate 4 exact rfl)
  | (apply w_ldo; iterate 4 exact rfl)
  | (apply w_ldls; iterate 4 exact rfl)
  | (apply w_ldrp; iterate 4 exact rfl)
  | (apply w_ldb; iterate 5 exact rfl)
  | (apply w_ldst; iterate 5 exact rfl)
  | ((first | apply w_sllh | apply w_stbi); iterate 4 exact rfl)
  | ((first | apply w_oslo | apply w_oshi | apply w_stbii); iterate 4 exact rfl)
  | (apply w_build1; exact rfl; exact rfl; (first | exact one_val rfl rfl | exact one_ints | exact one_intss | exact one_own rfl True.intro))
  | (apply w_build2; exact rfl; exact rfl; exact rfl; (first | exact one_val rfl rfl | exact one_ints | exact one_intss | exact one_own rfl True.intro); (first | exact one_val rfl rfl | exact one_ints | exact one_intss | exact one_own rfl True.intro))
  | (apply w_bs0; iterate 1 exact rfl)
  | (apply w_appn; exact rfl; exact rfl; (first | exact .ints _ | exact .sli rfl | exact .orow rfl | exact .nil | exact .osub rfl (by simp; omega)); exact rfl)
  | (apply w_app; exact rfl; exact rfl; exact rfl; exact rfl; (first | exact .ints _ | exact .sli rfl | exact .orow rfl | exact .nil | exact .osub rfl (by simp; omega)); rotate_left 1; simp only [Env.mp, List.map_cons, List.map_nil, List.set_cons_zero, List.set_cons_succ, AV.kill, AV.kill1, AO.kill, AV.noRow, AV.noRow1, AO.via, reduceIte, Nat.reduceEqDiff, Nat.reduceLT, Env.up, Nat.zero_ne_one, Nat.one_ne_zero, Nat.reduceAdd, List.cons_append, List.nil_append]; rotate_left 1)
  | (apply w_alst; iterate 2 exact rfl)
  | (apply w_alone; iterate 3 exact rfl)
  | (apply w_mki; exact rfl; exact rfl; rotate_left 3; exact rfl; rotate_left 1)
  | (apply w_sti; exact rfl; exact rfl; rotate_left 1; exact rfl; rotate_left 2)
  | (apply w_stst; iterate 5 exact rfl)
  | (apply w_stbv; iterate 6 exact rfl)
  | (apply w_stbo; exact rfl; exact rfl; exact rfl; exact rfl; exact rfl; exact True.intro)
  | ((apply AOps.splitB; exact rfl; exact rfl) <;> intro h)
  | apply AllOf.nil
  | (apply AllOf.cons; exact rfl)
  | (apply AAny.take; exact rfl; exact rfl; kernel_rfl; kernel_rfl)
  | (apply AAny.all; exact rfl)
  | (apply AAny.done; exact rfl)
  | (apply inI_of <;> omega)
  | omega
  | (simp <;> omega))
    have la := spL_len a (cA n m).toNat (cS n m).toNat a.length
    have lb := spL_len (ctG m b j) (cB n m).toNat (cS n m).toNat (ctG m b j).length
    refine AWp.loopJ (ι := Nat) (κ := Unit) 2 (fun s => ⟨88, [(3, .optr 1 0), (8, .i (cA n m)), (9, .i (cB n m)), (10, .i (cS n m)), (11, .own 2), (12, .own 3), (49, .own 4), (50, .i (rtL m).length), (51, .i j), (15, .own 6), (16, .i s)]⟩) (fun s => [.bx 27 [.i n, .ints a], .bx 27 [.i m, .ints b], .sli 2 (spL a (cA n m).toNat (cS n m).toNat a.length), .sli 2 (ctL n m a b j), .sli 2 (rtL m), .sli 2 (ctG m b j), .sli 2 (spL (ctG m b j) (cB n m).toNat (cS n m).toNat (ctG m b j).length)])
      (fun s => s ≤ (cS n m).toNat ∧ ∀ t, t < s → val a (cA n m).toNat a.length t = val (ctG m b j) (cB n m).toNat (ctG m b j).length t) (fun s => (cS n m).toNat - s) 0
      (fun _ => ⟨88, [(3, .optr 1 0), (8, .i (cA n m)), (9, .i (cB n m)), (10, .i (cS n m)), (11, .own 2), (12, .own 3), (49, .own 4), (50, .i (rtL m).length), (51, .i j), (16, .i (ctD n m a b j))]⟩) (fun _ => [.bx 27 [.i n, .ints a], .bx 27 [.i m, .ints b], .sli 2 (spL a (cA n m).toNat (cS n m).toNat a.length), .sli 2 (ctL n m a b j), .sli 2 (rtL m)]) (fun _ => True) ⟨by omega, fun t ht => by omega⟩ ⟨lee rfl (by (repeat (first | exact le_nil | refine le_eq rfl rfl ?_ | refine le_eq rfl (congrArg AV.i (by omega)) ?_))), by (repeat (first | exact lo_nil | refine lo_dead ?_ | refine lo_eq rfl ?_)), rfl, rfl⟩ ?_ ?_
    · rintro _ _ e o hf
      apply if_pos'; exact rfl
      refine AWp.fit hf ?_
      have dl' := ctD_le n m a b j
      have c1 := ctL_succ n m a b j
      by_cases hb : ctD n m a b j = (cS n m).toNat
      · have nok : ¬ CtAll n m a b := fun h => h j hj hb
        repeat' (first
  | (apply AOps.nil; try simp only [List.nil_append, List.cons_append, List.set_cons_zero, List.set_cons_succ, List.length_cons, List.length_nil, Nat.reduceAdd, AV.sh, AV.sh1, AV.sh0, AO.sh, List.map_cons, List.map_nil, Nat.zero_add, Nat.add_zero, setAll])
  | ((apply AOps.splitP; exact rfl; exact rfl) <;> intro h)
  | ((apply AOps.splitN; exact rfl; exact rfl) <;> intro h)
  | (apply w_move; exact rfl; exact rfl)
  | (apply w_assign; exact rfl; exact rfl)
  | apply AWp.seq
  | apply AWp.region
  | ((apply AWp.condP; exact rfl) <;> intro h)
  | ((apply AWp.condN; exact rfl) <;> intro h)
  | (apply AWp.condT; exact rfl)
  | (apply AWp.condF; exact rfl)
  | ((apply AWp.condB; exact rfl) <;> intro h)
  | apply AWp.block
  | apply AWp.ret
  | apply AWp.exit
  | apply AWp.skip
  | (apply if_pos'; exact rfl)
  | (apply if_neg'; decide)
  | (apply w_skip; exact rfl)
  | (apply w_pickT; exact rfl; exact rfl; exact rfl)
  | (apply w_pickF; exact rfl; exact rfl; exact rfl)
  | (apply w_len; exact rfl; exact rfl; first | exact .ints _ | exact .intss _ | exact .sli rfl | exact .sls rfl | exact .slr rfl | exact .orow rfl | exact .nil)
  | omega
  | ((first | apply w_lss | apply w_leq | apply w_gtr | apply w_geq | apply w_eql | apply w_neq | apply w_add | apply w_sub | apply w_mul | apply w_idx | apply w_ld | apply w_fld | apply w_fa | apply w_extv | apply w_min | apply w_max | apply w_slhi | apply w_sllo | apply w_bs2); iterate 3 exact rfl)
  | ((first | apply w_eqlb | apply w_neqb | apply w_idxs | apply w_lds | apply w_ext); iterate 3 exact rfl)
  | (apply w_rem; exact rfl; exact rfl; exact rfl; (focus (omega; done)); (focus (omega; done)))
  | (apply w_quo; exact rfl; exact rfl; exact rfl; (focus (omega; done)); (focus (omega; done)))
  | (apply w_remT; exact rfl; exact rfl; exact rfl)
  | (apply w_quoT; exact rfl; exact rfl; exact rfl)
  | ((first | apply w_not | apply w_neg | apply w_conv | apply w_build0 | apply w_bs1 | apply w_boxa); iterate 2 exact rfl)
  | (apply w_idxo; exact rfl; exact rfl; (first | exact .sli rfl | exact .sls rfl | exact .slr rfl); exact rfl)
  | ((first | apply w_idxr | apply w_ldr); iterate 4 exact rfl)
  | (apply w_ldo; iterate 4 exact rfl)
  | (apply w_ldls; iterate 4 exact rfl)
  | (apply w_ldrp; iterate 4 exact rfl)
  | (apply w_ldb; iterate 5 exact rfl)
  | (apply w_ldst; iterate 5 exact rfl)
  | ((first | apply w_sllh | apply w_stbi); iterate 4 exact rfl)
  | ((first | apply w_oslo | apply w_oshi | apply w_stbii); iterate 4 exact rfl)
  | (apply w_build1; exact rfl; exact rfl; (first | exact one_val rfl rfl | exact one_ints | exact one_intss | exact one_own rfl True.intro))
  | (apply w_build2; exact rfl; exact rfl; exact rfl; (first | exact one_val rfl rfl | exact one_ints | exact one_intss | exact one_own rfl True.intro); (first | exact one_val rfl rfl | exact one_ints | exact one_intss | exact one_own rfl True.intro))
  | (apply w_bs0; iterate 1 exact rfl)
  | (apply w_appn; exact rfl; exact rfl; (first | exact .ints _ | exact .sli rfl | exact .orow rfl | exact .nil | exact .osub rfl (by simp; omega)); exact rfl)
  | (apply w_app; exact rfl; exact rfl; exact rfl; exact rfl; (first | exact .ints _ | exact .sli rfl | exact .orow rfl | exact .nil | exact .osub rfl (by simp; omega)); rotate_left 1; simp only [Env.mp, List.map_cons, List.map_nil, List.set_cons_zero, List.set_cons_succ, AV.kill, AV.kill1, AO.kill, AV.noRow, AV.noRow1, AO.via, reduceIte, Nat.reduceEqDiff, Nat.reduceLT, Env.up, Nat.zero_ne_one, Nat.one_ne_zero, Nat.reduceAdd, List.cons_append, List.nil_append]; rotate_left 1)
  | (apply w_alst; iterate 2 exact rfl)
  | (apply w_alone; iterate 3 exact rfl)
  | (apply w_mki; exact rfl; exact rfl; rotate_left 3; exact rfl; rotate_left 1)
  | (apply w_sti; exact rfl; exact rfl; rotate_left 1; exact rfl; rotate_left 2)
  | (apply w_stst; iterate 5 exact rfl)
  | (apply w_stbv; iterate 6 exact rfl)
  | (apply w_stbo; exact rfl; exact rfl; exact rfl; exact rfl; exact rfl; exact True.intro)
  | ((apply AOps.splitB; exact rfl; exact rfl) <;> intro h)
  | apply AllOf.nil
  | (apply AllOf.cons; exact rfl)
  | (apply AAny.take; exact rfl; exact rfl; kernel_rfl; kernel_rfl)
  | (apply AAny.all; exact rfl)
  | (apply AAny.done; exact rfl)
  | (apply inI_of <;> omega)
  | omega
  | (simp <;> omega))
        all_goals exact ⟨_, _, _, .a3 Try.results86 rfl rfl rfl, .tup3 (.nil 2), by rw [coA, coK, if_neg nok, decide_eq_false nok], by rw [coL, if_neg nok]⟩
      · repeat' (first
  | (apply AOps.nil; try simp only [List.nil_append, List.cons_append, List.set_cons_zero, List.set_cons_succ, List.length_cons, List.length_nil, Nat.reduceAdd, AV.sh, AV.sh1, AV.sh0, AO.sh, List.map_cons, List.map_nil, Nat.zero_add, Nat.add_zero, setAll])
  | ((apply AOps.splitP; exact rfl; exact rfl) <;> intro h)
  | ((apply AOps.splitN; exact rfl; exact rfl) <;> intro h)
  | (apply w_move; exact rfl; exact rfl)
  | (apply w_assign; exact rfl; exact rfl)
  | apply AWp.seq
  | apply AWp.region
  | ((apply AWp.condP; exact rfl) <;> intro h)
  | ((apply AWp.condN; exact rfl) <;> intro h)
  | (apply AWp.condT; exact rfl)
  | (apply AWp.condF; exact rfl)
  | ((apply AWp.condB; exact rfl) <;> intro h)
  | apply AWp.block
  | apply AWp.ret
  | apply AWp.exit
  | apply AWp.skip
  | (apply if_pos'; exact rfl)
  | (apply if_neg'; decide)
  | (apply w_skip; exact rfl)
  | (apply w_pickT; exact rfl; exact rfl; exact rfl)
  | (apply w_pickF; exact rfl; exact rfl; exact rfl)
  | (apply w_len; exact rfl; exact rfl; first | exact .ints _ | exact .intss _ | exact .sli rfl | exact .sls rfl | exact .slr rfl | exact .orow rfl | exact .nil)
  | omega
  | ((first | apply w_lss | apply w_leq | apply w_gtr | apply w_geq | apply w_eql | apply w_neq | apply w_add | apply w_sub | apply w_mul | apply w_idx | apply w_ld | apply w_fld | apply w_fa | apply w_extv | apply w_min | apply w_max | apply w_slhi | apply w_sllo | apply w_bs2); iterate 3 exact rfl)
  | ((first | apply w_eqlb | apply w_neqb | apply w_idxs | apply w_lds | apply w_ext); iterate 3 exact rfl)
  | (apply w_rem; exact rfl; exact rfl; exact rfl; (focus (omega; done)); (focus (omega; done)))
  | (apply w_quo; exact rfl; exact rfl; exact rfl; (focus (omega; done)); (focus (omega; done)))
  | (apply w_remT; exact rfl; exact rfl; exact rfl)
  | (apply w_quoT; exact rfl; exact rfl; exact rfl)
  | ((first | apply w_not | apply w_neg | apply w_conv | apply w_build0 | apply w_bs1 | apply w_boxa); iterate 2 exact rfl)
  | (apply w_idxo; exact rfl; exact rfl; (first | exact .sli rfl | exact .sls rfl | exact .slr rfl); exact rfl)
  | ((first | apply w_idxr | apply w_ldr); iterate 4 exact rfl)
  | (apply w_ldo; iterate 4 exact rfl)
  | (apply w_ldls; iterate 4 exact rfl)
  | (apply w_ldrp; iterate 4 exact rfl)
  | (apply w_ldb; iterate 5 exact rfl)
  | (apply w_ldst; iterate 5 exact rfl)
  | ((first | apply w_sllh | apply w_stbi); iterate 4 exact rfl)
  | ((first | apply w_oslo | apply w_oshi | apply w_stbii); iterate 4 exact rfl)
  | (apply w_build1; exact rfl; exact rfl; (first | exact one_val rfl rfl | exact one_ints | exact one_intss | exact one_own rfl True.intro))
  | (apply w_build2; exact rfl; exact rfl; exact rfl; (first | exact one_val rfl rfl | exact one_ints | exact one_intss | exact one_own rfl True.intro); (first | exact one_val rfl rfl | exact one_ints | exact one_intss | exact one_own rfl True.intro))
  | (apply w_bs0; iterate 1 exact rfl)
  | (apply w_appn; exact rfl; exact rfl; (first | exact .ints _ | exact .sli rfl | exact .orow rfl | exact .nil | exact .osub rfl (by simp; omega)); exact rfl)
  | (apply w_app; exact rfl; exact rfl; exact rfl; exact rfl; (first | exact .ints _ | exact .sli rfl | exact .orow rfl | exact .nil | exact .osub rfl (by simp; omega)); rotate_left 1; simp only [Env.mp, List.map_cons, List.map_nil, List.set_cons_zero, List.set_cons_succ, AV.kill, AV.kill1, AO.kill, AV.noRow, AV.noRow1, AO.via, reduceIte, Nat.reduceEqDiff, Nat.reduceLT, Env.up, Nat.zero_ne_one, Nat.one_ne_zero, Nat.reduceAdd, List.cons_append, List.nil_append]; rotate_left 1)
  | (apply w_alst; iterate 2 exact rfl)
  | (apply w_alone; iterate 3 exact rfl)
  | (apply w_mki; exact rfl; exact rfl; rotate_left 3; exact rfl; rotate_left 1)
  | (apply w_sti; exact rfl; exact rfl; rotate_left 1; exact rfl; rotate_left 2)
  | (apply w_stst; iterate 5 exact rfl)
  | (apply w_stbv; iterate 6 exact rfl)
  | (apply w_stbo; exact rfl; exact rfl; exact rfl; exact rfl; exact rfl; exact True.intro)
  | ((apply AOps.splitB; exact rfl; exact rfl) <;> intro h)
  | apply AllOf.nil
  | (apply AllOf.cons; exact rfl)
  | (apply AAny.take; exact rfl; exact rfl; kernel_rfl; kernel_rfl)
  | (apply AAny.all; exact rfl)
  | (apply AAny.done; exact rfl)
  | (apply inI_of <;> omega)
  | omega
  | (simp <;> omega))
        all_goals (
          refine ⟨j + 1, ⟨by omega, fun i hi => ?_⟩, by omega, ⟨lee rfl (by (repeat (first | exact le_nil | refine le_eq rfl rfl ?_ | refine le_eq rfl (congrArg AV.i (by omega)) ?_ | refine le_eq rfl (congrArg AV.i (c1)) ?_))), by (repeat (first | exact lo_nil | refine lo_dead ?_ | refine lo_eq rfl ?_ | refine lo_eq (congrArg (AO.sli _) (c1)) ?_ | refine lo_eq (congrArg (AO.sls _ _) (c1)) ?_)), rfl, rfl⟩⟩
          by_cases e : i = j
          · subst e; exact hb
          · exact j1 i (by omega))
    · rintro s ⟨q0, q1⟩
      have ga : s < (cS n m).toNat → geti (spL a (cA n m).toNat (cS n m).toNat a.length) (((s : Int).toNat : Nat) : Int) = val a (cA n m).toNat a.length s := fun h => spL_get a _ _ _ s h
      have gb : s < (cS n m).toNat → geti (spL (ctG m b j) (cB n m).toNat (cS n m).toNat (ctG m b j).length) (((s : Int).toNat : Nat) : Int) = val (ctG m b j) (cB n m).toNat (ctG m b j).length s := fun h => spL_get _ _ _ _ s h
      by_cases hs : s < (cS n m).toNat
      · have ga' := ga hs
        have gb' := gb hs
        by_cases he : val a (cA n m).toNat a.length s = val (ctG m b j) (cB n m).toNat (ctG m b j).length s
        · repeat' (first
  | (apply AOps.nil; try simp only [List.nil_append, List.cons_append, List.set_cons_zero, List.set_cons_succ, List.length_cons, List.length_nil, Nat.reduceAdd, AV.sh, AV.sh1, AV.sh0, AO.sh, List.map_cons, List.map_nil, Nat.zero_add, Nat.add_zero, setAll])
  | ((apply AOps.splitP; exact rfl; exact rfl) <;> intro h)
  | ((apply AOps.splitN; exact rfl; exact rfl) <;> intro h)
  | (apply w_move; exact rfl; exact rfl)
  | (apply w_assign; exact rfl; exact rfl)
  | apply AWp.seq
  | apply AWp.region
  | ((apply AWp.condP; exact rfl) <;> intro h)
  | ((apply AWp.condN; exact rfl) <;> intro h)
  | (apply AWp.condT; exact rfl)
  | (apply AWp.condF; exact rfl)
  | ((apply AWp.condB; exact rfl) <;> intro h)
  | apply AWp.block
  | apply AWp.ret
  | apply AWp.exit
  | apply AWp.skip
  | (apply AWp.regionQ; kernel_rfl; kernel_rfl)
  | (apply if_pos'; exact rfl)
  | (apply if_neg'; decide)
  | (apply w_skip; exact rfl)
  | (apply w_pickT; exact rfl; exact rfl; exact rfl)
  | (apply w_pickF; exact rfl; exact rfl; exact rfl)
  | (apply w_len; exact rfl; exact rfl; first | exact .ints _ | exact .intss _ | exact .sli rfl | exact .sls rfl | exact .slr rfl | exact .orow rfl | exact .nil)
  | omega
  | ((first | apply w_lss | apply w_leq | apply w_gtr | apply w_geq | apply w_eql | apply w_neq | apply w_add | apply w_sub | apply w_mul | apply w_idx | apply w_ld | apply w_fld | apply w_fa | apply w_extv | apply w_min | apply w_max | apply w_slhi | apply w_sllo | apply w_bs2); iterate 3 exact rfl)
  | ((first | apply w_eqlb | apply w_neqb | apply w_idxs | apply w_lds | apply w_ext); iterate 3 exact rfl)
  | (apply w_rem; exact rfl; exact rfl; exact rfl; (focus (omega; done)); (focus (omega; done)))
  | (apply w_quo; exact rfl; exact rfl; exact rfl; (focus (omega; done)); (focus (omega; done)))
  | (apply w_remT; exact rfl; exact rfl; exact rfl)
  | (apply w_quoT; exact rfl; exact rfl; exact rfl)
  | ((first | apply w_not | apply w_neg | apply w_conv | apply w_build0 | apply w_bs1 | apply w_boxa); iterate 2 exact rfl)
  | (apply w_idxo; exact rfl; exact rfl; (first | exact .sli rfl | exact .sls rfl | exact .slr rfl); exact rfl)
  | ((first | apply w_idxr | apply w_ldr); iterate 4 exact rfl)
  | (apply w_ldo; iterate 4 exact rfl)
  | (apply w_ldls; iterate 4 exact rfl)
  | (apply w_ldrp; iterate 4 exact rfl)
  | (apply w_ldb; iterate 5 exact rfl)
  | (apply w_ldst; iterate 5 exact rfl)
  | ((first | apply w_sllh | apply w_stbi); iterate 4 exact rfl)
  | ((first | apply w_oslo | apply w_oshi | apply w_stbii); iterate 4 exact rfl)
  | (apply w_build1; exact rfl; exact rfl; (first | exact one_val rfl rfl | exact one_ints | exact one_intss | exact one_own rfl True.intro))
  | (apply w_build2; exact rfl; exact rfl; exact rfl; (first | exact one_val rfl rfl | exact one_ints | exact one_intss | exact one_own rfl True.intro); (first | exact one_val rfl rfl | exact one_ints | exact one_intss | exact one_own rfl True.intro))
  | (apply w_bs0; iterate 1 exact rfl)
  | (apply w_appn; exact rfl; exact rfl; (first | exact .ints _ | exact .sli rfl | exact .orow rfl | exact .nil | exact .osub rfl (by simp; omega)); exact rfl)
  | (apply w_app; exact rfl; exact rfl; exact rfl; exact rfl; (first | exact .ints _ | exact .sli rfl | exact .orow rfl | exact .nil | exact .osub rfl (by simp; omega)); rotate_left 1; simp only [Env.mp, List.map_cons, List.map_nil, List.set_cons_zero, List.set_cons_succ, AV.kill, AV.kill1, AO.kill, AV.noRow, AV.noRow1, AO.via, reduceIte, Nat.reduceEqDiff, Nat.reduceLT, Env.up, Nat.zero_ne_one, Nat.one_ne_zero, Nat.reduceAdd, List.cons_append, List.nil_append]; rotate_left 1)
  | (apply w_alst; iterate 2 exact rfl)
  | (apply w_alone; iterate 3 exact rfl)
  | (apply w_mki; exact rfl; exact rfl; rotate_left 3; exact rfl; rotate_left 1)
  | (apply w_sti; exact rfl; exact rfl; rotate_left 1; exact rfl; rotate_left 2)
  | (apply w_stst; iterate 5 exact rfl)
  | (apply w_stbv; iterate 6 exact rfl)
  | (apply w_stbo; exact rfl; exact rfl; exact rfl; exact rfl; exact rfl; exact True.intro)
  | ((apply AOps.splitB; exact rfl; exact rfl) <;> intro h)
  | apply AllOf.nil
  | (apply AllOf.cons; exact rfl)
  | (apply AAny.take; exact rfl; exact rfl; kernel_rfl; kernel_rfl)
  | (apply AAny.all; exact rfl)
  | (apply AAny.done; exact rfl)
  | (apply inI_of <;> omega)
  | omega
  | (simp <;> omega))
          all_goals (
            refine ⟨s + 1, ⟨by omega, fun t ht => ?_⟩, by omega, ⟨lee rfl (by (repeat (first | exact le_nil | refine le_eq rfl rfl ?_ | refine le_eq rfl (congrArg AV.i (by omega)) ?_))), by (repeat (first | exact lo_nil | refine lo_dead ?_ | refine lo_eq rfl ?_)), rfl, rfl⟩⟩
            by_cases e : t = s
            · subst e; exact he
            · exact q1 t (by omega))
        · have ed : ctD n m a b j = s := ctD_is q1 hs he
          repeat' (first
  | (apply AOps.nil; try simp only [List.nil_append, List.cons_append, List.set_cons_zero, List.set_cons_succ, List.length_cons, List.length_nil, Nat.reduceAdd, AV.sh, AV.sh1, AV.sh0, AO.sh, List.map_cons, List.map_nil, Nat.zero_add, Nat.add_zero, setAll])
  | ((apply AOps.splitP; exact rfl; exact rfl) <;> intro h)
  | ((apply AOps.splitN; exact rfl; exact rfl) <;> intro h)
  | (apply w_move; exact rfl; exact rfl)
  | (apply w_assign; exact rfl; exact rfl)
  | apply AWp.seq
  | apply AWp.region
  | ((apply AWp.condP; exact rfl) <;> intro h)
  | ((apply AWp.condN; exact rfl) <;> intro h)
  | (apply AWp.condT; exact rfl)
  | (apply AWp.condF; exact rfl)
  | ((apply AWp.condB; exact rfl) <;> intro h)
  | apply AWp.block
  | apply AWp.ret
  | apply AWp.exit
  | apply AWp.skip
  | (apply AWp.regionQ; kernel_rfl; kernel_rfl)
  | (apply if_pos'; exact rfl)
  | (apply if_neg'; decide)
  | (apply w_skip; exact rfl)
  | (apply w_pickT; exact rfl; exact rfl; exact rfl)
  | (apply w_pickF; exact rfl; exact rfl; exact rfl)
  | (apply w_len; exact rfl; exact rfl; first | exact .ints _ | exact .intss _ | exact .sli rfl | exact .sls rfl | exact .slr rfl | exact .orow rfl | exact .nil)
  | omega
  | ((first | apply w_lss | apply w_leq | apply w_gtr | apply w_geq | apply w_eql | apply w_neq | apply w_add | apply w_sub | apply w_mul | apply w_idx | apply w_ld | apply w_fld | apply w_fa | apply w_extv | apply w_min | apply w_max | apply w_slhi | apply w_sllo | apply w_bs2); iterate 3 exact rfl)
  | ((first | apply w_eqlb | apply w_neqb | apply w_idxs | apply w_lds | apply w_ext); iterate 3 exact rfl)
  | (apply w_rem; exact rfl; exact rfl; exact rfl; (focus (omega; done)); (focus (omega; done)))
  | (apply w_quo; exact rfl; exact rfl; exact rfl; (focus (omega; done)); (focus (omega; done)))
  | (apply w_remT; exact rfl; exact rfl; exact rfl)
  | (apply w_quoT; exact rfl; exact rfl; exact rfl)
  | ((first | apply w_not | apply w_neg | apply w_conv | apply w_build0 | apply w_bs1 | apply w_boxa); iterate 2 exact rfl)
  | (apply w_idxo; exact rfl; exact rfl; (first | exact .sli rfl | exact .sls rfl | exact .slr rfl); exact rfl)
  | ((first | apply w_idxr | apply w_ldr); iterate 4 exact rfl)
  | (apply w_ldo; iterate 4 exact rfl)
  | (apply w_ldls; iterate 4 exact rfl)
  | (apply w_ldrp; iterate 4 exact rfl)
  | (apply w_ldb; iterate 5 exact rfl)
  | (apply w_ldst; iterate 5 exact rfl)
  | ((first | apply w_sllh | apply w_stbi); iterate 4 exact rfl)
  | ((first | apply w_oslo | apply w_oshi | apply w_stbii); iterate 4 exact rfl)
  | (apply w_build1; exact rfl; exact rfl; (first | exact one_val rfl rfl | exact one_ints | exact one_intss | exact one_own rfl True.intro))
  | (apply w_build2; exact rfl; exact rfl; exact rfl; (first | exact one_val rfl rfl | exact one_ints | exact one_intss | exact one_own rfl True.intro); (first | exact one_val rfl rfl | exact one_ints | exact one_intss | exact one_own rfl True.intro))
  | (apply w_bs0; iterate 1 exact rfl)
  | (apply w_appn; exact rfl; exact rfl; (first | exact .ints _ | exact .sli rfl | exact .orow rfl | exact .nil | exact .osub rfl (by simp; omega)); exact rfl)
  | (apply w_app; exact rfl; exact rfl; exact rfl; exact rfl; (first | exact .ints _ | exact .sli rfl | exact .orow rfl | exact .nil | exact .osub rfl (by simp; omega)); rotate_left 1; simp only [Env.mp, List.map_cons, List.map_nil, List.set_cons_zero, List.set_cons_succ, AV.kill, AV.kill1, AO.kill, AV.noRow, AV.noRow1, AO.via, reduceIte, Nat.reduceEqDiff, Nat.reduceLT, Env.up, Nat.zero_ne_one, Nat.one_ne_zero, Nat.reduceAdd, List.cons_append, List.nil_append]; rotate_left 1)
  | (apply w_alst; iterate 2 exact rfl)
  | (apply w_alone; iterate 3 exact rfl)
  | (apply w_mki; exact rfl; exact rfl; rotate_left 3; exact rfl; rotate_left 1)
  | (apply w_sti; exact rfl; exact rfl; rotate_left 1; exact rfl; rotate_left 2)
  | (apply w_stst; iterate 5 exact rfl)
  | (apply w_stbv; iterate 6 exact rfl)
  | (apply w_stbo; exact rfl; exact rfl; exact rfl; exact rfl; exact rfl; exact True.intro)
  | ((apply AOps.splitB; exact rfl; exact rfl) <;> intro h)
  | apply AllOf.nil
  | (apply AllOf.cons; exact rfl)
  | (apply AAny.take; exact rfl; exact rfl; kernel_rfl; kernel_rfl)
  | (apply AAny.all; exact rfl)
  | (apply AAny.done; exact rfl)
  | (apply inI_of <;> omega)
  | omega
  | (simp <;> omega))
          all_goals exact ⟨(), trivial, ⟨lee rfl (by (repeat (first | exact le_nil | refine le_eq rfl rfl ?_ | refine le_eq rfl (congrArg AV.i (by omega)) ?_))), by (repeat (first | exact lo_nil | refine lo_dead ?_ | refine lo_eq rfl ?_)), rfl, rfl⟩⟩
      · have es : s = (cS n m).toNat := by omega
        have ed : ctD n m a b j = s := by subst es; exact ctD_all q1
        repeat' (first
  | (apply AOps.nil; try simp only [List.nil_append, List.cons_append, List.set_cons_zero, List.set_cons_succ, List.length_cons, List.length_nil, Nat.reduceAdd, AV.sh, AV.sh1, AV.sh0, AO.sh, List.map_cons, List.map_nil, Nat.zero_add, Nat.add_zero, setAll])
  | ((apply AOps.splitP; exact rfl; exact rfl) <;> intro h)
  | ((apply AOps.splitN; exact rfl; exact rfl) <;> intro h)
  | (apply w_move; exact rfl; exact rfl)
  | (apply w_assign; exact rfl; exact rfl)
  | apply AWp.seq
  | apply AWp.region
  | ((apply AWp.condP; exact rfl) <;> intro h)
  | ((apply AWp.condN; exact rfl) <;> intro h)
  | (apply AWp.condT; exact rfl)
  | (apply AWp.condF; exact rfl)
  | ((apply AWp.condB; exact rfl) <;> intro h)
  | apply AWp.block
  | apply AWp.ret
  | apply AWp.exit
  | apply AWp.skip
  | (apply AWp.regionQ; kernel_rfl; kernel_rfl)
  | (apply if_pos'; exact rfl)
  | (apply if_neg'; decide)
  | (apply w_skip; exact rfl)
  | (apply w_pickT; exact rfl; exact rfl; exact rfl)
  | (apply w_pickF; exact rfl; exact rfl; exact rfl)
  | (apply w_len; exact rfl; exact rfl; first | exact .ints _ | exact .intss _ | exact .sli rfl | exact .sls rfl | exact .slr rfl | exact .orow rfl | exact .nil)
  | omega
  | ((first | apply w_lss | apply w_leq | apply w_gtr | apply w_geq | apply w_eql | apply w_neq | apply w_add | apply w_sub | apply w_mul | apply w_idx | apply w_ld | apply w_fld | apply w_fa | apply w_extv | apply w_min | apply w_max | apply w_slhi | apply w_sllo | apply w_bs2); iterate 3 exact rfl)
  | ((first | apply w_eqlb | apply w_neqb | apply w_idxs | apply w_lds | apply w_ext); iterate 3 exact rfl)
  | (apply w_rem; exact rfl; exact rfl; exact rfl; (focus (omega; done)); (focus (omega; done)))
  | (apply w_quo; exact rfl; exact rfl; exact rfl; (focus (omega; done)); (focus (omega; done)))
  | (apply w_remT; exact rfl; exact rfl; exact rfl)
  | (apply w_quoT; exact rfl; exact rfl; exact rfl)
  | ((first | apply w_not | apply w_neg | apply w_conv | apply w_build0 | apply w_bs1 | apply w_boxa); iterate 2 exact rfl)
  | (apply w_idxo; exact rfl; exact rfl; (first | exact .sli rfl | exact .sls rfl | exact .slr rfl); exact rfl)
  | ((first | apply w_idxr | apply w_ldr); iterate 4 exact rfl)
  | (apply w_ldo; iterate 4 exact rfl)
  | (apply w_ldls; iterate 4 exact rfl)
  | (apply w_ldrp; iterate 4 exact rfl)
  | (apply w_ldb; iterate 5 exact rfl)
  | (apply w_ldst; iterate 5 exact rfl)
  | ((first | apply w_sllh | apply w_stbi); iterate 4 exact rfl)
  | ((first | apply w_oslo | apply w_oshi | apply w_stbii); iterate 4 exact rfl)
  | (apply w_build1; exact rfl; exact rfl; (first | exact one_val rfl rfl | exact one_ints | exact one_intss | exact one_own rfl True.intro))
  | (apply w_build2; exact rfl; exact rfl; exact rfl; (first | exact one_val rfl rfl | exact one_ints | exact one_intss | exact one_own rfl True.intro); (first | exact one_val rfl rfl | exact one_ints | exact one_intss | exact one_own rfl True.intro))
  | (apply w_bs0; iterate 1 exact rfl)
  | (apply w_appn; exact rfl; exact rfl; (first | exact .ints _ | exact .sli rfl | exact .orow rfl | exact .nil | exact .osub rfl (by simp; omega)); exact rfl)
  | (apply w_app; exact rfl; exact rfl; exact rfl; exact rfl; (first | exact .ints _ | exact .sli rfl | exact .orow rfl | exact .nil | exact .osub rfl (by simp; omega)); rotate_left 1; simp only [Env.mp, List.map_cons, List.map_nil, List.set_cons_zero, List.set_cons_succ, AV.kill, AV.kill1, AO.kill, AV.noRow, AV.noRow1, AO.via, reduceIte, Nat.reduceEqDiff, Nat.reduceLT, Env.up, Nat.zero_ne_one, Nat.one_ne_zero, Nat.reduceAdd, List.cons_append, List.nil_append]; rotate_left 1)
  | (apply w_alst; iterate 2 exact rfl)
  | (apply w_alone; iterate 3 exact rfl)
  | (apply w_mki; exact rfl; exact rfl; rotate_left 3; exact rfl; rotate_left 1)
  | (apply w_sti; exact rfl; exact rfl; rotate_left 1; exact rfl; rotate_left 2)
  | (apply w_stst; iterate 5 exact rfl)
  | (apply w_stbv; iterate 6 exact rfl)
  | (apply w_stbo; exact rfl; exact rfl; exact rfl; exact rfl; exact rfl; exact True.intro)
  | ((apply AOps.splitB; exact rfl; exact rfl) <;> intro h)
  | apply AllOf.nil
  | (apply AllOf.cons; exact rfl)
  | (apply AAny.take; exact rfl; exact rfl; kernel_rfl; kernel_rfl)
  | (apply AAny.all; exact rfl)
  | (apply AAny.done; exact rfl)
  | (apply inI_of <;> omega)
  | omega
  | (simp <;> omega))
        all_goals exact ⟨(), trivial, ⟨lee rfl (by (repeat (first | exact le_nil | refine le_eq rfl rfl ?_ | refine le_eq rfl (congrArg AV.i (by omega)) ?_))), by (repeat (first | exact lo_nil | refine lo_dead ?_ | refine lo_eq rfl ?_)), rfl, rfl⟩⟩
  · have ej : j = m := by omega
    subst ej
    have aok : CtAll n j a b := fun i hi => j1 i hi
    repeat' (first
  | (apply AOps.nil; try simp only [List.nil_append, List.cons_append, List.set_cons_zero, List.set_cons_succ, List.length_cons, List.length_nil, Nat.reduceAdd, AV.sh, AV.sh1, AV.sh0, AO.sh, List.map_cons, List.map_nil, Nat.zero_add, Nat.add_zero, setAll])
  | ((apply AOps.splitP; exact rfl; exact rfl) <;> intro h)
  | ((apply AOps.splitN; exact rfl; exact rfl) <;> intro h)
  | (apply w_move; exact rfl; exact rfl)
  | (apply w_assign; exact rfl; exact rfl)
  | apply AWp.seq
  | apply AWp.region
  | ((apply AWp.condP; exact rfl) <;> intro h)
  | ((apply AWp.condN; exact rfl) <;> intro h)
  | (apply AWp.condT; exact rfl)
  | (apply AWp.condF; exact rfl)
  | ((apply AWp.condB; exact rfl) <;> intro h)
  | apply AWp.block
  | apply AWp.ret
  | apply AWp.exit
  | apply AWp.skip
  | (apply if_pos'; exact rfl)
  | (apply if_neg'; decide)
  | (apply w_skip; exact rfl)
  | (apply w_pickT; exact rfl; exact rfl; exact rfl)
  | (apply w_pickF; exact rfl; exact rfl; exact rfl)
  | (apply w_len; exact rfl; exact rfl; first | exact .ints _ | exact .intss _ | exact .sli rfl | exact .sls rfl | exact .slr rfl | exact .orow rfl | exact .nil)
  | omega
  | ((first | apply w_lss | apply w_leq | apply w_gtr | apply w_geq | apply w_eql | apply w_neq | apply w_add | apply w_sub | apply w_mul | apply w_idx | apply w_ld | apply w_fld | apply w_fa | apply w_extv | apply w_min | apply w_max | apply w_slhi | apply w_sllo | apply w_bs2); iterate 3 exact rfl)
  | ((first | apply w_eqlb | apply w_neqb | apply w_idxs | apply w_lds | apply w_ext); iterate 3 exact rfl)
  | (apply w_rem; exact rfl; exact rfl; exact rfl; (focus (omega; done)); (focus (omega; done)))
  | (apply w_quo; exact rfl; exact rfl; exact rfl; (focus (omega; done)); (focus (omega; done)))
  | (apply w_remT; exact rfl; exact rfl; exact rfl)
  | (apply w_quoT; exact rfl; exact rfl; exact rfl)
  | ((first | apply w_not | apply w_neg | apply w_conv | apply w_build0 | apply w_bs1 | apply w_boxa); iterate 2 exact rfl)
  | (apply w_idxo; exact rfl; exact rfl; (first | exact .sli rfl | exact .sls rfl | exact .slr rfl); exact rfl)
  | ((first | apply w_idxr | apply w_ldr); iterate 4 exact rfl)
  | (apply w_ldo; iterate 4 exact rfl)
  | (apply w_ldls; iterate 4 exact rfl)
  | (apply w_ldrp; iterate 4 exact rfl)
  | (apply w_ldb; iterate 5 exact rfl)
  | (apply w_ldst; iterate 5 exact rfl)
  | ((first | apply w_sllh | apply w_stbi); iterate 4 exact rfl)
  | ((first | apply w_oslo | apply w_oshi | apply w_stbii); iterate 4 exact rfl)
  | (apply w_build1; exact rfl; exact rfl; (first | exact one_val rfl rfl | exact one_ints | exact one_intss | exact one_own rfl True.intro))
  | (apply w_build2; exact rfl; exact rfl; exact rfl; (first | exact one_val rfl rfl | exact one_ints | exact one_intss | exact one_own rfl True.intro); (first | exact one_val rfl rfl | exact one_ints | exact one_intss | exact one_own rfl True.intro))
  | (apply w_bs0; iterate 1 exact rfl)
  | (apply w_appn; exact rfl; exact rfl; (first | exact .ints _ | exact .sli rfl | exact .orow rfl | exact .nil | exact .osub rfl (by simp; omega)); exact rfl)
  | (apply w_app; exact rfl; exact rfl; exact rfl; exact rfl; (first | exact .ints _ | exact .sli rfl | exact .orow rfl | exact .nil | exact .osub rfl (by simp; omega)); rotate_left 1; simp only [Env.mp, List.map_cons, List.map_nil, List.set_cons_zero, List.set_cons_succ, AV.kill, AV.kill1, AO.kill, AV.noRow, AV.noRow1, AO.via, reduceIte, Nat.reduceEqDiff, Nat.reduceLT, Env.up, Nat.zero_ne_one, Nat.one_ne_zero, Nat.reduceAdd, List.cons_append, List.nil_append]; rotate_left 1)
  | (apply w_alst; iterate 2 exact rfl)
  | (apply w_alone; iterate 3 exact rfl)
  | (apply w_mki; exact rfl; exact rfl; rotate_left 3; exact rfl; rotate_left 1)
  | (apply w_sti; exact rfl; exact rfl; rotate_left 1; exact rfl; rotate_left 2)
  | (apply w_stst; iterate 5 exact rfl)
  | (apply w_stbv; iterate 6 exact rfl)
  | (apply w_stbo; exact rfl; exact rfl; exact rfl; exact rfl; exact rfl; exact True.intro)
  | ((apply AOps.splitB; exact rfl; exact rfl) <;> intro h)
  | apply AllOf.nil
  | (apply AllOf.cons; exact rfl)
  | (apply AAny.take; exact rfl; exact rfl; kernel_rfl; kernel_rfl)
  | (apply AAny.all; exact rfl)
  | (apply AAny.done; exact rfl)
  | (apply inI_of <;> omega)
  | omega
  | (simp <;> omega))
    all_goals exact ⟨_, _, _, .a3 Try.results86 rfl rfl rfl, .tup3 (.sli rfl), by rw [coA, coK, if_pos aok, decide_eq_true aok], by rw [coL, if_pos aok]⟩
end Go.Proofs.Ytpbfgmehdhdjdaa
