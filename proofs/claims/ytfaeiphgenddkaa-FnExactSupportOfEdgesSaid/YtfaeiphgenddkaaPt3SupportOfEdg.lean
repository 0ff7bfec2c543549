/-
  Parts of the proof, one behind the other: contracts of functions and plain laws. No condition.
-/
import Derived.WalkKit
import Derived.Deep.LoopGhost
import Derived.Deep.Draws
import Derived.Lib.Walk
import Derived.Lib.Small
import Derived.Lib.Slices
import Derived.Shelf.RegionOpenPlain
import Derived.Test.YtfaeiphgenddkaaProg
import Derived.OrdersHeld
import Derived.Test.YtfaeiphgenddkaaPt2SupportOfEdg
/-
  The stable sort of the library: merges where one part has one element, walked. No condition.
-/
set_option linter.unusedSimpArgs false
set_option linter.unusedVariables false
namespace Go.Proofs.Ytfaeiphgenddkaa
open Go Go.RowKit Go.Lib Go.Sort Go.Shelf
variable {α : Type} [Inhabited α]

set_option maxHeartbeats 16000000 in
set_option maxRecDepth 1000000 in
theorem symMerge_l (enc : α → Value) (cf : α → α → Int) (hO : SWO (ltOf cf)) (g : Nat) (cb : Array Value) (blk off cap a b : Nat) (d0 d : Array α) (w0 w : World)
    (eg : ∀ args w, (callFunc g args).run Try.prog w = .ok (.enter g args) w) (hcmp : CmpLays1 Try.prog g cb enc cf blk off d0.size w0) (R : Row1 enc w0 blk off d0) (hs : d0.size = d.size) (S : SW enc w0 blk off d w) (hab : a + 1 < b) (hb : b ≤ d.size) (hsz : d.size < 4611686018427387904) (hsr : SortedIn (ltOf cf) (a + 1) b d) :
    Calls Try.prog 55 #[.slice (some ⟨blk, off, none⟩) d.size cap, .int .i64 a, .int .i64 ((a + 1 : Nat)), .int .i64 b, .func (.func g) #[] cb] w fun e w' => e = .returned (.tuple #[]) ∧ ∃ d', d'.size = d.size ∧ PermIn a b d d' ∧ SortedIn (ltOf cf) a b d' ∧ SW enc w0 blk off d' w' := by
  have mixed : Try.prog.follows Departure.mixedOrders = true := by kernel_rfl
  have hcl0 := R.hO.cells
  simp only [Value.cells] at hcl0
  have hst := R.hO.store Try.prog
  have HC : Aside _ := hcmp
  have S0 : Aside (SW enc w0 blk off d w) := S
  have HS : Aside (SortedIn (ltOf cf) (a + 1) b d) := hsr
  clear S hcmp hsr
  obtain ⟨m, hm⟩ : ∃ m, m = a + 1 := ⟨_, rfl⟩
  have z1 : (m : Int) - (a : Int) = 1 := by omega
  have hm1 : m ≤ a + 1 := by omega
  have hm2 : a + 1 ≤ m := by omega
  rw [← hm]
  clear hm
  go_enter Try.func55, Try.ntmps55
  go_wp2
  go_loopg [10, 11] (b - a) (fun g1 vi vj wr => ∃ (i j : Nat), vi = .int .i64 i ∧ vj = .int .i64 j ∧ m ≤ i ∧ i ≤ j ∧ j ≤ b ∧ j - i ≤ g1 ∧ Aside (SW enc w0 blk off d wr) ∧ Hid ((m < i → ltOf cf d[i - 1]! d[a]! = true) ∧ (j < b → ltOf cf d[j]! d[a]! = false)))
  case atStart => exact ⟨m, b, rfl, rfl, by omega, by omega, by omega, by omega, S0, (show Hid _ from ⟨fun h => by omega, fun h => by omega⟩)⟩
  case round =>
    clear S0
    obtain ⟨i, j, rfl, rfl, hi, hij, hj, hg1, S1, HO⟩ := hrel
    by_cases hlt : i < j
    · have hltz : (i : Int) < (j : Int) := by omega
      go_wp2_with fail
      obtain ⟨h, hh⟩ : ∃ h, h = (i + j) / 2 := ⟨_, rfl⟩
      have ez : ((i : Int) + (j : Int)) / 2 = (h : Int) := by omega
      rw [ez]
      have hb1 : i ≤ h ∧ h < j := by omega
      clear ez hh
      have bh : (h : Int) < (d.size : Int) := by omega
      have ba : (a : Int) < (d.size : Int) := by omega
      obtain ⟨x, hx⟩ : ∃ x, x = d[h]! := ⟨_, rfl⟩
      obtain ⟨y, hy⟩ : ∃ x, x = d[a]! := ⟨_, rfl⟩
      have la := S1.out.cl R hs.symm h (by omega)
      have lb := S1.out.cl R hs.symm a (by omega)
      rw [← hx] at la
      rw [← hy] at lb
      have hcc := S1.out.cmp HC.out hs.symm x y
      by_cases hv : cf x y < 0
      · have hd : decide (cf x y < 0) = true := decide_eq_true hv
        have HO2 : Hid ((m < h + 1 → ltOf cf d[h + 1 - 1]! d[a]! = true) ∧ (j < b → ltOf cf d[j]! d[a]! = false)) :=
          (show Hid _ from ⟨fun _ => by rw [Nat.add_sub_cancel, ← hx, ← hy]; exact hd, HO.out.2⟩)
        clear HO hx hy
        go_quiet_grown (first | (go_at_fn g; refine Calls.grown_of (hcc _ _)))
        have S2 : Aside (SW enc w0 blk off d (grow (wr.drewN nq) osq)) := S1.out.grown nq osq
        clear la lb hcc S1
        generalize grow (wr.drewN nq) osq = w2 at S2 ⊢
        clear nq osq
        go_wp2
        go_roundg (j - (h + 1))
        case measure => omega
        case rel => exact ⟨h + 1, j, by go_num, rfl, by omega, by omega, by omega, by omega, S2, HO2⟩
      · have hd : decide (cf x y < 0) = false := decide_eq_false hv
        have HO2 : Hid ((m < i → ltOf cf d[i - 1]! d[a]! = true) ∧ (h < b → ltOf cf d[h]! d[a]! = false)) :=
          (show Hid _ from ⟨HO.out.1, fun _ => by rw [← hx, ← hy]; exact hd⟩)
        clear HO hx hy
        go_quiet_grown (first | (go_at_fn g; refine Calls.grown_of (hcc _ _)))
        have S2 : Aside (SW enc w0 blk off d (grow (wr.drewN nq) osq)) := S1.out.grown nq osq
        clear la lb hcc S1
        generalize grow (wr.drewN nq) osq = w2 at S2 ⊢
        clear nq osq
        go_wp2
        go_roundg (h - i)
        case measure => omega
        case rel => exact ⟨i, h, rfl, by go_num, by omega, by omega, by omega, by omega, S2, HO2⟩
    · have hltz : ¬ (i : Int) < (j : Int) := by omega
      obtain rfl : i = j := by omega
      have HF : Hid (Stb.Sd (ltOf cf) a b (Stb.rtF a (a + 1) i (fun k => d[k]!))) :=
        (show Hid _ from Stb.one_left hO ((Stb.sd_of (fun k => rfl)).1 HS.out) (by omega) (fun h => HO.out.1 (by omega)) (fun h => HO.out.2 h))
      clear HO
      go_wp2
      go_loopg [13] (i - a) (fun g1 vk wr => ∃ (k : Nat) (dk : Array α), vk = .int .i64 k ∧ a ≤ k ∧ k + 1 ≤ i ∧ i - k ≤ g1 + 1 ∧ dk.size = d.size ∧ Aside (SW enc w0 blk off dk wr) ∧ Hid (PermIn a b d dk ∧ Stb.Is dk (Stb.rtF a (a + 1) (k + 1) (fun k => d[k]!))))
      case atStart => exact ⟨a, d, by go_num, by omega, by omega, by omega, rfl, S1, (show Hid _ from ⟨permIn_refl _ _ _, fun k => by rw [Stb.rt_id2]⟩)⟩
      case round =>
        clear S1
        obtain ⟨k, dk, rfl, hk1, hk2, hg2, hsk, S1, HO⟩ := hrel
        have wi : IntKind.i64.wrap ((i : Int) - 1) = (i : Int) - 1 := by rw [IntKind.wrap_i64]; omega
        by_cases hlk : k + 1 < i
        · have hlkz : (k : Int) < (i : Int) - 1 := by omega
          go_wp2
          have pa : (0 : Int) ≤ (k : Int) + 1 := by omega
          have ba : (k : Int) < (d.size : Int) := by omega
          have ra : IntKind.i64.wrap ((k : Int) + 1) = (k : Int) + 1 := by rw [IntKind.wrap_i64]; omega
          obtain ⟨jN, hjN⟩ : ∃ q, q = k + 1 := ⟨_, rfl⟩
          have ec : ((k : Int) + 1).toNat = jN := by omega
          have bc : (k : Int) + 1 < (d.size : Int) := by omega
          obtain ⟨x, hx⟩ : ∃ x, x = dk[k]! := ⟨_, rfl⟩
          obtain ⟨y, hy⟩ : ∃ x, x = dk[k + 1]! := ⟨_, rfl⟩
          have S3 : Aside (SW enc w0 blk off (swp dk k (k + 1)) ((wr.setCell ⟨blk, off + k, none⟩ (enc y)).setCell ⟨blk, off + jN, none⟩ (enc x)).drew) := by rw [hjN, hx, hy]; exact S1.out.swapped R k (k + 1) (by omega) (by omega)
          have ca := S1.out.c1 R (by omega) k (by omega)
          have cb' := S1.out.c1 R (by omega) (k + 1) (by omega)
          have fa := S1.out.f1 R (by omega) k (by omega)
          have fb := S1.out.f1 R (by omega) (k + 1) (by omega)
          obtain ⟨u, cc⟩ := S1.out.c2 R (by omega) k (k + 1) (by omega) (by omega) (enc y)
          have HO2 : Hid (PermIn a b d (swp dk k (k + 1)) ∧ Stb.Is (swp dk k (k + 1)) (Stb.rtF a (a + 1) (k + 2) (fun k => d[k]!))) :=
            (show Hid _ from ⟨permIn_trans _ _ _ _ _ HO.out.1 (swp_permIn _ _ _ _ _ (by omega) (by omega) (by omega) (by omega) (by omega)), Stb.rot_up HO.out.2 hk1 (by omega)⟩)
          rw [← hjN] at cc
          rw [← hx] at ca
          rw [← hy, ← hjN] at cb'
          rw [← hjN] at fb
          clear S1 HO hx hy hjN
          go_wp2_with fail
          go_big_region_o
          clear ca cb' cc fa fb
          generalize ((wr.setCell ⟨blk, off + k, none⟩ (enc y)).setCell ⟨blk, off + jN, none⟩ (enc x)).drew = w3 at S3 ⊢
          clear ec
          go_wp2
          go_roundg (i - (k + 1) - 1)
          case measure => omega
          case rel => exact ⟨k + 1, swp dk k (k + 1), by go_num, by omega, by omega, by omega, by rw [size_swp]; exact hsk, S3, HO2⟩
        · have hlkz : ¬ (k : Int) < (i : Int) - 1 := by omega
          obtain rfl : i = k + 1 := by omega
          go_wp2
          (try simp only [Exit.inBlock, Exit.then])
          refine bodyPost_ret (results_none rfl _ _ _) rfl ?_
          exact ⟨rfl, dk, hsk, HO.out.1, (Stb.sd_of HO.out.2).2 HF.out, S1.out⟩

set_option maxHeartbeats 16000000 in
set_option maxRecDepth 1000000 in
theorem symMerge_r (enc : α → Value) (cf : α → α → Int) (hO : SWO (ltOf cf)) (g : Nat) (cb : Array Value) (blk off cap a m : Nat) (d0 d : Array α) (w0 w : World)
    (eg : ∀ args w, (callFunc g args).run Try.prog w = .ok (.enter g args) w) (hcmp : CmpLays1 Try.prog g cb enc cf blk off d0.size w0) (R : Row1 enc w0 blk off d0) (hs : d0.size = d.size) (S : SW enc w0 blk off d w) (hab : a + 1 < m) (hb0 : m + 1 ≤ d.size) (hsz : d.size < 4611686018427387904) (hsr : SortedIn (ltOf cf) a m d) :
    Calls Try.prog 55 #[.slice (some ⟨blk, off, none⟩) d.size cap, .int .i64 a, .int .i64 m, .int .i64 ((m + 1 : Nat)), .func (.func g) #[] cb] w fun e w' => e = .returned (.tuple #[]) ∧ ∃ d', d'.size = d.size ∧ PermIn a (m + 1) d d' ∧ SortedIn (ltOf cf) a (m + 1) d' ∧ SW enc w0 blk off d' w' := by
  have mixed : Try.prog.follows Departure.mixedOrders = true := by kernel_rfl
  have hcl0 := R.hO.cells
  simp only [Value.cells] at hcl0
  have hst := R.hO.store Try.prog
  have HC : Aside _ := hcmp
  have S0 : Aside (SW enc w0 blk off d w) := S
  have HS : Aside (SortedIn (ltOf cf) a m d) := hsr
  clear S hcmp hsr
  obtain ⟨b, hm⟩ : ∃ b, b = m + 1 := ⟨_, rfl⟩
  have z1 : ¬ (m : Int) - (a : Int) = 1 := by omega
  have z2 : (b : Int) - (m : Int) = 1 := by omega
  have z1b : ((m : Int) - (a : Int) == 1) = false := beq_false_of_ne z1
  have z2b : ((b : Int) - (m : Int) == 1) = true := by rw [z2]; rfl
  have hm1 : b ≤ m + 1 := by omega
  have hm2 : m + 1 ≤ b := by omega
  have HE : Aside (b = m + 1) := hm
  have hb : b ≤ d.size := by omega
  rw [show ((m + 1 : Nat) : Int) = (b : Int) by omega]
  clear hm
  go_enter Try.func55, Try.ntmps55
  go_wp2
  go_loopg [14, 15] (m - a) (fun g1 vi vj wr => ∃ (i j : Nat), vi = .int .i64 i ∧ vj = .int .i64 j ∧ a ≤ i ∧ i ≤ j ∧ j ≤ m ∧ j - i ≤ g1 ∧ Aside (SW enc w0 blk off d wr) ∧ Hid ((a < i → ltOf cf d[m]! d[i - 1]! = false) ∧ (j < m → ltOf cf d[m]! d[j]! = true)))
  case atStart => exact ⟨a, m, rfl, rfl, by omega, by omega, by omega, by omega, S0, (show Hid _ from ⟨fun h => by omega, fun h => by omega⟩)⟩
  case round =>
    clear S0
    obtain ⟨i, j, rfl, rfl, hi, hij, hj, hg1, S1, HO⟩ := hrel
    by_cases hlt : i < j
    · have hltz : (i : Int) < (j : Int) := by omega
      go_wp2_with fail
      obtain ⟨h, hh⟩ : ∃ h, h = (i + j) / 2 := ⟨_, rfl⟩
      have ez : ((i : Int) + (j : Int)) / 2 = (h : Int) := by omega
      rw [ez]
      have hb1 : i ≤ h ∧ h < j := by omega
      clear ez hh
      have bh : (h : Int) < (d.size : Int) := by omega
      have ba : (m : Int) < (d.size : Int) := by omega
      obtain ⟨x, hx⟩ : ∃ x, x = d[m]! := ⟨_, rfl⟩
      obtain ⟨y, hy⟩ : ∃ x, x = d[h]! := ⟨_, rfl⟩
      have la := S1.out.cl R hs.symm m (by omega)
      have lb := S1.out.cl R hs.symm h (by omega)
      rw [← hx] at la
      rw [← hy] at lb
      have hcc := S1.out.cmp HC.out hs.symm x y
      by_cases hv : cf x y < 0
      · have hd : decide (cf x y < 0) = true := decide_eq_true hv
        have HO2 : Hid ((a < i → ltOf cf d[m]! d[i - 1]! = false) ∧ (h < m → ltOf cf d[m]! d[h]! = true)) :=
          (show Hid _ from ⟨HO.out.1, fun _ => by rw [← hx, ← hy]; exact hd⟩)
        clear HO hx hy
        go_quiet_grown (first | (go_at_fn g; refine Calls.grown_of (hcc _ _)))
        have S2 : Aside (SW enc w0 blk off d (grow (wr.drewN nq) osq)) := S1.out.grown nq osq
        clear la lb hcc S1
        generalize grow (wr.drewN nq) osq = w2 at S2 ⊢
        clear nq osq
        go_wp2
        go_roundg (h - i)
        case measure => omega
        case rel => exact ⟨i, h, rfl, by go_num, by omega, by omega, by omega, by omega, S2, HO2⟩
      · have hd : decide (cf x y < 0) = false := decide_eq_false hv
        have HO2 : Hid ((a < h + 1 → ltOf cf d[m]! d[h + 1 - 1]! = false) ∧ (j < m → ltOf cf d[m]! d[j]! = true)) :=
          (show Hid _ from ⟨fun _ => by rw [Nat.add_sub_cancel, ← hx, ← hy]; exact hd, HO.out.2⟩)
        clear HO hx hy
        go_quiet_grown (first | (go_at_fn g; refine Calls.grown_of (hcc _ _)))
        have S2 : Aside (SW enc w0 blk off d (grow (wr.drewN nq) osq)) := S1.out.grown nq osq
        clear la lb hcc S1
        generalize grow (wr.drewN nq) osq = w2 at S2 ⊢
        clear nq osq
        go_wp2
        go_roundg (j - (h + 1))
        case measure => omega
        case rel => exact ⟨h + 1, j, by go_num, rfl, by omega, by omega, by omega, by omega, S2, HO2⟩
    · have hltz : ¬ (i : Int) < (j : Int) := by omega
      obtain rfl : i = j := by omega
      have HF : Hid (Stb.Sd (ltOf cf) a (m + 1) (Stb.rtF i m (m + 1) (fun k => d[k]!))) :=
        (show Hid _ from Stb.one_right hO ((Stb.sd_of (fun k => rfl)).1 HS.out) (by omega) (fun h => HO.out.1 (by omega)) (fun h => HO.out.2 h))
      clear HO
      go_wp2
      go_loopg [17] (m - i) (fun g1 vk wr => ∃ (k : Nat) (dk : Array α), vk = .int .i64 k ∧ i ≤ k ∧ k ≤ m ∧ k - i ≤ g1 ∧ dk.size = d.size ∧ Aside (SW enc w0 blk off dk wr) ∧ Hid (PermIn a (m + 1) d dk ∧ Stb.Is dk (Stb.rtF k m (m + 1) (fun k => d[k]!))))
      case atStart => exact ⟨m, d, by go_num, by omega, by omega, by omega, rfl, S1, (show Hid _ from ⟨permIn_refl _ _ _, fun k => by rw [Stb.rt_id1]⟩)⟩
      case round =>
        clear S1
        obtain ⟨k', dk, rfl, hk1, hk2, hg2, hsk, S1, HO⟩ := hrel
        by_cases hlk : i < k'
        · obtain ⟨k, rfl⟩ : ∃ k, k' = k + 1 := ⟨k' - 1, by omega⟩
          have hlkz : (i : Int) < (k : Int) + 1 := by omega
          go_wp2
          have pa : (0 : Int) ≤ (k : Int) + 1 := by omega
          have ba : (k : Int) < (d.size : Int) := by omega
          have ra : IntKind.i64.wrap ((k : Int) + 1) = (k : Int) + 1 := by rw [IntKind.wrap_i64]; omega
          obtain ⟨jN, hjN⟩ : ∃ q, q = k + 1 := ⟨_, rfl⟩
          have ec : ((k : Int) + 1).toNat = jN := by omega
          have bc : (k : Int) + 1 < (d.size : Int) := by omega
          obtain ⟨x, hx⟩ : ∃ x, x = dk[k + 1]! := ⟨_, rfl⟩
          obtain ⟨y, hy⟩ : ∃ x, x = dk[k]! := ⟨_, rfl⟩
          have S3 : Aside (SW enc w0 blk off (swp dk (k + 1) k) ((wr.setCell ⟨blk, off + jN, none⟩ (enc y)).setCell ⟨blk, off + k, none⟩ (enc x)).drew) := by rw [hjN, hx, hy]; exact S1.out.swapped R (k + 1) k (by omega) (by omega)
          have ca := S1.out.c1 R (by omega) (k + 1) (by omega)
          have cb' := S1.out.c1 R (by omega) k (by omega)
          have fa := S1.out.f1 R (by omega) (k + 1) (by omega)
          have fb := S1.out.f1 R (by omega) k (by omega)
          obtain ⟨u, cc⟩ := S1.out.c2 R (by omega) (k + 1) k (by omega) (by omega) (enc y)
          have HO2 : Hid (PermIn a (m + 1) d (swp dk (k + 1) k) ∧ Stb.Is (swp dk (k + 1) k) (Stb.rtF k m (m + 1) (fun k => d[k]!))) :=
            (show Hid _ from ⟨permIn_trans _ _ _ _ _ HO.out.1 (swp_permIn _ _ _ _ _ (by omega) (by omega) (by omega) (by omega) (by omega)), Stb.rot_dn HO.out.2 (by omega) (by omega)⟩)
          rw [← hjN] at cc
          rw [← hx, ← hjN] at ca
          rw [← hy] at cb'
          rw [← hjN] at fa
          clear S1 HO hx hy hjN
          go_wp2_with fail
          go_big_region_o
          clear ca cb' cc fa fb
          generalize ((wr.setCell ⟨blk, off + jN, none⟩ (enc y)).setCell ⟨blk, off + k, none⟩ (enc x)).drew = w3 at S3 ⊢
          clear ec
          go_wp2
          go_roundg (k - i)
          case measure => omega
          case rel => exact ⟨k, swp dk (k + 1) k, by go_num, by omega, by omega, by omega, by rw [size_swp]; exact hsk, S3, HO2⟩
        · have hlkz : ¬ (i : Int) < (k' : Int) := by omega
          obtain rfl : i = k' := by omega
          go_wp2
          (try simp only [Exit.inBlock, Exit.then])
          refine bodyPost_ret (results_none rfl _ _ _) rfl ?_
          exact ⟨rfl, dk, hsk, HO.out.1, (Stb.sd_of HO.out.2).2 HF.out, S1.out⟩
end Go.Proofs.Ytfaeiphgenddkaa
/-
  The stable sort of the library: merges in general, walked. No condition.
-/
set_option linter.unusedSimpArgs false
set_option linter.unusedVariables false
namespace Go.Proofs.Ytfaeiphgenddkaa
open Go Go.RowKit Go.Lib Go.Sort Go.Shelf
variable {α : Type} [Inhabited α]

theorem Stb.fin {lt : α → α → Bool} {d1 d2 d3 : Array α} {a c b : Nat} (hac : a ≤ c) (hcb : c ≤ b) (hb : b ≤ d1.size) (hx : ∀ x y, a ≤ x → x < c → c ≤ y → y < b → lt d1[y]! d1[x]! = false)
    (p2 : PermIn a c d1 d2) (s2 : SortedIn lt a c d2) (p3 : PermIn c b d2 d3) (s3 : SortedIn lt c b d3) : SortedIn lt a b d3 := by
  have h2 : ∀ x y, a ≤ x → x < c → c ≤ y → y < b → lt d2[y]! d2[x]! = false := fun x y h1 h2 h3 h4 => by
    have := permIn_all d1 d2 a c (fun v => ∀ y, c ≤ y → y < b → lt d1[y]! v = false) (by omega) p2 (fun i hi hj y h3 h4 => hx i y hi hj h3 h4) x h1 h2 y h3 h4
    rw [p2.2.1 y (Or.inr h3)]; exact this
  have h3 : ∀ x y, a ≤ x → x < c → c ≤ y → y < b → lt d3[y]! d3[x]! = false := fun x y h1 h2' h3 h4 => by
    have hz : d2.size = d1.size := p2.1
    have := permIn_all d2 d3 c b (fun v => ∀ x, a ≤ x → x < c → lt v d2[x]! = false) (by omega) p3 (fun i hi hj x h1 h2' => h2 x i h1 h2' hi hj) y h3 h4 x h1 h2'
    rw [p3.2.1 x (Or.inl h2')]; exact this
  intro p q hp hpq hq
  by_cases c1 : q < c
  · rw [p3.2.1 q (Or.inl c1), p3.2.1 p (Or.inl (by omega))]; exact s2 p q hp hpq c1
  · by_cases c2 : p < c
    · exact h3 p q hp c2 (by omega) hq
    · exact s3 p q (by omega) hpq hq

/-- What a merge comes to. -/
def MergeOk (enc : α → Value) (cf : α → α → Int) (g : Nat) (cb : Array Value) (blk off cap : Nat) (d0 : Array α) (w0 : World) (a m b : Nat) (d : Array α) (w : World) : Prop :=
  Calls Try.prog 55 #[.slice (some ⟨blk, off, none⟩) d0.size cap, .int .i64 a, .int .i64 m, .int .i64 b, .func (.func g) #[] cb] w fun e w' => e = .returned (.tuple #[]) ∧ ∃ d', d'.size = d.size ∧ PermIn a b d d' ∧ SortedIn (ltOf cf) a b d' ∧ SW enc w0 blk off d' w'

set_option maxHeartbeats 64000000 in
set_option maxRecDepth 1000000 in
theorem symMerge_i (enc : α → Value) (cf : α → α → Int) (hO : SWO (ltOf cf)) (g : Nat) (cb : Array Value) (blk off cap a m b : Nat) (d0 d : Array α) (w0 w : World)
    (eg : ∀ args w, (callFunc g args).run Try.prog w = .ok (.enter g args) w) (hcmp : CmpLays1 Try.prog g cb enc cf blk off d0.size w0) (R : Row1 enc w0 blk off d0) (hs : d0.size = d.size) (S : SW enc w0 blk off d w) (ham : a + 1 < m) (hmb : m + 1 < b) (hb : b ≤ d.size) (hsz : d.size < 4611686018427387904) (hsl : SortedIn (ltOf cf) a m d) (hsr : SortedIn (ltOf cf) m b d)
    (ih : ∀ (a' m' b' : Nat) (d' : Array α) (w' : World), b' - a' < b - a → a' < m' → m' < b' → b' ≤ d'.size → d0.size = d'.size → SW enc w0 blk off d' w' → SortedIn (ltOf cf) a' m' d' → SortedIn (ltOf cf) m' b' d' → MergeOk enc cf g cb blk off cap d0 w0 a' m' b' d' w') :
    MergeOk enc cf g cb blk off cap d0 w0 a m b d w := by
  unfold MergeOk at *
  have mixed : Try.prog.follows Departure.mixedOrders = true := by kernel_rfl
  have hcl0 := R.hO.cells
  simp only [Value.cells] at hcl0
  have hst := R.hO.store Try.prog
  have HC : Aside _ := hcmp
  have S0 : Aside (SW enc w0 blk off d w) := S
  have HL : Aside (SortedIn (ltOf cf) a m d) := hsl
  have HR : Aside (SortedIn (ltOf cf) m b d) := hsr
  have IH : Aside _ := ih
  clear S hcmp hsr hsl ih
  rw [hs]
  have z1 : ¬ (m : Int) - (a : Int) = 1 := by omega
  have z2 : ¬ (b : Int) - (m : Int) = 1 := by omega
  have z1b : ((m : Int) - (a : Int) == 1) = false := beq_false_of_ne z1
  have z2b : ((b : Int) - (m : Int) == 1) = false := beq_false_of_ne z2
  obtain ⟨mid, hmid⟩ : ∃ mid, mid = (a + b) / 2 := ⟨_, rfl⟩
  have ez : ((a : Int) + (b : Int)) / 2 = (mid : Int) := by omega
  have hm1 : 2 * mid ≤ a + b := by omega
  have hm2 : a + b ≤ 2 * mid + 1 := by omega
  obtain ⟨n, hn⟩ : ∃ n, n = mid + m := ⟨_, rfl⟩
  have en : (mid : Int) + (m : Int) = (n : Int) := by omega
  obtain ⟨p, hp⟩ : ∃ p, p + 1 = n := ⟨n - 1, by omega⟩
  have ep : (n : Int) - 1 = (p : Int) := by omega
  have hn1 : n ≤ mid + m := by omega
  have hn2 : mid + m ≤ n := by omega
  have hp1 : p + 1 ≤ n := by omega
  have hp2 : n ≤ p + 1 := by omega
  have HMID : Aside (mid = (a + b) / 2) := hmid
  clear hmid hn hp
  by_cases hmm : mid < m
  · have hmz : (mid : Int) < (m : Int) := by omega
    obtain ⟨s0, hs0⟩ : ∃ s0, s0 + b = n := ⟨n - b, by omega⟩
    have es0 : (n : Int) - (b : Int) = (s0 : Int) := by omega
    have hs1 : s0 + b ≤ n := by omega
    have hs2 : n ≤ s0 + b := by omega
    clear hs0
    go_enter Try.func55, Try.ntmps55
    go_wp2
    go_loopg [20, 21] (mid - s0) (fun g1 vi vj wr => ∃ (i j : Nat), vi = .int .i64 i ∧ vj = .int .i64 j ∧ s0 ≤ i ∧ i ≤ j ∧ j ≤ mid ∧ j - i ≤ g1 ∧ Aside (SW enc w0 blk off d wr) ∧ Hid ((s0 < i → ltOf cf d[p - (i - 1)]! d[i - 1]! = false) ∧ (j < mid → ltOf cf d[p - j]! d[j]! = true)))
    case atStart => exact ⟨s0, mid, by go_num, by go_num, by omega, by omega, by omega, by omega, S0, (show Hid _ from ⟨fun h => by omega, fun h => by omega⟩)⟩
    case round =>
      clear S0
      obtain ⟨i, j, rfl, rfl, hi, hij, hj, hg1, S1, HO⟩ := hrel
      by_cases hlt : i < j
      · have hltz : (i : Int) < (j : Int) := by omega
        go_wp2_with fail
        obtain ⟨h, hh⟩ : ∃ h, h = (i + j) / 2 := ⟨_, rfl⟩
        have eh : ((i : Int) + (j : Int)) / 2 = (h : Int) := by omega
        rw [eh]
        clear eh
        have hb1 : i ≤ h ∧ h < j := by omega
        clear hh
        obtain ⟨q, hq⟩ : ∃ q, q + h = p := ⟨p - h, by omega⟩
        have epq : (p : Int) - (h : Int) = (q : Int) := by omega
        have bq : (q : Int) < (d.size : Int) := by omega
        have rq : IntKind.i64.wrap (q : Int) = (q : Int) := by rw [IntKind.wrap_i64]; omega
        have HQ : Aside (p - h = q) := (show Aside _ from by show p - h = q; omega)
        clear hq
        have bh : (h : Int) < (d.size : Int) := by omega
        obtain ⟨x, hx⟩ : ∃ x, x = d[q]! := ⟨_, rfl⟩
        obtain ⟨y, hy⟩ : ∃ x, x = d[h]! := ⟨_, rfl⟩
        have la := S1.out.cl R hs.symm q (by omega)
        have lb := S1.out.cl R hs.symm h (by omega)
        rw [← hx] at la
        rw [← hy] at lb
        have hcc := S1.out.cmp HC.out hs.symm x y
        by_cases hv : cf x y < 0
        · have hd : decide (cf x y < 0) = true := decide_eq_true hv
          have HO2 : Hid ((s0 < i → ltOf cf d[p - (i - 1)]! d[i - 1]! = false) ∧ (h < mid → ltOf cf d[p - h]! d[h]! = true)) :=
            (show Hid _ from ⟨HO.out.1, fun _ => by rw [HQ.out, ← hx, ← hy]; exact hd⟩)
          clear HO hx hy HQ
          go_quiet_grown (first | (go_at_fn g; refine Calls.grown_of (hcc _ _)))
          have S2 : Aside (SW enc w0 blk off d (grow (wr.drewN nq) osq)) := S1.out.grown nq osq
          clear la lb hcc S1
          generalize grow (wr.drewN nq) osq = w2 at S2 ⊢
          clear nq osq
          go_wp2
          go_roundg (h - i)
          case measure => omega
          case rel => exact ⟨i, h, rfl, by go_num, by omega, by omega, by omega, by omega, S2, HO2⟩
        · have hd : decide (cf x y < 0) = false := decide_eq_false hv
          have HO2 : Hid ((s0 < h + 1 → ltOf cf d[p - (h + 1 - 1)]! d[h + 1 - 1]! = false) ∧ (j < mid → ltOf cf d[p - j]! d[j]! = true)) :=
            (show Hid _ from ⟨fun _ => by rw [Nat.add_sub_cancel, HQ.out, ← hx, ← hy]; exact hd, HO.out.2⟩)
          clear HO hx hy HQ
          go_quiet_grown (first | (go_at_fn g; refine Calls.grown_of (hcc _ _)))
          have S2 : Aside (SW enc w0 blk off d (grow (wr.drewN nq) osq)) := S1.out.grown nq osq
          clear la lb hcc S1
          generalize grow (wr.drewN nq) osq = w2 at S2 ⊢
          clear nq osq
          go_wp2
          go_roundg (j - (h + 1))
          case measure => omega
          case rel => exact ⟨h + 1, j, by go_num, rfl, by omega, by omega, by omega, by omega, S2, HO2⟩
      · have hltz : ¬ (i : Int) < (j : Int) := by omega
        obtain rfl : i = j := by omega
        obtain ⟨e, he⟩ : ∃ e, e + i = n := ⟨n - i, by omega⟩
        have ee : (n : Int) - (i : Int) = (e : Int) := by omega
        have he1 : e + i ≤ n := by omega
        have he2 : n ≤ e + i := by omega
        have CU : Hid (Stb.Cut (ltOf cf) (fun k => d[k]!) a m b i e) := (show Hid _ from ⟨by omega, by omega, by omega, by have := HMID.out; omega,
          fun h1 h2 => by have := HO.out.1 (by omega); rw [show p - (i - 1) = e by omega] at this; exact this,
          fun h1 h2 => by have := HO.out.2 (by omega); rw [show p - i = e - 1 by omega] at this; exact this⟩)
        have CR : Hid _ := CU.out.cross hO ((Stb.sd_of (fun k => rfl)).1 HL.out) ((Stb.sd_of (fun k => rfl)).1 HR.out)
        rw [← HMID.out] at CR
        clear he HO CU
        by_cases c1 : i < m ∧ m < e
        · have hrc := rotate_s enc g cb blk off cap i m e d0 d w0 wr R hs S1.out c1.1 c1.2 (by omega) hsz
          have c1a : (i : Int) < (m : Int) := by omega
          have c1b : (m : Int) < (e : Int) := by omega
          by_cases c2 : a < i ∧ i < mid
          · have c2a : (a : Int) < (i : Int) := by omega
            have c2b : (i : Int) < (mid : Int) := by omega
            clear c2
            by_cases c3 : mid < e ∧ e < b
            · have c3a : (mid : Int) < (e : Int) := by omega
              have c3b : (e : Int) < (b : Int) := by omega
              clear c3
              go_wp2_with fail
              refine hrc.mono ?_
              rintro ev w1 ⟨rfl, d1, hz1, hpr, hIr, hwr⟩
              clear c1
              have hp1' : Hid (PermIn a b d d1) := (show Hid _ from permIn_mono _ _ _ _ _ _ (by omega) (by omega) (by omega) hpr)
              have hI1 : Hid (Stb.Is d1 (Stb.rtF i m e (fun k => d[k]!))) := hIr
              have hw1 : Aside (SW enc w0 blk off d1 w1) := hwr
              clear hpr hIr hwr hrc S1
              have C1 : Hid (SortedIn (ltOf cf) a i d1 ∧ SortedIn (ltOf cf) i mid d1 ∧ SortedIn (ltOf cf) mid e d1 ∧ SortedIn (ltOf cf) e b d1 ∧ ∀ x y, a ≤ x → x < mid → mid ≤ y → y < b → ltOf cf d1[y]! d1[x]! = false) :=
                (show Hid _ from ⟨(Stb.sd_of hI1.out).2 CR.out.1, (Stb.sd_of hI1.out).2 CR.out.2.1, (Stb.sd_of hI1.out).2 CR.out.2.2.1, (Stb.sd_of hI1.out).2 CR.out.2.2.2.1, fun x y h1 h2 h3 h4 => by rw [hI1.out, hI1.out]; exact CR.out.2.2.2.2 x y h1 h2 h3 h4⟩)
              clear hI1 CR
              have hl := IH.out a i mid d1 w1 (by omega) (by omega) (by omega) (by omega) (by omega) hw1.out C1.out.1 C1.out.2.1
              rw [hs] at hl
              clear hw1
              go_wp2_with fail
              refine hl.mono ?_
              rintro ev w2 ⟨rfl, d2, hz2, hpl, hsl2, hwl⟩
              have hp2' : Hid (PermIn a mid d1 d2) := hpl
              have hs2' : Hid (SortedIn (ltOf cf) a mid d2) := hsl2
              have hw2 : Aside (SW enc w0 blk off d2 w2) := hwl
              clear hpl hsl2 hwl hl
              have C2 : Hid (SortedIn (ltOf cf) mid e d2 ∧ SortedIn (ltOf cf) e b d2) := (show Hid _ from ⟨C1.out.2.2.1.congr (fun i h1 h2 => hp2'.out.2.1 i (Or.inr h1)), C1.out.2.2.2.1.congr (fun i h1 h2 => hp2'.out.2.1 i (Or.inr (by omega)))⟩)
              have hl3 := IH.out mid e b d2 w2 (by omega) (by omega) (by omega) (by omega) (by omega) hw2.out C2.out.1 C2.out.2
              rw [hs] at hl3
              clear hw2
              go_wp2_with fail
              all_goals refine hl3.mono ?_
              all_goals rintro ev w3 ⟨rfl, d3, hz3, hpl3, hsl3, hwl3⟩
              all_goals go_wp2_with fail
              all_goals go_end0
              all_goals exact ⟨rfl, d3, by omega, permIn_trans _ _ _ _ _ hp1'.out (permIn_trans _ _ _ _ _ (permIn_mono _ _ _ _ _ _ (by omega) (by omega) (by omega) hp2'.out) (permIn_mono _ _ _ _ _ _ (by omega) (by omega) (by omega) hpl3)), Stb.fin (by omega) (by omega) (by omega) C1.out.2.2.2.2 hp2'.out hs2'.out hpl3 hsl3, hwl3⟩
            · have c3a : ¬ ((mid : Int) < (e : Int) ∧ (e : Int) < (b : Int)) := by omega
              go_wp2_with fail
              refine hrc.mono ?_
              rintro ev w1 ⟨rfl, d1, hz1, hpr, hIr, hwr⟩
              clear c1
              have hp1' : Hid (PermIn a b d d1) := (show Hid _ from permIn_mono _ _ _ _ _ _ (by omega) (by omega) (by omega) hpr)
              have hI1 : Hid (Stb.Is d1 (Stb.rtF i m e (fun k => d[k]!))) := hIr
              have hw1 : Aside (SW enc w0 blk off d1 w1) := hwr
              clear hpr hIr hwr hrc S1
              have C1 : Hid (SortedIn (ltOf cf) a i d1 ∧ SortedIn (ltOf cf) i mid d1 ∧ SortedIn (ltOf cf) mid e d1 ∧ SortedIn (ltOf cf) e b d1 ∧ ∀ x y, a ≤ x → x < mid → mid ≤ y → y < b → ltOf cf d1[y]! d1[x]! = false) :=
                (show Hid _ from ⟨(Stb.sd_of hI1.out).2 CR.out.1, (Stb.sd_of hI1.out).2 CR.out.2.1, (Stb.sd_of hI1.out).2 CR.out.2.2.1, (Stb.sd_of hI1.out).2 CR.out.2.2.2.1, fun x y h1 h2 h3 h4 => by rw [hI1.out, hI1.out]; exact CR.out.2.2.2.2 x y h1 h2 h3 h4⟩)
              clear hI1 CR
              have hl := IH.out a i mid d1 w1 (by omega) (by omega) (by omega) (by omega) (by omega) hw1.out C1.out.1 C1.out.2.1
              rw [hs] at hl
              clear hw1
              go_wp2_with fail
              refine hl.mono ?_
              rintro ev w2 ⟨rfl, d2, hz2, hpl, hsl2, hwl⟩
              have hp2' : Hid (PermIn a mid d1 d2) := hpl
              have hs2' : Hid (SortedIn (ltOf cf) a mid d2) := hsl2
              have hw2 : Aside (SW enc w0 blk off d2 w2) := hwl
              clear hpl hsl2 hwl hl
              have C2 : Hid (SortedIn (ltOf cf) mid e d2 ∧ SortedIn (ltOf cf) e b d2) := (show Hid _ from ⟨C1.out.2.2.1.congr (fun i h1 h2 => hp2'.out.2.1 i (Or.inr h1)), C1.out.2.2.2.1.congr (fun i h1 h2 => hp2'.out.2.1 i (Or.inr (by omega)))⟩)
              have hs3' : Hid (SortedIn (ltOf cf) mid b d2) := (show Hid _ from by
                by_cases hq : mid < e
                · have : e = b := by omega
                  have h3 := C2.out.1; rw [this] at h3; exact h3
                · have : e = mid := by omega
                  have h3 := C2.out.2; rw [this] at h3; exact h3)
              go_wp2_with fail
              all_goals go_end0
              all_goals exact ⟨rfl, d2, by omega, permIn_trans _ _ _ _ _ hp1'.out (permIn_mono _ _ _ _ _ _ (by omega) (by omega) (by omega) hp2'.out), Stb.fin (by omega) (by omega) (by omega) C1.out.2.2.2.2 hp2'.out hs2'.out (permIn_refl _ _ _) hs3'.out, hw2.out⟩
          · have c2a : ¬ ((a : Int) < (i : Int) ∧ (i : Int) < (mid : Int)) := by omega
            by_cases c3 : mid < e ∧ e < b
            · have c3a : (mid : Int) < (e : Int) := by omega
              have c3b : (e : Int) < (b : Int) := by omega
              clear c3
              go_wp2_with fail
              refine hrc.mono ?_
              rintro ev w1 ⟨rfl, d1, hz1, hpr, hIr, hwr⟩
              clear c1
              have hp1' : Hid (PermIn a b d d1) := (show Hid _ from permIn_mono _ _ _ _ _ _ (by omega) (by omega) (by omega) hpr)
              have hI1 : Hid (Stb.Is d1 (Stb.rtF i m e (fun k => d[k]!))) := hIr
              have hw1 : Aside (SW enc w0 blk off d1 w1) := hwr
              clear hpr hIr hwr hrc S1
              have C1 : Hid (SortedIn (ltOf cf) a i d1 ∧ SortedIn (ltOf cf) i mid d1 ∧ SortedIn (ltOf cf) mid e d1 ∧ SortedIn (ltOf cf) e b d1 ∧ ∀ x y, a ≤ x → x < mid → mid ≤ y → y < b → ltOf cf d1[y]! d1[x]! = false) :=
                (show Hid _ from ⟨(Stb.sd_of hI1.out).2 CR.out.1, (Stb.sd_of hI1.out).2 CR.out.2.1, (Stb.sd_of hI1.out).2 CR.out.2.2.1, (Stb.sd_of hI1.out).2 CR.out.2.2.2.1, fun x y h1 h2 h3 h4 => by rw [hI1.out, hI1.out]; exact CR.out.2.2.2.2 x y h1 h2 h3 h4⟩)
              clear hI1 CR
              obtain ⟨d2, hd2⟩ : ∃ d2, d2 = d1 := ⟨_, rfl⟩
              obtain ⟨w2, hw2e⟩ : ∃ w2, w2 = w1 := ⟨_, rfl⟩
              have hz2 : d2.size = d1.size := by rw [hd2]
              have hp2' : Hid (PermIn a mid d1 d2) := (show Hid _ from by rw [hd2]; exact permIn_refl _ _ _)
              have hs2' : Hid (SortedIn (ltOf cf) a mid d2) := (show Hid _ from by
                rw [hd2]
                by_cases hq : a < i
                · have : i = mid := by omega
                  have h3 := C1.out.1; rw [this] at h3; exact h3
                · have : i = a := by omega
                  have h3 := C1.out.2.1; rw [this] at h3; exact h3)
              have hw2 : Aside (SW enc w0 blk off d2 w2) := (show Aside _ from by rw [hd2, hw2e]; exact hw1.out)
              rw [← hw2e]
              clear hd2 hw2e hw1
              have C2 : Hid (SortedIn (ltOf cf) mid e d2 ∧ SortedIn (ltOf cf) e b d2) := (show Hid _ from ⟨C1.out.2.2.1.congr (fun i h1 h2 => hp2'.out.2.1 i (Or.inr h1)), C1.out.2.2.2.1.congr (fun i h1 h2 => hp2'.out.2.1 i (Or.inr (by omega)))⟩)
              have hl3 := IH.out mid e b d2 w2 (by omega) (by omega) (by omega) (by omega) (by omega) hw2.out C2.out.1 C2.out.2
              rw [hs] at hl3
              clear hw2
              go_wp2_with fail
              all_goals refine hl3.mono ?_
              all_goals rintro ev w3 ⟨rfl, d3, hz3, hpl3, hsl3, hwl3⟩
              all_goals go_wp2_with fail
              all_goals go_end0
              all_goals exact ⟨rfl, d3, by omega, permIn_trans _ _ _ _ _ hp1'.out (permIn_trans _ _ _ _ _ (permIn_mono _ _ _ _ _ _ (by omega) (by omega) (by omega) hp2'.out) (permIn_mono _ _ _ _ _ _ (by omega) (by omega) (by omega) hpl3)), Stb.fin (by omega) (by omega) (by omega) C1.out.2.2.2.2 hp2'.out hs2'.out hpl3 hsl3, hwl3⟩
            · have c3a : ¬ ((mid : Int) < (e : Int) ∧ (e : Int) < (b : Int)) := by omega
              go_wp2_with fail
              refine hrc.mono ?_
              rintro ev w1 ⟨rfl, d1, hz1, hpr, hIr, hwr⟩
              clear c1
              have hp1' : Hid (PermIn a b d d1) := (show Hid _ from permIn_mono _ _ _ _ _ _ (by omega) (by omega) (by omega) hpr)
              have hI1 : Hid (Stb.Is d1 (Stb.rtF i m e (fun k => d[k]!))) := hIr
              have hw1 : Aside (SW enc w0 blk off d1 w1) := hwr
              clear hpr hIr hwr hrc S1
              have C1 : Hid (SortedIn (ltOf cf) a i d1 ∧ SortedIn (ltOf cf) i mid d1 ∧ SortedIn (ltOf cf) mid e d1 ∧ SortedIn (ltOf cf) e b d1 ∧ ∀ x y, a ≤ x → x < mid → mid ≤ y → y < b → ltOf cf d1[y]! d1[x]! = false) :=
                (show Hid _ from ⟨(Stb.sd_of hI1.out).2 CR.out.1, (Stb.sd_of hI1.out).2 CR.out.2.1, (Stb.sd_of hI1.out).2 CR.out.2.2.1, (Stb.sd_of hI1.out).2 CR.out.2.2.2.1, fun x y h1 h2 h3 h4 => by rw [hI1.out, hI1.out]; exact CR.out.2.2.2.2 x y h1 h2 h3 h4⟩)
              clear hI1 CR
              obtain ⟨d2, hd2⟩ : ∃ d2, d2 = d1 := ⟨_, rfl⟩
              obtain ⟨w2, hw2e⟩ : ∃ w2, w2 = w1 := ⟨_, rfl⟩
              have hz2 : d2.size = d1.size := by rw [hd2]
              have hp2' : Hid (PermIn a mid d1 d2) := (show Hid _ from by rw [hd2]; exact permIn_refl _ _ _)
              have hs2' : Hid (SortedIn (ltOf cf) a mid d2) := (show Hid _ from by
                rw [hd2]
                by_cases hq : a < i
                · have : i = mid := by omega
                  have h3 := C1.out.1; rw [this] at h3; exact h3
                · have : i = a := by omega
                  have h3 := C1.out.2.1; rw [this] at h3; exact h3)
              have hw2 : Aside (SW enc w0 blk off d2 w2) := (show Aside _ from by rw [hd2, hw2e]; exact hw1.out)
              rw [← hw2e]
              clear hd2 hw2e hw1
              have C2 : Hid (SortedIn (ltOf cf) mid e d2 ∧ SortedIn (ltOf cf) e b d2) := (show Hid _ from ⟨C1.out.2.2.1.congr (fun i h1 h2 => hp2'.out.2.1 i (Or.inr h1)), C1.out.2.2.2.1.congr (fun i h1 h2 => hp2'.out.2.1 i (Or.inr (by omega)))⟩)
              have hs3' : Hid (SortedIn (ltOf cf) mid b d2) := (show Hid _ from by
                by_cases hq : mid < e
                · have : e = b := by omega
                  have h3 := C2.out.1; rw [this] at h3; exact h3
                · have : e = mid := by omega
                  have h3 := C2.out.2; rw [this] at h3; exact h3)
              go_wp2_with fail
              all_goals go_end0
              all_goals exact ⟨rfl, d2, by omega, permIn_trans _ _ _ _ _ hp1'.out (permIn_mono _ _ _ _ _ _ (by omega) (by omega) (by omega) hp2'.out), Stb.fin (by omega) (by omega) (by omega) C1.out.2.2.2.2 hp2'.out hs2'.out (permIn_refl _ _ _) hs3'.out, hw2.out⟩
        · have c1a : ¬ ((i : Int) < (m : Int) ∧ (m : Int) < (e : Int)) := by omega
          have hrt : Stb.Is d (Stb.rtF i m e (fun k => d[k]!)) := by
            intro k
            by_cases hq : i < m
            · rw [show e = m by omega, Stb.rt_id2]
            · rw [show i = m by omega, Stb.rt_id1]
          obtain ⟨d1, hd1⟩ : ∃ d1, d1 = d := ⟨_, rfl⟩
          obtain ⟨w1, hw1e⟩ : ∃ w1, w1 = wr := ⟨_, rfl⟩
          have hz1 : d1.size = d.size := by rw [hd1]
          have hp1' : Hid (PermIn a b d d1) := (show Hid _ from by rw [hd1]; exact permIn_refl _ _ _)
          have hI1 : Hid (Stb.Is d1 (Stb.rtF i m e (fun k => d[k]!))) := (show Hid _ from by rw [hd1]; exact hrt)
          have hw1 : Aside (SW enc w0 blk off d1 w1) := (show Aside _ from by rw [hd1, hw1e]; exact S1.out)
          rw [← hw1e]
          clear hd1 hw1e hrt S1
          by_cases c2 : a < i ∧ i < mid
          · have c2a : (a : Int) < (i : Int) := by omega
            have c2b : (i : Int) < (mid : Int) := by omega
            clear c2
            by_cases c3 : mid < e ∧ e < b
            · have c3a : (mid : Int) < (e : Int) := by omega
              have c3b : (e : Int) < (b : Int) := by omega
              clear c3
              rcases (show ¬ (i : Int) < (m : Int) ∨ ((i : Int) < (m : Int) ∧ ¬ (m : Int) < (e : Int)) by omega) with g1 | ⟨g1, g1'⟩
              · have C1 : Hid (SortedIn (ltOf cf) a i d1 ∧ SortedIn (ltOf cf) i mid d1 ∧ SortedIn (ltOf cf) mid e d1 ∧ SortedIn (ltOf cf) e b d1 ∧ ∀ x y, a ≤ x → x < mid → mid ≤ y → y < b → ltOf cf d1[y]! d1[x]! = false) :=
                  (show Hid _ from ⟨(Stb.sd_of hI1.out).2 CR.out.1, (Stb.sd_of hI1.out).2 CR.out.2.1, (Stb.sd_of hI1.out).2 CR.out.2.2.1, (Stb.sd_of hI1.out).2 CR.out.2.2.2.1, fun x y h1 h2 h3 h4 => by rw [hI1.out, hI1.out]; exact CR.out.2.2.2.2 x y h1 h2 h3 h4⟩)
                clear hI1 CR
                have hl := IH.out a i mid d1 w1 (by omega) (by omega) (by omega) (by omega) (by omega) hw1.out C1.out.1 C1.out.2.1
                rw [hs] at hl
                clear hw1
                go_wp2_with fail
                refine hl.mono ?_
                rintro ev w2 ⟨rfl, d2, hz2, hpl, hsl2, hwl⟩
                have hp2' : Hid (PermIn a mid d1 d2) := hpl
                have hs2' : Hid (SortedIn (ltOf cf) a mid d2) := hsl2
                have hw2 : Aside (SW enc w0 blk off d2 w2) := hwl
                clear hpl hsl2 hwl hl
                have C2 : Hid (SortedIn (ltOf cf) mid e d2 ∧ SortedIn (ltOf cf) e b d2) := (show Hid _ from ⟨C1.out.2.2.1.congr (fun i h1 h2 => hp2'.out.2.1 i (Or.inr h1)), C1.out.2.2.2.1.congr (fun i h1 h2 => hp2'.out.2.1 i (Or.inr (by omega)))⟩)
                have hl3 := IH.out mid e b d2 w2 (by omega) (by omega) (by omega) (by omega) (by omega) hw2.out C2.out.1 C2.out.2
                rw [hs] at hl3
                clear hw2
                go_wp2_with fail
                all_goals refine hl3.mono ?_
                all_goals rintro ev w3 ⟨rfl, d3, hz3, hpl3, hsl3, hwl3⟩
                all_goals go_wp2_with fail
                all_goals go_end0
                all_goals exact ⟨rfl, d3, by omega, permIn_trans _ _ _ _ _ hp1'.out (permIn_trans _ _ _ _ _ (permIn_mono _ _ _ _ _ _ (by omega) (by omega) (by omega) hp2'.out) (permIn_mono _ _ _ _ _ _ (by omega) (by omega) (by omega) hpl3)), Stb.fin (by omega) (by omega) (by omega) C1.out.2.2.2.2 hp2'.out hs2'.out hpl3 hsl3, hwl3⟩
              · have C1 : Hid (SortedIn (ltOf cf) a i d1 ∧ SortedIn (ltOf cf) i mid d1 ∧ SortedIn (ltOf cf) mid e d1 ∧ SortedIn (ltOf cf) e b d1 ∧ ∀ x y, a ≤ x → x < mid → mid ≤ y → y < b → ltOf cf d1[y]! d1[x]! = false) :=
                  (show Hid _ from ⟨(Stb.sd_of hI1.out).2 CR.out.1, (Stb.sd_of hI1.out).2 CR.out.2.1, (Stb.sd_of hI1.out).2 CR.out.2.2.1, (Stb.sd_of hI1.out).2 CR.out.2.2.2.1, fun x y h1 h2 h3 h4 => by rw [hI1.out, hI1.out]; exact CR.out.2.2.2.2 x y h1 h2 h3 h4⟩)
                clear hI1 CR
                have hl := IH.out a i mid d1 w1 (by omega) (by omega) (by omega) (by omega) (by omega) hw1.out C1.out.1 C1.out.2.1
                rw [hs] at hl
                clear hw1
                go_wp2_with fail
                refine hl.mono ?_
                rintro ev w2 ⟨rfl, d2, hz2, hpl, hsl2, hwl⟩
                have hp2' : Hid (PermIn a mid d1 d2) := hpl
                have hs2' : Hid (SortedIn (ltOf cf) a mid d2) := hsl2
                have hw2 : Aside (SW enc w0 blk off d2 w2) := hwl
                clear hpl hsl2 hwl hl
                have C2 : Hid (SortedIn (ltOf cf) mid e d2 ∧ SortedIn (ltOf cf) e b d2) := (show Hid _ from ⟨C1.out.2.2.1.congr (fun i h1 h2 => hp2'.out.2.1 i (Or.inr h1)), C1.out.2.2.2.1.congr (fun i h1 h2 => hp2'.out.2.1 i (Or.inr (by omega)))⟩)
                have hl3 := IH.out mid e b d2 w2 (by omega) (by omega) (by omega) (by omega) (by omega) hw2.out C2.out.1 C2.out.2
                rw [hs] at hl3
                clear hw2
                go_wp2_with fail
                all_goals refine hl3.mono ?_
                all_goals rintro ev w3 ⟨rfl, d3, hz3, hpl3, hsl3, hwl3⟩
                all_goals go_wp2_with fail
                all_goals go_end0
                all_goals exact ⟨rfl, d3, by omega, permIn_trans _ _ _ _ _ hp1'.out (permIn_trans _ _ _ _ _ (permIn_mono _ _ _ _ _ _ (by omega) (by omega) (by omega) hp2'.out) (permIn_mono _ _ _ _ _ _ (by omega) (by omega) (by omega) hpl3)), Stb.fin (by omega) (by omega) (by omega) C1.out.2.2.2.2 hp2'.out hs2'.out hpl3 hsl3, hwl3⟩
            · have c3a : ¬ ((mid : Int) < (e : Int) ∧ (e : Int) < (b : Int)) := by omega
              rcases (show ¬ (i : Int) < (m : Int) ∨ ((i : Int) < (m : Int) ∧ ¬ (m : Int) < (e : Int)) by omega) with g1 | ⟨g1, g1'⟩
              · have C1 : Hid (SortedIn (ltOf cf) a i d1 ∧ SortedIn (ltOf cf) i mid d1 ∧ SortedIn (ltOf cf) mid e d1 ∧ SortedIn (ltOf cf) e b d1 ∧ ∀ x y, a ≤ x → x < mid → mid ≤ y → y < b → ltOf cf d1[y]! d1[x]! = false) :=
                  (show Hid _ from ⟨(Stb.sd_of hI1.out).2 CR.out.1, (Stb.sd_of hI1.out).2 CR.out.2.1, (Stb.sd_of hI1.out).2 CR.out.2.2.1, (Stb.sd_of hI1.out).2 CR.out.2.2.2.1, fun x y h1 h2 h3 h4 => by rw [hI1.out, hI1.out]; exact CR.out.2.2.2.2 x y h1 h2 h3 h4⟩)
                clear hI1 CR
                have hl := IH.out a i mid d1 w1 (by omega) (by omega) (by omega) (by omega) (by omega) hw1.out C1.out.1 C1.out.2.1
                rw [hs] at hl
                clear hw1
                go_wp2_with fail
                refine hl.mono ?_
                rintro ev w2 ⟨rfl, d2, hz2, hpl, hsl2, hwl⟩
                have hp2' : Hid (PermIn a mid d1 d2) := hpl
                have hs2' : Hid (SortedIn (ltOf cf) a mid d2) := hsl2
                have hw2 : Aside (SW enc w0 blk off d2 w2) := hwl
                clear hpl hsl2 hwl hl
                have C2 : Hid (SortedIn (ltOf cf) mid e d2 ∧ SortedIn (ltOf cf) e b d2) := (show Hid _ from ⟨C1.out.2.2.1.congr (fun i h1 h2 => hp2'.out.2.1 i (Or.inr h1)), C1.out.2.2.2.1.congr (fun i h1 h2 => hp2'.out.2.1 i (Or.inr (by omega)))⟩)
                have hs3' : Hid (SortedIn (ltOf cf) mid b d2) := (show Hid _ from by
                  by_cases hq : mid < e
                  · have : e = b := by omega
                    have h3 := C2.out.1; rw [this] at h3; exact h3
                  · have : e = mid := by omega
                    have h3 := C2.out.2; rw [this] at h3; exact h3)
                go_wp2_with fail
                all_goals go_end0
                all_goals exact ⟨rfl, d2, by omega, permIn_trans _ _ _ _ _ hp1'.out (permIn_mono _ _ _ _ _ _ (by omega) (by omega) (by omega) hp2'.out), Stb.fin (by omega) (by omega) (by omega) C1.out.2.2.2.2 hp2'.out hs2'.out (permIn_refl _ _ _) hs3'.out, hw2.out⟩
              · have C1 : Hid (SortedIn (ltOf cf) a i d1 ∧ SortedIn (ltOf cf) i mid d1 ∧ SortedIn (ltOf cf) mid e d1 ∧ SortedIn (ltOf cf) e b d1 ∧ ∀ x y, a ≤ x → x < mid → mid ≤ y → y < b → ltOf cf d1[y]! d1[x]! = false) :=
                  (show Hid _ from ⟨(Stb.sd_of hI1.out).2 CR.out.1, (Stb.sd_of hI1.out).2 CR.out.2.1, (Stb.sd_of hI1.out).2 CR.out.2.2.1, (Stb.sd_of hI1.out).2 CR.out.2.2.2.1, fun x y h1 h2 h3 h4 => by rw [hI1.out, hI1.out]; exact CR.out.2.2.2.2 x y h1 h2 h3 h4⟩)
                clear hI1 CR
                have hl := IH.out a i mid d1 w1 (by omega) (by omega) (by omega) (by omega) (by omega) hw1.out C1.out.1 C1.out.2.1
                rw [hs] at hl
                clear hw1
                go_wp2_with fail
                refine hl.mono ?_
                rintro ev w2 ⟨rfl, d2, hz2, hpl, hsl2, hwl⟩
                have hp2' : Hid (PermIn a mid d1 d2) := hpl
                have hs2' : Hid (SortedIn (ltOf cf) a mid d2) := hsl2
                have hw2 : Aside (SW enc w0 blk off d2 w2) := hwl
                clear hpl hsl2 hwl hl
                have C2 : Hid (SortedIn (ltOf cf) mid e d2 ∧ SortedIn (ltOf cf) e b d2) := (show Hid _ from ⟨C1.out.2.2.1.congr (fun i h1 h2 => hp2'.out.2.1 i (Or.inr h1)), C1.out.2.2.2.1.congr (fun i h1 h2 => hp2'.out.2.1 i (Or.inr (by omega)))⟩)
                have hs3' : Hid (SortedIn (ltOf cf) mid b d2) := (show Hid _ from by
                  by_cases hq : mid < e
                  · have : e = b := by omega
                    have h3 := C2.out.1; rw [this] at h3; exact h3
                  · have : e = mid := by omega
                    have h3 := C2.out.2; rw [this] at h3; exact h3)
                go_wp2_with fail
                all_goals go_end0
                all_goals exact ⟨rfl, d2, by omega, permIn_trans _ _ _ _ _ hp1'.out (permIn_mono _ _ _ _ _ _ (by omega) (by omega) (by omega) hp2'.out), Stb.fin (by omega) (by omega) (by omega) C1.out.2.2.2.2 hp2'.out hs2'.out (permIn_refl _ _ _) hs3'.out, hw2.out⟩
          · have c2a : ¬ ((a : Int) < (i : Int) ∧ (i : Int) < (mid : Int)) := by omega
            by_cases c3 : mid < e ∧ e < b
            · have c3a : (mid : Int) < (e : Int) := by omega
              have c3b : (e : Int) < (b : Int) := by omega
              clear c3
              rcases (show ¬ (i : Int) < (m : Int) ∨ ((i : Int) < (m : Int) ∧ ¬ (m : Int) < (e : Int)) by omega) with g1 | ⟨g1, g1'⟩
              · have C1 : Hid (SortedIn (ltOf cf) a i d1 ∧ SortedIn (ltOf cf) i mid d1 ∧ SortedIn (ltOf cf) mid e d1 ∧ SortedIn (ltOf cf) e b d1 ∧ ∀ x y, a ≤ x → x < mid → mid ≤ y → y < b → ltOf cf d1[y]! d1[x]! = false) :=
                  (show Hid _ from ⟨(Stb.sd_of hI1.out).2 CR.out.1, (Stb.sd_of hI1.out).2 CR.out.2.1, (Stb.sd_of hI1.out).2 CR.out.2.2.1, (Stb.sd_of hI1.out).2 CR.out.2.2.2.1, fun x y h1 h2 h3 h4 => by rw [hI1.out, hI1.out]; exact CR.out.2.2.2.2 x y h1 h2 h3 h4⟩)
                clear hI1 CR
                obtain ⟨d2, hd2⟩ : ∃ d2, d2 = d1 := ⟨_, rfl⟩
                obtain ⟨w2, hw2e⟩ : ∃ w2, w2 = w1 := ⟨_, rfl⟩
                have hz2 : d2.size = d1.size := by rw [hd2]
                have hp2' : Hid (PermIn a mid d1 d2) := (show Hid _ from by rw [hd2]; exact permIn_refl _ _ _)
                have hs2' : Hid (SortedIn (ltOf cf) a mid d2) := (show Hid _ from by
                  rw [hd2]
                  by_cases hq : a < i
                  · have : i = mid := by omega
                    have h3 := C1.out.1; rw [this] at h3; exact h3
                  · have : i = a := by omega
                    have h3 := C1.out.2.1; rw [this] at h3; exact h3)
                have hw2 : Aside (SW enc w0 blk off d2 w2) := (show Aside _ from by rw [hd2, hw2e]; exact hw1.out)
                rw [← hw2e]
                clear hd2 hw2e hw1
                have C2 : Hid (SortedIn (ltOf cf) mid e d2 ∧ SortedIn (ltOf cf) e b d2) := (show Hid _ from ⟨C1.out.2.2.1.congr (fun i h1 h2 => hp2'.out.2.1 i (Or.inr h1)), C1.out.2.2.2.1.congr (fun i h1 h2 => hp2'.out.2.1 i (Or.inr (by omega)))⟩)
                have hl3 := IH.out mid e b d2 w2 (by omega) (by omega) (by omega) (by omega) (by omega) hw2.out C2.out.1 C2.out.2
                rw [hs] at hl3
                clear hw2
                go_wp2_with fail
                all_goals refine hl3.mono ?_
                all_goals rintro ev w3 ⟨rfl, d3, hz3, hpl3, hsl3, hwl3⟩
                all_goals go_wp2_with fail
                all_goals go_end0
                all_goals exact ⟨rfl, d3, by omega, permIn_trans _ _ _ _ _ hp1'.out (permIn_trans _ _ _ _ _ (permIn_mono _ _ _ _ _ _ (by omega) (by omega) (by omega) hp2'.out) (permIn_mono _ _ _ _ _ _ (by omega) (by omega) (by omega) hpl3)), Stb.fin (by omega) (by omega) (by omega) C1.out.2.2.2.2 hp2'.out hs2'.out hpl3 hsl3, hwl3⟩
              · have C1 : Hid (SortedIn (ltOf cf) a i d1 ∧ SortedIn (ltOf cf) i mid d1 ∧ SortedIn (ltOf cf) mid e d1 ∧ SortedIn (ltOf cf) e b d1 ∧ ∀ x y, a ≤ x → x < mid → mid ≤ y → y < b → ltOf cf d1[y]! d1[x]! = false) :=
                  (show Hid _ from ⟨(Stb.sd_of hI1.out).2 CR.out.1, (Stb.sd_of hI1.out).2 CR.out.2.1, (Stb.sd_of hI1.out).2 CR.out.2.2.1, (Stb.sd_of hI1.out).2 CR.out.2.2.2.1, fun x y h1 h2 h3 h4 => by rw [hI1.out, hI1.out]; exact CR.out.2.2.2.2 x y h1 h2 h3 h4⟩)
                clear hI1 CR
                obtain ⟨d2, hd2⟩ : ∃ d2, d2 = d1 := ⟨_, rfl⟩
                obtain ⟨w2, hw2e⟩ : ∃ w2, w2 = w1 := ⟨_, rfl⟩
                have hz2 : d2.size = d1.size := by rw [hd2]
                have hp2' : Hid (PermIn a mid d1 d2) := (show Hid _ from by rw [hd2]; exact permIn_refl _ _ _)
                have hs2' : Hid (SortedIn (ltOf cf) a mid d2) := (show Hid _ from by
                  rw [hd2]
                  by_cases hq : a < i
                  · have : i = mid := by omega
                    have h3 := C1.out.1; rw [this] at h3; exact h3
                  · have : i = a := by omega
                    have h3 := C1.out.2.1; rw [this] at h3; exact h3)
                have hw2 : Aside (SW enc w0 blk off d2 w2) := (show Aside _ from by rw [hd2, hw2e]; exact hw1.out)
                rw [← hw2e]
                clear hd2 hw2e hw1
                have C2 : Hid (SortedIn (ltOf cf) mid e d2 ∧ SortedIn (ltOf cf) e b d2) := (show Hid _ from ⟨C1.out.2.2.1.congr (fun i h1 h2 => hp2'.out.2.1 i (Or.inr h1)), C1.out.2.2.2.1.congr (fun i h1 h2 => hp2'.out.2.1 i (Or.inr (by omega)))⟩)
                have hl3 := IH.out mid e b d2 w2 (by omega) (by omega) (by omega) (by omega) (by omega) hw2.out C2.out.1 C2.out.2
                rw [hs] at hl3
                clear hw2
                go_wp2_with fail
                all_goals refine hl3.mono ?_
                all_goals rintro ev w3 ⟨rfl, d3, hz3, hpl3, hsl3, hwl3⟩
                all_goals go_wp2_with fail
                all_goals go_end0
                all_goals exact ⟨rfl, d3, by omega, permIn_trans _ _ _ _ _ hp1'.out (permIn_trans _ _ _ _ _ (permIn_mono _ _ _ _ _ _ (by omega) (by omega) (by omega) hp2'.out) (permIn_mono _ _ _ _ _ _ (by omega) (by omega) (by omega) hpl3)), Stb.fin (by omega) (by omega) (by omega) C1.out.2.2.2.2 hp2'.out hs2'.out hpl3 hsl3, hwl3⟩
            · have c3a : ¬ ((mid : Int) < (e : Int) ∧ (e : Int) < (b : Int)) := by omega
              rcases (show ¬ (i : Int) < (m : Int) ∨ ((i : Int) < (m : Int) ∧ ¬ (m : Int) < (e : Int)) by omega) with g1 | ⟨g1, g1'⟩
              · have C1 : Hid (SortedIn (ltOf cf) a i d1 ∧ SortedIn (ltOf cf) i mid d1 ∧ SortedIn (ltOf cf) mid e d1 ∧ SortedIn (ltOf cf) e b d1 ∧ ∀ x y, a ≤ x → x < mid → mid ≤ y → y < b → ltOf cf d1[y]! d1[x]! = false) :=
                  (show Hid _ from ⟨(Stb.sd_of hI1.out).2 CR.out.1, (Stb.sd_of hI1.out).2 CR.out.2.1, (Stb.sd_of hI1.out).2 CR.out.2.2.1, (Stb.sd_of hI1.out).2 CR.out.2.2.2.1, fun x y h1 h2 h3 h4 => by rw [hI1.out, hI1.out]; exact CR.out.2.2.2.2 x y h1 h2 h3 h4⟩)
                clear hI1 CR
                obtain ⟨d2, hd2⟩ : ∃ d2, d2 = d1 := ⟨_, rfl⟩
                obtain ⟨w2, hw2e⟩ : ∃ w2, w2 = w1 := ⟨_, rfl⟩
                have hz2 : d2.size = d1.size := by rw [hd2]
                have hp2' : Hid (PermIn a mid d1 d2) := (show Hid _ from by rw [hd2]; exact permIn_refl _ _ _)
                have hs2' : Hid (SortedIn (ltOf cf) a mid d2) := (show Hid _ from by
                  rw [hd2]
                  by_cases hq : a < i
                  · have : i = mid := by omega
                    have h3 := C1.out.1; rw [this] at h3; exact h3
                  · have : i = a := by omega
                    have h3 := C1.out.2.1; rw [this] at h3; exact h3)
                have hw2 : Aside (SW enc w0 blk off d2 w2) := (show Aside _ from by rw [hd2, hw2e]; exact hw1.out)
                rw [← hw2e]
                clear hd2 hw2e hw1
                have C2 : Hid (SortedIn (ltOf cf) mid e d2 ∧ SortedIn (ltOf cf) e b d2) := (show Hid _ from ⟨C1.out.2.2.1.congr (fun i h1 h2 => hp2'.out.2.1 i (Or.inr h1)), C1.out.2.2.2.1.congr (fun i h1 h2 => hp2'.out.2.1 i (Or.inr (by omega)))⟩)
                have hs3' : Hid (SortedIn (ltOf cf) mid b d2) := (show Hid _ from by
                  by_cases hq : mid < e
                  · have : e = b := by omega
                    have h3 := C2.out.1; rw [this] at h3; exact h3
                  · have : e = mid := by omega
                    have h3 := C2.out.2; rw [this] at h3; exact h3)
                go_wp2_with fail
                all_goals go_end0
                all_goals exact ⟨rfl, d2, by omega, permIn_trans _ _ _ _ _ hp1'.out (permIn_mono _ _ _ _ _ _ (by omega) (by omega) (by omega) hp2'.out), Stb.fin (by omega) (by omega) (by omega) C1.out.2.2.2.2 hp2'.out hs2'.out (permIn_refl _ _ _) hs3'.out, hw2.out⟩
              · have C1 : Hid (SortedIn (ltOf cf) a i d1 ∧ SortedIn (ltOf cf) i mid d1 ∧ SortedIn (ltOf cf) mid e d1 ∧ SortedIn (ltOf cf) e b d1 ∧ ∀ x y, a ≤ x → x < mid → mid ≤ y → y < b → ltOf cf d1[y]! d1[x]! = false) :=
                  (show Hid _ from ⟨(Stb.sd_of hI1.out).2 CR.out.1, (Stb.sd_of hI1.out).2 CR.out.2.1, (Stb.sd_of hI1.out).2 CR.out.2.2.1, (Stb.sd_of hI1.out).2 CR.out.2.2.2.1, fun x y h1 h2 h3 h4 => by rw [hI1.out, hI1.out]; exact CR.out.2.2.2.2 x y h1 h2 h3 h4⟩)
                clear hI1 CR
                obtain ⟨d2, hd2⟩ : ∃ d2, d2 = d1 := ⟨_, rfl⟩
                obtain ⟨w2, hw2e⟩ : ∃ w2, w2 = w1 := ⟨_, rfl⟩
                have hz2 : d2.size = d1.size := by rw [hd2]
                have hp2' : Hid (PermIn a mid d1 d2) := (show Hid _ from by rw [hd2]; exact permIn_refl _ _ _)
                have hs2' : Hid (SortedIn (ltOf cf) a mid d2) := (show Hid _ from by
                  rw [hd2]
                  by_cases hq : a < i
                  · have : i = mid := by omega
                    have h3 := C1.out.1; rw [this] at h3; exact h3
                  · have : i = a := by omega
                    have h3 := C1.out.2.1; rw [this] at h3; exact h3)
                have hw2 : Aside (SW enc w0 blk off d2 w2) := (show Aside _ from by rw [hd2, hw2e]; exact hw1.out)
                rw [← hw2e]
                clear hd2 hw2e hw1
                have C2 : Hid (SortedIn (ltOf cf) mid e d2 ∧ SortedIn (ltOf cf) e b d2) := (show Hid _ from ⟨C1.out.2.2.1.congr (fun i h1 h2 => hp2'.out.2.1 i (Or.inr h1)), C1.out.2.2.2.1.congr (fun i h1 h2 => hp2'.out.2.1 i (Or.inr (by omega)))⟩)
                have hs3' : Hid (SortedIn (ltOf cf) mid b d2) := (show Hid _ from by
                  by_cases hq : mid < e
                  · have : e = b := by omega
                    have h3 := C2.out.1; rw [this] at h3; exact h3
                  · have : e = mid := by omega
                    have h3 := C2.out.2; rw [this] at h3; exact h3)
                go_wp2_with fail
                all_goals go_end0
                all_goals exact ⟨rfl, d2, by omega, permIn_trans _ _ _ _ _ hp1'.out (permIn_mono _ _ _ _ _ _ (by omega) (by omega) (by omega) hp2'.out), Stb.fin (by omega) (by omega) (by omega) C1.out.2.2.2.2 hp2'.out hs2'.out (permIn_refl _ _ _) hs3'.out, hw2.out⟩
  · have hmz : ¬ (mid : Int) < (m : Int) := by omega
    go_enter Try.func55, Try.ntmps55
    go_wp2
    go_loopg [20, 21] (m - a) (fun g1 vi vj wr => ∃ (i j : Nat), vi = .int .i64 i ∧ vj = .int .i64 j ∧ a ≤ i ∧ i ≤ j ∧ j ≤ m ∧ j - i ≤ g1 ∧ Aside (SW enc w0 blk off d wr) ∧ Hid ((a < i → ltOf cf d[p - (i - 1)]! d[i - 1]! = false) ∧ (j < m → ltOf cf d[p - j]! d[j]! = true)))
    case atStart => exact ⟨a, m, by go_num, by go_num, by omega, by omega, by omega, by omega, S0, (show Hid _ from ⟨fun h => by omega, fun h => by omega⟩)⟩
    case round =>
      clear S0
      obtain ⟨i, j, rfl, rfl, hi, hij, hj, hg1, S1, HO⟩ := hrel
      by_cases hlt : i < j
      · have hltz : (i : Int) < (j : Int) := by omega
        go_wp2_with fail
        obtain ⟨h, hh⟩ : ∃ h, h = (i + j) / 2 := ⟨_, rfl⟩
        have eh : ((i : Int) + (j : Int)) / 2 = (h : Int) := by omega
        rw [eh]
        clear eh
        have hb1 : i ≤ h ∧ h < j := by omega
        clear hh
        obtain ⟨q, hq⟩ : ∃ q, q + h = p := ⟨p - h, by omega⟩
        have epq : (p : Int) - (h : Int) = (q : Int) := by omega
        have bq : (q : Int) < (d.size : Int) := by omega
        have rq : IntKind.i64.wrap (q : Int) = (q : Int) := by rw [IntKind.wrap_i64]; omega
        have HQ : Aside (p - h = q) := (show Aside _ from by show p - h = q; omega)
        clear hq
        have bh : (h : Int) < (d.size : Int) := by omega
        obtain ⟨x, hx⟩ : ∃ x, x = d[q]! := ⟨_, rfl⟩
        obtain ⟨y, hy⟩ : ∃ x, x = d[h]! := ⟨_, rfl⟩
        have la := S1.out.cl R hs.symm q (by omega)
        have lb := S1.out.cl R hs.symm h (by omega)
        rw [← hx] at la
        rw [← hy] at lb
        have hcc := S1.out.cmp HC.out hs.symm x y
        by_cases hv : cf x y < 0
        · have hd : decide (cf x y < 0) = true := decide_eq_true hv
          have HO2 : Hid ((a < i → ltOf cf d[p - (i - 1)]! d[i - 1]! = false) ∧ (h < m → ltOf cf d[p - h]! d[h]! = true)) :=
            (show Hid _ from ⟨HO.out.1, fun _ => by rw [HQ.out, ← hx, ← hy]; exact hd⟩)
          clear HO hx hy HQ
          go_quiet_grown (first | (go_at_fn g; refine Calls.grown_of (hcc _ _)))
          have S2 : Aside (SW enc w0 blk off d (grow (wr.drewN nq) osq)) := S1.out.grown nq osq
          clear la lb hcc S1
          generalize grow (wr.drewN nq) osq = w2 at S2 ⊢
          clear nq osq
          go_wp2
          go_roundg (h - i)
          case measure => omega
          case rel => exact ⟨i, h, rfl, by go_num, by omega, by omega, by omega, by omega, S2, HO2⟩
        · have hd : decide (cf x y < 0) = false := decide_eq_false hv
          have HO2 : Hid ((a < h + 1 → ltOf cf d[p - (h + 1 - 1)]! d[h + 1 - 1]! = false) ∧ (j < m → ltOf cf d[p - j]! d[j]! = true)) :=
            (show Hid _ from ⟨fun _ => by rw [Nat.add_sub_cancel, HQ.out, ← hx, ← hy]; exact hd, HO.out.2⟩)
          clear HO hx hy HQ
          go_quiet_grown (first | (go_at_fn g; refine Calls.grown_of (hcc _ _)))
          have S2 : Aside (SW enc w0 blk off d (grow (wr.drewN nq) osq)) := S1.out.grown nq osq
          clear la lb hcc S1
          generalize grow (wr.drewN nq) osq = w2 at S2 ⊢
          clear nq osq
          go_wp2
          go_roundg (j - (h + 1))
          case measure => omega
          case rel => exact ⟨h + 1, j, by go_num, rfl, by omega, by omega, by omega, by omega, S2, HO2⟩
      · have hltz : ¬ (i : Int) < (j : Int) := by omega
        obtain rfl : i = j := by omega
        obtain ⟨e, he⟩ : ∃ e, e + i = n := ⟨n - i, by omega⟩
        have ee : (n : Int) - (i : Int) = (e : Int) := by omega
        have he1 : e + i ≤ n := by omega
        have he2 : n ≤ e + i := by omega
        have CU : Hid (Stb.Cut (ltOf cf) (fun k => d[k]!) a m b i e) := (show Hid _ from ⟨by omega, by omega, by omega, by have := HMID.out; omega,
          fun h1 h2 => by have := HO.out.1 (by omega); rw [show p - (i - 1) = e by omega] at this; exact this,
          fun h1 h2 => by have := HO.out.2 (by omega); rw [show p - i = e - 1 by omega] at this; exact this⟩)
        have CR : Hid _ := CU.out.cross hO ((Stb.sd_of (fun k => rfl)).1 HL.out) ((Stb.sd_of (fun k => rfl)).1 HR.out)
        rw [← HMID.out] at CR
        clear he HO CU
        by_cases c1 : i < m ∧ m < e
        · have hrc := rotate_s enc g cb blk off cap i m e d0 d w0 wr R hs S1.out c1.1 c1.2 (by omega) hsz
          have c1a : (i : Int) < (m : Int) := by omega
          have c1b : (m : Int) < (e : Int) := by omega
          by_cases c2 : a < i ∧ i < mid
          · have c2a : (a : Int) < (i : Int) := by omega
            have c2b : (i : Int) < (mid : Int) := by omega
            clear c2
            by_cases c3 : mid < e ∧ e < b
            · have c3a : (mid : Int) < (e : Int) := by omega
              have c3b : (e : Int) < (b : Int) := by omega
              clear c3
              go_wp2_with fail
              refine hrc.mono ?_
              rintro ev w1 ⟨rfl, d1, hz1, hpr, hIr, hwr⟩
              clear c1
              have hp1' : Hid (PermIn a b d d1) := (show Hid _ from permIn_mono _ _ _ _ _ _ (by omega) (by omega) (by omega) hpr)
              have hI1 : Hid (Stb.Is d1 (Stb.rtF i m e (fun k => d[k]!))) := hIr
              have hw1 : Aside (SW enc w0 blk off d1 w1) := hwr
              clear hpr hIr hwr hrc S1
              have C1 : Hid (SortedIn (ltOf cf) a i d1 ∧ SortedIn (ltOf cf) i mid d1 ∧ SortedIn (ltOf cf) mid e d1 ∧ SortedIn (ltOf cf) e b d1 ∧ ∀ x y, a ≤ x → x < mid → mid ≤ y → y < b → ltOf cf d1[y]! d1[x]! = false) :=
                (show Hid _ from ⟨(Stb.sd_of hI1.out).2 CR.out.1, (Stb.sd_of hI1.out).2 CR.out.2.1, (Stb.sd_of hI1.out).2 CR.out.2.2.1, (Stb.sd_of hI1.out).2 CR.out.2.2.2.1, fun x y h1 h2 h3 h4 => by rw [hI1.out, hI1.out]; exact CR.out.2.2.2.2 x y h1 h2 h3 h4⟩)
              clear hI1 CR
              have hl := IH.out a i mid d1 w1 (by omega) (by omega) (by omega) (by omega) (by omega) hw1.out C1.out.1 C1.out.2.1
              rw [hs] at hl
              clear hw1
              go_wp2_with fail
              refine hl.mono ?_
              rintro ev w2 ⟨rfl, d2, hz2, hpl, hsl2, hwl⟩
              have hp2' : Hid (PermIn a mid d1 d2) := hpl
              have hs2' : Hid (SortedIn (ltOf cf) a mid d2) := hsl2
              have hw2 : Aside (SW enc w0 blk off d2 w2) := hwl
              clear hpl hsl2 hwl hl
              have C2 : Hid (SortedIn (ltOf cf) mid e d2 ∧ SortedIn (ltOf cf) e b d2) := (show Hid _ from ⟨C1.out.2.2.1.congr (fun i h1 h2 => hp2'.out.2.1 i (Or.inr h1)), C1.out.2.2.2.1.congr (fun i h1 h2 => hp2'.out.2.1 i (Or.inr (by omega)))⟩)
              have hl3 := IH.out mid e b d2 w2 (by omega) (by omega) (by omega) (by omega) (by omega) hw2.out C2.out.1 C2.out.2
              rw [hs] at hl3
              clear hw2
              go_wp2_with fail
              all_goals refine hl3.mono ?_
              all_goals rintro ev w3 ⟨rfl, d3, hz3, hpl3, hsl3, hwl3⟩
              all_goals go_wp2_with fail
              all_goals go_end0
              all_goals exact ⟨rfl, d3, by omega, permIn_trans _ _ _ _ _ hp1'.out (permIn_trans _ _ _ _ _ (permIn_mono _ _ _ _ _ _ (by omega) (by omega) (by omega) hp2'.out) (permIn_mono _ _ _ _ _ _ (by omega) (by omega) (by omega) hpl3)), Stb.fin (by omega) (by omega) (by omega) C1.out.2.2.2.2 hp2'.out hs2'.out hpl3 hsl3, hwl3⟩
            · have c3a : ¬ ((mid : Int) < (e : Int) ∧ (e : Int) < (b : Int)) := by omega
              go_wp2_with fail
              refine hrc.mono ?_
              rintro ev w1 ⟨rfl, d1, hz1, hpr, hIr, hwr⟩
              clear c1
              have hp1' : Hid (PermIn a b d d1) := (show Hid _ from permIn_mono _ _ _ _ _ _ (by omega) (by omega) (by omega) hpr)
              have hI1 : Hid (Stb.Is d1 (Stb.rtF i m e (fun k => d[k]!))) := hIr
              have hw1 : Aside (SW enc w0 blk off d1 w1) := hwr
              clear hpr hIr hwr hrc S1
              have C1 : Hid (SortedIn (ltOf cf) a i d1 ∧ SortedIn (ltOf cf) i mid d1 ∧ SortedIn (ltOf cf) mid e d1 ∧ SortedIn (ltOf cf) e b d1 ∧ ∀ x y, a ≤ x → x < mid → mid ≤ y → y < b → ltOf cf d1[y]! d1[x]! = false) :=
                (show Hid _ from ⟨(Stb.sd_of hI1.out).2 CR.out.1, (Stb.sd_of hI1.out).2 CR.out.2.1, (Stb.sd_of hI1.out).2 CR.out.2.2.1, (Stb.sd_of hI1.out).2 CR.out.2.2.2.1, fun x y h1 h2 h3 h4 => by rw [hI1.out, hI1.out]; exact CR.out.2.2.2.2 x y h1 h2 h3 h4⟩)
              clear hI1 CR
              have hl := IH.out a i mid d1 w1 (by omega) (by omega) (by omega) (by omega) (by omega) hw1.out C1.out.1 C1.out.2.1
              rw [hs] at hl
              clear hw1
              go_wp2_with fail
              refine hl.mono ?_
              rintro ev w2 ⟨rfl, d2, hz2, hpl, hsl2, hwl⟩
              have hp2' : Hid (PermIn a mid d1 d2) := hpl
              have hs2' : Hid (SortedIn (ltOf cf) a mid d2) := hsl2
              have hw2 : Aside (SW enc w0 blk off d2 w2) := hwl
              clear hpl hsl2 hwl hl
              have C2 : Hid (SortedIn (ltOf cf) mid e d2 ∧ SortedIn (ltOf cf) e b d2) := (show Hid _ from ⟨C1.out.2.2.1.congr (fun i h1 h2 => hp2'.out.2.1 i (Or.inr h1)), C1.out.2.2.2.1.congr (fun i h1 h2 => hp2'.out.2.1 i (Or.inr (by omega)))⟩)
              have hs3' : Hid (SortedIn (ltOf cf) mid b d2) := (show Hid _ from by
                by_cases hq : mid < e
                · have : e = b := by omega
                  have h3 := C2.out.1; rw [this] at h3; exact h3
                · have : e = mid := by omega
                  have h3 := C2.out.2; rw [this] at h3; exact h3)
              go_wp2_with fail
              all_goals go_end0
              all_goals exact ⟨rfl, d2, by omega, permIn_trans _ _ _ _ _ hp1'.out (permIn_mono _ _ _ _ _ _ (by omega) (by omega) (by omega) hp2'.out), Stb.fin (by omega) (by omega) (by omega) C1.out.2.2.2.2 hp2'.out hs2'.out (permIn_refl _ _ _) hs3'.out, hw2.out⟩
          · have c2a : ¬ ((a : Int) < (i : Int) ∧ (i : Int) < (mid : Int)) := by omega
            by_cases c3 : mid < e ∧ e < b
            · have c3a : (mid : Int) < (e : Int) := by omega
              have c3b : (e : Int) < (b : Int) := by omega
              clear c3
              go_wp2_with fail
              refine hrc.mono ?_
              rintro ev w1 ⟨rfl, d1, hz1, hpr, hIr, hwr⟩
              clear c1
              have hp1' : Hid (PermIn a b d d1) := (show Hid _ from permIn_mono _ _ _ _ _ _ (by omega) (by omega) (by omega) hpr)
              have hI1 : Hid (Stb.Is d1 (Stb.rtF i m e (fun k => d[k]!))) := hIr
              have hw1 : Aside (SW enc w0 blk off d1 w1) := hwr
              clear hpr hIr hwr hrc S1
              have C1 : Hid (SortedIn (ltOf cf) a i d1 ∧ SortedIn (ltOf cf) i mid d1 ∧ SortedIn (ltOf cf) mid e d1 ∧ SortedIn (ltOf cf) e b d1 ∧ ∀ x y, a ≤ x → x < mid → mid ≤ y → y < b → ltOf cf d1[y]! d1[x]! = false) :=
                (show Hid _ from ⟨(Stb.sd_of hI1.out).2 CR.out.1, (Stb.sd_of hI1.out).2 CR.out.2.1, (Stb.sd_of hI1.out).2 CR.out.2.2.1, (Stb.sd_of hI1.out).2 CR.out.2.2.2.1, fun x y h1 h2 h3 h4 => by rw [hI1.out, hI1.out]; exact CR.out.2.2.2.2 x y h1 h2 h3 h4⟩)
              clear hI1 CR
              obtain ⟨d2, hd2⟩ : ∃ d2, d2 = d1 := ⟨_, rfl⟩
              obtain ⟨w2, hw2e⟩ : ∃ w2, w2 = w1 := ⟨_, rfl⟩
              have hz2 : d2.size = d1.size := by rw [hd2]
              have hp2' : Hid (PermIn a mid d1 d2) := (show Hid _ from by rw [hd2]; exact permIn_refl _ _ _)
              have hs2' : Hid (SortedIn (ltOf cf) a mid d2) := (show Hid _ from by
                rw [hd2]
                by_cases hq : a < i
                · have : i = mid := by omega
                  have h3 := C1.out.1; rw [this] at h3; exact h3
                · have : i = a := by omega
                  have h3 := C1.out.2.1; rw [this] at h3; exact h3)
              have hw2 : Aside (SW enc w0 blk off d2 w2) := (show Aside _ from by rw [hd2, hw2e]; exact hw1.out)
              rw [← hw2e]
              clear hd2 hw2e hw1
              have C2 : Hid (SortedIn (ltOf cf) mid e d2 ∧ SortedIn (ltOf cf) e b d2) := (show Hid _ from ⟨C1.out.2.2.1.congr (fun i h1 h2 => hp2'.out.2.1 i (Or.inr h1)), C1.out.2.2.2.1.congr (fun i h1 h2 => hp2'.out.2.1 i (Or.inr (by omega)))⟩)
              have hl3 := IH.out mid e b d2 w2 (by omega) (by omega) (by omega) (by omega) (by omega) hw2.out C2.out.1 C2.out.2
              rw [hs] at hl3
              clear hw2
              go_wp2_with fail
              all_goals refine hl3.mono ?_
              all_goals rintro ev w3 ⟨rfl, d3, hz3, hpl3, hsl3, hwl3⟩
              all_goals go_wp2_with fail
              all_goals go_end0
              all_goals exact ⟨rfl, d3, by omega, permIn_trans _ _ _ _ _ hp1'.out (permIn_trans _ _ _ _ _ (permIn_mono _ _ _ _ _ _ (by omega) (by omega) (by omega) hp2'.out) (permIn_mono _ _ _ _ _ _ (by omega) (by omega) (by omega) hpl3)), Stb.fin (by omega) (by omega) (by omega) C1.out.2.2.2.2 hp2'.out hs2'.out hpl3 hsl3, hwl3⟩
            · have c3a : ¬ ((mid : Int) < (e : Int) ∧ (e : Int) < (b : Int)) := by omega
              go_wp2_with fail
              refine hrc.mono ?_
              rintro ev w1 ⟨rfl, d1, hz1, hpr, hIr, hwr⟩
              clear c1
              have hp1' : Hid (PermIn a b d d1) := (show Hid _ from permIn_mono _ _ _ _ _ _ (by omega) (by omega) (by omega) hpr)
              have hI1 : Hid (Stb.Is d1 (Stb.rtF i m e (fun k => d[k]!))) := hIr
              have hw1 : Aside (SW enc w0 blk off d1 w1) := hwr
              clear hpr hIr hwr hrc S1
              have C1 : Hid (SortedIn (ltOf cf) a i d1 ∧ SortedIn (ltOf cf) i mid d1 ∧ SortedIn (ltOf cf) mid e d1 ∧ SortedIn (ltOf cf) e b d1 ∧ ∀ x y, a ≤ x → x < mid → mid ≤ y → y < b → ltOf cf d1[y]! d1[x]! = false) :=
                (show Hid _ from ⟨(Stb.sd_of hI1.out).2 CR.out.1, (Stb.sd_of hI1.out).2 CR.out.2.1, (Stb.sd_of hI1.out).2 CR.out.2.2.1, (Stb.sd_of hI1.out).2 CR.out.2.2.2.1, fun x y h1 h2 h3 h4 => by rw [hI1.out, hI1.out]; exact CR.out.2.2.2.2 x y h1 h2 h3 h4⟩)
              clear hI1 CR
              obtain ⟨d2, hd2⟩ : ∃ d2, d2 = d1 := ⟨_, rfl⟩
              obtain ⟨w2, hw2e⟩ : ∃ w2, w2 = w1 := ⟨_, rfl⟩
              have hz2 : d2.size = d1.size := by rw [hd2]
              have hp2' : Hid (PermIn a mid d1 d2) := (show Hid _ from by rw [hd2]; exact permIn_refl _ _ _)
              have hs2' : Hid (SortedIn (ltOf cf) a mid d2) := (show Hid _ from by
                rw [hd2]
                by_cases hq : a < i
                · have : i = mid := by omega
                  have h3 := C1.out.1; rw [this] at h3; exact h3
                · have : i = a := by omega
                  have h3 := C1.out.2.1; rw [this] at h3; exact h3)
              have hw2 : Aside (SW enc w0 blk off d2 w2) := (show Aside _ from by rw [hd2, hw2e]; exact hw1.out)
              rw [← hw2e]
              clear hd2 hw2e hw1
              have C2 : Hid (SortedIn (ltOf cf) mid e d2 ∧ SortedIn (ltOf cf) e b d2) := (show Hid _ from ⟨C1.out.2.2.1.congr (fun i h1 h2 => hp2'.out.2.1 i (Or.inr h1)), C1.out.2.2.2.1.congr (fun i h1 h2 => hp2'.out.2.1 i (Or.inr (by omega)))⟩)
              have hs3' : Hid (SortedIn (ltOf cf) mid b d2) := (show Hid _ from by
                by_cases hq : mid < e
                · have : e = b := by omega
                  have h3 := C2.out.1; rw [this] at h3; exact h3
                · have : e = mid := by omega
                  have h3 := C2.out.2; rw [this] at h3; exact h3)
              go_wp2_with fail
              all_goals go_end0
              all_goals exact ⟨rfl, d2, by omega, permIn_trans _ _ _ _ _ hp1'.out (permIn_mono _ _ _ _ _ _ (by omega) (by omega) (by omega) hp2'.out), Stb.fin (by omega) (by omega) (by omega) C1.out.2.2.2.2 hp2'.out hs2'.out (permIn_refl _ _ _) hs3'.out, hw2.out⟩
        · have c1a : ¬ ((i : Int) < (m : Int) ∧ (m : Int) < (e : Int)) := by omega
          have hrt : Stb.Is d (Stb.rtF i m e (fun k => d[k]!)) := by
            intro k
            by_cases hq : i < m
            · rw [show e = m by omega, Stb.rt_id2]
            · rw [show i = m by omega, Stb.rt_id1]
          obtain ⟨d1, hd1⟩ : ∃ d1, d1 = d := ⟨_, rfl⟩
          obtain ⟨w1, hw1e⟩ : ∃ w1, w1 = wr := ⟨_, rfl⟩
          have hz1 : d1.size = d.size := by rw [hd1]
          have hp1' : Hid (PermIn a b d d1) := (show Hid _ from by rw [hd1]; exact permIn_refl _ _ _)
          have hI1 : Hid (Stb.Is d1 (Stb.rtF i m e (fun k => d[k]!))) := (show Hid _ from by rw [hd1]; exact hrt)
          have hw1 : Aside (SW enc w0 blk off d1 w1) := (show Aside _ from by rw [hd1, hw1e]; exact S1.out)
          rw [← hw1e]
          clear hd1 hw1e hrt S1
          by_cases c2 : a < i ∧ i < mid
          · have c2a : (a : Int) < (i : Int) := by omega
            have c2b : (i : Int) < (mid : Int) := by omega
            clear c2
            by_cases c3 : mid < e ∧ e < b
            · have c3a : (mid : Int) < (e : Int) := by omega
              have c3b : (e : Int) < (b : Int) := by omega
              clear c3
              rcases (show ¬ (i : Int) < (m : Int) ∨ ((i : Int) < (m : Int) ∧ ¬ (m : Int) < (e : Int)) by omega) with g1 | ⟨g1, g1'⟩
              · have C1 : Hid (SortedIn (ltOf cf) a i d1 ∧ SortedIn (ltOf cf) i mid d1 ∧ SortedIn (ltOf cf) mid e d1 ∧ SortedIn (ltOf cf) e b d1 ∧ ∀ x y, a ≤ x → x < mid → mid ≤ y → y < b → ltOf cf d1[y]! d1[x]! = false) :=
                  (show Hid _ from ⟨(Stb.sd_of hI1.out).2 CR.out.1, (Stb.sd_of hI1.out).2 CR.out.2.1, (Stb.sd_of hI1.out).2 CR.out.2.2.1, (Stb.sd_of hI1.out).2 CR.out.2.2.2.1, fun x y h1 h2 h3 h4 => by rw [hI1.out, hI1.out]; exact CR.out.2.2.2.2 x y h1 h2 h3 h4⟩)
                clear hI1 CR
                have hl := IH.out a i mid d1 w1 (by omega) (by omega) (by omega) (by omega) (by omega) hw1.out C1.out.1 C1.out.2.1
                rw [hs] at hl
                clear hw1
                go_wp2_with fail
                refine hl.mono ?_
                rintro ev w2 ⟨rfl, d2, hz2, hpl, hsl2, hwl⟩
                have hp2' : Hid (PermIn a mid d1 d2) := hpl
                have hs2' : Hid (SortedIn (ltOf cf) a mid d2) := hsl2
                have hw2 : Aside (SW enc w0 blk off d2 w2) := hwl
                clear hpl hsl2 hwl hl
                have C2 : Hid (SortedIn (ltOf cf) mid e d2 ∧ SortedIn (ltOf cf) e b d2) := (show Hid _ from ⟨C1.out.2.2.1.congr (fun i h1 h2 => hp2'.out.2.1 i (Or.inr h1)), C1.out.2.2.2.1.congr (fun i h1 h2 => hp2'.out.2.1 i (Or.inr (by omega)))⟩)
                have hl3 := IH.out mid e b d2 w2 (by omega) (by omega) (by omega) (by omega) (by omega) hw2.out C2.out.1 C2.out.2
                rw [hs] at hl3
                clear hw2
                go_wp2_with fail
                all_goals refine hl3.mono ?_
                all_goals rintro ev w3 ⟨rfl, d3, hz3, hpl3, hsl3, hwl3⟩
                all_goals go_wp2_with fail
                all_goals go_end0
                all_goals exact ⟨rfl, d3, by omega, permIn_trans _ _ _ _ _ hp1'.out (permIn_trans _ _ _ _ _ (permIn_mono _ _ _ _ _ _ (by omega) (by omega) (by omega) hp2'.out) (permIn_mono _ _ _ _ _ _ (by omega) (by omega) (by omega) hpl3)), Stb.fin (by omega) (by omega) (by omega) C1.out.2.2.2.2 hp2'.out hs2'.out hpl3 hsl3, hwl3⟩
              · have C1 : Hid (SortedIn (ltOf cf) a i d1 ∧ SortedIn (ltOf cf) i mid d1 ∧ SortedIn (ltOf cf) mid e d1 ∧ SortedIn (ltOf cf) e b d1 ∧ ∀ x y, a ≤ x → x < mid → mid ≤ y → y < b → ltOf cf d1[y]! d1[x]! = false) :=
                  (show Hid _ from ⟨(Stb.sd_of hI1.out).2 CR.out.1, (Stb.sd_of hI1.out).2 CR.out.2.1, (Stb.sd_of hI1.out).2 CR.out.2.2.1, (Stb.sd_of hI1.out).2 CR.out.2.2.2.1, fun x y h1 h2 h3 h4 => by rw [hI1.out, hI1.out]; exact CR.out.2.2.2.2 x y h1 h2 h3 h4⟩)
                clear hI1 CR
                have hl := IH.out a i mid d1 w1 (by omega) (by omega) (by omega) (by omega) (by omega) hw1.out C1.out.1 C1.out.2.1
                rw [hs] at hl
                clear hw1
                go_wp2_with fail
                refine hl.mono ?_
                rintro ev w2 ⟨rfl, d2, hz2, hpl, hsl2, hwl⟩
                have hp2' : Hid (PermIn a mid d1 d2) := hpl
                have hs2' : Hid (SortedIn (ltOf cf) a mid d2) := hsl2
                have hw2 : Aside (SW enc w0 blk off d2 w2) := hwl
                clear hpl hsl2 hwl hl
                have C2 : Hid (SortedIn (ltOf cf) mid e d2 ∧ SortedIn (ltOf cf) e b d2) := (show Hid _ from ⟨C1.out.2.2.1.congr (fun i h1 h2 => hp2'.out.2.1 i (Or.inr h1)), C1.out.2.2.2.1.congr (fun i h1 h2 => hp2'.out.2.1 i (Or.inr (by omega)))⟩)
                have hl3 := IH.out mid e b d2 w2 (by omega) (by omega) (by omega) (by omega) (by omega) hw2.out C2.out.1 C2.out.2
                rw [hs] at hl3
                clear hw2
                go_wp2_with fail
                all_goals refine hl3.mono ?_
                all_goals rintro ev w3 ⟨rfl, d3, hz3, hpl3, hsl3, hwl3⟩
                all_goals go_wp2_with fail
                all_goals go_end0
                all_goals exact ⟨rfl, d3, by omega, permIn_trans _ _ _ _ _ hp1'.out (permIn_trans _ _ _ _ _ (permIn_mono _ _ _ _ _ _ (by omega) (by omega) (by omega) hp2'.out) (permIn_mono _ _ _ _ _ _ (by omega) (by omega) (by omega) hpl3)), Stb.fin (by omega) (by omega) (by omega) C1.out.2.2.2.2 hp2'.out hs2'.out hpl3 hsl3, hwl3⟩
            · have c3a : ¬ ((mid : Int) < (e : Int) ∧ (e : Int) < (b : Int)) := by omega
              rcases (show ¬ (i : Int) < (m : Int) ∨ ((i : Int) < (m : Int) ∧ ¬ (m : Int) < (e : Int)) by omega) with g1 | ⟨g1, g1'⟩
              · have C1 : Hid (SortedIn (ltOf cf) a i d1 ∧ SortedIn (ltOf cf) i mid d1 ∧ SortedIn (ltOf cf) mid e d1 ∧ SortedIn (ltOf cf) e b d1 ∧ ∀ x y, a ≤ x → x < mid → mid ≤ y → y < b → ltOf cf d1[y]! d1[x]! = false) :=
                  (show Hid _ from ⟨(Stb.sd_of hI1.out).2 CR.out.1, (Stb.sd_of hI1.out).2 CR.out.2.1, (Stb.sd_of hI1.out).2 CR.out.2.2.1, (Stb.sd_of hI1.out).2 CR.out.2.2.2.1, fun x y h1 h2 h3 h4 => by rw [hI1.out, hI1.out]; exact CR.out.2.2.2.2 x y h1 h2 h3 h4⟩)
                clear hI1 CR
                have hl := IH.out a i mid d1 w1 (by omega) (by omega) (by omega) (by omega) (by omega) hw1.out C1.out.1 C1.out.2.1
                rw [hs] at hl
                clear hw1
                go_wp2_with fail
                refine hl.mono ?_
                rintro ev w2 ⟨rfl, d2, hz2, hpl, hsl2, hwl⟩
                have hp2' : Hid (PermIn a mid d1 d2) := hpl
                have hs2' : Hid (SortedIn (ltOf cf) a mid d2) := hsl2
                have hw2 : Aside (SW enc w0 blk off d2 w2) := hwl
                clear hpl hsl2 hwl hl
                have C2 : Hid (SortedIn (ltOf cf) mid e d2 ∧ SortedIn (ltOf cf) e b d2) := (show Hid _ from ⟨C1.out.2.2.1.congr (fun i h1 h2 => hp2'.out.2.1 i (Or.inr h1)), C1.out.2.2.2.1.congr (fun i h1 h2 => hp2'.out.2.1 i (Or.inr (by omega)))⟩)
                have hs3' : Hid (SortedIn (ltOf cf) mid b d2) := (show Hid _ from by
                  by_cases hq : mid < e
                  · have : e = b := by omega
                    have h3 := C2.out.1; rw [this] at h3; exact h3
                  · have : e = mid := by omega
                    have h3 := C2.out.2; rw [this] at h3; exact h3)
                go_wp2_with fail
                all_goals go_end0
                all_goals exact ⟨rfl, d2, by omega, permIn_trans _ _ _ _ _ hp1'.out (permIn_mono _ _ _ _ _ _ (by omega) (by omega) (by omega) hp2'.out), Stb.fin (by omega) (by omega) (by omega) C1.out.2.2.2.2 hp2'.out hs2'.out (permIn_refl _ _ _) hs3'.out, hw2.out⟩
              · have C1 : Hid (SortedIn (ltOf cf) a i d1 ∧ SortedIn (ltOf cf) i mid d1 ∧ SortedIn (ltOf cf) mid e d1 ∧ SortedIn (ltOf cf) e b d1 ∧ ∀ x y, a ≤ x → x < mid → mid ≤ y → y < b → ltOf cf d1[y]! d1[x]! = false) :=
                  (show Hid _ from ⟨(Stb.sd_of hI1.out).2 CR.out.1, (Stb.sd_of hI1.out).2 CR.out.2.1, (Stb.sd_of hI1.out).2 CR.out.2.2.1, (Stb.sd_of hI1.out).2 CR.out.2.2.2.1, fun x y h1 h2 h3 h4 => by rw [hI1.out, hI1.out]; exact CR.out.2.2.2.2 x y h1 h2 h3 h4⟩)
                clear hI1 CR
                have hl := IH.out a i mid d1 w1 (by omega) (by omega) (by omega) (by omega) (by omega) hw1.out C1.out.1 C1.out.2.1
                rw [hs] at hl
                clear hw1
                go_wp2_with fail
                refine hl.mono ?_
                rintro ev w2 ⟨rfl, d2, hz2, hpl, hsl2, hwl⟩
                have hp2' : Hid (PermIn a mid d1 d2) := hpl
                have hs2' : Hid (SortedIn (ltOf cf) a mid d2) := hsl2
                have hw2 : Aside (SW enc w0 blk off d2 w2) := hwl
                clear hpl hsl2 hwl hl
                have C2 : Hid (SortedIn (ltOf cf) mid e d2 ∧ SortedIn (ltOf cf) e b d2) := (show Hid _ from ⟨C1.out.2.2.1.congr (fun i h1 h2 => hp2'.out.2.1 i (Or.inr h1)), C1.out.2.2.2.1.congr (fun i h1 h2 => hp2'.out.2.1 i (Or.inr (by omega)))⟩)
                have hs3' : Hid (SortedIn (ltOf cf) mid b d2) := (show Hid _ from by
                  by_cases hq : mid < e
                  · have : e = b := by omega
                    have h3 := C2.out.1; rw [this] at h3; exact h3
                  · have : e = mid := by omega
                    have h3 := C2.out.2; rw [this] at h3; exact h3)
                go_wp2_with fail
                all_goals go_end0
                all_goals exact ⟨rfl, d2, by omega, permIn_trans _ _ _ _ _ hp1'.out (permIn_mono _ _ _ _ _ _ (by omega) (by omega) (by omega) hp2'.out), Stb.fin (by omega) (by omega) (by omega) C1.out.2.2.2.2 hp2'.out hs2'.out (permIn_refl _ _ _) hs3'.out, hw2.out⟩
          · have c2a : ¬ ((a : Int) < (i : Int) ∧ (i : Int) < (mid : Int)) := by omega
            by_cases c3 : mid < e ∧ e < b
            · have c3a : (mid : Int) < (e : Int) := by omega
              have c3b : (e : Int) < (b : Int) := by omega
              clear c3
              rcases (show ¬ (i : Int) < (m : Int) ∨ ((i : Int) < (m : Int) ∧ ¬ (m : Int) < (e : Int)) by omega) with g1 | ⟨g1, g1'⟩
              · have C1 : Hid (SortedIn (ltOf cf) a i d1 ∧ SortedIn (ltOf cf) i mid d1 ∧ SortedIn (ltOf cf) mid e d1 ∧ SortedIn (ltOf cf) e b d1 ∧ ∀ x y, a ≤ x → x < mid → mid ≤ y → y < b → ltOf cf d1[y]! d1[x]! = false) :=
                  (show Hid _ from ⟨(Stb.sd_of hI1.out).2 CR.out.1, (Stb.sd_of hI1.out).2 CR.out.2.1, (Stb.sd_of hI1.out).2 CR.out.2.2.1, (Stb.sd_of hI1.out).2 CR.out.2.2.2.1, fun x y h1 h2 h3 h4 => by rw [hI1.out, hI1.out]; exact CR.out.2.2.2.2 x y h1 h2 h3 h4⟩)
                clear hI1 CR
                obtain ⟨d2, hd2⟩ : ∃ d2, d2 = d1 := ⟨_, rfl⟩
                obtain ⟨w2, hw2e⟩ : ∃ w2, w2 = w1 := ⟨_, rfl⟩
                have hz2 : d2.size = d1.size := by rw [hd2]
                have hp2' : Hid (PermIn a mid d1 d2) := (show Hid _ from by rw [hd2]; exact permIn_refl _ _ _)
                have hs2' : Hid (SortedIn (ltOf cf) a mid d2) := (show Hid _ from by
                  rw [hd2]
                  by_cases hq : a < i
                  · have : i = mid := by omega
                    have h3 := C1.out.1; rw [this] at h3; exact h3
                  · have : i = a := by omega
                    have h3 := C1.out.2.1; rw [this] at h3; exact h3)
                have hw2 : Aside (SW enc w0 blk off d2 w2) := (show Aside _ from by rw [hd2, hw2e]; exact hw1.out)
                rw [← hw2e]
                clear hd2 hw2e hw1
                have C2 : Hid (SortedIn (ltOf cf) mid e d2 ∧ SortedIn (ltOf cf) e b d2) := (show Hid _ from ⟨C1.out.2.2.1.congr (fun i h1 h2 => hp2'.out.2.1 i (Or.inr h1)), C1.out.2.2.2.1.congr (fun i h1 h2 => hp2'.out.2.1 i (Or.inr (by omega)))⟩)
                have hl3 := IH.out mid e b d2 w2 (by omega) (by omega) (by omega) (by omega) (by omega) hw2.out C2.out.1 C2.out.2
                rw [hs] at hl3
                clear hw2
                go_wp2_with fail
                all_goals refine hl3.mono ?_
                all_goals rintro ev w3 ⟨rfl, d3, hz3, hpl3, hsl3, hwl3⟩
                all_goals go_wp2_with fail
                all_goals go_end0
                all_goals exact ⟨rfl, d3, by omega, permIn_trans _ _ _ _ _ hp1'.out (permIn_trans _ _ _ _ _ (permIn_mono _ _ _ _ _ _ (by omega) (by omega) (by omega) hp2'.out) (permIn_mono _ _ _ _ _ _ (by omega) (by omega) (by omega) hpl3)), Stb.fin (by omega) (by omega) (by omega) C1.out.2.2.2.2 hp2'.out hs2'.out hpl3 hsl3, hwl3⟩
              · have C1 : Hid (SortedIn (ltOf cf) a i d1 ∧ SortedIn (ltOf cf) i mid d1 ∧ SortedIn (ltOf cf) mid e d1 ∧ SortedIn (ltOf cf) e b d1 ∧ ∀ x y, a ≤ x → x < mid → mid ≤ y → y < b → ltOf cf d1[y]! d1[x]! = false) :=
                  (show Hid _ from ⟨(Stb.sd_of hI1.out).2 CR.out.1, (Stb.sd_of hI1.out).2 CR.out.2.1, (Stb.sd_of hI1.out).2 CR.out.2.2.1, (Stb.sd_of hI1.out).2 CR.out.2.2.2.1, fun x y h1 h2 h3 h4 => by rw [hI1.out, hI1.out]; exact CR.out.2.2.2.2 x y h1 h2 h3 h4⟩)
                clear hI1 CR
                obtain ⟨d2, hd2⟩ : ∃ d2, d2 = d1 := ⟨_, rfl⟩
                obtain ⟨w2, hw2e⟩ : ∃ w2, w2 = w1 := ⟨_, rfl⟩
                have hz2 : d2.size = d1.size := by rw [hd2]
                have hp2' : Hid (PermIn a mid d1 d2) := (show Hid _ from by rw [hd2]; exact permIn_refl _ _ _)
                have hs2' : Hid (SortedIn (ltOf cf) a mid d2) := (show Hid _ from by
                  rw [hd2]
                  by_cases hq : a < i
                  · have : i = mid := by omega
                    have h3 := C1.out.1; rw [this] at h3; exact h3
                  · have : i = a := by omega
                    have h3 := C1.out.2.1; rw [this] at h3; exact h3)
                have hw2 : Aside (SW enc w0 blk off d2 w2) := (show Aside _ from by rw [hd2, hw2e]; exact hw1.out)
                rw [← hw2e]
                clear hd2 hw2e hw1
                have C2 : Hid (SortedIn (ltOf cf) mid e d2 ∧ SortedIn (ltOf cf) e b d2) := (show Hid _ from ⟨C1.out.2.2.1.congr (fun i h1 h2 => hp2'.out.2.1 i (Or.inr h1)), C1.out.2.2.2.1.congr (fun i h1 h2 => hp2'.out.2.1 i (Or.inr (by omega)))⟩)
                have hl3 := IH.out mid e b d2 w2 (by omega) (by omega) (by omega) (by omega) (by omega) hw2.out C2.out.1 C2.out.2
                rw [hs] at hl3
                clear hw2
                go_wp2_with fail
                all_goals refine hl3.mono ?_
                all_goals rintro ev w3 ⟨rfl, d3, hz3, hpl3, hsl3, hwl3⟩
                all_goals go_wp2_with fail
                all_goals go_end0
                all_goals exact ⟨rfl, d3, by omega, permIn_trans _ _ _ _ _ hp1'.out (permIn_trans _ _ _ _ _ (permIn_mono _ _ _ _ _ _ (by omega) (by omega) (by omega) hp2'.out) (permIn_mono _ _ _ _ _ _ (by omega) (by omega) (by omega) hpl3)), Stb.fin (by omega) (by omega) (by omega) C1.out.2.2.2.2 hp2'.out hs2'.out hpl3 hsl3, hwl3⟩
            · have c3a : ¬ ((mid : Int) < (e : Int) ∧ (e : Int) < (b : Int)) := by omega
              rcases (show ¬ (i : Int) < (m : Int) ∨ ((i : Int) < (m : Int) ∧ ¬ (m : Int) < (e : Int)) by omega) with g1 | ⟨g1, g1'⟩
              · have C1 : Hid (SortedIn (ltOf cf) a i d1 ∧ SortedIn (ltOf cf) i mid d1 ∧ SortedIn (ltOf cf) mid e d1 ∧ SortedIn (ltOf cf) e b d1 ∧ ∀ x y, a ≤ x → x < mid → mid ≤ y → y < b → ltOf cf d1[y]! d1[x]! = false) :=
                  (show Hid _ from ⟨(Stb.sd_of hI1.out).2 CR.out.1, (Stb.sd_of hI1.out).2 CR.out.2.1, (Stb.sd_of hI1.out).2 CR.out.2.2.1, (Stb.sd_of hI1.out).2 CR.out.2.2.2.1, fun x y h1 h2 h3 h4 => by rw [hI1.out, hI1.out]; exact CR.out.2.2.2.2 x y h1 h2 h3 h4⟩)
                clear hI1 CR
                obtain ⟨d2, hd2⟩ : ∃ d2, d2 = d1 := ⟨_, rfl⟩
                obtain ⟨w2, hw2e⟩ : ∃ w2, w2 = w1 := ⟨_, rfl⟩
                have hz2 : d2.size = d1.size := by rw [hd2]
                have hp2' : Hid (PermIn a mid d1 d2) := (show Hid _ from by rw [hd2]; exact permIn_refl _ _ _)
                have hs2' : Hid (SortedIn (ltOf cf) a mid d2) := (show Hid _ from by
                  rw [hd2]
                  by_cases hq : a < i
                  · have : i = mid := by omega
                    have h3 := C1.out.1; rw [this] at h3; exact h3
                  · have : i = a := by omega
                    have h3 := C1.out.2.1; rw [this] at h3; exact h3)
                have hw2 : Aside (SW enc w0 blk off d2 w2) := (show Aside _ from by rw [hd2, hw2e]; exact hw1.out)
                rw [← hw2e]
                clear hd2 hw2e hw1
                have C2 : Hid (SortedIn (ltOf cf) mid e d2 ∧ SortedIn (ltOf cf) e b d2) := (show Hid _ from ⟨C1.out.2.2.1.congr (fun i h1 h2 => hp2'.out.2.1 i (Or.inr h1)), C1.out.2.2.2.1.congr (fun i h1 h2 => hp2'.out.2.1 i (Or.inr (by omega)))⟩)
                have hs3' : Hid (SortedIn (ltOf cf) mid b d2) := (show Hid _ from by
                  by_cases hq : mid < e
                  · have : e = b := by omega
                    have h3 := C2.out.1; rw [this] at h3; exact h3
                  · have : e = mid := by omega
                    have h3 := C2.out.2; rw [this] at h3; exact h3)
                go_wp2_with fail
                all_goals go_end0
                all_goals exact ⟨rfl, d2, by omega, permIn_trans _ _ _ _ _ hp1'.out (permIn_mono _ _ _ _ _ _ (by omega) (by omega) (by omega) hp2'.out), Stb.fin (by omega) (by omega) (by omega) C1.out.2.2.2.2 hp2'.out hs2'.out (permIn_refl _ _ _) hs3'.out, hw2.out⟩
              · have C1 : Hid (SortedIn (ltOf cf) a i d1 ∧ SortedIn (ltOf cf) i mid d1 ∧ SortedIn (ltOf cf) mid e d1 ∧ SortedIn (ltOf cf) e b d1 ∧ ∀ x y, a ≤ x → x < mid → mid ≤ y → y < b → ltOf cf d1[y]! d1[x]! = false) :=
                  (show Hid _ from ⟨(Stb.sd_of hI1.out).2 CR.out.1, (Stb.sd_of hI1.out).2 CR.out.2.1, (Stb.sd_of hI1.out).2 CR.out.2.2.1, (Stb.sd_of hI1.out).2 CR.out.2.2.2.1, fun x y h1 h2 h3 h4 => by rw [hI1.out, hI1.out]; exact CR.out.2.2.2.2 x y h1 h2 h3 h4⟩)
                clear hI1 CR
                obtain ⟨d2, hd2⟩ : ∃ d2, d2 = d1 := ⟨_, rfl⟩
                obtain ⟨w2, hw2e⟩ : ∃ w2, w2 = w1 := ⟨_, rfl⟩
                have hz2 : d2.size = d1.size := by rw [hd2]
                have hp2' : Hid (PermIn a mid d1 d2) := (show Hid _ from by rw [hd2]; exact permIn_refl _ _ _)
                have hs2' : Hid (SortedIn (ltOf cf) a mid d2) := (show Hid _ from by
                  rw [hd2]
                  by_cases hq : a < i
                  · have : i = mid := by omega
                    have h3 := C1.out.1; rw [this] at h3; exact h3
                  · have : i = a := by omega
                    have h3 := C1.out.2.1; rw [this] at h3; exact h3)
                have hw2 : Aside (SW enc w0 blk off d2 w2) := (show Aside _ from by rw [hd2, hw2e]; exact hw1.out)
                rw [← hw2e]
                clear hd2 hw2e hw1
                have C2 : Hid (SortedIn (ltOf cf) mid e d2 ∧ SortedIn (ltOf cf) e b d2) := (show Hid _ from ⟨C1.out.2.2.1.congr (fun i h1 h2 => hp2'.out.2.1 i (Or.inr h1)), C1.out.2.2.2.1.congr (fun i h1 h2 => hp2'.out.2.1 i (Or.inr (by omega)))⟩)
                have hs3' : Hid (SortedIn (ltOf cf) mid b d2) := (show Hid _ from by
                  by_cases hq : mid < e
                  · have : e = b := by omega
                    have h3 := C2.out.1; rw [this] at h3; exact h3
                  · have : e = mid := by omega
                    have h3 := C2.out.2; rw [this] at h3; exact h3)
                go_wp2_with fail
                all_goals go_end0
                all_goals exact ⟨rfl, d2, by omega, permIn_trans _ _ _ _ _ hp1'.out (permIn_mono _ _ _ _ _ _ (by omega) (by omega) (by omega) hp2'.out), Stb.fin (by omega) (by omega) (by omega) C1.out.2.2.2.2 hp2'.out hs2'.out (permIn_refl _ _ _) hs3'.out, hw2.out⟩
end Go.Proofs.Ytfaeiphgenddkaa
/-
  The stable sort of the library: whole. No condition.
-/
set_option linter.unusedSimpArgs false
set_option linter.unusedVariables false
namespace Go.Proofs.Ytfaeiphgenddkaa
open Go Go.RowKit Go.Lib Go.Sort Go.Shelf
variable {α : Type} [Inhabited α]

theorem symMerge_s (enc : α → Value) (cf : α → α → Int) (hO : SWO (ltOf cf)) (g : Nat) (cb : Array Value) (blk off cap : Nat) (d0 : Array α) (w0 : World)
    (eg : ∀ args w, (callFunc g args).run Try.prog w = .ok (.enter g args) w) (hcmp : CmpLays1 Try.prog g cb enc cf blk off d0.size w0) (R : Row1 enc w0 blk off d0) (hsz : d0.size < 4611686018427387904) :
    ∀ (N a m b : Nat) (d : Array α) (w : World), b - a ≤ N → a < m → m < b → b ≤ d.size → d0.size = d.size → SW enc w0 blk off d w → SortedIn (ltOf cf) a m d → SortedIn (ltOf cf) m b d → MergeOk enc cf g cb blk off cap d0 w0 a m b d w
  | 0, a, m, b, d, w, hN, ham, hmb, hb, hs, S, h1, h2 => by omega
  | N + 1, a, m, b, d, w, hN, ham, hmb, hb, hs, S, h1, h2 => by
    by_cases c1 : m = a + 1
    · subst c1
      unfold MergeOk
      rw [hs]
      exact symMerge_l enc cf hO g cb blk off cap a b d0 d w0 w eg hcmp R hs S hmb hb (by omega) h2
    · by_cases c2 : b = m + 1
      · subst c2
        unfold MergeOk
        rw [hs]
        exact symMerge_r enc cf hO g cb blk off cap a m d0 d w0 w eg hcmp R hs S (by omega) hb (by omega) h1
      · exact symMerge_i enc cf hO g cb blk off cap a m b d0 d w0 w eg hcmp R hs S (by omega) (by omega) hb (by omega) h1 h2
          (fun a' m' b' d' w' q1 q2 q3 q4 q5 q6 q7 q8 => symMerge_s enc cf hO g cb blk off cap d0 w0 eg hcmp R hsz N a' m' b' d' w' (by omega) q2 q3 q4 q5 q6 q7 q8)

/-- Blocks of k in order, up to c. -/
def Bks (lt : α → α → Bool) (k c : Nat) (d : Array α) : Prop := ∀ t, SortedIn lt (t * k) (min (t * k + k) c) d
theorem sorted_none (lt : α → α → Bool) {a b : Nat} (d : Array α) (h : b ≤ a) : SortedIn lt a b d := fun i j h1 h2 h3 => by omega
theorem bks_step {lt : α → α → Bool} {k T : Nat} {d d' : Array α} (h : Bks lt k (T * k) d) (hp : PermIn (T * k) (T * k + k) d d') (hs : SortedIn lt (T * k) (T * k + k) d') : Bks lt k ((T + 1) * k) d' := by
  intro t
  rw [Nat.succ_mul]
  by_cases h1 : t < T
  · have : t * k + k ≤ T * k := by rw [← Nat.succ_mul]; exact Nat.mul_le_mul_right _ h1
    have := h t
    rw [show min (t * k + k) (T * k) = t * k + k by omega] at this
    rw [show min (t * k + k) (T * k + k) = t * k + k by omega]
    exact this.congr fun i q1 q2 => hp.2.1 i (Or.inl (by omega))
  · by_cases h2 : t = T
    · subst h2; rw [Nat.min_self]; exact hs
    · have : (T + 1) * k ≤ t * k := Nat.mul_le_mul_right _ (by omega)
      rw [Nat.succ_mul] at this
      exact sorted_none lt _ (by omega)
theorem bks_last {lt : α → α → Bool} {k T n : Nat} {d d' : Array α} (h : Bks lt k (T * k) d) (h1 : T * k ≤ n) (h2 : n < T * k + k) (hp : PermIn (T * k) n d d') (hs : SortedIn lt (T * k) n d') : Bks lt k n d' := by
  intro t
  by_cases h1 : t < T
  · have : t * k + k ≤ T * k := by rw [← Nat.succ_mul]; exact Nat.mul_le_mul_right _ h1
    have := h t
    rw [show min (t * k + k) (T * k) = t * k + k by omega] at this
    rw [show min (t * k + k) n = t * k + k by omega]
    exact this.congr fun i q1 q2 => hp.2.1 i (Or.inl (by omega))
  · by_cases h2 : t = T
    · subst h2; rw [show min (t * k + k) n = n by omega]; exact hs
    · have : (T + 1) * k ≤ t * k := Nat.mul_le_mul_right _ (by omega)
      rw [Nat.succ_mul] at this
      exact sorted_none lt _ (by omega)
/-- What is left in blocks of k, from a on. -/
def Rest (lt : α → α → Bool) (k a n : Nat) (d : Array α) : Prop := ∀ t, a ≤ t * k → SortedIn lt (t * k) (min (t * k + k) n) d
theorem rest_of {lt : α → α → Bool} {k n : Nat} {d : Array α} (h : Bks lt k n d) : Rest lt k 0 n d := fun t _ => h t
theorem rest_two {lt : α → α → Bool} {k n T : Nat} {d : Array α} (h : Rest lt k (T * (2 * k)) n d) (hn : T * (2 * k) + k ≤ n) : SortedIn lt (T * (2 * k)) (T * (2 * k) + k) d ∧ SortedIn lt (T * (2 * k) + k) (min (T * (2 * k) + 2 * k) n) d := by
  have e : 2 * T * k = T * (2 * k) := by rw [Nat.mul_comm 2 T, Nat.mul_assoc]
  have a1 := h (2 * T) (by omega)
  have e2 : (2 * T + 1) * k = T * (2 * k) + k := by rw [Nat.add_mul, e, Nat.one_mul]
  have a2 := h (2 * T + 1) (by omega)
  rw [e, show min (T * (2 * k) + k) n = T * (2 * k) + k by omega] at a1
  rw [e2, show T * (2 * k) + k + k = T * (2 * k) + 2 * k by omega] at a2
  exact ⟨a1, a2⟩
theorem rest_step {lt : α → α → Bool} {k n T : Nat} {d d' : Array α} (h : Rest lt k (T * (2 * k)) n d) (hp : PermIn (T * (2 * k)) (T * (2 * k) + 2 * k) d d') : Rest lt k ((T + 1) * (2 * k)) n d' := fun t ht => by
  have e2 : (T + 1) * (2 * k) = T * (2 * k) + 2 * k := by rw [Nat.add_mul, Nat.one_mul]
  exact (h t (by omega)).congr fun i q1 q2 => hp.2.1 i (Or.inr (by omega))
theorem rest_one {lt : α → α → Bool} {k n T : Nat} {d : Array α} (h : Rest lt k (T * (2 * k)) n d) (hn : n ≤ T * (2 * k) + k) : SortedIn lt (T * (2 * k)) n d := by
  have e : 2 * T * k = T * (2 * k) := by rw [Nat.mul_comm 2 T, Nat.mul_assoc]
  have a1 := h (2 * T) (by omega)
  rw [e, show min (T * (2 * k) + k) n = n by omega] at a1
  exact a1
theorem bks_all {lt : α → α → Bool} {k n : Nat} {d : Array α} (h : Bks lt k n d) (hn : n ≤ k) : SortedIn lt 0 n d := by
  have := h 0
  rwa [Nat.zero_mul, Nat.zero_add, show min k n = n by omega] at this
end Go.Proofs.Ytfaeiphgenddkaa
/-
  The stable sort of the library, walked whole. No condition but a bound on the size.
-/
set_option linter.unusedSimpArgs false
set_option linter.unusedVariables false
namespace Go.Proofs.Ytfaeiphgenddkaa
open Go Go.RowKit Go.Lib Go.Sort Go.Shelf
variable {α : Type} [Inhabited α]

set_option maxHeartbeats 64000000 in
set_option maxRecDepth 1000000 in
theorem stable_s (enc : α → Value) (cf : α → α → Int) (hO : SWO (ltOf cf)) (g : Nat) (cb : Array Value) (blk off cap : Nat) (d0 : Array α) (w0 : World)
    (eg : ∀ args w, (callFunc g args).run Try.prog w = .ok (.enter g args) w) (hcmp : CmpLays1 Try.prog g cb enc cf blk off d0.size w0) (R : Row1 enc w0 blk off d0) (hsz : d0.size < 1073741824) :
    Calls Try.prog 50 #[.slice (some ⟨blk, off, none⟩) d0.size cap, .int .i64 d0.size, .func (.func g) #[] cb] w0 fun e w' => e = .returned (.tuple #[]) ∧ ∃ d', d'.size = d0.size ∧ PermIn 0 d0.size d0 d' ∧ SortedIn (ltOf cf) 0 d0.size d' ∧ SW enc w0 blk off d' w' := by
  have mixed : Try.prog.follows Departure.mixedOrders = true := by kernel_rfl
  have INS : Hid (∀ (a b : Nat) (d : Array α) (w : World), d0.size = d.size → SW enc w0 blk off d w → a ≤ b → b ≤ d.size → Calls Try.prog 54 #[.slice (some ⟨blk, off, none⟩) d0.size cap, .int .i64 a, .int .i64 b, .func (.func g) #[] cb] w fun e w' => e = .returned (.tuple #[]) ∧ ∃ d', d'.size = d.size ∧ PermIn a b d d' ∧ SortedIn (ltOf cf) a b d' ∧ SW enc w0 blk off d' w') :=
    (show Hid _ from fun a b d w h1 h2 h3 h4 => by
      have hc := Any.insertionSortCmpFunc_s (P := Try.prog) (ρ := laysSort_ren) { laysSort with } enc cf g cb blk off cap a b d0 d w0 w eg hcmp R h1 h2 h3 h4 (by omega)
      rw [← h1] at hc
      obtain ⟨q1, q2⟩ := insertionSort_holds hO d a b h3 h4
      exact hc.mono fun e w' ⟨he, hw⟩ => ⟨he, _, q1.1, q1, q2, hw⟩)
  have MRG : Hid (∀ (a m b : Nat) (d : Array α) (w : World), a < m → m < b → b ≤ d.size → d0.size = d.size → SW enc w0 blk off d w → SortedIn (ltOf cf) a m d → SortedIn (ltOf cf) m b d → MergeOk enc cf g cb blk off cap d0 w0 a m b d w) :=
    (show Hid _ from fun a m b d w h1 h2 h3 h4 h5 h6 h7 => symMerge_s enc cf hO g cb blk off cap d0 w0 eg hcmp R (by omega) (b - a) a m b d w (Nat.le_refl _) h1 h2 h3 h4 h5 h6 h7)
  have S0 : Aside (SW enc w0 blk off d0 w0) := SW.start R.hH
  clear hcmp eg
  go_enter Try.func50, Try.ntmps50
  go_wp2
  go_loopg [7, 8] d0.size (fun g1 va vb wr => ∃ (a b : Nat) (d : Array α), va = .int .i64 a ∧ vb = .int .i64 b ∧ a + 20 ≤ b ∧ b ≤ a + 20 ∧ a ≤ d0.size ∧ d0.size - a ≤ g1 ∧ d.size = d0.size ∧ Aside (SW enc w0 blk off d wr) ∧ Hid (∃ T, a = T * 20 ∧ PermIn 0 d0.size d0 d ∧ Bks (ltOf cf) 20 (T * 20) d))
  case atStart => exact ⟨0, 20, d0, by go_num, by go_num, by omega, by omega, by omega, by omega, rfl, S0, (show Hid _ from ⟨0, by omega, permIn_refl _ _ _, fun t => sorted_none _ _ (by omega)⟩)⟩
  case round =>
    clear S0
    obtain ⟨a, b, d, rfl, rfl, hb1, hb2, ha, hg1, hsd, S1, HO⟩ := hrel
    by_cases hbn : b ≤ d0.size
    · have hbz : (b : Int) ≤ (d0.size : Int) := by omega
      have hc := INS.out a b d wr hsd.symm S1.out (by omega) (by omega)
      clear S1
      go_wp2_with fail
      refine hc.mono ?_
      rintro ev w1 ⟨rfl, d1, hz1, hp1, hs1, hw1⟩
      have S2 : Aside (SW enc w0 blk off d1 w1) := hw1
      have HO2 : Hid (∃ T, b = T * 20 ∧ PermIn 0 d0.size d0 d1 ∧ Bks (ltOf cf) 20 (T * 20) d1) := (show Hid _ from by
        obtain ⟨T, e, q1, q2⟩ := HO.out
        subst e
        have eb : b = T * 20 + 20 := by omega
        subst eb
        refine ⟨T + 1, by omega, permIn_trans _ _ _ _ _ q1 (permIn_mono _ _ _ _ _ _ (by omega) (by omega) (by omega) hp1), bks_step q2 hp1 hs1⟩)
      clear hw1 hp1 hs1 hc HO
      go_wp2
      go_roundg (d0.size - b)
      case measure => omega
      case rel => exact ⟨b, b + 20, d1, by go_num, by go_num, by omega, by omega, by omega, by omega, by omega, S2, HO2⟩
    · have hbz : ¬ (b : Int) ≤ (d0.size : Int) := by omega
      have hc := INS.out a d0.size d wr hsd.symm S1.out (by omega) (by omega)
      clear S1
      go_wp2_with fail
      refine hc.mono ?_
      rintro ev w1 ⟨rfl, d1, hz1, hp1, hs1, hw1⟩
      have S2 : Aside (SW enc w0 blk off d1 w1) := hw1
      have HO2 : Hid (PermIn 0 d0.size d0 d1 ∧ Bks (ltOf cf) 20 d0.size d1) := (show Hid _ from by
        obtain ⟨T, e, q1, q2⟩ := HO.out
        subst e
        exact ⟨permIn_trans _ _ _ _ _ q1 (permIn_mono _ _ _ _ _ _ (by omega) (by omega) (by omega) hp1), bks_last q2 ha (by omega) hp1 hs1⟩)
      clear hw1 hp1 hs1 hc HO
      go_wp2
      go_loopg [6] d0.size (fun g1 vk wr => ∃ (k : Nat) (d : Array α), vk = .int .i64 k ∧ 20 ≤ k ∧ k < 2147483648 ∧ d0.size - k ≤ g1 ∧ d.size = d0.size ∧ Aside (SW enc w0 blk off d wr) ∧ Hid (PermIn 0 d0.size d0 d ∧ Bks (ltOf cf) k d0.size d))
      case atStart => exact ⟨20, d1, by go_num, by omega, by omega, by omega, by omega, S2, HO2⟩
      case round =>
        clear S2 HO2
        obtain ⟨k, d2, rfl, hk1, hk2, hg2, hsd2, S3, H3⟩ := hrel
        by_cases hkn : k < d0.size
        · have hkz : (k : Int) < (d0.size : Int) := by omega
          go_wp2
          go_loopg [7, 8] d0.size (fun g1 va vb wr => ∃ (a b : Nat) (d : Array α), va = .int .i64 a ∧ vb = .int .i64 b ∧ a + 2 * k ≤ b ∧ b ≤ a + 2 * k ∧ a ≤ d0.size ∧ d0.size - a ≤ g1 ∧ d.size = d0.size ∧ Aside (SW enc w0 blk off d wr) ∧ Hid (∃ T, a = T * (2 * k) ∧ PermIn 0 d0.size d0 d ∧ Bks (ltOf cf) (2 * k) (T * (2 * k)) d ∧ Rest (ltOf cf) k (T * (2 * k)) d0.size d))
          case atStart => exact ⟨0, 2 * k, d2, by go_num, by go_num, by omega, by omega, by omega, by omega, hsd2, S3, (show Hid _ from ⟨0, by omega, H3.out.1, fun t => sorted_none _ _ (by omega), by rw [Nat.zero_mul]; exact rest_of H3.out.2⟩)⟩
          case round =>
            clear S3 H3
            obtain ⟨a, b, d3, rfl, rfl, hb1, hb2, ha, hg3, hsd3, S4, H4⟩ := hrel
            by_cases hbn : b ≤ d0.size
            · have hbz : (b : Int) ≤ (d0.size : Int) := by omega
              have hc : MergeOk enc cf g cb blk off cap d0 w0 a (a + k) b d3 wr := by
                obtain ⟨T, e, q1, q2, q3⟩ := H4.out
                subst e
                obtain ⟨r1, r2⟩ := rest_two q3 (by omega)
                rw [show min (T * (2 * k) + 2 * k) d0.size = b by omega] at r2
                exact MRG.out _ _ _ d3 wr (by omega) (by omega) (by omega) hsd3.symm S4.out r1 r2
              unfold MergeOk at hc
              rw [Int.natCast_add] at hc
              clear S4
              go_wp2_with fail
              refine hc.mono ?_
              rintro ev w4 ⟨rfl, d4, hz4, hp4, hs4, hw4⟩
              have S5 : Aside (SW enc w0 blk off d4 w4) := hw4
              have H5 : Hid (∃ T, b = T * (2 * k) ∧ PermIn 0 d0.size d0 d4 ∧ Bks (ltOf cf) (2 * k) (T * (2 * k)) d4 ∧ Rest (ltOf cf) k (T * (2 * k)) d0.size d4) := (show Hid _ from by
                obtain ⟨T, e, q1, q2, q3⟩ := H4.out
                subst e
                have eb : b = T * (2 * k) + 2 * k := by omega
                subst eb
                refine ⟨T + 1, by rw [Nat.add_mul, Nat.one_mul], permIn_trans _ _ _ _ _ q1 (permIn_mono _ _ _ _ _ _ (by omega) (by omega) (by omega) hp4), bks_step q2 hp4 hs4, rest_step q3 hp4⟩)
              clear hw4 hp4 hs4 hc H4
              go_wp2
              go_roundg (d0.size - b)
              case measure => omega
              case rel => exact ⟨b, b + 2 * k, d4, by go_num, by go_num, by omega, by omega, by omega, by omega, by omega, S5, H5⟩
            · have hbz : ¬ (b : Int) ≤ (d0.size : Int) := by omega
              by_cases hlast : a + k < d0.size
              · have hlz : (a : Int) + (k : Int) < (d0.size : Int) := by omega
                have hc : MergeOk enc cf g cb blk off cap d0 w0 a (a + k) d0.size d3 wr := by
                  obtain ⟨T, e, q1, q2, q3⟩ := H4.out
                  subst e
                  obtain ⟨r1, r2⟩ := rest_two q3 (by omega)
                  rw [show min (T * (2 * k) + 2 * k) d0.size = d0.size by omega] at r2
                  exact MRG.out _ _ _ d3 wr (by omega) (by omega) (by omega) hsd3.symm S4.out r1 r2
                unfold MergeOk at hc
                rw [Int.natCast_add] at hc
                clear S4
                go_wp2_with fail
                refine hc.mono ?_
                rintro ev w4 ⟨rfl, d4, hz4, hp4, hs4, hw4⟩
                have S5 : Aside (SW enc w0 blk off d4 w4) := hw4
                have H5 : Hid (PermIn 0 d0.size d0 d4 ∧ Bks (ltOf cf) (k * 2) d0.size d4) := (show Hid _ from by
                  obtain ⟨T, e, q1, q2, q3⟩ := H4.out
                  subst e
                  rw [Nat.mul_comm k 2]
                  exact ⟨permIn_trans _ _ _ _ _ q1 (permIn_mono _ _ _ _ _ _ (by omega) (by omega) (by omega) hp4), bks_last q2 ha (by omega) hp4 hs4⟩)
                clear hw4 hp4 hs4 hc H4
                go_wp2
                go_roundg (d0.size - k * 2)
                case measure => omega
                case rel => exact ⟨k * 2, d4, by go_num, by omega, by omega, by omega, by omega, S5, H5⟩
              · have hlz : ¬ (a : Int) + (k : Int) < (d0.size : Int) := by omega
                have H5 : Hid (PermIn 0 d0.size d0 d3 ∧ Bks (ltOf cf) (k * 2) d0.size d3) := (show Hid _ from by
                  obtain ⟨T, e, q1, q2, q3⟩ := H4.out
                  subst e
                  rw [Nat.mul_comm k 2]
                  exact ⟨q1, bks_last q2 ha (by omega) (permIn_refl _ _ _) (rest_one q3 (by omega))⟩)
                clear H4
                go_wp2
                go_roundg (d0.size - k * 2)
                case measure => omega
                case rel => exact ⟨k * 2, d3, by go_num, by omega, by omega, by omega, by omega, S4, H5⟩
        · have hkz : ¬ (k : Int) < (d0.size : Int) := by omega
          go_wp2
          go_end0
          exact ⟨rfl, d2, hsd2, H3.out.1, bks_all H3.out.2 (by omega), S3.out⟩

theorem slices_SortStableFunc (enc : α → Value) (h1 : OneCell enc) (cf : α → α → Int) (hO : SWO (ltOf cf)) (g : Nat) (cb : Array Value) (blk off cap : Nat) (d : Array α) (w : World) (eg : ∀ args w, (callFunc g args).run Try.prog w = .ok (.enter g args) w) (hcmp : CmpLays1 Try.prog g cb enc cf blk off d.size w) (hH : Holds enc w blk off d) (hblk : blk < w.heap.size) (hsz : d.size < 1073741824) :
    Calls Try.prog 42 #[.slice (some ⟨blk, off, none⟩) d.size cap, .func (.func g) #[] cb] w fun e w' =>
      e = .returned (.tuple #[]) ∧ ∃ d' n os, PermIn 0 d.size d d' ∧ SortedIn (ltOf cf) 0 d.size d' ∧ w' = sortWorld enc w blk off n d' os := by
  have hc := stable_s enc cf hO g cb blk off cap d w eg hcmp ⟨h1, hH, hblk⟩ hsz
  go_enter Try.func42, Try.ntmps42
  go_wp2_with fail
  refine hc.mono ?_
  rintro ev w1 ⟨rfl, d1, hz1, hp1, hs1, n, os, hw1⟩
  have A : Hid (PermIn 0 d.size d d1 ∧ SortedIn (ltOf cf) 0 d.size d1 ∧ w1 = sortWorld enc w blk off n d1 os) := (show Hid _ from ⟨hp1, hs1, hw1⟩)
  clear hp1 hs1 hw1 hc
  go_wp2
  go_end0
  exact ⟨rfl, d1, n, os, A.out⟩
end Go.Proofs.Ytfaeiphgenddkaa
/-
  slices.SortStableFunc at own slices of rows, by any function that compares rows; edges by their ratios. No condition.
-/
namespace Go.Proofs.Ytfaeiphgenddkaa
open Go Go.RowKit Go.Sort

section
variable {env : Env} {os : List AO} {d : Option Tmp} {ty : TypeId} {pos : String} {af : Array Edge} {g : Option (Nat × Bool)}

set_option maxHeartbeats 2000000 in
theorem c_sortst {G : FuncId} {cmp : List Int → List Int → Int} {R : List Int → Prop} (hcmpok : CmpOk G cmp R) {x y : Operand} {ats : Array TypeId} {h : Nat} {e e2 : TypeId} {xss : List (List Int)} (hx : AV.ev env x = .own h) (hs : os[h]? = some (.sls e e2 xss)) (hy : AV.ev env y = .val (.func (.func G) #[] #[])) (hp : ∀ xs ∈ xss, R xs) (hn : 0 < xss.length ∧ xss.length ≤ 1048576) :
    COp Try.prog ⟨d, .call { callee := .value (.func 42), args := #[x, y], argTypes := ats }, ty, pos, af, g⟩ env os
      (fun r e' o => ∃ idx : List Nat, idx.Perm (List.range xss.length) ∧ (∀ i j : Nat, i < j → j < idx.length → ¬ cmp (xss.getD (idx.getD j 0) []) (xss.getD (idx.getD i 0) []) < 0) ∧ r = .any ∧ e' = env.mp (AV.noRow h) ∧ o = ((((os ++ [AO.sli e2 []]).map (AO.via (AV.noRow h) h)).set h (.sls e e2 (idx.map fun i => xss.getD i []))).set os.length .dead)) := by
  intro base w gs tm hr
  have hxv := hr.ev x
  rw [hx] at hxv
  have hyv := hr.evv hy
  generalize hv : Act.eval ⟨tm, []⟩ x = v at hxv
  cases hxv with
  | @own _ gh hg =>
  obtain ⟨us, bs, mb, b1, b2, b3, b4, b5, b6, b7, b8⟩ := hr.ho _ _ _ hg hs
  rcases b1.2 with ⟨_, c2⟩ | ⟨blk, cap, cur, c1, c2, c3, c4, c5, c6, c7⟩
  · omega
  have hmb : gh.v.ownBlock = some blk := by rw [c1]; rfl
  have hblk : blk ∈ mb := by
    rcases b6 with ⟨q1, _⟩ | ⟨q1, q2⟩
    · rw [hmb] at q1; cases q1
    · rw [hmb] at q1; cases q1; simp [q2]
  have hmb1 : ∀ b ∈ mb, b = blk := by
    rcases b6 with ⟨q1, _⟩ | ⟨q1, q2⟩
    · rw [hmb] at q1; cases q1
    · rw [hmb] at q1; cases q1; intro b hb; rw [q2] at hb; simpa using hb
  have a8' : (mb ++ bs.flatten).Nodup := by rw [← b7]; exact b8
  have hlt : blk < w.heap.size := (Array.getElem?_eq_some_iff.1 c3).1
  have hbl0 : ∀ b, b ∈ gh.bl → b < w.heap.size := fun b hb => (hr.hn _ _ _ hg hs (by simp) b hb).2
  have rowblk : ∀ (j : Nat) u, us[j]? = some u → ∀ c, u.ownBlock = some c → c ∈ bs.flatten := by
    intro j u hj c hc
    have hjb : j < bs.length := by
      have := (List.getElem?_eq_some_iff.1 hj).1
      omega
    exact List.mem_flatten.2 ⟨bs.getD j [], by rw [List.getD_eq_getElem?_getD, List.getElem?_eq_getElem hjb]; simp, by rw [← (b5 j u hj).2.2, hc]; simp⟩
  have flne : ∀ c, c ∈ bs.flatten → c ≠ blk ∧ c < w.heap.size := fun c hc => ⟨fun e => (List.nodup_append.1 a8').2.2 blk hblk c hc e.symm, hbl0 c (by rw [b7]; exact List.mem_append.2 (.inr hc))⟩
  -- the rows by their numbers
  let n := xss.length
  let ix : Nat → Nat := fun i => if i < n then i else 0
  have hix : ∀ i, ix i < n := fun i => by show (if i < n then i else 0) < n; split <;> omega
  let enc : Nat → Value := fun i => us.getD (ix i) undef
  let row : Nat → List Int := fun i => xss.getD (ix i) []
  let cf : Nat → Nat → Int := fun i j => cmp (row i) (row j)
  have hus : ∀ i, us[ix i]? = some (enc i) := fun i => by
    have : ix i < us.length := by rw [b2]; exact hix i
    show us[ix i]? = some (us.getD (ix i) undef)
    rw [List.getD_eq_getElem?_getD, List.getElem?_eq_getElem this]; rfl
  have hrow : ∀ i, R (row i) := fun i => by
    have : ix i < xss.length := hix i
    refine hp _ ?_
    show xss.getD (ix i) [] ∈ xss
    rw [List.getD_eq_getElem?_getD, List.getElem?_eq_getElem this]
    exact List.getElem_mem this
  have henc : ∀ i, ∃ c cp, enc i = .slice c (row i).length cp := fun i => by
    obtain ⟨q1, q2, q3⟩ := b5 _ _ (hus i)
    obtain ⟨ua, uc, eu⟩ := ownsRow_slice q1
    exact ⟨ua, uc, eu⟩
  have h1 : OneCell enc := fun i => by obtain ⟨c, cp, q⟩ := henc i; rw [q]; rfl
  have hlt' : ∀ i j, ltOf cf i j = true ↔ cmp (row i) (row j) < 0 := fun i j => by
    unfold ltOf
    rw [decide_eq_true_iff]
  have hlf : ∀ i j, ltOf cf i j = false ↔ ¬ cmp (row i) (row j) < 0 := fun i j => by
    rw [← hlt', Bool.not_eq_true]
  have hO : SWO (ltOf cf) := by
    refine ⟨fun i => ?_, fun i j k p q => ?_, fun i j k p q => ?_⟩
    · rw [hlf]; exact hcmpok.2.2.1 _ (hrow i)
    · rw [hlt'] at *; exact hcmpok.2.2.2.1 _ _ _ (hrow i) (hrow j) (hrow k) p q
    · rw [hlf] at *; exact hcmpok.2.2.2.2 _ _ _ (hrow i) (hrow j) (hrow k) p q
  have hbd : HasBody Try.prog 42 := ⟨_, _, Try.func42, by kernel_rfl, rfl⟩
  have hbc := hcmpok.1
  have hsz : (Array.range n).size = us.length := by simp [n, b2]
  have hcmp : CmpLays1 Try.prog G #[] enc cf blk 0 (Array.range n).size w := by
    intro m oss dk hdk i j
    have hat : ∀ i, IntsAt (sortWorld enc w blk 0 m dk oss) (fun _ => True) (enc i) (row i) := fun i => by
      obtain ⟨q1, q2, q3⟩ := b5 _ _ (hus i)
      refine ⟨RowAt.of_owns (base := base) (e := e2) (ownsRow_of_block q1 fun c hc => ?_), q2⟩
      have := flne c (rowblk _ _ (hus i) c hc)
      exact sw_other enc w blk m dk oss this.1 this.2
    exact hcmpok.2.1 _ _ _ _ _ (hat i) (hat j) (hrow i) (hrow j)
  have hH : Holds enc w blk 0 (Array.range n) := by
    intro j hj
    have hj' : j < n := by simpa using hj
    obtain ⟨b', cp, r1, r2, r3, r4⟩ := own_slice b1 (i := j) (by rw [b2]; exact hj')
    have : b' = blk := by rw [hmb] at r2; exact (Option.some.inj r2).symm
    subst this
    rw [Nat.zero_add]
    refine ⟨?_, r4⟩
    have e1 : (Array.range n)[j]! = j := by rw [getElem!_pos _ j (by simpa using hj')]; simp
    have e2 : ix j = j := if_pos hj'
    rw [r3, e1, ← hus j, e2]
  refine ⟨_, _, run_call hbd [x, y] ats _ rfl w, ?_⟩
  have hcall := slices_SortStableFunc enc h1 cf hO G #[] blk 0 cap (Array.range n) w (fun args w => hbc.run args w) hcmp hH hlt (by simp [n]; omega)
  have eargs : ([x, y].map (Act.eval ⟨tm, []⟩)).toArray = #[.slice (some ⟨blk, 0, none⟩) (Array.range n).size cap, .func (.func G) #[] #[]] := by
    simp only [List.map_cons, List.map_nil, hv, hyv, c1, hsz]
  rw [eargs]
  refine hcall.mono ?_
  rintro e' w' ⟨rfl, d', m, oss, ⟨p1, p2, p3⟩, hsort, rfl⟩
  have hdl : d'.size = n := by simpa using p1
  have hperm : d'.toList.Perm (List.range n) := by
    have e1 : (d'.extract 0 (Array.range n).size).toList = d'.toList := by simp; rw [List.take_of_length_le (by simp [hdl])]
    have e2 : ((Array.range n).extract 0 (Array.range n).size).toList = List.range n := by simp
    rw [e1, e2] at p3
    exact p3
  let idx := d'.toList
  have hil : idx.length = n := by simpa [idx] using hdl
  have hin : ∀ i ∈ idx, i < n := fun i hi => List.mem_range.1 (hperm.mem_iff.1 hi)
  have hind : idx.Nodup := hperm.nodup_iff.2 List.nodup_range
  let cs : List (List Nat) := idx.map fun i => bs.getD i []
  let us' : List Value := idx.map enc
  have hus' : ∀ i ∈ idx, us[i]? = some (enc i) := fun i hi => by
    have := hus i
    have e2 : ix i = i := if_pos (hin i hi)
    rwa [e2] at this
  let g' : Gh := ⟨gh.v, gh.b, mb ++ cs.flatten, us'⟩
  have hcs : ∀ b, b ∈ cs.flatten → b ∈ bs.flatten := by
    intro b hb
    obtain ⟨l, hl, hbl⟩ := List.mem_flatten.1 hb
    obtain ⟨i, hi, rfl⟩ := List.mem_map.1 hl
    have hi2 : i < bs.length := by rw [b3]; exact hin i hi
    rw [List.getD_eq_getElem?_getD, List.getElem?_eq_getElem hi2] at hbl
    exact List.mem_flatten.2 ⟨_, List.getElem_mem hi2, hbl⟩
  -- a dummy object, to be taken in
  let gd : Gh := ⟨.slice none 0 0, 0, [], []⟩
  have hr1 : Rel base w (gs ++ [gd]) env (os ++ [.sli e2 []]) tm := hr.new (Below.refl _ _) (.sli e2 []) gd (fun _ b hb => by simp [gd] at hb) ⟨World.ownsRow_nil w base e2 1, fun x hx => by simp at hx, .inl ⟨rfl, rfl⟩⟩
  have hgl : h < gs.length := (List.getElem?_eq_some_iff.1 hg).1
  have hol : h < os.length := (List.getElem?_eq_some_iff.1 hs).1
  have hg1 : (gs ++ [gd])[h]? = some gh := by rw [List.getElem?_append_left hgl]; exact hg
  have hs1 : (os ++ [AO.sli e2 []])[h]? = some (.sls e e2 xss) := by rw [List.getElem?_append_left hol]; exact hs
  have hgd : (gs ++ [gd])[os.length]? = some gd := by rw [← hr.hl]; simp
  have hod : (os ++ [AO.sli e2 []])[os.length]? = some (.sli e2 []) := by simp
  have sv : SameV h (gs ++ [gd]) ((gs ++ [gd]).set h g') := by
    refine ⟨fun j z hj hz => ?_, fun z hz => ⟨g', ?_, ?_, ?_⟩⟩
    · rw [List.getElem?_set, if_neg (fun e => hj e.symm)]; exact hz
    · rw [List.getElem?_set, if_pos rfl, if_pos (by simp; omega)]
    · rw [hg1] at hz; cases hz; rfl
    · rw [hg1] at hz; cases hz; rfl
  have hkeep : ∀ b, b < w.heap.size → b ≠ blk → (sortWorld enc w blk 0 m d' oss).heap[b]? = w.heap[b]? := fun b hb hne => sw_other enc w blk m d' oss hne hb
  have hblkbl : blk ∈ gh.bl := by rw [b7]; exact List.mem_append.2 (.inl hblk)
  refine ⟨.tuple #[], .any, _, _, (gs ++ [gd]).set h g', rfl, ⟨idx, hperm, ?_, rfl, rfl, rfl⟩, hr1.absorb hg1 hs1 trivial hgd hod trivial (by omega) g' _ (AV.noRow h) rfl (fun b hb hn => hkeep b hb fun e => hn (by rw [e]; exact hblkbl)) (by rw [sw_size]; omega) ?_ (fun kp hv => hv.noRow kp sv) ?_, .any _, ?_⟩
  · intro i j hij hj
    have hj2 : j < d'.size := by rw [hdl, ← hil]; exact hj
    have hs2 := hsort i j (Nat.zero_le _) hij (by simpa using (by omega : j < n))
    rw [hlf, getElem!_pos d' j hj2, getElem!_pos d' i (by omega)] at hs2
    have q : ∀ a (ha : a < d'.size), row d'[a] = xss.getD (idx.getD a 0) [] := fun a ha => by
      have e3 : idx.getD a 0 = d'[a] := by
        show d'.toList.getD a 0 = _
        rw [List.getD_eq_getElem?_getD, Array.getElem?_toList, Array.getElem?_eq_getElem ha]; rfl
      have e4 : d'[a] < n := hin _ (by show d'[a] ∈ d'.toList; simp)
      rw [e3]
      show xss.getD (ix d'[a]) [] = _
      rw [show ix d'[a] = d'[a] from if_pos e4]
    rw [q j hj2, q i (by omega)] at hs2
    exact hs2
  · intro b hb
    have hbb : b ∈ gh.bl := by
      rw [b7]
      rcases List.mem_append.1 hb with hb | hb
      · exact List.mem_append.2 (.inl hb)
      · exact List.mem_append.2 (.inr (hcs b hb))
    refine ⟨.inl hbb, ?_⟩
    rw [sw_size]
    have := hbl0 b hbb
    omega
  · intro kp
    refine ⟨us', cs, mb, ?_, by simp [us'], by simp [cs], rfl, fun j u hj => ?_, b6, rfl, ?_⟩
    · refine ⟨by simp, .inr ⟨blk, cap, _, ?_, c2, sw_row enc w blk m d' oss c3, ?_, c5, ?_, ?_⟩⟩
      · show gh.v = _
        rw [c1]
        have : us'.length = us.length := by simp [us', hil, b2, n]
        rw [this]
      · have : us'.length = us.length := by simp [us', hil, b2, n]
        omega
      · simpa [putCells] using c6
      · have : us'.length * 1 = d'.size := by simp [us', hil, hdl]
        rw [this]
        exact take_put enc d' cur (by rw [c6, hdl]; omega)
    · obtain ⟨i, hi, rfl⟩ : ∃ i, idx[j]? = some i ∧ enc i = u := by
        rw [List.getElem?_map] at hj
        cases hjx : idx[j]? with
        | none => rw [hjx] at hj; cases hj
        | some i => rw [hjx] at hj; exact ⟨i, rfl, Option.some.inj hj⟩
      have him := List.mem_of_getElem? hi
      have g1 : (idx.map fun i => xss.getD i []).getD j [] = xss.getD i [] := by
        rw [List.getD_eq_getElem?_getD, List.getElem?_map, hi]; rfl
      have g2 : cs.getD j [] = bs.getD i [] := by
        show (idx.map fun i => bs.getD i []).getD j [] = _
        rw [List.getD_eq_getElem?_getD, List.getElem?_map, hi]; rfl
      obtain ⟨q1, q2, q3⟩ := b5 i _ (hus' i him)
      rw [g1, g2]
      refine ⟨ownsRow_of_block q1 fun c hc => ?_, q2, q3⟩
      have hcf := rowblk i _ (hus' i him) c hc
      exact hkeep c (flne c hcf).2 (flne c hcf).1
    · show (mb ++ cs.flatten).Nodup
      rw [List.nodup_append] at a8' ⊢
      refine ⟨a8'.1, nodup_sel a8'.2.1 hind (fun i hi => by rw [b3]; exact hin i hi), fun a ha b hb e => a8'.2.2 a ha b (hcs b hb) e⟩
  · refine ⟨rfl, rfl, rfl, by rw [sw_size]; omega, fun b hb => hkeep b (by have := hr.hb; omega) fun e => ?_⟩
    omega
end

section
variable {env : Env} {os : List AO} {d : Tmp} {ty : TypeId} {pos : String} {af : Array Edge} {l rest : List Oper} {K : APost}
theorem w_sortst {G : FuncId} {cmp : List Int → List Int → Int} {R : List Int → Prop} (hcmpok : CmpOk G cmp R) {x y : Operand} {ats : Array TypeId} {h : Nat} {e e2 : TypeId} {xss : List (List Int)} (hp : ∀ xs ∈ xss, R xs) (hn : 0 < xss.length ∧ xss.length ≤ 1048576) (hx : evo env x = some (.own h)) (hs : os[h]? = some (.sls e e2 xss)) (hy : evo env y = some (.val (.func (.func G) #[] #[])))
    (h' : ∀ idx : List Nat, idx.Perm (List.range xss.length) → (∀ i j : Nat, i < j → j < idx.length → ¬ cmp (xss.getD (idx.getD j 0) []) (xss.getD (idx.getD i 0) []) < 0) → AOps Try.prog .seq l rest K (Env.up (env.mp (AV.noRow h)) d .any) ((((os ++ [AO.sli e2 []]).map (AO.via (AV.noRow h) h)).set h (.sls e e2 (idx.map fun i => xss.getD i []))).set os.length .dead)) :
    AOps Try.prog .seq l (⟨some d, .call { callee := .value (.func 42), args := #[x, y], argTypes := ats }, ty, pos, af, none⟩ :: rest) K env os :=
  AOps.ca (c_sortst hcmpok (ev_of hx) hs (ev_of hy) hp hn) fun r e o ⟨idx, h1, h2, h3, h4, h5⟩ => by subst h3; subst h4; subst h5; exact h' idx h1 h2
end


/-! ### Edges by their ratios -/
def cmp3 (x y : Int) : Int := if x < y then -1 else if y < x then 1 else 0
theorem cmp3_lt (x y : Int) : cmp3 x y < 0 ↔ x < y := by unfold cmp3; split; omega; split <;> omega
theorem compared_k (x y : Int) (w : World) : Calls Try.prog 44 #[.int .i64 x, .int .i64 y] w fun e w' => e = .returned (.int .i64 (cmp3 x y)) ∧ w' = w := by
  unfold cmp3
  by_cases h1 : x < y
  · rw [if_pos h1]
    go_enter Try.func44, Try.ntmps44
    go_wp2
    go_ret
    exact ⟨rfl, rfl⟩
  · rw [if_neg h1]
    by_cases h2 : y < x
    · rw [if_pos h2]
      go_enter Try.func44, Try.ntmps44
      go_wp2
      go_ret
      exact ⟨rfl, rfl⟩
    · rw [if_neg h2]
      go_enter Try.func44, Try.ntmps44
      go_wp2
      go_ret
      exact ⟨rfl, rfl⟩
set_option maxHeartbeats 4000000 in
theorem joined_k (b1 o1 c1 b2 o2 c2 : Nat) (x0 x1 y0 y1 : Int) (w : World) (h0 : w.cell? ⟨b1, o1, none⟩ = some (.int .i64 x0)) (h1 : w.cell? ⟨b1, o1 + 1, none⟩ = some (.int .i64 x1)) (g0 : w.cell? ⟨b2, o2, none⟩ = some (.int .i64 y0)) (g1 : w.cell? ⟨b2, o2 + 1, none⟩ = some (.int .i64 y1))
    (r1 : IntKind.i64.wrap (y1 * x0) = y1 * x0) (r2 : IntKind.i64.wrap (x1 * y0) = x1 * y0) :
    Calls Try.prog 43 #[.slice (some ⟨b1, o1, none⟩) 2 c1, .slice (some ⟨b2, o2, none⟩) 2 c2] w fun e w' => e = .returned (.int .i64 (cmp3 (y1 * x0) (x1 * y0))) ∧ ∃ q, w' = w.drewN q := by
  have mixed : Try.prog.follows Departure.mixedOrders = true := by kernel_rfl
  go_enter Try.func43, Try.ntmps43
  go_wp2_with fail
  go_quiet (first | (go_at_call 44; refine Calls.quiet_of_same (compared_k _ _ _)))
  go_wp2
  go_ret
  exact ⟨rfl, _, rfl⟩
end Go.Proofs.Ytfaeiphgenddkaa
/-
  Own slices put together out of rows of another one and of one more row; functions that are handed an own slice of rows and hand one back in its place. No condition.
-/
namespace Go.Proofs.Ytfaeiphgenddkaa
open Go Go.RowKit

/-- A state may be seen as another one. -/
def Turns (env : Env) (os : List AO) (env' : Env) (os' : List AO) : Prop := ∀ base w gs tm, Rel base w gs env os tm → ∃ gs', Rel base w gs' env' os' tm
theorem Turns.refl {env : Env} {os : List AO} : Turns env os env os := fun _ _ gs _ h => ⟨gs, h⟩
theorem Turns.merge {env : Env} {os : List AO} {p k : Nat} {e e2 e3 : TypeId} {xss : List (List Int)} {idx : List Nat} (hs : os[p]? = some (.slr e (idx.map (AV.orow k)))) (hk : os[k]? = some (.sls e3 e2 xss)) (hnd : idx.Nodup) :
    Turns env os (env.mp (AV.noRow p)) (((os.map (AO.via (AV.noRow p) p)).set p (.sls e e2 (idx.map fun i => xss.getD i []))).set k .dead) := fun _ _ _ _ h => h.merge hs hk hnd
end Go.Proofs.Ytfaeiphgenddkaa
/-
  Own slices of rows put together: parts of own slices of rows, appends of them; a cell of a row is written; functions that are handed an own slice of rows and hand one back in its place. No condition.
-/
namespace Go.Proofs.Ytfaeiphgenddkaa
open Go Go.RowKit

section
variable {P : Program} {env : Env} {os : List AO} {d : Option Tmp} {ty : TypeId} {pos : String} {af : Array Edge} {g : Option (Nat × Bool)} {wl : Bool}

/-! ### Sources of appends -/
/-- The slice value v reads as cells of these abstract values. -/
def SrcAt (w : World) (ok : Nat → Prop) (gs : List Gh) (v : Value) (new : List AV) : Prop :=
  ∃ (pa : Option Addr) (cap : Nat) (news : List Value), v = .slice pa new.length cap ∧ news.length = new.length ∧ (0 < new.length → ∃ a, pa = some a ∧ ∀ (j : Nat) u, news[j]? = some u → w.cell? (a.add j) = some u) ∧ (∀ u ∈ news, u.oneCell' = true) ∧
    ∀ i : Nat, RV w ok gs (news.getD i undef) (new.getD i .any)
def Src (env : Env) (os : List AO) (y : Operand) (new : List AV) : Prop := ∀ base w gs tm, Rel base w gs env os tm → SrcAt w (okOf gs os) gs (Act.eval ⟨tm, []⟩ y) new

set_option maxHeartbeats 1000000 in
theorem l_append_src {t e : TypeId} {bytes : Nat} {z0 : Value} [ht : TSlice P t e] [he : TElem P e z0 bytes] {x y : Operand} {h : Nat} {e' : TypeId} {avs new : List AV} (hx : AV.ev env x = .own h) (hs : os[h]? = some (.slr e' avs)) (hee : e' = e)
    (hy : Src env os y new) (hb : (avs.length + new.length) * bytes ≤ 140737488355328) (hk1 : avs.map (AV.kill h) = avs) (hk2 : new.map (AV.kill h) = new) (hzc : z0.cells.size = 1 := by rfl) :
    LOp P ⟨d, .call { callee := .builtin .append, args := #[x, y], argTypes := #[t, t] }, ty, pos, af, g⟩ env os (.own h) (env.mp (AV.kill h)) ((os.map (AO.kill h)).set h (.slr e (avs ++ new))) := by
  subst hee
  intro base w gs tm hr
  have hxv := hr.ev x
  rw [hx] at hxv
  obtain ⟨pa, cap, news, hu, hnl, hcells, hone, hrvn⟩ := hy base w gs tm hr
  generalize hv : Act.eval ⟨tm, []⟩ x = v at hxv
  cases hxv with
  | @own _ gh hg =>
    obtain ⟨vs, a1, a2, a3, a4⟩ := hr.ho _ _ _ hg hs
    obtain ⟨ii, hi, hsz, hz, hby⟩ := he.info
    have hbase : base ≤ w.heap.size := hr.hb
    have key : ∃ v' w', (Builtin.append_ #[t, t] ty #[gh.v, .slice pa new.length cap]).run P w = .ok v' w' ∧ w'.ownsRow base e' 1 v' (vs.length + new.length) (vs ++ news) ∧ w.grownBy w' gh.v.ownBlock ∧
        (v'.ownBlock = gh.v.ownBlock ∨ v'.ownBlock = some w.heap.size) := by
      by_cases h0 : new.length = 0
      · have e0 : news = [] := List.length_eq_zero_iff.1 (by omega)
        rw [h0, e0]
        exact ⟨gh.v, w, run_append_none ht.und hi a1 pa cap, by simpa using a1, ⟨rfl, rfl, rfl, Nat.le_refl _, fun _ _ _ => rfl⟩, .inl rfl⟩
      · obtain ⟨a, rfl, hc⟩ := hcells (by omega)
        have h64 : vs.length + new.length ≤ maxLen := by
          have hb0 := he.pos
          have : avs.length + new.length ≤ (avs.length + new.length) * bytes := Nat.le_mul_of_pos_right _ hb0
          simp only [maxLen]; omega
        obtain ⟨v', w', r1, r2, r3, _, r5⟩ := run_append_own_at (P := P) w base t ty e' ii _ 1 bytes ht.und hi hz hsz hby hzc (by omega) gh.v vs.length vs a1 a new.length cap news (by omega) hc hone h64 (by rw [a2]; exact hb) hbase
        exact ⟨v', w', r1, r2, r3, r5⟩
    obtain ⟨v', w', r1, r2, r3, r5⟩ := key
    have hgb : ∀ b, b ∉ gh.bl → some b ≠ gh.v.ownBlock := fun b hb e => hb (a4.mem e.symm)
    let g' : Gh := ⟨v', v'.ownBlock.getD 0, v'.ownBlock.toList, gh.rows⟩
    have hgb' : GB g' := by
      show (v'.ownBlock = none ∧ v'.ownBlock.toList = []) ∨ (v'.ownBlock = some (v'.ownBlock.getD 0) ∧ v'.ownBlock.toList = [v'.ownBlock.getD 0])
      cases v'.ownBlock with
      | none => exact .inl ⟨rfl, rfl⟩
      | some b => exact .inr ⟨rfl, rfl⟩
    have hlt : ∀ b, v'.ownBlock = some b → b < w'.heap.size := by
      intro b hb
      rcases r2.2 with ⟨e1, _⟩ | ⟨gg, cc, cur, e1, _, hgg, _⟩
      · rw [e1] at hb; cases hb
      · rw [e1] at hb; cases hb; exact (Array.getElem?_eq_some_iff.1 hgg).1
    refine ⟨v', w', gs.set h g', .inl ?_, hr.turn hg hs trivial g' (.slr e' (avs ++ new)) (fun b hb hn => r3.block b hb (hgb b hn)) r3.size ?_ (fun i v hv => hv) ?_, ?_, ?_⟩
    · simp only [execOp, resolve, invoke, builtin, Sem.run_bind, Sem.run_pure, Result.andThen_ok, List.map_toArray, List.map_cons, List.map_nil, hv, hu, r1]
    · intro b hb
      have hb' : v'.ownBlock = some b := by
        have hb2 : b ∈ v'.ownBlock.toList := hb
        cases hvb : v'.ownBlock with
        | none => rw [hvb] at hb2; simp at hb2
        | some c => rw [hvb] at hb2; simp at hb2; rw [hb2]
      refine ⟨?_, hlt b hb'⟩
      rcases r5 with r5 | r5
      · left; rw [hb'] at r5; exact a4.mem r5.symm
      · right; rw [hb'] at r5; cases r5; exact Nat.le_refl _
    · intro kp tn
      refine ⟨vs ++ news, by rw [List.length_append, hnl]; exact r2, by simp [a2, hnl], fun j => ?_, hgb'⟩
      by_cases hj : j < vs.length
      · have e1 : (vs ++ news).getD j undef = vs.getD j undef := by simp only [List.getD_eq_getElem?_getD]; rw [List.getElem?_append_left hj]
        have e2 : (avs ++ new).getD j .any = (avs.getD j .any).kill h := by
          rw [← getD_map_kill, hk1]
          simp only [List.getD_eq_getElem?_getD]; rw [List.getElem?_append_left (by omega)]
        rw [e1, e2]
        exact (a3 j).kill kp tn
      · have e1 : (vs ++ news).getD j undef = news.getD (j - vs.length) undef := by simp only [List.getD_eq_getElem?_getD]; rw [List.getElem?_append_right (by omega)]
        have e2 : (avs ++ new).getD j .any = (new.getD (j - vs.length) .any).kill h := by
          rw [← getD_map_kill, hk2]
          simp only [List.getD_eq_getElem?_getD]; rw [List.getElem?_append_right (by omega), a2]
        rw [e1, e2]
        exact (hrvn _).kill kp tn
    · have hk : h < gs.length := (List.getElem?_eq_some_iff.1 hg).1
      exact RV.own (g := g') (by simp [hk])
    · refine ⟨r3.os, r3.tape, r3.output, r3.size, fun b hb => r3.block b (by have := hr.hb; omega) (hgb b fun hm => ?_)⟩
      have := (hr.hn _ _ _ hg hs (by simp) b hm).1
      omega

/-- A cell of a row is written. -/
theorem l_store_orptr {t : TypeId} [ht : TCell P t] {x y : Operand} {h i j : Nat} {e e2 : TypeId} {xss : List (List Int)} {n : Int} (hx : AV.ev env x = .orptr h i j) (hs : os[h]? = some (.sls e e2 xss)) (hi : i < xss.length) (hj : j < (xss.getD i []).length) (hy : AV.ev env y = .i n) (hn : inI n) :
    LOp P ⟨d, .store t x y, ty, pos, af, g⟩ env os .any env (os.set h (.sls e e2 (xss.set i ((xss.getD i []).set j n)))) := by
  intro base w gs tm hr
  have hh := hr.ev x
  rw [hx] at hh
  generalize hv : Act.eval ⟨tm, []⟩ x = v at hh
  cases hh with
  | @orptr _ _ _ blk m c gh hg hrow =>
    obtain ⟨vs, bs, mb, a1, a2, a3, a4, a5, a6, a7, a8⟩ := hr.ho _ _ _ hg hs
    rw [a4] at hrow
    obtain ⟨r1, r2, r3⟩ := a5 _ _ hrow
    have hib : i < bs.length := by omega
    obtain ⟨b, cap, e1, e2', e3', e4⟩ := own_slice r1 (i := j) (by simpa using hj)
    simp only [Value.slice.injEq, Option.some.injEq, Addr.mk.injEq, and_true] at e1
    obtain ⟨rfl, em, rfl⟩ := e1
    have hst := r1
    rw [em] at hst
    have hst := hst.stored j (.int .i64 n)
    have hbi : blk ∈ bs.getD i [] := by rw [← r3]; simp [Value.ownBlock]
    have hbf : blk ∈ bs.flatten := List.mem_flatten.2 ⟨bs.getD i [], by rw [List.getD_eq_getElem?_getD, List.getElem?_eq_getElem hib]; simp, hbi⟩
    have hbg : blk ∈ gh.bl := by rw [a7]; exact List.mem_append.2 (.inr hbf)
    have hap : ∀ c, c ≠ blk → (w.setCell ⟨blk, j, none⟩ (.int .i64 n)).heap[c]? = w.heap[c]? := fun c hc => heap_setCell_other w ⟨blk, j, none⟩ c _ (fun e' => hc e')
    rw [a7] at a8
    obtain ⟨nm, nf, nd⟩ := List.nodup_append.1 a8
    have hcell : w.cell? ⟨blk, j, none⟩ = some (.int .i64 ((xss.getD i []).getD j 0)) := by rw [e3']; generalize xss.getD i [] = row at hj ⊢; simp [hj]
    refine ⟨undef, w.setCell ⟨blk, j, none⟩ (.int .i64 n), gs, .inr ⟨?_, rfl⟩, hr.upd hg hs trivial _ trivial (fun c hc hcb => hap c (fun e' => hcb (by rw [e']; exact hbg))) hst.2.size fun _ => ?_, .any _, ?_⟩
    · have := run_store_cell (P := P) (t := t) (a := ⟨blk, j, none⟩) hcell e4 (v := .int .i64 n) rfl rfl
      simp only [execOp, hv, hr.evv hy, Sem.run_bind, this, Result.andThen_ok, Sem.run_pure]
    · refine ⟨vs, bs, mb, ownsRow_of_block a1 fun c hc => hap c fun e' => ?_, by simpa using a2, by simpa using a3, a4, fun k u hu => ?_, a6, a7, by rw [a7]; exact a8⟩
      · subst e'
        rcases a6 with ⟨c1, _⟩ | ⟨c1, c2⟩
        · rw [c1] at hc; cases hc
        · rw [c1] at hc; cases hc
          exact nd _ (by rw [c2]; simp) _ hbf rfl
      · obtain ⟨q1, q2, q3⟩ := a5 k u hu
        have hk := (List.getElem?_eq_some_iff.1 hu).1
        by_cases hki : k = i
        · subst hki
          rw [hrow] at hu
          cases hu
          have eg : (xss.set k ((xss.getD k []).set j n)).getD k [] = (xss.getD k []).set j n := by
            rw [List.getD_eq_getElem?_getD, List.getElem?_set_self hi]; rfl
          rw [eg]
          refine ⟨?_, fun z hz => ?_, q3⟩
          · rw [em, List.length_set, List.map_set]
            exact hst.1
          · rcases List.mem_or_eq_of_mem_set hz with h1 | rfl
            · exact q2 z h1
            · exact hn
        · have eg : (xss.set i ((xss.getD i []).set j n)).getD k [] = xss.getD k [] := by
            rw [List.getD_eq_getElem?_getD, List.getElem?_set, if_neg (fun e' => hki e'.symm), List.getD_eq_getElem?_getD]
          rw [eg]
          refine ⟨ownsRow_of_block q1 fun c hc => hap c fun e' => ?_, q2, q3⟩
          subst e'
          have hc2 : c ∈ bs.getD k [] := by rw [← q3, hc]; simp
          have hkb : k < bs.length := by omega
          have hpw := (List.pairwise_flatten.1 nf).2
          rw [List.pairwise_iff_getElem] at hpw
          rw [List.getD_eq_getElem?_getD, List.getElem?_eq_getElem hkb] at hc2
          rw [List.getD_eq_getElem?_getD, List.getElem?_eq_getElem hib] at hbi
          simp only [Option.getD_some] at hc2 hbi
          rcases Nat.lt_or_gt_of_ne hki with hlt | hgt
          · exact hpw k i hkb hib hlt c hc2 c hbi rfl
          · exact hpw i k hib hkb hgt c hbi c hc2 rfl
    · have hbb : base ≤ blk := (hr.hn _ _ _ hg hs (by simp) blk hbg).1
      exact (Below.refl _ _).setCell (p := ⟨blk, j, none⟩) hbb _
end

/-! ### Functions that hand back an own slice of rows in the place of the one that they were handed -/
/-- The function is handed the own slice of rows 'xss' (handle 0) and hands back one made of its memory and new memory. All else is as it was. -/
def AFnT (P : Program) (f : FuncId) (args : List AV) (T T2 : TypeId) (xss : List (List Int)) (Q : List (List Int) → Prop) : Prop :=
  HasBody P f ∧ ∀ base w g vs, base ≤ w.heap.size → Objs base w [g] [.sls T T2 xss] → vs.size = args.length → (∀ i : Nat, RV w (okOf [g] [.sls T T2 xss]) [g] (vs.getD i undef) (args.getD i .any)) →
    Calls P f vs w fun e w' => ∃ g' xss', e = .returned g'.v ∧ Q xss' ∧ RO base w' (fun _ => True) [g'] g' (.sls T T2 xss') ∧ (∀ b, b ∈ g'.bl → (b ∈ g.bl ∨ w.heap.size ≤ b) ∧ b < w'.heap.size) ∧ Below base w w' ∧ ∀ b, b < w.heap.size → b ∉ g.bl → w'.heap[b]? = w.heap[b]?

theorem AFnT.of {P : Program} {f : FuncId} {fn : Func} {c : Code} {args args' : List AV} {T T2 : TypeId} {xss : List (List Int)} {Q : List (List Int) → Prop} {n : Nat} (hf : P.funcs[f]? = some fn) (hb : fn.body = some c) (hnm : (fn.name == "runtime.NumGoroutine") = false) (hn : fn.ntmps - args.length = n) (ha : args' = args.map (AV.sh 1))
    (h : ∀ K, AWp P c (fun _ _ => False) (fun _ _ _ => False) (fun env os => ∃ env2 os2 k xss', Turns env os env2 os2 ∧ ResIs P fn env2 os2 (.own k) ∧ os2[k]? = some (.sls T T2 xss') ∧ Q xss' ∧ os2[0]? = some (.keep 1 K)) (Env.start args' n) [.keep 1 K, .sls T T2 xss]) :
    AFnT P f args T T2 xss Q := by
  refine ⟨⟨fn, c, hf, hnm, hb⟩, fun base w g vs hbase hO hsz hvs => calls_of_wp hf hb ?_⟩
  rw [show fn.ntmps - vs.size = n by rw [hsz]; exact hn]
  let bl : List Nat := (List.range w.heap.size).filter fun b => decide (base ≤ b) && !g.bl.contains b
  let gk : Gh := ⟨undef, 0, bl, []⟩
  let K : Kp := ⟨fun b => w.heap[b]?, [gk]⟩
  have hbl : ∀ b, b ∈ bl ↔ b < w.heap.size ∧ base ≤ b ∧ b ∉ g.bl := by
    intro b
    simp only [bl, List.mem_filter, List.mem_range, Bool.and_eq_true, decide_eq_true_eq, Bool.not_eq_true', List.contains_eq_mem, decide_eq_false_iff_not]
  have gg : ∀ {i : Nat} {x : Gh}, [gk, g][i]? = some x → (i = 0 ∧ x = gk) ∨ (i = 1 ∧ x = g) := by
    intro i x hx
    match i with
    | 0 => simp at hx; exact .inl ⟨rfl, hx.symm⟩
    | 1 => simp at hx; exact .inr ⟨rfl, hx.symm⟩
    | i + 2 => simp at hx
  have go : ∀ {i : Nat} {x : AO}, [AO.keep 1 K, AO.sls T T2 xss][i]? = some x → (i = 0 ∧ x = .keep 1 K) ∨ (i = 1 ∧ x = .sls T T2 xss) := by
    intro i x hx
    match i with
    | 0 => simp at hx; exact .inl ⟨rfl, hx.symm⟩
    | 1 => simp at hx; exact .inr ⟨rfl, hx.symm⟩
    | i + 2 => simp at hx
  have hkeep : Keeps (okOf [g] [.sls T T2 xss]) (okOf [gk, g] [.keep 1 K, .sls T T2 xss]) w w := by
    intro b hbk _
    refine ⟨fun i x y hx hy hny hm => ?_, rfl⟩
    rcases gg hx with ⟨rfl, rfl⟩ | ⟨rfl, rfl⟩
    · rcases go hy with ⟨_, rfl⟩ | ⟨h0, _⟩
      · exact hny.elim
      · omega
    · rcases go hy with ⟨h0, _⟩ | ⟨_, rfl⟩
      · omega
      · exact hbk 0 _ _ rfl rfl hny hm
  have hro0 := hO.ho 0 g _ rfl rfl
  have hn0 := hO.hn 0 g rfl
  have hrel : Rel base w [gk, g] (Env.start args' n) [.keep 1 K, .sls T T2 xss] (vs ++ Array.replicate n undef) := by
    refine ⟨hbase, rfl, by simp [Env.start, hsz, ha], fun i => start_rv args' n vs (fun i => ?_) i, ?_, ?_, ?_⟩
    · rw [ha, getD_map_any _ rfl]
      have := (hvs i).sh (gs0 := [gk]) hkeep
      exact this
    · intro i x y hx hy
      rcases gg hx with ⟨rfl, rfl⟩ | ⟨rfl, rfl⟩
      · rcases go hy with ⟨_, rfl⟩ | ⟨h0, _⟩
        · exact ⟨fun b _ => rfl, rfl, fun i x h => by
            match i with
            | 0 => exact h
            | i + 1 => simp [K] at h⟩
        · omega
      · rcases go hy with ⟨h0, _⟩ | ⟨_, rfl⟩
        · omega
        · exact AO.plain.ro trivial hro0
    · intro i j g1 g2 o1 o2 hij hg1 hg2 ho1 ho2 _ _ b hb1 hb2
      rcases gg hg1 with ⟨rfl, rfl⟩ | ⟨rfl, rfl⟩
      · rcases gg hg2 with ⟨rfl, rfl⟩ | ⟨rfl, rfl⟩
        · exact hij rfl
        · exact ((hbl b).1 hb1).2.2 hb2
      · rcases gg hg2 with ⟨rfl, rfl⟩ | ⟨rfl, rfl⟩
        · exact ((hbl b).1 hb2).2.2 hb1
        · exact hij rfl
    · intro i x y hx hy _ b hb
      rcases gg hx with ⟨rfl, rfl⟩ | ⟨rfl, rfl⟩
      · exact ⟨((hbl b).1 hb).2.1, ((hbl b).1 hb).1⟩
      · exact hn0 b hb
  refine wp_mono (h K base w w _ _ hrel (Below.refl _ _)) ?_
  intro e a w' hq
  cases e with
  | normal => obtain ⟨_, _, _, _, _, _, hx⟩ := hq; exact hx.elim
  | exit j => obtain ⟨_, _, _, _, _, _, hx⟩ := hq; exact hx.elim
  | ret =>
    obtain ⟨env, os1, gs1, hr1, hd, hbel, env2, os2, k, xss', ht, hres, hok, hQ, hkp⟩ := hq
    obtain ⟨gs2, hr⟩ := ht base w' gs1 _ hr1
    obtain ⟨v, hu, hv⟩ := hres _ _ _ _ hr
    cases hv with
    | @own _ g' hg' =>
      have hlt0 : 0 < gs2.length := by rw [hr.hl]; exact (List.getElem?_eq_some_iff.1 hkp).1
      obtain ⟨g0, hg0⟩ : ∃ g0, gs2[0]? = some g0 := ⟨_, List.getElem?_eq_getElem hlt0⟩
      obtain ⟨r1, r2, r3⟩ := hr.ho _ _ _ hg0 hkp
      have egk : g0 = gk := by
        have := r3 0 gk rfl
        rw [hg0] at this
        exact Option.some.inj this
      subst egk
      have hk0 : k ≠ 0 := fun e => by subst e; rw [hkp] at hok; cases hok
      refine ⟨hd, g'.v, hu, g', xss', rfl, hQ, AO.plain.ro trivial (hr.ho _ _ _ hg' hok), fun b hb => ?_, hbel, fun b hb hnot => ?_⟩
      · have hbn := hr.hn _ _ _ hg' hok (by simp) b hb
        refine ⟨?_, hbn.2⟩
        by_cases hbw : b < w.heap.size
        · left
          apply Classical.byContradiction
          intro hnb
          exact hr.hd k 0 g' _ _ _ hk0 hg' hg0 hok hkp (by simp) (by simp) b hb ((hbl b).2 ⟨hbw, hbn.1, hnb⟩)
        · right; omega
      · rcases Nat.lt_or_ge b base with h6 | h6
        · exact hbel.block b h6
        · exact r1 b ((hbl b).2 ⟨hb, h6, hnot⟩)
  | goto l => exact (hq : False).elim
  | panic ch => exact (hq : False).elim
  | outgrown => exact (hq : False).elim
theorem AFnT.start {P : Program} {f : FuncId} {fn : Func} {nt : Nat} {args : List AV} {T T2 : TypeId} {xss : List (List Int)} {Q : List (List Int) → Prop} (hf : P.funcs[f]? = some fn) (hnt : fn.ntmps = nt) {c : Code} (hb : fn.body = some c) (hnm : (fn.name == "runtime.NumGoroutine") = false)
    (h : ∀ K, AWp P c (fun _ _ => False) (fun _ _ _ => False) (fun env os => ∃ env2 os2 k xss', Turns env os env2 os2 ∧ ResIs P fn env2 os2 (.own k) ∧ os2[k]? = some (.sls T T2 xss') ∧ Q xss' ∧ os2[0]? = some (.keep 1 K)) (Env.start (args.map (AV.sh 1)) (nt - args.length)) [.keep 1 K, .sls T T2 xss]) :
    AFnT P f args T T2 xss Q := AFnT.of hf hb hnm (by rw [hnt]) rfl h

/-- All that hangs on handle 'h' is forgotten. -/
def AV.lose1 (h : Nat) : AV → AV
  | .own k => if k = h then .any else .own k
  | .optr k i => if k = h then .any else .optr k i
  | .osub k a b => if k = h then .any else .osub k a b
  | .orow k i => if k = h then .any else .orow k i
  | .orptr k i j => if k = h then .any else .orptr k i j
  | .agg _ => .any
  | .tup _ => .any
  | a => a
def AV.lose (h : Nat) : AV → AV
  | .own k => if k = h then .any else .own k
  | .optr k i => if k = h then .any else .optr k i
  | .osub k a b => if k = h then .any else .osub k a b
  | .orow k i => if k = h then .any else .orow k i
  | .orptr k i j => if k = h then .any else .orptr k i j
  | .agg l => .agg (l.map (AV.lose1 h))
  | .tup l => .tup (l.map (AV.lose1 h))
  | a => a
section
variable {w w' : World} {ok ok' : Nat → Prop} {gs : List Gh} {h : Nat} {g' : Gh}
theorem getD_map_lose1 (l : List AV) (i : Nat) : (l.map (AV.lose1 h)).getD i .any = (l.getD i .any).lose1 h := by
  simp only [List.getD_eq_getElem?_getD, List.getElem?_map]
  cases l[i]? <;> rfl
theorem RV.lose1 (k : Keeps ok ok' w w') {v : Value} {a : AV} (hv : RV w ok gs v a) : RV w' ok' (gs.set h g') v (a.lose1 h) := by
  have hg : ∀ {j : Nat} {x : Gh}, j ≠ h → gs[j]? = some x → (gs.set h g')[j]? = some x := fun hj hx => by
    rw [List.getElem?_set, if_neg (fun e => hj e.symm)]; exact hx
  cases hv with
  | any v => exact .any v
  | val v => exact .val v
  | ints h => exact .ints (h.mono k)
  | intss h => exact .intss (h.mono k)
  | @ro v r h => exact .ro (r.up k h)
  | iptr h h1 h2 => exact .iptr (h.mono k) h1 h2
  | iiptr h h1 h2 => exact .iiptr (h.mono k) h1 h2
  | own h1 =>
    simp only [AV.lose1]; split
    · exact .any _
    · exact .own (hg ‹_› h1)
  | optr h1 =>
    simp only [AV.lose1]; split
    · exact .any _
    · exact .optr (hg ‹_› h1)
  | osub h1 h2 h3 h4 =>
    simp only [AV.lose1]; split
    · exact .any _
    · exact .osub (hg ‹_› h1) h2 h3 h4
  | orow h1 h2 =>
    simp only [AV.lose1]; split
    · exact .any _
    · exact .orow (hg ‹_› h1) h2
  | orptr h1 h2 =>
    simp only [AV.lose1]; split
    · exact .any _
    · exact .orptr (hg ‹_› h1) h2
  | agg _ _ _ => exact .any _
  | tup _ _ => exact .any _
theorem RV.lose (k : Keeps ok ok' w w') {v : Value} {a : AV} (hv : RV w ok gs v a) : RV w' ok' (gs.set h g') v (a.lose h) := by
  have hg : ∀ {j : Nat} {x : Gh}, j ≠ h → gs[j]? = some x → (gs.set h g')[j]? = some x := fun hj hx => by
    rw [List.getElem?_set, if_neg (fun e => hj e.symm)]; exact hx
  cases hv with
  | any v => exact .any v
  | val v => exact .val v
  | ints h => exact .ints (h.mono k)
  | intss h => exact .intss (h.mono k)
  | @ro v r h => exact .ro (r.up k h)
  | iptr h h1 h2 => exact .iptr (h.mono k) h1 h2
  | iiptr h h1 h2 => exact .iiptr (h.mono k) h1 h2
  | own h1 =>
    simp only [AV.lose]; split
    · exact .any _
    · exact .own (hg ‹_› h1)
  | optr h1 =>
    simp only [AV.lose]; split
    · exact .any _
    · exact .optr (hg ‹_› h1)
  | osub h1 h2 h3 h4 =>
    simp only [AV.lose]; split
    · exact .any _
    · exact .osub (hg ‹_› h1) h2 h3 h4
  | orow h1 h2 =>
    simp only [AV.lose]; split
    · exact .any _
    · exact .orow (hg ‹_› h1) h2
  | orptr h1 h2 =>
    simp only [AV.lose]; split
    · exact .any _
    · exact .orptr (hg ‹_› h1) h2
  | agg h1 h3 h2 => exact .agg (by simpa using h1) h3 fun i => by rw [getD_map_lose1]; exact (h2 i).lose1 k
  | tup h1 h2 => exact .tup (by simpa using h1) fun i => by rw [getD_map_lose1]; exact (h2 i).lose1 k
end

section
variable {P : Program} {env : Env} {os : List AO} {d : Option Tmp} {ty : TypeId} {pos : String} {af : Array Edge} {g : Option (Nat × Bool)}
end

section
variable {P : Program} {env : Env} {os : List AO} {d : Tmp} {ty : TypeId} {pos : String} {af : Array Edge} {g : Option (Nat × Bool)} {l rest : List Oper} {K : APost} {q : Md}
theorem w_storp {t : TypeId} [TCell P t] {x y : Operand} {h i j : Nat} {e e2 : TypeId} {xss : List (List Int)} {n : Int} (hx : evo env x = some (.orptr h i j)) (hs : os[h]? = some (.sls e e2 xss)) (hi : i < xss.length) (hj : j < (xss.getD i []).length) (hy : evo env y = some (.i n)) (hn : inI n)
    (h' : AOps P .seq l rest K env (os.set h (.sls e e2 (xss.set i ((xss.getD i []).set j n))))) : AOps P .seq l (⟨none, .store t x y, ty, pos, af, none⟩ :: rest) K env os := AOps.so (l_store_orptr (ev_of hx) hs hi hj (ev_of hy) hn) h'
end
end Go.Proofs.Ytfaeiphgenddkaa
/-
  The comparison of pairs that the sort is handed, walked by the kit's own steps. No condition.
-/
namespace Go.Proofs.Ytfaeiphgenddkaa
open Go Go.RowKit

end Go.Proofs.Ytfaeiphgenddkaa
/-
  slices.SortFunc at own slices of pairs: the rows in lexicographic order. No condition.
-/
namespace Go.Proofs.Ytfaeiphgenddkaa
open Go Go.RowKit Go.Sort

theorem pair_cells {w : World} {v : Value} {xs : List Int} (h : IntsAt w (fun _ => True) v xs) (h2 : xs.length = 2) : ∃ b o c, v = .slice (some ⟨b, o, none⟩) 2 c ∧ w.cell? ⟨b, o, none⟩ = some (.int .i64 (geti xs 0)) ∧ w.cell? ⟨b, o + 1, none⟩ = some (.int .i64 (geti xs 1)) := by
  obtain ⟨⟨a, cap, rfl, e1, e2, e3⟩, _⟩ := h
  obtain ⟨b, o, rfl, _, hc⟩ := e3 (by simp; omega)
  match xs, h2 with
  | [p, q], _ =>
    refine ⟨b, o, cap, rfl, ?_, ?_⟩
    · have := hc 0 (.int .i64 p) rfl; simpa [geti] using this
    · have := hc 1 (.int .i64 q) rfl; simpa [geti] using this
section
variable {env : Env} {os : List AO} {d : Tmp} {ty : TypeId} {pos : String} {af : Array Edge} {l rest : List Oper} {K : APost}
end
end Go.Proofs.Ytfaeiphgenddkaa
/-
  The vertices of a support: the program's, out of the sorted pairs. No condition but a bound on the sizes.
-/
namespace Go.Proofs.Ytfaeiphgenddkaa
open Go Go.RowKit
attribute [local irreducible] AWp AOps ResIs Ret1 QOp LOp COp AFnV AFn Imms LeE LeO
set_option maxHeartbeats 1000000
set_option linter.unusedSimpArgs false
set_option linter.unusedVariables false

theorem rev_len {R : List Nat} : (R.reverse.map (AV.orow 0)).length = R.length := by simp
theorem rev_top {t : Nat} {r : List Nat} {n : Nat} (h : n = r.length) : (t :: r).reverse.getD n 0 = t := by
  subst h; simp [List.getD_eq_getElem?_getD]
theorem lim3 {e e2 e3 : TypeId} {ys : List (List Int)} (st : List Nat) : [AO.sls e e2 ys, .dead, .slr e3 (st.map (AV.orow 0))].map (AO.lim 3) = [AO.sls e e2 ys, .dead, .slr e3 (st.map (AV.orow 0))] := by
  have : (st.map (AV.orow 0)).map (AV.lim 3) = st.map (AV.orow 0) := by rw [List.map_map]; rfl
  simp only [List.map_cons, List.map_nil, AO.lim, this]

/-- The stack, its top first, over the first k rows. -/
def StkOk (ys : List (List Int)) (k : Nat) (R : List Nat) : Prop := R.Pairwise (· > ·) ∧ (∀ i ∈ R, i < k) ∧ R.length ≤ k
theorem StkOk.up {ys : List (List Int)} {k : Nat} {R : List Nat} (h : StkOk ys k R) : StkOk ys (k + 1) R := ⟨h.1, fun i hi => by have := h.2.1 i hi; omega, by have := h.2.2; omega⟩
theorem StkOk.push {ys : List (List Int)} {k : Nat} {R : List Nat} (h : StkOk ys k R) : StkOk ys (k + 1) (k :: R) :=
  ⟨List.pairwise_cons.2 ⟨fun i hi => h.2.1 i hi, h.1⟩, fun i hi => by
    rcases List.mem_cons.1 hi with rfl | hi
    · omega
    · have := h.2.1 i hi; omega, by have := h.2.2; rw [List.length_cons]; omega⟩
theorem StkOk.nodup {ys : List (List Int)} {k : Nat} {R : List Nat} (h : StkOk ys k R) : R.reverse.Nodup := by
  have : R.Nodup := h.1.imp (fun h => Nat.ne_of_gt h)
  exact (List.reverse_perm R).nodup_iff.2 this
end Go.Proofs.Ytfaeiphgenddkaa
/-
  The program puts edges together. Condition: few edges with small numbers.
-/
namespace Go.Proofs.Ytfaeiphgenddkaa
open Go Go.RowKit
attribute [local irreducible] AWp AOps ResIs Ret1 QOp LOp COp AFnV AFn Imms LeE LeO
set_option maxHeartbeats 1000000
set_option linter.unusedSimpArgs false
set_option linter.unusedVariables false

def cmpJ (x y : List Int) : Int := cmp3 (geti y 1 * geti x 0) (geti x 1 * geti y 0)
theorem cmpJ_lt {x y : List Int} : cmpJ x y < 0 ↔ wS x y > 0 := by
  unfold cmpJ
  rw [cmp3_lt]
  unfold wS
  rw [Int.mul_comm (geti y 1)]
  omega
theorem mul60 {a b : Int} (ha : 1 ≤ a ∧ a ≤ 60) (hb : 1 ≤ b ∧ b ≤ 60) : 0 ≤ a * b ∧ a * b ≤ 3600 :=
  ⟨Int.mul_nonneg (by omega) (by omega), by have := Int.mul_le_mul ha.2 hb.2 (by omega) (by omega); omega⟩
theorem cmpJ_ok : CmpOk 43 cmpJ E60 := by
  refine ⟨⟨_, _, Try.func43, by kernel_rfl, rfl⟩, ?_, ?_, ?_, ?_⟩
  · intro w v1 v2 xs ys h1 h2 t1 t2
    obtain ⟨b1, o1, c1, rfl, p0, p1⟩ := pair_cells h1 t1.1
    obtain ⟨b2, o2, c2, rfl, q0, q1⟩ := pair_cells h2 t2.1
    have m1 := mul60 t2.2.2 t1.2.1
    have m2 := mul60 t1.2.2 t2.2.1
    refine (joined_k b1 o1 c1 b2 o2 c2 _ _ _ _ w p0 p1 q0 q1 (by rw [IntKind.wrap_i64]; omega) (by rw [IntKind.wrap_i64]; omega)).mono ?_
    rintro e w' ⟨rfl, q, rfl⟩
    exact ⟨rfl, q, #[], by rw [Go.Sort.grow_empty]⟩
  · intro x _; rw [cmpJ_lt, wS_self]; omega
  · intro x y z hx hy hz h1 h2; rw [cmpJ_lt] at *; exact wS_lt1 hx.2.2.1 hy.2.2.1 hz.2.2.1 h1 (by omega)
  · intro x y z hx hy hz h1 h2
    rw [cmpJ_lt] at *
    have a1 := wS_neg x y
    have a2 := wS_neg y z
    have a3 := wS_neg x z
    have := wS_le hz.2.2.1 hy.2.2.1 hx.2.2.1 (by omega : 0 ≤ wS z y) (by omega : 0 ≤ wS y x)
    omega
theorem sS_mem {F : List Int → Int} {A : List (List Int)} (h : ∀ e ∈ A, 0 ≤ F e) {l : List Int} (hl : l ∈ A) : F l ≤ sS F A := by
  obtain ⟨B, C, rfl⟩ := List.append_of_mem hl
  rw [sS_append, sS]
  have h1 := sS_nonneg (F := F) (A := B) fun e he => h e (by simp [he])
  have h2 := sS_nonneg (F := F) (A := C) fun e he => h e (by simp [he])
  omega
theorem sS_bd {F : List Int → Int} {B : Int} : ∀ {A : List (List Int)}, (∀ e ∈ A, F e ≤ B) → sS F A ≤ B * A.length
  | [], _ => by simp [sS]
  | a :: A, h => by
    have h1 := h a (by simp)
    have h2 := sS_bd (A := A) fun e he => h e (by simp [he])
    rw [sS, List.length_cons, Int.natCast_add, Int.mul_add]
    simp only [Int.natCast_one, Int.mul_one]
    omega
theorem JoinOf.bd {Y L : List (List Int)} (h : JoinOf Y L) (hY : ∀ y ∈ Y, E60 y) {n : Nat} (hn : Y.length ≤ n) {l : List Int} (hl : l ∈ L) : l.length = 2 ∧ (1 ≤ geti l 0 ∧ geti l 0 ≤ 60 * n) ∧ (1 ≤ geti l 1 ∧ geti l 1 ≤ 60 * n) := by
  have hp := h.pos l hl
  have a0 := sS_mem (F := E0) (A := L) (fun e he => by have := (h.pos e he).2.1; simp only [E0]; omega) hl
  have a1 := sS_mem (F := E1) (A := L) (fun e he => by have := (h.pos e he).2.2; simp only [E1]; omega) hl
  have b0 := sS_bd (F := E0) (B := 60) (A := Y) (fun e he => (hY e he).2.1.2)
  have b1 := sS_bd (F := E1) (B := 60) (A := Y) (fun e he => (hY e he).2.2.2)
  have ht := h.tot
  have : (Y.length : Int) ≤ n := by omega
  simp only [E0, E1] at a0 a1
  exact ⟨hp.1, ⟨hp.2.1, by omega⟩, ⟨hp.2.2, by omega⟩⟩
def rowsOf (R : List Nat) (zs : List (List Int)) : List (List Int) := R.map fun i => zs.getD i []
theorem take_getD (ys : List (List Int)) {k : Nat} (hk : k < ys.length) : ys.take (k + 1) = ys.take k ++ [ys.getD k []] := by
  rw [List.take_add_one, List.getElem?_eq_getElem hk, List.getD_eq_getElem?_getD, List.getElem?_eq_getElem hk]; rfl
theorem rowsOf_set {R : List Nat} {zs : List (List Int)} {t : Nat} {v : List Int} (h : t ∉ R) : rowsOf R (zs.set t v) = rowsOf R zs := by
  unfold rowsOf
  refine List.map_congr_left fun i hi => ?_
  have hne : t ≠ i := fun e => h (e ▸ hi)
  rw [List.getD_eq_getElem?_getD, List.getD_eq_getElem?_getD, List.getElem?_set, if_neg hne]
theorem gset_self {zs : List (List Int)} {t : Nat} {v : List Int} (h : t < zs.length) : (zs.set t v).getD t [] = v := by
  rw [List.getD_eq_getElem?_getD, List.getElem?_set, if_pos rfl, if_pos h]; rfl
theorem gset_ne {zs : List (List Int)} {t i : Nat} {v : List Int} (h : t ≠ i) : (zs.set t v).getD i [] = zs.getD i [] := by
  rw [List.getD_eq_getElem?_getD, List.getD_eq_getElem?_getD, List.getElem?_set, if_neg h]
theorem set_two {l : List Int} (h : l.length = 2) (a b : Int) : (l.set 0 a).set 1 b = [a, b] := by
  match l, h with
  | [x, y], _ => rfl

set_option maxHeartbeats 16000000 in
theorem joinedEdges_c (xss : List (List Int)) (h0 : 0 < xss.length) (h1 : xss.length ≤ 200) (hp : ∀ r ∈ xss, E60 r) : AFn Try.prog 24 [.intss xss] (fun r os => ∃ L, JoinOf xss L ∧ r = .own 0 ∧ os = [.sls 33 2 L]) := by
  have hcl := copyLists_c xss (by omega) (fun r hr => by have := (hp r hr).1; omega)
  (refine AFn.start Try.func24 Try.ntmps24 rfl (by kernel_rfl) fun hk => ?_; simp only [Env.start, enumF, List.length_cons, List.length_nil, Nat.reduceAdd, Nat.reduceSub, List.cons_append, List.nil_append])
  repeat' (first | (apply AOps.nil; try simp only [List.nil_append, List.cons_append, List.set_cons_zero, List.set_cons_succ, List.length_cons, List.length_nil, Nat.reduceAdd, AV.sh, AV.sh1, AV.sh0, AO.sh, List.map_cons, List.map_nil, Nat.zero_add, Nat.add_zero, setAll]) | (apply w_move; exact rfl; exact rfl) | (apply w_assign; exact rfl; exact rfl) | apply AWp.seq | apply AWp.region | (apply w_callm (hcl); (focus ((repeat (first | exact im_nil | refine im_cons rfl (.intss _) ?_)); done)); rintro r os0 ⟨rfl, rfl⟩; try simp only [List.nil_append, List.cons_append, List.set_cons_zero, List.set_cons_succ, List.length_cons, List.length_nil, Nat.reduceAdd, AV.sh, AV.sh1, AV.sh0, AO.sh, List.map_cons, List.map_nil, Nat.zero_add, Nat.add_zero, setAll]))
  refine w_sortst cmpJ_ok hp ⟨h0, by omega⟩ rfl rfl rfl fun idx hperm hsort => ?_
  simp only [Env.mp, List.map_cons, List.map_nil, List.set_cons_zero, List.set_cons_succ, AV.kill, AV.kill1, AO.kill, AV.noRow, AV.noRow1, AO.via, reduceIte, Nat.reduceEqDiff, Nat.reduceLT, Env.up, Nat.zero_ne_one, Nat.one_ne_zero, Nat.reduceAdd, List.cons_append, List.nil_append]
  have hil : idx.length = xss.length := by have := hperm.length_eq; simpa using this
  obtain ⟨ys, eys⟩ : ∃ ys, ys = idx.map fun i => xss.getD i [] := ⟨_, rfl⟩
  have hyl : ys.length = xss.length := by rw [eys]; simpa using hil
  have hpm : ys.Perm xss := by
    rw [eys]
    have := hperm.map fun i => xss.getD i []
    refine this.trans (List.Perm.of_eq ?_)
    apply List.ext_getElem?
    intro i
    rw [List.getElem?_map]
    by_cases hi : i < xss.length
    · rw [List.getElem?_range hi, List.getElem?_eq_getElem hi, Option.map_some, List.getD_eq_getElem?_getD, List.getElem?_eq_getElem hi]; rfl
    · rw [List.getElem?_eq_none (by simp; omega), List.getElem?_eq_none (by omega)]; rfl
  have hrow : ∀ i : Nat, i < ys.length → ys.getD i [] = xss.getD (idx.getD i 0) [] := by
    intro i hi
    rw [eys, List.getD_eq_getElem?_getD, List.getElem?_map, List.getD_eq_getElem?_getD (l := idx), List.getElem?_eq_getElem (by omega)]
    rfl
  have hs : ∀ j k : Nat, j < k → k < ys.length → 0 ≤ wS (ys.getD j []) (ys.getD k []) := by
    intro j k hj hk
    have := hsort j k hj (by omega)
    rw [cmpJ_lt] at this
    rw [hrow j (by omega), hrow k hk, wS_neg]
    omega
  have hY : ∀ y ∈ ys, E60 y := fun y hy => hp y (hpm.mem_iff.1 hy)
  rw [← eys]
  clear hrow hsort hperm hcl hil eys idx
  repeat' (first | (apply AOps.nil; try simp only [List.nil_append, List.cons_append, List.set_cons_zero, List.set_cons_succ, List.length_cons, List.length_nil, Nat.reduceAdd, AV.sh, AV.sh1, AV.sh0, AO.sh, List.map_cons, List.map_nil, Nat.zero_add, Nat.add_zero, setAll]) | apply AWp.seq | apply AWp.region)
  refine w_bsx0 0 rfl ?_
  try simp only [List.nil_append, List.cons_append, List.set_cons_zero, List.set_cons_succ, List.length_cons, List.length_nil, Nat.reduceAdd, AV.sh, AV.sh1, AV.sh0, AO.sh, List.map_cons, List.map_nil, Nat.zero_add, Nat.add_zero, setAll]
  repeat' (first | (apply AOps.nil; try simp only [List.nil_append, List.cons_append, List.set_cons_zero, List.set_cons_succ, List.length_cons, List.length_nil, Nat.reduceAdd, AV.sh, AV.sh1, AV.sh0, AO.sh, List.map_cons, List.map_nil, Nat.zero_add, Nat.add_zero, setAll]) | (apply w_move; exact rfl; exact rfl) | (apply w_assign; exact rfl; exact rfl) | apply AWp.seq | apply AWp.region | apply AWp.block | (apply w_len; exact rfl; exact rfl; first | exact .ints _ | exact .intss _ | exact .sli rfl | exact .sls rfl | exact .slr rfl | exact .orow rfl | exact .nil))
  refine AWp.loop (ι := Nat × List Nat × List (List Int)) (fun x => ⟨65, [(4, .own 2), (13, .own 0), (14, .i ys.length), (15, .i x.1)]⟩) (fun x => [.sls 33 2 x.2.2, .dead, .slr 33 (x.2.1.reverse.map (AV.orow 0))])
    (fun x => x.1 ≤ ys.length ∧ x.2.2.length = ys.length ∧ (∀ i, x.1 ≤ i → x.2.2.getD i [] = ys.getD i []) ∧ StkOk ys x.1 x.2.1 ∧ JI (ys.take x.1) (rowsOf x.2.1.reverse x.2.2)) (fun x => ys.length - x.1) (0, [], ys) ⟨Nat.zero_le _, rfl, fun _ _ => rfl, ⟨by simp, by simp, by simp⟩, by simpa [rowsOf] using JI.nil⟩ ⟨lee rfl (by (repeat (first | exact le_nil | refine le_eq rfl rfl ?_))), by (repeat (first | exact lo_nil | refine lo_dead ?_ | refine lo_eq rfl ?_)), rfl, (by first | exact rfl | exact lim3 _)⟩ ?_
  rintro ⟨k, R, zs⟩ ⟨k0, k1, k2, k3, k4⟩
  simp only at k0 k1 k2 k3 k4
  have rl := rev_len (R := R)
  have hn := hyl
  by_cases hk : k < ys.length
  · have hE : E60 (ys.getD k []) := hY _ (by rw [List.getD_eq_getElem?_getD, List.getElem?_eq_getElem hk]; exact List.getElem_mem hk)
    have hzk : zs.getD k [] = ys.getD k [] := k2 k (Nat.le_refl _)
    have hk3 : (zs.getD (k : Int).toNat []).length = 2 := by rw [Int.toNat_natCast, hzk]; exact hE.1
    have hpre : ∀ y ∈ ys.take k, 0 ≤ wS y (ys.getD k []) := fun y hy => by
      obtain ⟨j, hj⟩ := List.getElem?_of_mem hy
      rw [List.getElem?_take] at hj
      split at hj
      · rename_i hjk
        have := hs j k hjk hk
        rw [List.getD_eq_getElem?_getD (i := j), hj] at this
        exact this
      · cases hj
    have hYk : ∀ y ∈ ys.take k, E60 y := fun y hy => hY y (List.mem_of_mem_take hy)
    have etk := take_getD ys hk
    have k30 := k3.2.2
    have push : (∀ A l, rowsOf R.reverse zs = A ++ [l] → wS l (ys.getD k []) ≠ 0) → JI (ys.take (k + 1)) (rowsOf (k :: R).reverse zs) := fun hz => by
      rw [etk, List.reverse_cons]
      have : rowsOf (R.reverse ++ [k]) zs = rowsOf R.reverse zs ++ [ys.getD k []] := by
        unfold rowsOf
        rw [List.map_append, List.map_cons, List.map_nil, hzk]
      rw [this]
      exact k4.push (fun y hy => (hYk y hy).ep) hE.ep hpre hz
    cases R with
    | nil =>
      have rl0 : ((([] : List Nat).reverse).map (AV.orow 0)).length = 0 := rfl
      have rl1 : (([] : List Nat).reverse).length = 0 := rfl
      have rl2 : ([] : List Nat).reverse ++ [k] = [k].reverse := rfl
      have pk := push (fun A l h => by simp [rowsOf] at h)
      generalize est : ([] : List Nat).reverse = st at *
      repeat' (first | (apply AOps.nil; try simp only [List.nil_append, List.cons_append, List.set_cons_zero, List.set_cons_succ, List.length_cons, List.length_nil, Nat.reduceAdd, AV.sh, AV.sh1, AV.sh0, AO.sh, List.map_cons, List.map_nil, Nat.zero_add, Nat.add_zero, setAll]) | (apply w_move; exact rfl; exact rfl) | (apply w_assign; exact rfl; exact rfl) | apply AWp.seq | apply AWp.region | ((apply AWp.condP; exact rfl) <;> intro h) | apply AWp.block | apply AWp.ret | apply AWp.exit | apply AWp.skip | (apply w_len; exact rfl; exact rfl; first | exact .ints _ | exact .intss _ | exact .sli rfl | exact .sls rfl | exact .slr rfl | exact .orow rfl | exact .nil) | ((first | apply w_bsx1 | apply w_lss | apply w_gtr | apply w_add | apply w_sub | apply w_idx | apply w_ld); iterate 3 exact rfl) | (apply w_appx; exact rfl; exact rfl; exact rfl; exact rfl; exact rfl; rotate_left 1; simp only [Env.mp, List.map_cons, List.map_nil, List.set_cons_zero, List.set_cons_succ, AV.kill, AV.kill1, AO.kill, AV.rin, AV.rin1, AV.noRow, AV.noRow1, AO.via, reduceIte, Nat.reduceEqDiff, Nat.reduceLT, Env.up, Nat.zero_ne_one, Nat.one_ne_zero, Nat.reduceAdd, List.cons_append, List.nil_append]; rotate_left 1) | omega | (apply w_idxo; exact rfl; exact rfl; (exact .sls rfl); exact rfl) | (apply w_ldls; iterate 4 exact rfl) | (apply inI_of <;> omega))
      refine ⟨(k + 1, [k], zs), ⟨by simp only; omega, k1, fun i hi => k2 i (by simp only at hi; omega), k3.push, pk⟩, by simp only; omega, by simp only [← rl2]; exact ⟨lee rfl (by (repeat (first | exact le_nil | refine le_eq rfl rfl ?_))), by (repeat (first | exact lo_nil | refine lo_dead ?_ | refine lo_eq rfl ?_)), rfl, (by first | exact rfl | exact lim3 _)⟩⟩
    | cons t r =>
      have htk : t < k := k3.2.1 t (by simp)
      have e1 : (t :: r).reverse.getD (((((t :: r).reverse.map (AV.orow 0)).length : Nat) : Int) - 1).toNat 0 = t := rev_top (by rw [rl]; simp)
      have rl' : ((t :: r).reverse.map (AV.orow 0)).length = r.length + 1 := by rw [rl]; rfl
      have hl1 : ((t :: r).reverse).length = r.length + 1 := by simp
      have er : rowsOf (t :: r).reverse zs = rowsOf r.reverse zs ++ [zs.getD t []] := by simp [rowsOf]
      rw [List.length_cons] at k30
      have hlm := k4.join.bd hYk (n := 200) (by rw [List.length_take]; omega) (l := zs.getD t []) (by rw [er]; simp)
      have hl2 : (zs.getD t []).length = 2 := hlm.1
      have hb1 : 0 ≤ geti (zs.getD t []) ((Int.toNat 1 : Nat) : Int) * geti (zs.getD (k : Int).toNat []) ((Int.toNat 0 : Nat) : Int) ∧ geti (zs.getD t []) ((Int.toNat 1 : Nat) : Int) * geti (zs.getD (k : Int).toNat []) ((Int.toNat 0 : Nat) : Int) ≤ 720000 := by
        rw [Int.toNat_natCast, hzk]
        exact ⟨Int.mul_nonneg (by have := hlm.2.2.1; exact Int.le_trans (by decide) this) (by have := hE.2.1.1; exact Int.le_trans (by decide) this), Int.mul_le_mul (c := 12000) (d := 60) (by have := hlm.2.2.2; exact this) hE.2.1.2 (by have := hE.2.1.1; exact Int.le_trans (by decide) this) (by decide)⟩
      have hb2 : 0 ≤ geti (zs.getD (k : Int).toNat []) ((Int.toNat 1 : Nat) : Int) * geti (zs.getD t []) ((Int.toNat 0 : Nat) : Int) ∧ geti (zs.getD (k : Int).toNat []) ((Int.toNat 1 : Nat) : Int) * geti (zs.getD t []) ((Int.toNat 0 : Nat) : Int) ≤ 720000 := by
        rw [Int.toNat_natCast, hzk]
        exact ⟨Int.mul_nonneg (by have := hE.2.2.1; exact Int.le_trans (by decide) this) (by have := hlm.2.1.1; exact Int.le_trans (by decide) this), Int.mul_le_mul (c := 60) (d := 12000) hE.2.2.2 (by have := hlm.2.1.2; exact this) (by have := hlm.2.1.1; exact Int.le_trans (by decide) this) (by decide)⟩
      have hwz : wS (zs.getD t []) (ys.getD k []) = 0 ↔ geti (zs.getD t []) ((Int.toNat 1 : Nat) : Int) * geti (zs.getD (k : Int).toNat []) ((Int.toNat 0 : Nat) : Int) = geti (zs.getD (k : Int).toNat []) ((Int.toNat 1 : Nat) : Int) * geti (zs.getD t []) ((Int.toNat 0 : Nat) : Int) := by
        rw [Int.toNat_natCast, hzk]
        unfold wS
        show geti (zs.getD t []) 1 * geti (ys.getD k []) 0 - geti (zs.getD t []) 0 * geti (ys.getD k []) 1 = 0 ↔ geti (zs.getD t []) 1 * geti (ys.getD k []) 0 = geti (ys.getD k []) 1 * geti (zs.getD t []) 0
        rw [Int.mul_comm (geti (ys.getD k []) 1)]
        omega
      have hz0 : 1 ≤ geti (zs.getD (k : Int).toNat []) ((Int.toNat 0 : Nat) : Int) ∧ geti (zs.getD (k : Int).toNat []) ((Int.toNat 0 : Nat) : Int) ≤ 60 := by rw [Int.toNat_natCast, hzk]; exact hE.2.1
      have hz1 : 1 ≤ geti (zs.getD (k : Int).toNat []) ((Int.toNat 1 : Nat) : Int) ∧ geti (zs.getD (k : Int).toNat []) ((Int.toNat 1 : Nat) : Int) ≤ 60 := by rw [Int.toNat_natCast, hzk]; exact hE.2.2
      have ht0 : 1 ≤ geti (zs.getD t []) ((Int.toNat 0 : Nat) : Int) ∧ geti (zs.getD t []) ((Int.toNat 0 : Nat) : Int) ≤ 12000 := hlm.2.1
      have ht1 : 1 ≤ geti (zs.getD t []) ((Int.toNat 1 : Nat) : Int) ∧ geti (zs.getD t []) ((Int.toNat 1 : Nat) : Int) ≤ 12000 := hlm.2.2
      by_cases hq : wS (zs.getD t []) (ys.getD k []) = 0
      · have hq' := hwz.1 hq
        generalize est : (t :: r).reverse = st at *
        repeat' (first | (apply AOps.nil; try simp only [List.nil_append, List.cons_append, List.set_cons_zero, List.set_cons_succ, List.length_cons, List.length_nil, Nat.reduceAdd, AV.sh, AV.sh1, AV.sh0, AO.sh, List.map_cons, List.map_nil, Nat.zero_add, Nat.add_zero, setAll]) | (apply w_move; exact rfl; exact rfl) | (apply w_assign; exact rfl; exact rfl) | apply AWp.seq | apply AWp.region | ((apply AWp.condP; exact rfl) <;> intro h) | apply AWp.block | apply AWp.ret | apply AWp.exit | apply AWp.skip | (apply w_len; exact rfl; exact rfl; first | exact .ints _ | exact .intss _ | exact .sli rfl | exact .sls rfl | exact .slr rfl | exact .orow rfl | exact .nil) | ((first | apply w_bsx1 | apply w_lss | apply w_gtr | apply w_add | apply w_sub | apply w_idx | apply w_ld); iterate 3 exact rfl) | (apply w_appx; exact rfl; exact rfl; exact rfl; exact rfl; exact rfl; rotate_left 1; simp only [Env.mp, List.map_cons, List.map_nil, List.set_cons_zero, List.set_cons_succ, AV.kill, AV.kill1, AO.kill, AV.rin, AV.rin1, AV.noRow, AV.noRow1, AO.via, reduceIte, Nat.reduceEqDiff, Nat.reduceLT, Env.up, Nat.zero_ne_one, Nat.one_ne_zero, Nat.reduceAdd, List.cons_append, List.nil_append]; rotate_left 1) | omega | (apply w_idxo; exact rfl; exact rfl; (first | exact .sls rfl | exact .slr rfl); exact rfl) | ((apply w_ldr); iterate 4 exact rfl) | (apply w_ldls; iterate 4 exact rfl) | (apply inI_of <;> omega))
        rw [e1]
        apply AWp.regionQ
        · kernel_rfl
        · kernel_rfl
        repeat' (first | (apply AOps.nil; try simp only [List.nil_append, List.cons_append, List.set_cons_zero, List.set_cons_succ, List.length_cons, List.length_nil, Nat.reduceAdd, AV.sh, AV.sh1, AV.sh0, AO.sh, List.map_cons, List.map_nil, Nat.zero_add, Nat.add_zero, setAll]) | (apply w_move; exact rfl; exact rfl) | (apply w_assign; exact rfl; exact rfl) | apply AWp.seq | apply AWp.region | ((apply AWp.condP; exact rfl) <;> intro h) | apply AWp.skip | ((first | apply w_bsx1 | apply w_eql | apply w_add | apply w_mul | apply w_idx | apply w_ld); iterate 3 exact rfl) | (apply w_appx; exact rfl; exact rfl; exact rfl; exact rfl; exact rfl; rotate_left 1; simp only [Env.mp, List.map_cons, List.map_nil, List.set_cons_zero, List.set_cons_succ, AV.kill, AV.kill1, AO.kill, AV.rin, AV.rin1, AV.noRow, AV.noRow1, AO.via, reduceIte, Nat.reduceEqDiff, Nat.reduceLT, Env.up, Nat.zero_ne_one, Nat.one_ne_zero, Nat.reduceAdd, List.cons_append, List.nil_append]; rotate_left 1) | omega | ((first | apply w_idxr | apply w_ldr); iterate 4 exact rfl) | (apply w_ldrp; iterate 4 exact rfl) | (apply inI_of <;> omega))
        obtain ⟨z1, ez1⟩ : ∃ z1, z1 = zs.set t ((zs.getD t []).set (Int.toNat 0) (geti (zs.getD t []) ((Int.toNat 0 : Nat) : Int) + geti (zs.getD (k : Int).toNat []) ((Int.toNat 0 : Nat) : Int))) := ⟨_, rfl⟩
        refine AWp.regionA (by kernel_rfl) (envC := ⟨65, [(4, .own 2), (6, .orow 0 (k : Int).toNat), (7, .orow 0 t), (13, .own 0), (14, .i ys.length), (15, .i k)]⟩) (osC := [.sls 33 2 z1, .dead, .slr 33 (st.map (AV.orow 0))]) rfl rfl ?_ ?_
        · rw [ez1]
          repeat' (first | (apply AOps.nil; try simp only [List.nil_append, List.cons_append, List.set_cons_zero, List.set_cons_succ, List.length_cons, List.length_nil, Nat.reduceAdd, AV.sh, AV.sh1, AV.sh0, AO.sh, List.map_cons, List.map_nil, Nat.zero_add, Nat.add_zero, setAll]) | (apply w_move; exact rfl; exact rfl) | (apply w_storp; exact rfl; exact rfl; rotate_left 2; exact rfl; rotate_left 2) | omega | ((first | apply w_add | apply w_idx | apply w_ld); iterate 3 exact rfl) | ((first | apply w_idxr | apply w_ldr); iterate 4 exact rfl) | (apply w_ldrp; iterate 4 exact rfl) | apply AllOf.nil | (apply AllOf.cons; exact rfl) | (apply AAny.take; exact rfl; exact rfl; kernel_rfl; kernel_rfl) | (apply AAny.all; exact rfl) | (apply AAny.done; exact rfl) | (apply inI_of <;> omega))
          all_goals (apply Or.inl; refine ⟨lee rfl ?_, ?_, rfl, (lim3 _)⟩; (focus ((repeat (first | exact le_nil | refine le_eq rfl rfl ?_)); done)); (focus ((repeat (first | exact lo_nil | refine lo_dead ?_ | refine lo_eq rfl ?_)); done)))
        have z1t : z1.getD t [] = (zs.getD t []).set (Int.toNat 0) (geti (zs.getD t []) ((Int.toNat 0 : Nat) : Int) + geti (zs.getD (k : Int).toNat []) ((Int.toNat 0 : Nat) : Int)) := by rw [ez1]; exact gset_self (by omega)
        have z1k : z1.getD (k : Int).toNat [] = zs.getD (k : Int).toNat [] := by rw [ez1, Int.toNat_natCast]; exact gset_ne (by omega)
        have z1l : z1.length = ys.length := by rw [ez1, List.length_set]; exact k1
        have z1tl : (z1.getD t []).length = 2 := by rw [z1t, List.length_set]; exact hl2
        have z1kl : (z1.getD (k : Int).toNat []).length = 2 := by rw [z1k]; exact hk3
        have z1t1 : geti (z1.getD t []) ((Int.toNat 1 : Nat) : Int) = geti (zs.getD t []) ((Int.toNat 1 : Nat) : Int) := by
          rw [z1t]
          match zs.getD t [], hl2 with
          | [x, y], _ => rfl
        have z1k1 : geti (z1.getD (k : Int).toNat []) ((Int.toNat 1 : Nat) : Int) = geti (zs.getD (k : Int).toNat []) ((Int.toNat 1 : Nat) : Int) := by rw [z1k]
        obtain ⟨z2, ez2⟩ : ∃ z2, z2 = z1.set t ((z1.getD t []).set (Int.toNat 1) (geti (z1.getD t []) ((Int.toNat 1 : Nat) : Int) + geti (z1.getD (k : Int).toNat []) ((Int.toNat 1 : Nat) : Int))) := ⟨_, rfl⟩
        repeat' (apply AWp.seq)
        refine AWp.regionA (by kernel_rfl) (envC := ⟨65, [(4, .own 2), (13, .own 0), (14, .i ys.length), (15, .i k)]⟩) (osC := [.sls 33 2 z2, .dead, .slr 33 (st.map (AV.orow 0))]) rfl rfl ?_ ?_
        · rw [ez2]
          repeat' (first | (apply AOps.nil; try simp only [List.nil_append, List.cons_append, List.set_cons_zero, List.set_cons_succ, List.length_cons, List.length_nil, Nat.reduceAdd, AV.sh, AV.sh1, AV.sh0, AO.sh, List.map_cons, List.map_nil, Nat.zero_add, Nat.add_zero, setAll]) | (apply w_move; exact rfl; exact rfl) | (apply w_storp; exact rfl; exact rfl; rotate_left 2; exact rfl; rotate_left 2) | omega | ((first | apply w_add | apply w_idx | apply w_ld); iterate 3 exact rfl) | ((first | apply w_idxr | apply w_ldr); iterate 4 exact rfl) | (apply w_ldrp; iterate 4 exact rfl) | apply AllOf.nil | (apply AllOf.cons; exact rfl) | (apply AAny.take; exact rfl; exact rfl; kernel_rfl; kernel_rfl) | (apply AAny.all; exact rfl) | (apply AAny.done; exact rfl) | (apply inI_of <;> omega))
          all_goals (apply Or.inl; refine ⟨lee rfl ?_, ?_, rfl, (lim3 _)⟩; (focus ((repeat (first | exact le_nil | refine le_eq rfl rfl ?_)); done)); (focus ((repeat (first | exact lo_nil | refine lo_dead ?_ | refine lo_eq rfl ?_)); done)))
        have ez : z2 = zs.set t (plE (zs.getD t []) (ys.getD k [])) := by
          have e3 : (z1.getD t []).set (Int.toNat 1) (geti (z1.getD t []) ((Int.toNat 1 : Nat) : Int) + geti (z1.getD (k : Int).toNat []) ((Int.toNat 1 : Nat) : Int)) = plE (zs.getD t []) (ys.getD k []) := by
            rw [z1t1, z1k1, z1t, Int.toNat_natCast, hzk]
            exact set_two hl2 _ _
          rw [ez2, e3, ez1, List.set_set]
        have hnr : t ∉ r.reverse := fun h => by
          have := (List.pairwise_cons.1 k3.1).1 t (by simpa using h)
          omega
        have fin : JI (ys.take (k + 1)) (rowsOf st z2) := by
          rw [← est, etk, List.reverse_cons]
          have e4 : rowsOf (r.reverse ++ [t]) z2 = rowsOf r.reverse zs ++ [plE (zs.getD t []) (ys.getD k [])] := by
            have a1 : rowsOf (r.reverse ++ [t]) z2 = rowsOf r.reverse z2 ++ [z2.getD t []] := by simp [rowsOf]
            rw [a1, ez, rowsOf_set hnr, gset_self (by omega)]
          rw [e4]
          rw [er] at k4
          refine k4.same (fun h => ?_) hE.ep hpre hq
          have : (ys.take k).length = 0 := by rw [h]; rfl
          rw [List.length_take] at this
          omega
        repeat' (first | (apply AOps.nil; try simp only [List.nil_append, List.cons_append, List.set_cons_zero, List.set_cons_succ, List.length_cons, List.length_nil, Nat.reduceAdd, AV.sh, AV.sh1, AV.sh0, AO.sh, List.map_cons, List.map_nil, Nat.zero_add, Nat.add_zero, setAll]) | (apply w_move; exact rfl; exact rfl) | apply AWp.region | apply AWp.exit | ((apply w_add); iterate 3 exact rfl) | (apply inI_of <;> omega))
        refine ⟨(k + 1, t :: r, z2), ⟨by simp only; omega, by simp only; rw [ez2, List.length_set]; exact z1l, fun i hi => ?_, k3.up, by simp only [est]; exact fin⟩, by simp only; omega, by simp only [est]; exact ⟨lee rfl (by (repeat (first | exact le_nil | refine le_eq rfl rfl ?_))), by (repeat (first | exact lo_nil | refine lo_dead ?_ | refine lo_eq rfl ?_)), rfl, (by first | exact rfl | exact lim3 _)⟩⟩
        simp only at hi ⊢
        rw [ez, gset_ne (by omega)]
        exact k2 i (by omega)
      · have hq' := fun h => hq (hwz.2 h)
        have pk := push (fun A l h => by
          rw [er] at h
          have := List.append_inj' h rfl
          have : zs.getD t [] = l := by simpa using this.2
          rw [← this]; exact hq)
        generalize est : (t :: r).reverse = st at *
        repeat' (first | (apply AOps.nil; try simp only [List.nil_append, List.cons_append, List.set_cons_zero, List.set_cons_succ, List.length_cons, List.length_nil, Nat.reduceAdd, AV.sh, AV.sh1, AV.sh0, AO.sh, List.map_cons, List.map_nil, Nat.zero_add, Nat.add_zero, setAll]) | (apply w_move; exact rfl; exact rfl) | (apply w_assign; exact rfl; exact rfl) | apply AWp.seq | apply AWp.region | ((apply AWp.condP; exact rfl) <;> intro h) | apply AWp.block | apply AWp.ret | apply AWp.exit | apply AWp.skip | (apply w_len; exact rfl; exact rfl; first | exact .ints _ | exact .intss _ | exact .sli rfl | exact .sls rfl | exact .slr rfl | exact .orow rfl | exact .nil) | ((first | apply w_bsx1 | apply w_lss | apply w_gtr | apply w_add | apply w_sub | apply w_idx | apply w_ld); iterate 3 exact rfl) | (apply w_appx; exact rfl; exact rfl; exact rfl; exact rfl; exact rfl; rotate_left 1; simp only [Env.mp, List.map_cons, List.map_nil, List.set_cons_zero, List.set_cons_succ, AV.kill, AV.kill1, AO.kill, AV.rin, AV.rin1, AV.noRow, AV.noRow1, AO.via, reduceIte, Nat.reduceEqDiff, Nat.reduceLT, Env.up, Nat.zero_ne_one, Nat.one_ne_zero, Nat.reduceAdd, List.cons_append, List.nil_append]; rotate_left 1) | omega | (apply w_idxo; exact rfl; exact rfl; (first | exact .sls rfl | exact .slr rfl); exact rfl) | ((apply w_ldr); iterate 4 exact rfl) | (apply w_ldls; iterate 4 exact rfl) | (apply inI_of <;> omega))
        rw [e1]
        apply AWp.regionQ
        · kernel_rfl
        · kernel_rfl
        repeat' (first | (apply AOps.nil; try simp only [List.nil_append, List.cons_append, List.set_cons_zero, List.set_cons_succ, List.length_cons, List.length_nil, Nat.reduceAdd, AV.sh, AV.sh1, AV.sh0, AO.sh, List.map_cons, List.map_nil, Nat.zero_add, Nat.add_zero, setAll]) | (apply w_move; exact rfl; exact rfl) | (apply w_assign; exact rfl; exact rfl) | apply AWp.seq | apply AWp.region | ((apply AWp.condP; exact rfl) <;> intro h) | apply AWp.skip | ((first | apply w_bsx1 | apply w_eql | apply w_add | apply w_mul | apply w_idx | apply w_ld); iterate 3 exact rfl) | (apply w_appx; exact rfl; exact rfl; exact rfl; exact rfl; exact rfl; rotate_left 1; simp only [Env.mp, List.map_cons, List.map_nil, List.set_cons_zero, List.set_cons_succ, AV.kill, AV.kill1, AO.kill, AV.rin, AV.rin1, AV.noRow, AV.noRow1, AO.via, reduceIte, Nat.reduceEqDiff, Nat.reduceLT, Env.up, Nat.zero_ne_one, Nat.one_ne_zero, Nat.reduceAdd, List.cons_append, List.nil_append]; rotate_left 1) | omega | ((first | apply w_idxr | apply w_ldr); iterate 4 exact rfl) | (apply w_ldrp; iterate 4 exact rfl) | (apply inI_of <;> omega))
        have e5 : (k :: t :: r).reverse = st ++ [k] := by rw [← est]; simp
        refine ⟨(k + 1, k :: t :: r, zs), ⟨by simp only; omega, k1, fun i hi => k2 i (by simp only at hi; omega), k3.push, pk⟩, by simp only; omega, by simp only [e5]; exact ⟨lee rfl (by (repeat (first | exact le_nil | refine le_eq rfl rfl ?_))), by (repeat (first | exact lo_nil | refine lo_dead ?_ | refine lo_eq rfl ?_)), rfl, (by first | exact rfl | exact lim3 _)⟩⟩
  · have ek : k = ys.length := by omega
    subst ek
    rw [List.take_length] at k4
    refine AWp.merge (p := 2) (k := 0) rfl rfl k3.nodup ?_
    simp only [Env.mp, List.map_cons, List.map_nil, List.set_cons_zero, List.set_cons_succ, AV.kill, AV.kill1, AO.kill, AV.noRow, AV.noRow1, AO.via, reduceIte, Nat.reduceEqDiff, Nat.reduceLT, Env.up, Nat.zero_ne_one, Nat.one_ne_zero, Nat.reduceAdd, List.cons_append, List.nil_append]
    repeat' (first | (apply AOps.nil; try simp only [List.nil_append, List.cons_append, List.set_cons_zero, List.set_cons_succ, List.length_cons, List.length_nil, Nat.reduceAdd, AV.sh, AV.sh1, AV.sh0, AO.sh, List.map_cons, List.map_nil, Nat.zero_add, Nat.add_zero, setAll]) | (apply w_move; exact rfl; exact rfl) | (apply w_assign; exact rfl; exact rfl) | apply AWp.seq | apply AWp.region | ((apply AWp.condP; exact rfl) <;> intro h) | apply AWp.block | apply AWp.ret | apply AWp.exit | apply AWp.skip | omega | ((apply w_lss); iterate 3 exact rfl))
    exact ⟨_, _, _, .v1 Try.results24 rfl, .sls rfl, _, k4.join.perm hpm, rfl, rfl⟩
end Go.Proofs.Ytfaeiphgenddkaa
/-
  Regions that draw their order: a load is taken first where nothing that may come ahead of it writes. No condition.
-/
namespace Go.Proofs.Ytfaeiphgenddkaa
open Go Go.RowKit

/-- Whatever order is picked; behind an operation of G what was there is there still. -/
def wpAnyG (P : Program) (ops : Array Oper) (Q : Exit → Act → World → Prop) (G : Nat → Bool) : Nat → Array Bool → Act → World → Prop
  | 0, listed, a, w => Region.ready .any ops listed = [] ∧ Q .normal a w
  | fuel + 1, listed, a, w =>
    (Region.ready .any ops listed = [] → Q .normal a w) ∧
    ∀ i ∈ Region.ready .any ops listed, wpOp P ops Q i (fun a' w' => (G i = true → Below w.heap.size w w') ∧ wpAnyG P ops Q G fuel (listed.setIfInBounds i true) a' w') a w

theorem wpAny_of_G {P : Program} {ops : Array Oper} {Q : Exit → Act → World → Prop} {G : Nat → Bool} : ∀ (fuel : Nat) (listed : Array Bool) (a : Act) (w : World), wpAnyG P ops Q G fuel listed a w → wpAny P .any ops Q fuel listed a w
  | 0, _, _, _, h => h
  | fuel + 1, _, _, _, h => ⟨h.1, fun i hi => wpOp_mono (fun a' w' h' => wpAny_of_G fuel _ a' w' h'.2) (h.2 i hi)⟩

theorem wpAnyG_first {P : Program} {ops : Array Oper} {Q : Exit → Act → World → Prop} {G : Nat → Bool} {w0 : World} {i : Nat} {oi : Oper} {v : Value} (hi : ops[i]? = some oi) (hsel : ∀ (j : Nat) (o : Oper) cs b, ops[j]? = some o → o.op ≠ .select cs b)
    (hQ : ∀ c a w, Q (.panic c) (a.put oi.dst v) w → Q (.panic c) a w) (W : Nat → Bool)
    (hW : ∀ j oj, ops[j]? = some oj → W j = true → ∃ e ∈ oj.after, Region.binds .any e = true ∧ (e.on = i ∨ W e.on = true)) :
    ∀ (fuel : Nat) (listed : Array Bool) (a : Act) (w : World),
      (∀ j, W j = true → listed.getD j true = false) → listed.getD i true = false →
      (∀ j oj, ops[j]? = some oj → j ≠ i → listed.getD j true = false → W j = false → G j = true ∧ oi.apart ops oj = true) →
      i ∈ Region.ready .any ops listed → YieldsIf P ops (fun w' => Below w0.heap.size w0 w') oi v a → Below w0.heap.size w0 w →
      wpAnyG P ops Q G fuel (listed.setIfInBounds i true) (a.put oi.dst v) w → wpAnyG P ops Q G (fuel + 1) listed a w := by
  intro fuel
  induction fuel with
  | zero =>
    intro listed a w _ _ _ hr hy hS H
    refine ⟨fun h => (by rw [h] at hr; cases hr), fun j hj => ?_⟩
    by_cases hji : j = i
    · subst hji; exact hy.wpOp hi hS ⟨fun _ => Below.refl _ _, H⟩
    · have := ready_mono hj hji
      rw [H.1] at this
      cases this
  | succ fuel ih =>
    intro listed a w hWl hil hfree hr hy hS H
    refine ⟨fun h => (by rw [h] at hr; cases hr), fun j hj => ?_⟩
    by_cases hji : j = i
    · subst hji; exact hy.wpOp hi hS ⟨fun _ => Below.refl _ _, H⟩
    · have h1 := H.2 j (ready_mono hj hji)
      obtain ⟨hjun, oj, hoj, hall⟩ := mem_ready.1 hj
      have hWj : W j = false := by
        cases hc : W j with
        | false => rfl
        | true =>
          obtain ⟨e, he, hb, hor⟩ := hW j oj hoj hc
          have h1 := hall e he hb
          have tf : listed.getD e.on true = false → False := fun h0 => by
            rcases Nat.lt_or_ge e.on listed.size with h' | h'
            · simp [h'] at h0 h1; rw [h0] at h1; cases h1
            · simp [Array.getElem?_eq_none h'] at h1
          rcases hor with hor | hor
          · rw [hor] at tf; exact (tf hil).elim
          · exact (tf (hWl _ hor)).elim
      obtain ⟨hG, hap⟩ := hfree j oj hoj hji hjun hWj
      have h2 := wpOp_putIf hoj hap (fun cs b => hsel i oi cs b hi) (fun cs b => hsel j oj cs b hoj) hQ hy h1
      have gne : ∀ {k : Nat}, k ≠ j → (listed.setIfInBounds j true).getD k true = listed.getD k true := fun hk => getD_set_ne true (Ne.symm hk)
      refine wpOp_mono (fun a' w' h3 => ⟨h3.2.1, ih (listed.setIfInBounds j true) a' w' ?_ ?_ ?_ (ready_mono hr (Ne.symm hji)) h3.1 ?_ ?_⟩) h2
      · intro k hk
        rw [gne (fun e => by subst e; rw [hWj] at hk; cases hk)]
        exact hWl k hk
      · rw [gne (fun e => hji e.symm)]; exact hil
      · intro k ok hk hki hun hWk
        by_cases hkj : k = j
        · subst hkj
          exact hfree k ok hk hki hjun hWk
        · rw [gne hkj] at hun
          exact hfree k ok hk hki hun hWk
      · have := h3.2.1 hG
        exact hS.trans (this.mono hS.size)
      · rw [Array.setIfInBounds_comm _ _ hji]
        exact h3.2.2

theorem wpAnyG_firstY {P : Program} {ops : Array Oper} {Q : Exit → Act → World → Prop} {G : Nat → Bool} {i : Nat} {oi : Oper} {v : Value} (hi : ops[i]? = some oi) (hsel : ∀ (j : Nat) (o : Oper) cs b, ops[j]? = some o → o.op ≠ .select cs b)
    (hQ : ∀ c a w, Q (.panic c) (a.put oi.dst v) w → Q (.panic c) a w) :
    ∀ (fuel : Nat) (listed : Array Bool) (a : Act) (w : World),
      (∀ j oj, ops[j]? = some oj → j ≠ i → listed.getD j true = false → (∀ e ∈ oj.after, Region.binds .any e = true → e.on ≠ i) → oi.apart ops oj = true) →
      i ∈ Region.ready .any ops listed → Yields P ops oi v a →
      wpAnyG P ops Q G fuel (listed.setIfInBounds i true) (a.put oi.dst v) w → wpAnyG P ops Q G (fuel + 1) listed a w := by
  intro fuel
  induction fuel with
  | zero =>
    intro listed a w _ hr hy H
    refine ⟨fun h => (by rw [h] at hr; cases hr), fun j hj => ?_⟩
    by_cases hji : j = i
    · subst hji; exact hy.wpOp hi ⟨fun _ => Below.refl _ _, H⟩
    · have := ready_mono hj hji
      rw [H.1] at this
      cases this
  | succ fuel ih =>
    intro listed a w hfree hr hy H
    refine ⟨fun h => (by rw [h] at hr; cases hr), fun j hj => ?_⟩
    by_cases hji : j = i
    · subst hji; exact hy.wpOp hi ⟨fun _ => Below.refl _ _, H⟩
    · have h1 := H.2 j (ready_mono hj hji)
      obtain ⟨hjun, oj, hoj, hall⟩ := mem_ready.1 hj
      have hnot : ∀ e ∈ oj.after, Region.binds .any e = true → e.on ≠ i := fun e he hb heq => by
        have h1 := hall e he hb
        have h0 := (mem_ready.1 hr).1
        rw [heq] at h1
        rcases Nat.lt_or_ge i listed.size with h' | h'
        · simp [h'] at h0 h1; rw [h0] at h1; cases h1
        · simp [Array.getElem?_eq_none h'] at h1
      have h2 := wpOp_put hoj (hfree j oj hoj hji hjun hnot) (fun cs b => hsel i oi cs b hi) (fun cs b => hsel j oj cs b hoj) hQ hy h1
      have hfree' : ∀ k ok, ops[k]? = some ok → k ≠ i → (listed.setIfInBounds j true).getD k true = false →
          (∀ e ∈ ok.after, Region.binds .any e = true → e.on ≠ i) → oi.apart ops ok = true := fun k ok hk hki hun hno => by
        refine hfree k ok hk hki ?_ hno
        by_cases hjk : j = k
        · subst hjk; exact hjun
        · rw [getD_set_ne true hjk] at hun; exact hun
      refine wpOp_mono (fun a' w' h3 => ⟨h3.2.1, ih (listed.setIfInBounds j true) a' w' hfree' (ready_mono hr (Ne.symm hji)) h3.1 ?_⟩) h2
      rw [Array.setIfInBounds_comm _ _ hji]
      exact h3.2.2

/-- What writes nothing: no world asked, a load, a call of one of these functions. -/
def gentB (qs : List Nat) (o : Oper) : Bool :=
  wlessB o || match o.op with
    | .load _ _ => true
    | .call c => match c.callee with
      | .value (.func f) => qs.contains f
      | _ => false
    | _ => false
def gentle (qs : List Nat) (l : List Oper) (j : Nat) : Bool := match l[j]? with | some o => gentB qs o | none => false

/-- Which ones wait for i. -/
def waitsFor (i : Nat) : List Oper → List Bool → List Bool
  | [], acc => acc
  | o :: os, acc => waitsFor i os (acc ++ [o.after.toList.any fun e => Region.binds .any e && (e.on == i || acc.getD e.on false)])
def okW (l : List Oper) (i : Nat) (W : List Bool) : Bool := (List.range l.length).all fun j => !W.getD j false || match l[j]? with | some o => o.after.toList.any fun e => Region.binds .any e && (e.on == i || W.getD e.on false) | none => false
/-- i may be taken first. -/
def freeG (qs : List Nat) (l : List Oper) (listed : List Bool) (i : Nat) : Bool :=
  let W := waitsFor i l []
  okW l i W && W.length == l.length && (List.range l.length).all (fun j => !W.getD j false || !listed.getD j true) && !listed.getD i true &&
    match l[i]? with
    | none => false
    | some oi => (List.range l.length).all fun j => j == i || listed.getD j true || W.getD j false || match l[j]? with
      | some oj => gentB qs oj && oi.apart l.toArray oj
      | none => true

def AAnyG (P : Program) (qs : List Nat) (l : List Oper) (fuel : Nat) (listed : List Bool) (K : APost) (env : Env) (os : List AO) : Prop :=
  ∀ base w0 w gs tm, Rel base w gs env os tm → Below base w0 w → ∀ X Rt, wpAnyG P l.toArray (Post base w0 K X Rt) (gentle qs l) fuel listed.toArray ⟨tm, []⟩ w

/-- Each of these comes up next. -/
def AllOfG (P : Program) (qs : List Nat) (l : List Oper) (fuel : Nat) (listed : List Bool) (K : APost) (env : Env) (os : List AO) : List Nat → Prop
  | [] => True
  | i :: is => (∃ o, l[i]? = some o ∧ AOps P (cond (gentB qs o) .quiet .seq) l [o] (fun env os => AAnyG P qs l fuel (listed.set i true) K env os) env os) ∧ AllOfG P qs l fuel listed K env os is

section
variable {P : Program} {N : APost} {X : Nat → APost} {Rt : APost} {env : Env} {os : List AO} {l : List Oper} {K : APost} {fuel : Nat} {listed : List Bool} {qs : List Nat}

theorem AllOfG.get : ∀ {rs : List Nat}, AllOfG P qs l fuel listed K env os rs → ∀ i ∈ rs, ∃ o, l[i]? = some o ∧ AOps P (cond (gentB qs o) .quiet .seq) l [o] (fun env os => AAnyG P qs l fuel (listed.set i true) K env os) env os
  | [], _, i, h => by cases h
  | j :: rs, h, i, hi => by
    rcases List.mem_cons.1 hi with rfl | hi
    · exact h.1
    · exact AllOfG.get h.2 i hi
theorem AllOfG.nil : AllOfG P qs l fuel listed K env os [] := trivial
theorem AllOfG.consS {i : Nat} {o : Oper} {is : List Nat} (ho : l[i]? = some o) (hg : gentB qs o = false) (h : AOps P .seq l [o] (fun env os => AAnyG P qs l fuel (listed.set i true) K env os) env os) (hs : AllOfG P qs l fuel listed K env os is) :
    AllOfG P qs l fuel listed K env os (i :: is) := ⟨⟨o, ho, by rw [hg]; exact h⟩, hs⟩

theorem AAnyG.all {i : Nat} {is : List Nat} (hr : rdyGo listed 0 l = i :: is) (h : AllOfG P qs l fuel listed K env os (i :: is)) : AAnyG P qs l (fuel + 1) listed K env os := by
  intro base w0 w gs tm hrel hb X Rt
  refine ⟨fun h0 => ?_, fun j hj => ?_⟩
  · have : i ∈ Region.ready .any l.toArray listed.toArray := mem_rdy.2 (by rw [hr]; simp)
    rw [h0] at this; cases this
  · have hj' := mem_rdy.1 hj
    rw [hr] at hj'
    obtain ⟨o, ho, hop⟩ := h.get j hj'
    have ho' : l.toArray[j]? = some o := by simpa using ho
    have hgj : gentle qs l j = gentB qs o := by unfold gentle; rw [ho]
    have kk : ∀ a w', Post base w0 (fun env os => AAnyG P qs l fuel (listed.set j true) K env os) X Rt .normal a w' → wpAnyG P l.toArray (Post base w0 K X Rt) (gentle qs l) fuel (listed.toArray.setIfInBounds j true) a w' := by
      rintro a w' ⟨env', os', gs', h1, h2, h3, h4⟩
      have ea : a = ⟨a.tmps, []⟩ := by cases a; simp_all
      rw [ea]
      have := h4 base w0 w' gs' a.tmps h1 h3 X Rt
      rwa [show listed.toArray.setIfInBounds j true = (listed.set j true).toArray from by simp]
    cases hg : gentB qs o with
    | false =>
      rw [hg] at hop
      have := hop base w0 w gs tm hrel hb X Rt
      unfold wpOp
      rw [ho']
      unfold wpList at this
      simp only
      rw [hgj, hg]
      split
      · rename_i hw
        rw [if_pos hw] at this
        rcases this with this | ⟨h1, ⟨a, w', h2⟩⟩
        · exact .inl (Oper.wp_mono2 (fun a w' h => ⟨fun e => (by cases e), kk a w' h⟩) (fun _ _ _ h => (h : False).elim) (fun ⟨_, _, h⟩ => (h : False).elim) this)
        · exact (h2 : False).elim
      · rename_i hw
        rw [if_neg hw] at this
        exact ⟨fun e => (by cases e), kk _ _ this⟩
    | true =>
      rw [hg] at hop
      have := hop base w gs tm hrel
      unfold wpOp
      rw [ho']
      unfold wpQuiet at this
      simp only
      have kq : ∀ (a : Act) w', Below w.heap.size w w' → wpQuiet P l.toArray (fun w' => Below w.heap.size w w') (fun a' => ∃ env' os' gs', AAnyG P qs l fuel (listed.set j true) K env' os' ∧ a'.defers = [] ∧ ∀ w', Below w.heap.size w w' → Rel base w' gs' env' os' a'.tmps) [] a →
          (gentle qs l j = true → Below w.heap.size w w') ∧ wpAnyG P l.toArray (Post base w0 K X Rt) (gentle qs l) fuel (listed.toArray.setIfInBounds j true) a w' := by
        rintro a w' hbw ⟨env', os', gs', h1, h2, h3⟩
        exact ⟨fun _ => hbw, kk a w' ⟨env', os', gs', h3 w' hbw, h2, hb.trans (hbw.mono hrel.hb), h1⟩⟩
      split
      · rename_i hw
        rw [if_pos hw] at this
        obtain ⟨v, hv, hn⟩ := this
        refine .inl (Oper.wp_of_quiet (C := fun w' => Below w.heap.size w w') (K := fun a' => a' = Act.put ⟨tm, []⟩ o.dst v) (Below.refl _ _) ?_ ⟨v, hv, rfl⟩)
        intro a' w' hw' he
        subst he
        exact kq _ w' hw' hn
      · rename_i hw
        rw [if_neg hw] at this
        exact kq _ w (Below.refl _ _) this

theorem AAnyG.done (hr : rdyGo listed 0 l = []) (h : K env os) : AAnyG P qs l fuel listed K env os := by
  intro base w0 w gs tm hrel hb X Rt
  have hr' : Region.ready .any l.toArray listed.toArray = [] := by
    apply List.eq_nil_iff_forall_not_mem.2
    intro j hj
    have := mem_rdy.1 hj
    rw [hr] at this; cases this
  cases fuel with
  | zero => exact ⟨hr', env, os, gs, hrel, rfl, hb, h⟩
  | succ n => exact ⟨fun _ => ⟨env, os, gs, hrel, rfl, hb, h⟩, by rw [hr']; intro j hj; cases hj⟩

theorem run_load_val {P : Program} {ρ : Operand → Value} {d : Option Tmp} {t : TypeId} {x : Operand} {ty : TypeId} {pos : String} {af : Array Edge} {g : Option (Nat × Bool)} {w w' : World} {n : Next} (h : (execOp ρ ⟨d, .load t x, ty, pos, af, g⟩).run P w = .ok n w') : ∃ u, n = .value u := by
  simp only [execOp, Sem.run_bind, Sem.run_pure, Result.andThen] at h
  split at h
  · cases h; exact ⟨_, rfl⟩
  · cases h

theorem free_parts {i : Nat} {oi : Oper} (hi : l[i]? = some oi) (h : freeG qs l listed i = true) : ∃ W : Nat → Bool,
    (∀ j oj, l[j]? = some oj → W j = true → ∃ e ∈ oj.after, Region.binds .any e = true ∧ (e.on = i ∨ W e.on = true)) ∧ (∀ j, W j = true → listed.getD j true = false) ∧ listed.getD i true = false ∧
    (∀ j oj, l[j]? = some oj → j ≠ i → listed.getD j true = false → W j = false → gentle qs l j = true ∧ oi.apart l.toArray oj = true) := by
  simp only [freeG, hi, okW, Bool.and_eq_true, List.all_eq_true, List.mem_range] at h
  obtain ⟨⟨⟨⟨h1, h2⟩, h3⟩, h4⟩, h5⟩ := h
  have hlen : (waitsFor i l []).length = l.length := by simpa using h2
  have lt : ∀ j, (waitsFor i l []).getD j false = true → j < l.length := fun j hj => by
    rcases Nat.lt_or_ge j l.length with h | h
    · exact h
    · rw [List.getD_eq_getElem?_getD, List.getElem?_eq_none (by omega)] at hj; cases hj
  refine ⟨fun j => (waitsFor i l []).getD j false, fun j oj hj hw => ?_, fun j hw => ?_, by simpa using h4, fun j oj hj hne hun hw => ?_⟩
  · have := h1 j (lt j hw)
    simp only [hw, hj, Bool.not_true, Bool.false_or, List.any_eq_true, Bool.and_eq_true, Bool.or_eq_true, beq_iff_eq] at this
    obtain ⟨e, he, hb, hor⟩ := this
    exact ⟨e, by simpa using he, hb, hor⟩
  · have := h3 j (lt j hw)
    simp only [hw, Bool.not_true, Bool.false_or] at this
    simpa using this
  · have := h5 j (List.getElem?_eq_some_iff.1 hj).1
    have hne' : (j == i) = false := by simpa using hne
    simp only [hj, hne', hun, hw, Bool.false_or, Bool.and_eq_true] at this
    exact ⟨by unfold gentle; rw [hj]; exact this.1, this.2⟩

/-- An operation that needs no world is taken first. -/
theorem AAnyG.takeW {i : Nat} {o : Oper} (hi : findW l (rdyGo listed 0 l) = some i) (ho : l[i]? = some o) (hs : Region.noSelect l.toArray = true) (hf : Region.free .any l.toArray listed.toArray i = true)
    (h : AOps P .wless l [o] (fun env os => AAnyG P qs l fuel (listed.set i true) K env os) env os) : AAnyG P qs l (fuel + 1) listed K env os := by
  intro base w0 w gs tm hrel hb X Rt
  obtain ⟨v, hy, env', os', gs', hk, hd, hr'⟩ := h base w gs tm hrel
  have ho' : l.toArray[i]? = some o := by simpa using ho
  refine wpAnyG_firstY (oi := o) (v := v) ho' (Region.noSelect_spec hs) (fun _ _ _ h => h.elim) fuel listed.toArray _ _ (Region.free_spec ho' hf) (mem_rdy.2 (findW_mem hi)) hy ?_
  have := hk base w0 w gs' _ hr' hb X Rt
  rw [show listed.toArray.setIfInBounds i true = (listed.set i true).toArray from by simp]
  have e : (⟨(Act.put ⟨tm, []⟩ o.dst v).tmps, []⟩ : Act) = Act.put ⟨tm, []⟩ o.dst v := by
    have : (Act.put ⟨tm, []⟩ o.dst v).defers = [] := hd
    generalize Act.put ⟨tm, []⟩ o.dst v = a at this
    cases a; simp_all
  rw [e] at this
  exact this

def isLoad (o : Oper) : Bool := match o.op with | .load _ _ => true | _ => false
def findL (qs : List Nat) (l : List Oper) (listed : List Bool) : List Nat → Option Nat
  | [] => none
  | i :: is => cond ((match l[i]? with | some o => isLoad o | none => false) && freeG qs l listed i) (some i) (findL qs l listed is)
theorem findL_spec : ∀ {is : List Nat} {i : Nat}, findL qs l listed is = some i → i ∈ is ∧ freeG qs l listed i = true
  | [], _, h => by cases h
  | j :: is, i, h => by
    simp only [findL] at h
    cases hb : ((match l[j]? with | some o => isLoad o | none => false) && freeG qs l listed j) with
    | true => rw [hb] at h; simp at h; subst h; rw [Bool.and_eq_true] at hb; exact ⟨by simp, hb.2⟩
    | false => rw [hb] at h; have := findL_spec h; exact ⟨List.mem_cons_of_mem _ this.1, this.2⟩

/-- A load is taken first. -/
theorem AAnyG.takeL {i : Nat} {d : Option Tmp} {t : TypeId} {x : Operand} {ty : TypeId} {pos : String} {af : Array Edge} {g : Option (Nat × Bool)} (hi : findL qs l listed (rdyGo listed 0 l) = some i) (ho : l[i]? = some ⟨d, .load t x, ty, pos, af, g⟩) (hs : Region.noSelect l.toArray = true)
    (h : AOps P .quiet l [⟨d, .load t x, ty, pos, af, g⟩] (fun env os => AAnyG P qs l fuel (listed.set i true) K env os) env os) : AAnyG P qs l (fuel + 1) listed K env os := by
  intro base w0 w gs tm hrel hb X Rt
  have hq := h base w gs tm hrel
  obtain ⟨hm, hf⟩ := findL_spec hi
  obtain ⟨W, f1, f2, f3, f4⟩ := free_parts ho hf
  have key : ∀ v, YieldsIf P l.toArray (fun w' => Below w.heap.size w w') ⟨d, .load t x, ty, pos, af, g⟩ v ⟨tm, []⟩ →
      wpQuiet P l.toArray (fun w' => Below w.heap.size w w') (fun a' => ∃ env' os' gs', AAnyG P qs l fuel (listed.set i true) K env' os' ∧ a'.defers = [] ∧ ∀ w', Below w.heap.size w w' → Rel base w' gs' env' os' a'.tmps) [] (Act.put ⟨tm, []⟩ d v) →
      wpAnyG P l.toArray (Post base w0 K X Rt) (gentle qs l) (fuel + 1) listed.toArray ⟨tm, []⟩ w := by
    rintro v hy ⟨env', os', gs', hk, hd, hr'⟩
    refine wpAnyG_first (w0 := w) (v := v) (by simpa using ho) (Region.noSelect_spec hs) (fun _ _ _ h => h.elim) W (fun j oj hj => f1 j oj (by simpa using hj)) fuel listed.toArray _ _
      (fun j hj => by have := f2 j hj; simpa [List.getD_eq_getElem?_getD, Array.getD_eq_getD_getElem?] using this) (by simpa [List.getD_eq_getElem?_getD, Array.getD_eq_getD_getElem?] using f3)
      (fun j oj hj hne hun => f4 j oj (by simpa using hj) hne (by simpa [List.getD_eq_getElem?_getD, Array.getD_eq_getD_getElem?] using hun)) (mem_rdy.2 hm) hy (Below.refl _ _) ?_
    have := hk base w0 w gs' _ (hr' w (Below.refl _ _)) hb X Rt
    rw [show listed.toArray.setIfInBounds i true = (listed.set i true).toArray from by simp]
    have e : (⟨(Act.put ⟨tm, []⟩ d v).tmps, []⟩ : Act) = Act.put ⟨tm, []⟩ d v := by
      have : (Act.put ⟨tm, []⟩ d v).defers = [] := hd
      generalize Act.put ⟨tm, []⟩ d v = a at this
      cases a; simp_all
    rw [e] at this
    exact this
  unfold wpQuiet at hq
  split at hq
  · rename_i hw
    obtain ⟨v, hv, hn⟩ := hq
    refine key v (.inl ⟨hw, fun w' hw' => ?_⟩) hn
    have := hv w' hw'
    unfold Oper.quietAt at this
    generalize hrun : (execOp (Act.eval ⟨tm, []⟩) ⟨d, .load t x, ty, pos, af, g⟩).run P w' = r at this
    cases r with
    | ok n w1 =>
      obtain ⟨u, rfl⟩ := run_load_val hrun
      simp only [Oper.quietUpon] at this
      rw [this.1, this.2]
    | halt y w1 => simp only [Oper.quietUpon] at this
  · rename_i hw
    exact key undef (.inr ⟨by simpa using hw, rfl⟩) hq

/-- A region that draws its order: every order comes to a state that may be seen as (envC, osC). 'qs': functions that are only called for their plain values. -/
theorem AWp.regionG (qs : List Nat) {id : Nat} (hm : P.follows .mixedOrders = true) {envC : Env} {osC : List AO} {n : Nat} (hn : l.length = n) {listed : List Bool} (hl : List.replicate n false = listed)
    (h : AAnyG P qs l n listed (fun e o => Fit e o envC osC ∨ ∃ σ, FitS σ e o envC osC) env os) (hk : N envC osC) : AWp P (.region id l.toArray true) N X Rt env os := by
  refine AWp.regionA hm hn hl (fun base w0 w gs tm hr hb X Rt => wpAny_of_G _ _ _ _ (h base w0 w gs tm hr hb X Rt)) hk
end
end Go.Proofs.Ytfaeiphgenddkaa
/-
  The stable sort of no rows; no edges put together; edges put together, in general; the points of a chain. Condition: few edges with small numbers.
-/
namespace Go.Proofs.Ytfaeiphgenddkaa
open Go Go.RowKit Go.Sort

theorem insertion_none_k (a : Option Addr) (cap : Nat) (fv : Fn) (b1 b2 : Array Value) (w : World) : Calls Try.prog 54 #[.slice a 0 cap, .int .i64 0, .int .i64 0, .func fv b1 b2] w fun e w' => e = .returned (.tuple #[]) ∧ w' = w := by
  go_enter Try.func54, Try.ntmps54
  go_wp2
  refine wp_loop_rounds 1 ?_
  rw [rounds_succ]
  go_wp2
  go_end0
  exact ⟨rfl, rfl⟩
theorem stable_none_k (a : Option Addr) (cap : Nat) (fv : Fn) (b1 b2 : Array Value) (w : World) : Calls Try.prog 50 #[.slice a 0 cap, .int .i64 0, .func fv b1 b2] w fun e w' => e = .returned (.tuple #[]) ∧ w' = w := by
  go_enter Try.func50, Try.ntmps50
  go_wp2
  refine wp_loop_rounds 1 ?_
  rw [rounds_succ]
  go_wp2_with (go_at_call 54; refine (insertion_none_k _ _ _ _ _ _).mono ?_; rintro e w' ⟨rfl, rfl⟩)
  refine wp_loop_rounds 1 ?_
  rw [rounds_succ]
  go_wp2
  go_end0
  exact ⟨rfl, rfl⟩
theorem sortst_none_k (a : Option Addr) (cap : Nat) (fv : Fn) (b1 b2 : Array Value) (w : World) : Calls Try.prog 42 #[.slice a 0 cap, .func fv b1 b2] w fun e w' => e = .returned (.tuple #[]) ∧ w' = w := by
  go_enter Try.func42, Try.ntmps42
  go_wp2_with (go_at_call 50; refine (stable_none_k _ _ _ _ _ _).mono ?_; rintro e w' ⟨rfl, rfl⟩)
  go_end0
  exact ⟨rfl, rfl⟩
section
variable {env : Env} {os : List AO} {d : Option Tmp} {ty : TypeId} {pos : String} {af : Array Edge} {g : Option (Nat × Bool)}
theorem c_sortst0 {G : FuncId} {x y : Operand} {ats : Array TypeId} {h : Nat} {e e2 : TypeId} (hx : AV.ev env x = .own h) (hs : os[h]? = some (.sls e e2 [])) (hy : AV.ev env y = .val (.func (.func G) #[] #[])) :
    COp Try.prog ⟨d, .call { callee := .value (.func 42), args := #[x, y], argTypes := ats }, ty, pos, af, g⟩ env os (fun r e' o => r = .any ∧ e' = env ∧ o = os) := by
  intro base w gs tm hr
  have hxv := hr.ev x
  rw [hx] at hxv
  have hyv := hr.evv hy
  generalize hv : Act.eval ⟨tm, []⟩ x = v at hxv
  cases hxv with
  | @own _ gh hg =>
  obtain ⟨us, bs, mb, b1, b2, b3, b4, b5, b6, b7, b8⟩ := hr.ho _ _ _ hg hs
  have hbd : HasBody Try.prog 42 := ⟨_, _, Try.func42, by kernel_rfl, rfl⟩
  have hu : us = [] := List.eq_nil_of_length_eq_zero (by simpa using b2)
  have hsl : ∃ a cap, gh.v = .slice a 0 cap := by
    rcases b1.2 with ⟨q1, q2⟩ | ⟨blk, cap, cur, c1, _⟩
    · exact ⟨none, 0, q1⟩
    · exact ⟨_, cap, by rw [c1, hu]; rfl⟩
  obtain ⟨a, cap, hgv⟩ := hsl
  refine ⟨_, _, run_call hbd [x, y] ats _ rfl w, ?_⟩
  have eargs : ([x, y].map (Act.eval ⟨tm, []⟩)).toArray = #[.slice a 0 cap, .func (.func G) #[] #[]] := by
    simp only [List.map_cons, List.map_nil, hv, hyv, hgv]
  rw [eargs]
  refine (sortst_none_k a cap _ _ _ w).mono ?_
  rintro e' w' ⟨rfl, rfl⟩
  exact ⟨.tuple #[], .any, env, os, gs, rfl, ⟨rfl, rfl, rfl⟩, hr, .any _, Below.refl _ _⟩
end
section
variable {env : Env} {os : List AO} {d : Tmp} {ty : TypeId} {pos : String} {af : Array Edge} {l rest : List Oper} {K : APost}
theorem w_sortst0 {G : FuncId} {x y : Operand} {ats : Array TypeId} {h : Nat} {e e2 : TypeId} (hx : evo env x = some (.own h)) (hs : os[h]? = some (.sls e e2 [])) (hy : evo env y = some (.val (.func (.func G) #[] #[])))
    (h' : AOps Try.prog .seq l rest K (Env.up env d .any) os) :
    AOps Try.prog .seq l (⟨some d, .call { callee := .value (.func 42), args := #[x, y], argTypes := ats }, ty, pos, af, none⟩ :: rest) K env os :=
  AOps.ca (c_sortst0 (ev_of hx) hs (ev_of hy)) fun r e o ⟨h3, h4, h5⟩ => by subst h3; subst h4; subst h5; exact h'
end
attribute [local irreducible] AWp AOps ResIs Ret1 QOp LOp COp AFnV AFn Imms LeE LeO
set_option maxHeartbeats 1000000
set_option linter.unusedSimpArgs false
set_option linter.unusedVariables false

theorem joinedEdges_all (xss : List (List Int)) (h1 : xss.length ≤ 200) (hp : ∀ r ∈ xss, E60 r) : AFn Try.prog 24 [.intss xss] (fun r os => ∃ L, JoinOf xss L ∧ r = .own 0 ∧ os = [.sls 33 2 L]) := by
  by_cases h0 : 0 < xss.length
  · exact joinedEdges_c xss h0 h1 hp
  · have e0 : xss = [] := List.eq_nil_of_length_eq_zero (by omega)
    subst e0
    have hcl := copyLists_c [] (by simp) (fun r hr => by simp at hr)
    (refine AFn.start Try.func24 Try.ntmps24 rfl (by kernel_rfl) fun hk => ?_; simp only [Env.start, enumF, List.length_cons, List.length_nil, Nat.reduceAdd, Nat.reduceSub, List.cons_append, List.nil_append])
    repeat' (first | (apply AOps.nil; try simp only [List.nil_append, List.cons_append, List.set_cons_zero, List.set_cons_succ, List.length_cons, List.length_nil, Nat.reduceAdd, AV.sh, AV.sh1, AV.sh0, AO.sh, List.map_cons, List.map_nil, Nat.zero_add, Nat.add_zero, setAll]) | (apply w_move; exact rfl; exact rfl) | (apply w_assign; exact rfl; exact rfl) | apply AWp.seq | apply AWp.region | (apply w_callm (hcl); (focus ((repeat (first | exact im_nil | refine im_cons rfl (.intss _) ?_)); done)); rintro r os0 ⟨rfl, rfl⟩; try simp only [List.nil_append, List.cons_append, List.set_cons_zero, List.set_cons_succ, List.length_cons, List.length_nil, Nat.reduceAdd, AV.sh, AV.sh1, AV.sh0, AO.sh, List.map_cons, List.map_nil, Nat.zero_add, Nat.add_zero, setAll]))
    refine w_sortst0 rfl rfl rfl ?_
    repeat' (first | (apply AOps.nil; try simp only [List.nil_append, List.cons_append, List.set_cons_zero, List.set_cons_succ, List.length_cons, List.length_nil, Nat.reduceAdd, AV.sh, AV.sh1, AV.sh0, AO.sh, List.map_cons, List.map_nil, Nat.zero_add, Nat.add_zero, setAll]) | apply AWp.seq | apply AWp.region)
    refine w_bsx0 0 rfl ?_
    try simp only [List.nil_append, List.cons_append, List.set_cons_zero, List.set_cons_succ, List.length_cons, List.length_nil, Nat.reduceAdd, AV.sh, AV.sh1, AV.sh0, AO.sh, List.map_cons, List.map_nil, Nat.zero_add, Nat.add_zero, setAll]
    repeat' (first | (apply AOps.nil; try simp only [List.nil_append, List.cons_append, List.set_cons_zero, List.set_cons_succ, List.length_cons, List.length_nil, Nat.reduceAdd, AV.sh, AV.sh1, AV.sh0, AO.sh, List.map_cons, List.map_nil, Nat.zero_add, Nat.add_zero, setAll]) | (apply w_move; exact rfl; exact rfl) | (apply w_assign; exact rfl; exact rfl) | apply AWp.seq | apply AWp.region | apply AWp.block | (apply w_len; exact rfl; exact rfl; first | exact .ints _ | exact .intss _ | exact .sli rfl | exact .sls rfl | exact .slr rfl | exact .orow rfl | exact .nil))
    refine AWp.loop (ι := Unit) (fun x => ⟨65, [(4, .own 1), (13, .own 0), (14, .i 0), (15, .i 0)]⟩) (fun x => [.sls 33 2 [], .slr 33 (([] : List Nat).map (AV.orow 0))]) (fun x => True) (fun x => 0) () trivial ⟨lee rfl (by (repeat (first | exact le_nil | refine le_eq rfl rfl ?_))), by (repeat (first | exact lo_nil | refine lo_eq rfl ?_)), rfl, rfl⟩ ?_
    rintro _ _
    refine AWp.merge (p := 1) (k := 0) (idx := []) rfl rfl List.nodup_nil ?_
    simp only [Env.mp, List.map_cons, List.map_nil, List.set_cons_zero, List.set_cons_succ, AV.kill, AV.kill1, AO.kill, AV.noRow, AV.noRow1, AO.via, reduceIte, Nat.reduceEqDiff, Nat.reduceLT, Env.up, Nat.zero_ne_one, Nat.one_ne_zero, Nat.reduceAdd, List.cons_append, List.nil_append]
    repeat' (first | (apply AOps.nil; try simp only [List.nil_append, List.cons_append, List.set_cons_zero, List.set_cons_succ, List.length_cons, List.length_nil, Nat.reduceAdd, AV.sh, AV.sh1, AV.sh0, AO.sh, List.map_cons, List.map_nil, Nat.zero_add, Nat.add_zero, setAll]) | (apply w_move; exact rfl; exact rfl) | (apply w_assign; exact rfl; exact rfl) | apply AWp.seq | apply AWp.region | ((apply AWp.condP; exact rfl) <;> intro h) | apply AWp.block | apply AWp.ret | apply AWp.exit | apply AWp.skip | omega | ((apply w_lss); iterate 3 exact rfl))
    exact ⟨_, _, _, .v1 Try.results24 rfl, .sls rfl, [], JI.nil.join, rfl, rfl⟩
end Go.Proofs.Ytfaeiphgenddkaa
/-
  The laws' helpers that write marks into a result and look for them. No condition but a bound on the sizes.
-/
namespace Go.Proofs.Ytfaeiphgenddkaa
open Go Go.RowKit
attribute [local irreducible] AWp AOps ResIs Ret1 QOp LOp COp AFnV AFn Imms LeE LeO
set_option maxHeartbeats 1000000
set_option linter.unusedSimpArgs false
set_option linter.unusedVariables false

/-- k, k + 1, .. -/
def iota (k : Int) (n : Nat) : List Int := (List.range n).map fun i => k + (i : Nat)
theorem iota_len (k : Int) (n : Nat) : (iota k n).length = n := by simp [iota]
theorem iota_get (k : Int) (n i : Nat) (h : i < n) : geti (iota k n) i = k + i := by simp [geti, iota, h]

theorem mark_step (k : Int) (xs : List Int) (i : Nat) (h : i < xs.length) : (iota k i ++ xs.drop i).set i (k + i) = iota k (i + 1) ++ xs.drop (i + 1) := by
  rw [List.set_append_right _ _ (by rw [iota_len]; exact Nat.le_refl _), iota_len, Nat.sub_self, List.drop_eq_getElem_cons h, List.set_cons_zero]
  simp [iota, List.range_succ]

theorem markInt64S_c (T : TypeId) (xs : List Int) (k : Int) (hq : 0 ≤ k ∧ k ≤ 9007199254740992) (hl : xs.length ≤ 9007199254740992) : AFnU Try.prog 26 [.own 0, .i k] [.sli T xs] (fun v os => v = .int .i64 (k + xs.length) ∧ os = [.sli T (iota k xs.length)]) := by
  (refine AFnU.start Try.func26 Try.ntmps26 rfl (by kernel_rfl) fun K => ?_; simp only [Env.start, enumF, List.length_cons, List.length_nil, Nat.reduceAdd, Nat.reduceSub, List.cons_append, List.nil_append])
  repeat' (first | (apply AOps.nil; try simp only [List.nil_append, List.cons_append, List.set_cons_zero, List.set_cons_succ, List.length_cons, List.length_nil, Nat.reduceAdd, AV.sh, AV.sh1, AV.sh0, AO.sh, List.map_cons, List.map_nil, Nat.zero_add, Nat.add_zero, setAll]) | (apply w_assign; exact rfl; exact rfl) | apply AWp.seq | apply AWp.region | apply AWp.block)
  refine AWp.loop (ι := Nat) (fun i => ⟨19, [(0, .own 0), (1, .i (k + i)), (5, .i i)]⟩) (fun i => [.sli T (iota k i ++ xs.drop i), .keep 2 K]) (fun i => i ≤ xs.length) (fun i => xs.length - i) 0 (by omega) ⟨lee rfl (le_eq rfl rfl (le_eq rfl (congrArg AV.i (by omega)) (le_eq rfl rfl le_nil))), lo_eq (by simp [iota]) (lo_eq rfl lo_nil), rfl, rfl⟩ ?_
  rintro i h0
  have e1 : (iota k i ++ xs.drop i).length = xs.length := by simp [iota_len]; omega
  repeat' (first | (apply AOps.nil; try simp only [List.nil_append, List.cons_append, List.set_cons_zero, List.set_cons_succ, List.length_cons, List.length_nil, Nat.reduceAdd, AV.sh, AV.sh1, AV.sh0, AO.sh, List.map_cons, List.map_nil, Nat.zero_add, Nat.add_zero, setAll]) | (apply w_move; exact rfl; exact rfl) | (apply w_assign; exact rfl; exact rfl) | apply AWp.seq | apply AWp.region | ((apply AWp.condP; exact rfl) <;> intro h) | apply AWp.block | apply AWp.ret | apply AWp.exit | apply AWp.skip | (apply w_len; exact rfl; exact rfl; first | exact .ints _ | exact .intss _ | exact .sli rfl | exact .sls rfl | exact .slr rfl | exact .orow rfl | exact .nil) | ((first | apply w_lss | apply w_add | apply w_idx); iterate 3 exact rfl) | (apply w_idxo; exact rfl; exact rfl; (exact .sli rfl); exact rfl) | (apply w_sti; exact rfl; exact rfl; rotate_left 1; exact rfl; rotate_left 2) | (apply inI_of <;> omega) | omega)
  · have e2 : (iota k i ++ xs.drop i).set ((i : Int)).toNat (k + i) = iota k (i + 1) ++ xs.drop (i + 1) := mark_step k xs i (by omega)
    exact ⟨i + 1, by omega, by omega, ⟨lee rfl (by (repeat (first | exact le_nil | refine le_eq rfl rfl ?_ | refine le_eq rfl (congrArg AV.i (by omega)) ?_))), by (repeat (first | exact lo_nil | refine lo_eq rfl ?_ | refine lo_eq (congrArg (AO.sli _) (e2)) ?_)), rfl, rfl⟩⟩
  · have e : i = xs.length := by omega
    subst e
    exact ⟨_, _, .int Try.results26 rfl rfl, ⟨rfl, rfl⟩, by simp, rfl, by simp [AO.plain]⟩

theorem heldInt64S_c (n : Nat) (k : Int) (hq : 0 ≤ k ∧ k ≤ 9007199254740992) (hl : n ≤ 9007199254740992) : AFnV Try.prog 27 [.ints (iota k n), .i k] (.int .i64 (k + n)) := by
  (refine AFnV.start Try.func27 Try.ntmps27 rfl (by kernel_rfl) fun hk => ?_; simp only [Env.start, enumF, List.length_cons, List.length_nil, Nat.reduceAdd, Nat.reduceSub, List.cons_append, List.nil_append])
  repeat' (first | (apply AOps.nil; try simp only [List.nil_append, List.cons_append, List.set_cons_zero, List.set_cons_succ, List.length_cons, List.length_nil, Nat.reduceAdd, AV.sh, AV.sh1, AV.sh0, AO.sh, List.map_cons, List.map_nil, Nat.zero_add, Nat.add_zero, setAll]) | (apply w_assign; exact rfl; exact rfl) | apply AWp.seq | apply AWp.region | apply AWp.block)
  refine AWp.loop (ι := Nat) (fun i => ⟨21, [(0, .ints (iota k n)), (1, .i (k + i)), (5, .i i)]⟩) (fun i => []) (fun i => i ≤ n) (fun i => n - i) 0 (by omega) ⟨lee rfl (by (repeat (first | exact le_nil | refine le_eq rfl rfl ?_ | refine le_eq rfl (congrArg AV.i (by omega)) ?_))), by (repeat (exact lo_nil)), rfl, rfl⟩ ?_
  rintro i h0
  have e1 := iota_len k n
  repeat' (first | (apply AOps.nil; try simp only [List.nil_append, List.cons_append, List.set_cons_zero, List.set_cons_succ, List.length_cons, List.length_nil, Nat.reduceAdd, AV.sh, AV.sh1, AV.sh0, AO.sh, List.map_cons, List.map_nil, Nat.zero_add, Nat.add_zero, setAll]) | (apply w_move; exact rfl; exact rfl) | (apply w_assign; exact rfl; exact rfl) | apply AWp.seq | apply AWp.region | ((apply AWp.condP; exact rfl) <;> intro h) | apply AWp.block | apply AWp.ret | apply AWp.exit | apply AWp.skip | (apply w_len; exact rfl; exact rfl; first | exact .ints _ | exact .intss _ | exact .sli rfl | exact .sls rfl | exact .slr rfl | exact .orow rfl | exact .nil) | ((first | apply w_lss | apply w_neq | apply w_add | apply w_idx | apply w_ld); iterate 3 exact rfl) | (apply inI_of <;> omega) | omega)
  · exact absurd (iota_get k n i (by omega)) (by assumption)
  · exact ⟨i + 1, by omega, by omega, ⟨lee rfl (by (repeat (first | exact le_nil | refine le_eq rfl rfl ?_ | refine le_eq rfl (congrArg AV.i (by omega)) ?_))), by (repeat (exact lo_nil)), rfl, rfl⟩⟩
  · have e : i = n := by omega
    subst e
    exact .int Try.results27 rfl rfl

end Go.Proofs.Ytfaeiphgenddkaa
/-
  Marks written into lists of lists. No condition but a bound on the sizes.
-/
namespace Go.Proofs.Ytfaeiphgenddkaa
open Go Go.RowKit
attribute [local irreducible] AWp AOps ResIs Ret1 QOp LOp COp AFnV AFn Imms LeE LeO
set_option maxHeartbeats 1000000
set_option linter.unusedSimpArgs false
set_option linter.unusedVariables false

/-! ### Marks -/
/-- How many entries the first i rows have. -/
def cnt (xss : List (List Int)) : Nat → Nat
  | 0 => 0
  | i + 1 => cnt xss i + (gets xss i).length
/-- The first i rows marked, from k on. -/
def mrk (xss : List (List Int)) (k : Int) (i : Nat) : List (List Int) := (List.range xss.length).map fun j => if j < i then iota (k + cnt xss j) (gets xss j).length else gets xss j

theorem mrk_len (xss : List (List Int)) (k : Int) (i : Nat) : (mrk xss k i).length = xss.length := by simp [mrk]
theorem mrk_zero (xss : List (List Int)) (k : Int) : mrk xss k 0 = xss := by
  apply List.ext_getElem?
  intro j
  simp only [mrk, List.getElem?_map, Nat.not_lt_zero, if_false]
  by_cases h : j < xss.length
  · simp [h, gets]
  · rw [List.getElem?_eq_none (by simp; omega), List.getElem?_eq_none (by omega)]; rfl
theorem mrk_get (xss : List (List Int)) (k : Int) (i j : Nat) (h : j < xss.length) : (mrk xss k i).getD j [] = if j < i then iota (k + cnt xss j) (gets xss j).length else gets xss j := by
  simp [mrk, List.getD_eq_getElem?_getD, h]
theorem mrk_gets (xss : List (List Int)) (k : Int) (i j : Nat) (h : j < xss.length) : gets (mrk xss k i) (j : Nat) = if j < i then iota (k + cnt xss j) (gets xss j).length else gets xss j := by
  unfold gets
  rw [Int.toNat_natCast]
  exact mrk_get xss k i j h
theorem mrk_set (xss : List (List Int)) (k : Int) (i : Nat) (h : i < xss.length) : (mrk xss k i).set i (iota (k + cnt xss i) (gets xss i).length) = mrk xss k (i + 1) := by
  apply List.ext_getElem?
  intro j
  rw [List.getElem?_set, mrk_len]
  by_cases e : i = j
  · subst e
    simp [h, mrk]
  · rw [if_neg e]
    simp only [mrk, List.getElem?_map]
    by_cases h2 : j < xss.length
    · simp only [List.getElem?_range h2, Option.map_some]
      by_cases h3 : j < i
      · rw [if_pos h3, if_pos (by omega)]
      · rw [if_neg h3, if_neg (by omega)]
    · rw [List.getElem?_eq_none (by simp; omega)]
      rfl
theorem cnt_mono (xss : List (List Int)) (i : Nat) : ∀ j, cnt xss i ≤ cnt xss (i + j)
  | 0 => Nat.le_refl _
  | j + 1 => by have := cnt_mono xss i j; rw [← Nat.add_assoc, cnt]; omega

theorem markInt64SS_c (T T2 : TypeId) (xss : List (List Int)) (k : Int) (hq : 0 ≤ k ∧ k ≤ 4503599627370496) (hl : cnt xss xss.length ≤ 4503599627370496) (hx : xss.length ≤ 4503599627370496) :
    AFnU Try.prog 11 [.own 0, .i k] [.sls T T2 xss] (fun v os => v = .int .i64 (k + cnt xss xss.length) ∧ os = [.sls T T2 (mrk xss k xss.length)]) := by
  (refine AFnU.start Try.func11 Try.ntmps11 rfl (by kernel_rfl) fun K => ?_; simp only [Env.start, enumF, List.length_cons, List.length_nil, Nat.reduceAdd, Nat.reduceSub, List.cons_append, List.nil_append])
  repeat' (first | (apply AOps.nil; try simp only [List.nil_append, List.cons_append, List.set_cons_zero, List.set_cons_succ, List.length_cons, List.length_nil, Nat.reduceAdd, AV.sh, AV.sh1, AV.sh0, AO.sh, List.map_cons, List.map_nil, Nat.zero_add, Nat.add_zero, setAll]) | (apply w_assign; exact rfl; exact rfl) | apply AWp.seq | apply AWp.region | apply AWp.block)
  refine AWp.loop (ι := Nat) (fun i => ⟨19, [(0, .own 0), (1, .i (k + cnt xss i)), (5, .i i)]⟩) (fun i => [.sls T T2 (mrk xss k i), .keep 2 K]) (fun i => i ≤ xss.length) (fun i => xss.length - i) 0 (by omega) ⟨lee rfl (by (repeat (first | exact le_nil | refine le_eq rfl rfl ?_ | refine le_eq rfl (congrArg AV.i ((Int.add_zero k).symm)) ?_))), by (repeat (first | exact lo_nil | refine lo_eq rfl ?_ | refine lo_eq (congrArg (AO.sls _ _) ((mrk_zero xss k).symm)) ?_)), rfl, rfl⟩ ?_
  rintro i h0
  have e1 := mrk_len xss k i
  by_cases hi : i < xss.length
  · have c1 : cnt xss i ≤ cnt xss xss.length := by have := cnt_mono xss i (xss.length - i); rwa [show i + (xss.length - i) = xss.length by omega] at this
    have c2 : cnt xss (i + 1) ≤ cnt xss xss.length := by have := cnt_mono xss (i + 1) (xss.length - (i + 1)); rwa [show i + 1 + (xss.length - (i + 1)) = xss.length by omega] at this
    have c3 : cnt xss (i + 1) = cnt xss i + (gets xss i).length := rfl
    have e2 : (mrk xss k i).getD i [] = gets xss i := by rw [mrk_get xss k i i hi, if_neg (by omega)]
    have e2' : (mrk xss k i).getD ((i : Int)).toNat [] = gets xss i := e2
    have hm := markInt64S_c T2 ((mrk xss k i).getD ((i : Int)).toNat []) (k + cnt xss i) (by omega) (by rw [e2']; omega)
    have e3 : (mrk xss k i).set ((i : Int)).toNat (iota (k + cnt xss i) ((mrk xss k i).getD ((i : Int)).toNat []).length) = mrk xss k (i + 1) := by rw [e2']; exact mrk_set xss k i hi
    have e4 : k + (cnt xss i : Int) + (((mrk xss k i).getD ((i : Int)).toNat []).length : Int) = k + (cnt xss (i + 1) : Int) := by rw [e2', c3]; omega
    repeat' (first | (apply AOps.nil; try simp only [List.nil_append, List.cons_append, List.set_cons_zero, List.set_cons_succ, List.length_cons, List.length_nil, Nat.reduceAdd, AV.sh, AV.sh1, AV.sh0, AO.sh, List.map_cons, List.map_nil, Nat.zero_add, Nat.add_zero, setAll]) | (apply w_move; exact rfl; exact rfl) | (apply w_assign; exact rfl; exact rfl) | apply AWp.seq | apply AWp.region | ((apply AWp.condP; exact rfl) <;> intro h) | apply AWp.block | apply AWp.ret | apply AWp.exit | apply AWp.skip | (apply w_len; exact rfl; exact rfl; first | exact .ints _ | exact .intss _ | exact .sli rfl | exact .sls rfl | exact .slr rfl | exact .orow rfl | exact .nil) | (apply w_callrow; exact rfl; exact rfl; exact rfl; exact (hm); (focus (rintro v os0 ⟨rfl, rfl⟩; exact ⟨_, rfl⟩)); rintro v row0 ⟨rfl, hrow0⟩; cases hrow0; try simp only [List.nil_append, List.cons_append, List.set_cons_zero, List.set_cons_succ, List.length_cons, List.length_nil, Nat.reduceAdd, AV.sh, AV.sh1, AV.sh0, AO.sh, List.map_cons, List.map_nil, Nat.zero_add, Nat.add_zero, setAll]) | ((first | apply w_lss | apply w_add | apply w_idx | apply w_ld); iterate 3 exact rfl) | (apply w_idxo; exact rfl; exact rfl; (exact .sls rfl); exact rfl) | (apply w_ldls; iterate 4 exact rfl) | (apply inI_of <;> omega) | omega)
    all_goals exact ⟨i + 1, by omega, by omega, ⟨lee rfl (by (repeat (first | exact le_nil | refine le_eq rfl rfl ?_ | refine le_eq rfl (congrArg AV.i (by omega)) ?_))), by (repeat (first | exact lo_nil | refine lo_eq rfl ?_ | refine lo_eq (congrArg (AO.sls _ _) (e3)) ?_)), rfl, rfl⟩⟩
  · repeat' (first | (apply AOps.nil; try simp only [List.nil_append, List.cons_append, List.set_cons_zero, List.set_cons_succ, List.length_cons, List.length_nil, Nat.reduceAdd, AV.sh, AV.sh1, AV.sh0, AO.sh, List.map_cons, List.map_nil, Nat.zero_add, Nat.add_zero, setAll]) | (apply w_move; exact rfl; exact rfl) | (apply w_assign; exact rfl; exact rfl) | apply AWp.seq | apply AWp.region | ((apply AWp.condP; exact rfl) <;> intro h) | apply AWp.block | apply AWp.ret | apply AWp.exit | apply AWp.skip | (apply w_len; exact rfl; exact rfl; first | exact .ints _ | exact .intss _ | exact .sli rfl | exact .sls rfl | exact .slr rfl | exact .orow rfl | exact .nil) | omega | ((apply w_lss); iterate 3 exact rfl))
    have e : i = xss.length := by omega
    subst e
    exact ⟨_, _, .int Try.results11 rfl rfl, ⟨rfl, rfl⟩, by simp, rfl, by simp [AO.plain]⟩

theorem heldInt64SS_c (xss : List (List Int)) (k : Int) (hq : 0 ≤ k ∧ k ≤ 4503599627370496) (hl : cnt xss xss.length ≤ 4503599627370496) (hx : xss.length ≤ 4503599627370496) :
    AFnV Try.prog 12 [.intss (mrk xss k xss.length), .i k] (.int .i64 (k + cnt xss xss.length)) := by
  (refine AFnV.start Try.func12 Try.ntmps12 rfl (by kernel_rfl) fun hk => ?_; simp only [Env.start, enumF, List.length_cons, List.length_nil, Nat.reduceAdd, Nat.reduceSub, List.cons_append, List.nil_append])
  repeat' (first | (apply AOps.nil; try simp only [List.nil_append, List.cons_append, List.set_cons_zero, List.set_cons_succ, List.length_cons, List.length_nil, Nat.reduceAdd, AV.sh, AV.sh1, AV.sh0, AO.sh, List.map_cons, List.map_nil, Nat.zero_add, Nat.add_zero, setAll]) | (apply w_assign; exact rfl; exact rfl) | apply AWp.seq | apply AWp.region | apply AWp.block)
  refine AWp.loop (ι := Nat) (fun i => ⟨21, [(0, .intss (mrk xss k xss.length)), (1, .i (k + cnt xss i)), (5, .i i)]⟩) (fun i => []) (fun i => i ≤ xss.length) (fun i => xss.length - i) 0 (by omega) ⟨lee rfl (by (repeat (first | exact le_nil | refine le_eq rfl rfl ?_ | refine le_eq rfl (congrArg AV.i ((Int.add_zero k).symm)) ?_))), by (repeat (exact lo_nil)), rfl, rfl⟩ ?_
  rintro i h0
  have e1 := mrk_len xss k xss.length
  by_cases hi : i < xss.length
  · have c1 : cnt xss i ≤ cnt xss xss.length := by have := cnt_mono xss i (xss.length - i); rwa [show i + (xss.length - i) = xss.length by omega] at this
    have c2 : cnt xss (i + 1) ≤ cnt xss xss.length := by have := cnt_mono xss (i + 1) (xss.length - (i + 1)); rwa [show i + 1 + (xss.length - (i + 1)) = xss.length by omega] at this
    have c3 : cnt xss (i + 1) = cnt xss i + (gets xss i).length := rfl
    have e2 := mrk_gets xss k xss.length i hi
    rw [if_pos hi] at e2
    have hm := heldInt64S_c (gets xss i).length (k + cnt xss i) (by omega) (by omega)
    rw [← e2] at hm
    have e4 : k + (cnt xss i : Int) + ((gets xss i).length : Int) = k + (cnt xss (i + 1) : Int) := by rw [c3]; omega
    repeat' (first | (apply AOps.nil; try simp only [List.nil_append, List.cons_append, List.set_cons_zero, List.set_cons_succ, List.length_cons, List.length_nil, Nat.reduceAdd, AV.sh, AV.sh1, AV.sh0, AO.sh, List.map_cons, List.map_nil, Nat.zero_add, Nat.add_zero, setAll]) | (apply w_move; exact rfl; exact rfl) | (apply w_assign; exact rfl; exact rfl) | apply AWp.seq | apply AWp.region | ((apply AWp.condP; exact rfl) <;> intro h) | apply AWp.block | apply AWp.ret | apply AWp.exit | apply AWp.skip | (apply w_len; exact rfl; exact rfl; first | exact .ints _ | exact .intss _ | exact .sli rfl | exact .sls rfl | exact .slr rfl | exact .orow rfl | exact .nil) | (apply w_call (hm); exact rfl; exact rfl; focus ((repeat (first | exact im_nil | refine im_cons rfl (.val _) ?_ | refine im_cons rfl (.ints _) ?_)); done)) | omega | ((first | apply w_lss | apply w_add | apply w_idx | apply w_ld); iterate 3 exact rfl) | ((first | apply w_idxs | apply w_lds); iterate 3 exact rfl) | (apply inI_of <;> omega))
    all_goals exact ⟨i + 1, by omega, by omega, ⟨lee rfl (by (repeat (first | exact le_nil | refine le_eq rfl rfl ?_ | refine le_eq rfl (congrArg AV.i (by omega)) ?_))), by (repeat (exact lo_nil)), rfl, rfl⟩⟩
  · repeat' (first | (apply AOps.nil; try simp only [List.nil_append, List.cons_append, List.set_cons_zero, List.set_cons_succ, List.length_cons, List.length_nil, Nat.reduceAdd, AV.sh, AV.sh1, AV.sh0, AO.sh, List.map_cons, List.map_nil, Nat.zero_add, Nat.add_zero, setAll]) | (apply w_move; exact rfl; exact rfl) | (apply w_assign; exact rfl; exact rfl) | apply AWp.seq | apply AWp.region | ((apply AWp.condP; exact rfl) <;> intro h) | apply AWp.block | apply AWp.ret | apply AWp.exit | apply AWp.skip | (apply w_len; exact rfl; exact rfl; first | exact .ints _ | exact .intss _ | exact .sli rfl | exact .sls rfl | exact .slr rfl | exact .orow rfl | exact .nil) | omega | ((apply w_lss); iterate 3 exact rfl))
    have e : i = xss.length := by omega
    subst e
    exact .int Try.results12 rfl rfl

theorem cnt_le {xss : List (List Int)} {B : Nat} (h : ∀ xs ∈ xss, xs.length ≤ B) : ∀ i, cnt xss i ≤ i * B
  | 0 => by simp [cnt]
  | i + 1 => by
    have ih := cnt_le h i
    have : (gets xss i).length ≤ B := by
      by_cases hi : i < xss.length
      · exact h _ (gets_mem (by omega) (by omega))
      · simp [gets, List.getElem?_eq_none (show xss.length ≤ i by omega)]
    rw [cnt, Nat.add_mul]
    omega

/-- A new slice of rows, and a code. -/
def IsSSC (T T2 : TypeId) (xss : List (List Int)) (e : Int) (r : AV) (os : List AO) : Prop := r = .tup [.own 0, .i e] ∧ os = [.sls T T2 xss]
end Go.Proofs.Ytfaeiphgenddkaa
