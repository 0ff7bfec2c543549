/-
  Parts of the proof, one behind the other: contracts of functions and plain laws. No condition.
-/
import Derived.Test.YthlfdhooiekgjaaPt4FnAreas
/-
  The stable sort of the library: merges where one part has one element, walked. No condition.
-/
set_option linter.unusedSimpArgs false
set_option linter.unusedVariables false
namespace Go.Proofs.Ythlfdhooiekgjaa
open Go Go.RowKit Go.Lib Go.Sort Go.Shelf
variable {α : Type} [Inhabited α]

set_option maxHeartbeats 16000000 in
set_option maxRecDepth 1000000 in
theorem symMerge_l (enc : α → Value) (cf : α → α → Int) (hO : SWO (ltOf cf)) (g : Nat) (cb : Array Value) (blk off cap a b : Nat) (d0 d : Array α) (w0 w : World)
    (eg : ∀ args w, (callFunc g args).run Try.prog w = .ok (.enter g args) w) (hcmp : CmpLays1 Try.prog g cb enc cf blk off d0.size w0) (R : Row1 enc w0 blk off d0) (hs : d0.size = d.size) (S : SW enc w0 blk off d w) (hab : a + 1 < b) (hb : b ≤ d.size) (hsz : d.size < 4611686018427387904) (hsr : SortedIn (ltOf cf) (a + 1) b d) :
    Calls Try.prog 93 #[.slice (some ⟨blk, off, none⟩) d.size cap, .int .i64 a, .int .i64 ((a + 1 : Nat)), .int .i64 b, .func (.func g) #[] cb] w fun e w' => e = .returned (.tuple #[]) ∧ ∃ d', d'.size = d.size ∧ PermIn a b d d' ∧ SortedIn (ltOf cf) a b d' ∧ SW enc w0 blk off d' w' := by
  have mixed : Try.prog.follows Departure.mixedOrders = true := by kernel_rfl
  have hcl0 := R.hO.cells
  simp only [Value.cells] at hcl0
  have hst := R.hO.store Try.prog
  have HC : Aside _ := hcmp
  have S0 : Aside (SW enc w0 blk off d w) := S
  have HS : Aside (SortedIn (ltOf cf) (a + 1) b d) := hsr
  clear S hcmp hsr
  obtain ⟨m, hm⟩ : ∃ m, m = a + 1 := ⟨_, rfl⟩
  have z1 : (m : Int) - (a : Int) = 1 := by omega
  have hm1 : m ≤ a + 1 := by omega
  have hm2 : a + 1 ≤ m := by omega
  rw [← hm]
  clear hm
  go_enter Try.func93, Try.ntmps93
  go_wp2
  go_loopg [10, 11] (b - a) (fun g1 vi vj wr => ∃ (i j : Nat), vi = .int .i64 i ∧ vj = .int .i64 j ∧ m ≤ i ∧ i ≤ j ∧ j ≤ b ∧ j - i ≤ g1 ∧ Aside (SW enc w0 blk off d wr) ∧ Hid ((m < i → ltOf cf d[i - 1]! d[a]! = true) ∧ (j < b → ltOf cf d[j]! d[a]! = false)))
  case atStart => exact ⟨m, b, rfl, rfl, by omega, by omega, by omega, by omega, S0, (show Hid _ from ⟨fun h => by omega, fun h => by omega⟩)⟩
  case round =>
    clear S0
    obtain ⟨i, j, rfl, rfl, hi, hij, hj, hg1, S1, HO⟩ := hrel
    by_cases hlt : i < j
    · have hltz : (i : Int) < (j : Int) := by omega
      go_wp2_with fail
      obtain ⟨h, hh⟩ : ∃ h, h = (i + j) / 2 := ⟨_, rfl⟩
      have ez : ((i : Int) + (j : Int)) / 2 = (h : Int) := by omega
      rw [ez]
      have hb1 : i ≤ h ∧ h < j := by omega
      clear ez hh
      have bh : (h : Int) < (d.size : Int) := by omega
      have ba : (a : Int) < (d.size : Int) := by omega
      obtain ⟨x, hx⟩ : ∃ x, x = d[h]! := ⟨_, rfl⟩
      obtain ⟨y, hy⟩ : ∃ x, x = d[a]! := ⟨_, rfl⟩
      have la := S1.out.cl R hs.symm h (by omega)
      have lb := S1.out.cl R hs.symm a (by omega)
      rw [← hx] at la
      rw [← hy] at lb
      have hcc := S1.out.cmp HC.out hs.symm x y
      by_cases hv : cf x y < 0
      · have hd : decide (cf x y < 0) = true := decide_eq_true hv
        have HO2 : Hid ((m < h + 1 → ltOf cf d[h + 1 - 1]! d[a]! = true) ∧ (j < b → ltOf cf d[j]! d[a]! = false)) :=
          (show Hid _ from ⟨fun _ => by rw [Nat.add_sub_cancel, ← hx, ← hy]; exact hd, HO.out.2⟩)
        clear HO hx hy
        go_quiet_grown (first | (go_at_fn g; refine Calls.grown_of (hcc _ _)))
        have S2 : Aside (SW enc w0 blk off d (grow (wr.drewN nq) osq)) := S1.out.grown nq osq
        clear la lb hcc S1
        generalize grow (wr.drewN nq) osq = w2 at S2 ⊢
        clear nq osq
        go_wp2
        go_roundg (j - (h + 1))
        case measure => omega
        case rel => exact ⟨h + 1, j, by go_num, rfl, by omega, by omega, by omega, by omega, S2, HO2⟩
      · have hd : decide (cf x y < 0) = false := decide_eq_false hv
        have HO2 : Hid ((m < i → ltOf cf d[i - 1]! d[a]! = true) ∧ (h < b → ltOf cf d[h]! d[a]! = false)) :=
          (show Hid _ from ⟨HO.out.1, fun _ => by rw [← hx, ← hy]; exact hd⟩)
        clear HO hx hy
        go_quiet_grown (first | (go_at_fn g; refine Calls.grown_of (hcc _ _)))
        have S2 : Aside (SW enc w0 blk off d (grow (wr.drewN nq) osq)) := S1.out.grown nq osq
        clear la lb hcc S1
        generalize grow (wr.drewN nq) osq = w2 at S2 ⊢
        clear nq osq
        go_wp2
        go_roundg (h - i)
        case measure => omega
        case rel => exact ⟨i, h, rfl, by go_num, by omega, by omega, by omega, by omega, S2, HO2⟩
    · have hltz : ¬ (i : Int) < (j : Int) := by omega
      obtain rfl : i = j := by omega
      have HF : Hid (Stb.Sd (ltOf cf) a b (Stb.rtF a (a + 1) i (fun k => d[k]!))) :=
        (show Hid _ from Stb.one_left hO ((Stb.sd_of (fun k => rfl)).1 HS.out) (by omega) (fun h => HO.out.1 (by omega)) (fun h => HO.out.2 h))
      clear HO
      go_wp2
      go_loopg [13] (i - a) (fun g1 vk wr => ∃ (k : Nat) (dk : Array α), vk = .int .i64 k ∧ a ≤ k ∧ k + 1 ≤ i ∧ i - k ≤ g1 + 1 ∧ dk.size = d.size ∧ Aside (SW enc w0 blk off dk wr) ∧ Hid (PermIn a b d dk ∧ Stb.Is dk (Stb.rtF a (a + 1) (k + 1) (fun k => d[k]!))))
      case atStart => exact ⟨a, d, by go_num, by omega, by omega, by omega, rfl, S1, (show Hid _ from ⟨permIn_refl _ _ _, fun k => by rw [Stb.rt_id2]⟩)⟩
      case round =>
        clear S1
        obtain ⟨k, dk, rfl, hk1, hk2, hg2, hsk, S1, HO⟩ := hrel
        have wi : IntKind.i64.wrap ((i : Int) - 1) = (i : Int) - 1 := by rw [IntKind.wrap_i64]; omega
        by_cases hlk : k + 1 < i
        · have hlkz : (k : Int) < (i : Int) - 1 := by omega
          go_wp2
          have pa : (0 : Int) ≤ (k : Int) + 1 := by omega
          have ba : (k : Int) < (d.size : Int) := by omega
          have ra : IntKind.i64.wrap ((k : Int) + 1) = (k : Int) + 1 := by rw [IntKind.wrap_i64]; omega
          obtain ⟨jN, hjN⟩ : ∃ q, q = k + 1 := ⟨_, rfl⟩
          have ec : ((k : Int) + 1).toNat = jN := by omega
          have bc : (k : Int) + 1 < (d.size : Int) := by omega
          obtain ⟨x, hx⟩ : ∃ x, x = dk[k]! := ⟨_, rfl⟩
          obtain ⟨y, hy⟩ : ∃ x, x = dk[k + 1]! := ⟨_, rfl⟩
          have S3 : Aside (SW enc w0 blk off (swp dk k (k + 1)) ((wr.setCell ⟨blk, off + k, none⟩ (enc y)).setCell ⟨blk, off + jN, none⟩ (enc x)).drew) := by rw [hjN, hx, hy]; exact S1.out.swapped R k (k + 1) (by omega) (by omega)
          have ca := S1.out.c1 R (by omega) k (by omega)
          have cb' := S1.out.c1 R (by omega) (k + 1) (by omega)
          have fa := S1.out.f1 R (by omega) k (by omega)
          have fb := S1.out.f1 R (by omega) (k + 1) (by omega)
          obtain ⟨u, cc⟩ := S1.out.c2 R (by omega) k (k + 1) (by omega) (by omega) (enc y)
          have HO2 : Hid (PermIn a b d (swp dk k (k + 1)) ∧ Stb.Is (swp dk k (k + 1)) (Stb.rtF a (a + 1) (k + 2) (fun k => d[k]!))) :=
            (show Hid _ from ⟨permIn_trans _ _ _ _ _ HO.out.1 (swp_permIn _ _ _ _ _ (by omega) (by omega) (by omega) (by omega) (by omega)), Stb.rot_up HO.out.2 hk1 (by omega)⟩)
          rw [← hjN] at cc
          rw [← hx] at ca
          rw [← hy, ← hjN] at cb'
          rw [← hjN] at fb
          clear S1 HO hx hy hjN
          go_wp2_with fail
          go_big_region_o
          clear ca cb' cc fa fb
          generalize ((wr.setCell ⟨blk, off + k, none⟩ (enc y)).setCell ⟨blk, off + jN, none⟩ (enc x)).drew = w3 at S3 ⊢
          clear ec
          go_wp2
          go_roundg (i - (k + 1) - 1)
          case measure => omega
          case rel => exact ⟨k + 1, swp dk k (k + 1), by go_num, by omega, by omega, by omega, by rw [size_swp]; exact hsk, S3, HO2⟩
        · have hlkz : ¬ (k : Int) < (i : Int) - 1 := by omega
          obtain rfl : i = k + 1 := by omega
          go_wp2
          (try simp only [Exit.inBlock, Exit.then])
          refine bodyPost_ret (results_none rfl _ _ _) rfl ?_
          exact ⟨rfl, dk, hsk, HO.out.1, (Stb.sd_of HO.out.2).2 HF.out, S1.out⟩

set_option maxHeartbeats 16000000 in
set_option maxRecDepth 1000000 in
theorem symMerge_r (enc : α → Value) (cf : α → α → Int) (hO : SWO (ltOf cf)) (g : Nat) (cb : Array Value) (blk off cap a m : Nat) (d0 d : Array α) (w0 w : World)
    (eg : ∀ args w, (callFunc g args).run Try.prog w = .ok (.enter g args) w) (hcmp : CmpLays1 Try.prog g cb enc cf blk off d0.size w0) (R : Row1 enc w0 blk off d0) (hs : d0.size = d.size) (S : SW enc w0 blk off d w) (hab : a + 1 < m) (hb0 : m + 1 ≤ d.size) (hsz : d.size < 4611686018427387904) (hsr : SortedIn (ltOf cf) a m d) :
    Calls Try.prog 93 #[.slice (some ⟨blk, off, none⟩) d.size cap, .int .i64 a, .int .i64 m, .int .i64 ((m + 1 : Nat)), .func (.func g) #[] cb] w fun e w' => e = .returned (.tuple #[]) ∧ ∃ d', d'.size = d.size ∧ PermIn a (m + 1) d d' ∧ SortedIn (ltOf cf) a (m + 1) d' ∧ SW enc w0 blk off d' w' := by
  have mixed : Try.prog.follows Departure.mixedOrders = true := by kernel_rfl
  have hcl0 := R.hO.cells
  simp only [Value.cells] at hcl0
  have hst := R.hO.store Try.prog
  have HC : Aside _ := hcmp
  have S0 : Aside (SW enc w0 blk off d w) := S
  have HS : Aside (SortedIn (ltOf cf) a m d) := hsr
  clear S hcmp hsr
  obtain ⟨b, hm⟩ : ∃ b, b = m + 1 := ⟨_, rfl⟩
  have z1 : ¬ (m : Int) - (a : Int) = 1 := by omega
  have z2 : (b : Int) - (m : Int) = 1 := by omega
  have z1b : ((m : Int) - (a : Int) == 1) = false := beq_false_of_ne z1
  have z2b : ((b : Int) - (m : Int) == 1) = true := by rw [z2]; rfl
  have hm1 : b ≤ m + 1 := by omega
  have hm2 : m + 1 ≤ b := by omega
  have HE : Aside (b = m + 1) := hm
  have hb : b ≤ d.size := by omega
  rw [show ((m + 1 : Nat) : Int) = (b : Int) by omega]
  clear hm
  go_enter Try.func93, Try.ntmps93
  go_wp2
  go_loopg [14, 15] (m - a) (fun g1 vi vj wr => ∃ (i j : Nat), vi = .int .i64 i ∧ vj = .int .i64 j ∧ a ≤ i ∧ i ≤ j ∧ j ≤ m ∧ j - i ≤ g1 ∧ Aside (SW enc w0 blk off d wr) ∧ Hid ((a < i → ltOf cf d[m]! d[i - 1]! = false) ∧ (j < m → ltOf cf d[m]! d[j]! = true)))
  case atStart => exact ⟨a, m, rfl, rfl, by omega, by omega, by omega, by omega, S0, (show Hid _ from ⟨fun h => by omega, fun h => by omega⟩)⟩
  case round =>
    clear S0
    obtain ⟨i, j, rfl, rfl, hi, hij, hj, hg1, S1, HO⟩ := hrel
    by_cases hlt : i < j
    · have hltz : (i : Int) < (j : Int) := by omega
      go_wp2_with fail
      obtain ⟨h, hh⟩ : ∃ h, h = (i + j) / 2 := ⟨_, rfl⟩
      have ez : ((i : Int) + (j : Int)) / 2 = (h : Int) := by omega
      rw [ez]
      have hb1 : i ≤ h ∧ h < j := by omega
      clear ez hh
      have bh : (h : Int) < (d.size : Int) := by omega
      have ba : (m : Int) < (d.size : Int) := by omega
      obtain ⟨x, hx⟩ : ∃ x, x = d[m]! := ⟨_, rfl⟩
      obtain ⟨y, hy⟩ : ∃ x, x = d[h]! := ⟨_, rfl⟩
      have la := S1.out.cl R hs.symm m (by omega)
      have lb := S1.out.cl R hs.symm h (by omega)
      rw [← hx] at la
      rw [← hy] at lb
      have hcc := S1.out.cmp HC.out hs.symm x y
      by_cases hv : cf x y < 0
      · have hd : decide (cf x y < 0) = true := decide_eq_true hv
        have HO2 : Hid ((a < i → ltOf cf d[m]! d[i - 1]! = false) ∧ (h < m → ltOf cf d[m]! d[h]! = true)) :=
          (show Hid _ from ⟨HO.out.1, fun _ => by rw [← hx, ← hy]; exact hd⟩)
        clear HO hx hy
        go_quiet_grown (first | (go_at_fn g; refine Calls.grown_of (hcc _ _)))
        have S2 : Aside (SW enc w0 blk off d (grow (wr.drewN nq) osq)) := S1.out.grown nq osq
        clear la lb hcc S1
        generalize grow (wr.drewN nq) osq = w2 at S2 ⊢
        clear nq osq
        go_wp2
        go_roundg (h - i)
        case measure => omega
        case rel => exact ⟨i, h, rfl, by go_num, by omega, by omega, by omega, by omega, S2, HO2⟩
      · have hd : decide (cf x y < 0) = false := decide_eq_false hv
        have HO2 : Hid ((a < h + 1 → ltOf cf d[m]! d[h + 1 - 1]! = false) ∧ (j < m → ltOf cf d[m]! d[j]! = true)) :=
          (show Hid _ from ⟨fun _ => by rw [Nat.add_sub_cancel, ← hx, ← hy]; exact hd, HO.out.2⟩)
        clear HO hx hy
        go_quiet_grown (first | (go_at_fn g; refine Calls.grown_of (hcc _ _)))
        have S2 : Aside (SW enc w0 blk off d (grow (wr.drewN nq) osq)) := S1.out.grown nq osq
        clear la lb hcc S1
        generalize grow (wr.drewN nq) osq = w2 at S2 ⊢
        clear nq osq
        go_wp2
        go_roundg (j - (h + 1))
        case measure => omega
        case rel => exact ⟨h + 1, j, by go_num, rfl, by omega, by omega, by omega, by omega, S2, HO2⟩
    · have hltz : ¬ (i : Int) < (j : Int) := by omega
      obtain rfl : i = j := by omega
      have HF : Hid (Stb.Sd (ltOf cf) a (m + 1) (Stb.rtF i m (m + 1) (fun k => d[k]!))) :=
        (show Hid _ from Stb.one_right hO ((Stb.sd_of (fun k => rfl)).1 HS.out) (by omega) (fun h => HO.out.1 (by omega)) (fun h => HO.out.2 h))
      clear HO
      go_wp2
      go_loopg [17] (m - i) (fun g1 vk wr => ∃ (k : Nat) (dk : Array α), vk = .int .i64 k ∧ i ≤ k ∧ k ≤ m ∧ k - i ≤ g1 ∧ dk.size = d.size ∧ Aside (SW enc w0 blk off dk wr) ∧ Hid (PermIn a (m + 1) d dk ∧ Stb.Is dk (Stb.rtF k m (m + 1) (fun k => d[k]!))))
      case atStart => exact ⟨m, d, by go_num, by omega, by omega, by omega, rfl, S1, (show Hid _ from ⟨permIn_refl _ _ _, fun k => by rw [Stb.rt_id1]⟩)⟩
      case round =>
        clear S1
        obtain ⟨k', dk, rfl, hk1, hk2, hg2, hsk, S1, HO⟩ := hrel
        by_cases hlk : i < k'
        · obtain ⟨k, rfl⟩ : ∃ k, k' = k + 1 := ⟨k' - 1, by omega⟩
          have hlkz : (i : Int) < (k : Int) + 1 := by omega
          go_wp2
          have pa : (0 : Int) ≤ (k : Int) + 1 := by omega
          have ba : (k : Int) < (d.size : Int) := by omega
          have ra : IntKind.i64.wrap ((k : Int) + 1) = (k : Int) + 1 := by rw [IntKind.wrap_i64]; omega
          obtain ⟨jN, hjN⟩ : ∃ q, q = k + 1 := ⟨_, rfl⟩
          have ec : ((k : Int) + 1).toNat = jN := by omega
          have bc : (k : Int) + 1 < (d.size : Int) := by omega
          obtain ⟨x, hx⟩ : ∃ x, x = dk[k + 1]! := ⟨_, rfl⟩
          obtain ⟨y, hy⟩ : ∃ x, x = dk[k]! := ⟨_, rfl⟩
          have S3 : Aside (SW enc w0 blk off (swp dk (k + 1) k) ((wr.setCell ⟨blk, off + jN, none⟩ (enc y)).setCell ⟨blk, off + k, none⟩ (enc x)).drew) := by rw [hjN, hx, hy]; exact S1.out.swapped R (k + 1) k (by omega) (by omega)
          have ca := S1.out.c1 R (by omega) (k + 1) (by omega)
          have cb' := S1.out.c1 R (by omega) k (by omega)
          have fa := S1.out.f1 R (by omega) (k + 1) (by omega)
          have fb := S1.out.f1 R (by omega) k (by omega)
          obtain ⟨u, cc⟩ := S1.out.c2 R (by omega) (k + 1) k (by omega) (by omega) (enc y)
          have HO2 : Hid (PermIn a (m + 1) d (swp dk (k + 1) k) ∧ Stb.Is (swp dk (k + 1) k) (Stb.rtF k m (m + 1) (fun k => d[k]!))) :=
            (show Hid _ from ⟨permIn_trans _ _ _ _ _ HO.out.1 (swp_permIn _ _ _ _ _ (by omega) (by omega) (by omega) (by omega) (by omega)), Stb.rot_dn HO.out.2 (by omega) (by omega)⟩)
          rw [← hjN] at cc
          rw [← hx, ← hjN] at ca
          rw [← hy] at cb'
          rw [← hjN] at fa
          clear S1 HO hx hy hjN
          go_wp2_with fail
          go_big_region_o
          clear ca cb' cc fa fb
          generalize ((wr.setCell ⟨blk, off + jN, none⟩ (enc y)).setCell ⟨blk, off + k, none⟩ (enc x)).drew = w3 at S3 ⊢
          clear ec
          go_wp2
          go_roundg (k - i)
          case measure => omega
          case rel => exact ⟨k, swp dk (k + 1) k, by go_num, by omega, by omega, by omega, by rw [size_swp]; exact hsk, S3, HO2⟩
        · have hlkz : ¬ (i : Int) < (k' : Int) := by omega
          obtain rfl : i = k' := by omega
          go_wp2
          (try simp only [Exit.inBlock, Exit.then])
          refine bodyPost_ret (results_none rfl _ _ _) rfl ?_
          exact ⟨rfl, dk, hsk, HO.out.1, (Stb.sd_of HO.out.2).2 HF.out, S1.out⟩
end Go.Proofs.Ythlfdhooiekgjaa
/-
  The stable sort of the library: merges in general, walked. No condition.
-/
set_option linter.unusedSimpArgs false
set_option linter.unusedVariables false
namespace Go.Proofs.Ythlfdhooiekgjaa
open Go Go.RowKit Go.Lib Go.Sort Go.Shelf
variable {α : Type} [Inhabited α]

theorem Stb.fin {lt : α → α → Bool} {d1 d2 d3 : Array α} {a c b : Nat} (hac : a ≤ c) (hcb : c ≤ b) (hb : b ≤ d1.size) (hx : ∀ x y, a ≤ x → x < c → c ≤ y → y < b → lt d1[y]! d1[x]! = false)
    (p2 : PermIn a c d1 d2) (s2 : SortedIn lt a c d2) (p3 : PermIn c b d2 d3) (s3 : SortedIn lt c b d3) : SortedIn lt a b d3 := by
  have h2 : ∀ x y, a ≤ x → x < c → c ≤ y → y < b → lt d2[y]! d2[x]! = false := fun x y h1 h2 h3 h4 => by
    have := permIn_all d1 d2 a c (fun v => ∀ y, c ≤ y → y < b → lt d1[y]! v = false) (by omega) p2 (fun i hi hj y h3 h4 => hx i y hi hj h3 h4) x h1 h2 y h3 h4
    rw [p2.2.1 y (Or.inr h3)]; exact this
  have h3 : ∀ x y, a ≤ x → x < c → c ≤ y → y < b → lt d3[y]! d3[x]! = false := fun x y h1 h2' h3 h4 => by
    have hz : d2.size = d1.size := p2.1
    have := permIn_all d2 d3 c b (fun v => ∀ x, a ≤ x → x < c → lt v d2[x]! = false) (by omega) p3 (fun i hi hj x h1 h2' => h2 x i h1 h2' hi hj) y h3 h4 x h1 h2'
    rw [p3.2.1 x (Or.inl h2')]; exact this
  intro p q hp hpq hq
  by_cases c1 : q < c
  · rw [p3.2.1 q (Or.inl c1), p3.2.1 p (Or.inl (by omega))]; exact s2 p q hp hpq c1
  · by_cases c2 : p < c
    · exact h3 p q hp c2 (by omega) hq
    · exact s3 p q (by omega) hpq hq

/-- What a merge comes to. -/
def MergeOk (enc : α → Value) (cf : α → α → Int) (g : Nat) (cb : Array Value) (blk off cap : Nat) (d0 : Array α) (w0 : World) (a m b : Nat) (d : Array α) (w : World) : Prop :=
  Calls Try.prog 93 #[.slice (some ⟨blk, off, none⟩) d0.size cap, .int .i64 a, .int .i64 m, .int .i64 b, .func (.func g) #[] cb] w fun e w' => e = .returned (.tuple #[]) ∧ ∃ d', d'.size = d.size ∧ PermIn a b d d' ∧ SortedIn (ltOf cf) a b d' ∧ SW enc w0 blk off d' w'

set_option maxHeartbeats 64000000 in
set_option maxRecDepth 1000000 in
theorem symMerge_i (enc : α → Value) (cf : α → α → Int) (hO : SWO (ltOf cf)) (g : Nat) (cb : Array Value) (blk off cap a m b : Nat) (d0 d : Array α) (w0 w : World)
    (eg : ∀ args w, (callFunc g args).run Try.prog w = .ok (.enter g args) w) (hcmp : CmpLays1 Try.prog g cb enc cf blk off d0.size w0) (R : Row1 enc w0 blk off d0) (hs : d0.size = d.size) (S : SW enc w0 blk off d w) (ham : a + 1 < m) (hmb : m + 1 < b) (hb : b ≤ d.size) (hsz : d.size < 4611686018427387904) (hsl : SortedIn (ltOf cf) a m d) (hsr : SortedIn (ltOf cf) m b d)
    (ih : ∀ (a' m' b' : Nat) (d' : Array α) (w' : World), b' - a' < b - a → a' < m' → m' < b' → b' ≤ d'.size → d0.size = d'.size → SW enc w0 blk off d' w' → SortedIn (ltOf cf) a' m' d' → SortedIn (ltOf cf) m' b' d' → MergeOk enc cf g cb blk off cap d0 w0 a' m' b' d' w') :
    MergeOk enc cf g cb blk off cap d0 w0 a m b d w := by
  unfold MergeOk at *
  have mixed : Try.prog.follows Departure.mixedOrders = true := by kernel_rfl
  have hcl0 := R.hO.cells
  simp only [Value.cells] at hcl0
  have hst := R.hO.store Try.prog
  have HC : Aside _ := hcmp
  have S0 : Aside (SW enc w0 blk off d w) := S
  have HL : Aside (SortedIn (ltOf cf) a m d) := hsl
  have HR : Aside (SortedIn (ltOf cf) m b d) := hsr
  have IH : Aside _ := ih
  clear S hcmp hsr hsl ih
  rw [hs]
  have z1 : ¬ (m : Int) - (a : Int) = 1 := by omega
  have z2 : ¬ (b : Int) - (m : Int) = 1 := by omega
  have z1b : ((m : Int) - (a : Int) == 1) = false := beq_false_of_ne z1
  have z2b : ((b : Int) - (m : Int) == 1) = false := beq_false_of_ne z2
  obtain ⟨mid, hmid⟩ : ∃ mid, mid = (a + b) / 2 := ⟨_, rfl⟩
  have ez : ((a : Int) + (b : Int)) / 2 = (mid : Int) := by omega
  have hm1 : 2 * mid ≤ a + b := by omega
  have hm2 : a + b ≤ 2 * mid + 1 := by omega
  obtain ⟨n, hn⟩ : ∃ n, n = mid + m := ⟨_, rfl⟩
  have en : (mid : Int) + (m : Int) = (n : Int) := by omega
  obtain ⟨p, hp⟩ : ∃ p, p + 1 = n := ⟨n - 1, by omega⟩
  have ep : (n : Int) - 1 = (p : Int) := by omega
  have hn1 : n ≤ mid + m := by omega
  have hn2 : mid + m ≤ n := by omega
  have hp1 : p + 1 ≤ n := by omega
  have hp2 : n ≤ p + 1 := by omega
  have HMID : Aside (mid = (a + b) / 2) := hmid
  clear hmid hn hp
  by_cases hmm : mid < m
  · have hmz : (mid : Int) < (m : Int) := by omega
    obtain ⟨s0, hs0⟩ : ∃ s0, s0 + b = n := ⟨n - b, by omega⟩
    have es0 : (n : Int) - (b : Int) = (s0 : Int) := by omega
    have hs1 : s0 + b ≤ n := by omega
    have hs2 : n ≤ s0 + b := by omega
    clear hs0
    go_enter Try.func93, Try.ntmps93
    go_wp2
    go_loopg [20, 21] (mid - s0) (fun g1 vi vj wr => ∃ (i j : Nat), vi = .int .i64 i ∧ vj = .int .i64 j ∧ s0 ≤ i ∧ i ≤ j ∧ j ≤ mid ∧ j - i ≤ g1 ∧ Aside (SW enc w0 blk off d wr) ∧ Hid ((s0 < i → ltOf cf d[p - (i - 1)]! d[i - 1]! = false) ∧ (j < mid → ltOf cf d[p - j]! d[j]! = true)))
    case atStart => exact ⟨s0, mid, by go_num, by go_num, by omega, by omega, by omega, by omega, S0, (show Hid _ from ⟨fun h => by omega, fun h => by omega⟩)⟩
    case round =>
      clear S0
      obtain ⟨i, j, rfl, rfl, hi, hij, hj, hg1, S1, HO⟩ := hrel
      by_cases hlt : i < j
      · have hltz : (i : Int) < (j : Int) := by omega
        go_wp2_with fail
        obtain ⟨h, hh⟩ : ∃ h, h = (i + j) / 2 := ⟨_, rfl⟩
        have eh : ((i : Int) + (j : Int)) / 2 = (h : Int) := by omega
        rw [eh]
        clear eh
        have hb1 : i ≤ h ∧ h < j := by omega
        clear hh
        obtain ⟨q, hq⟩ : ∃ q, q + h = p := ⟨p - h, by omega⟩
        have epq : (p : Int) - (h : Int) = (q : Int) := by omega
        have bq : (q : Int) < (d.size : Int) := by omega
        have rq : IntKind.i64.wrap (q : Int) = (q : Int) := by rw [IntKind.wrap_i64]; omega
        have HQ : Aside (p - h = q) := (show Aside _ from by show p - h = q; omega)
        clear hq
        have bh : (h : Int) < (d.size : Int) := by omega
        obtain ⟨x, hx⟩ : ∃ x, x = d[q]! := ⟨_, rfl⟩
        obtain ⟨y, hy⟩ : ∃ x, x = d[h]! := ⟨_, rfl⟩
        have la := S1.out.cl R hs.symm q (by omega)
        have lb := S1.out.cl R hs.symm h (by omega)
        rw [← hx] at la
        rw [← hy] at lb
        have hcc := S1.out.cmp HC.out hs.symm x y
        by_cases hv : cf x y < 0
        · have hd : decide (cf x y < 0) = true := decide_eq_true hv
          have HO2 : Hid ((s0 < i → ltOf cf d[p - (i - 1)]! d[i - 1]! = false) ∧ (h < mid → ltOf cf d[p - h]! d[h]! = true)) :=
            (show Hid _ from ⟨HO.out.1, fun _ => by rw [HQ.out, ← hx, ← hy]; exact hd⟩)
          clear HO hx hy HQ
          go_quiet_grown (first | (go_at_fn g; refine Calls.grown_of (hcc _ _)))
          have S2 : Aside (SW enc w0 blk off d (grow (wr.drewN nq) osq)) := S1.out.grown nq osq
          clear la lb hcc S1
          generalize grow (wr.drewN nq) osq = w2 at S2 ⊢
          clear nq osq
          go_wp2
          go_roundg (h - i)
          case measure => omega
          case rel => exact ⟨i, h, rfl, by go_num, by omega, by omega, by omega, by omega, S2, HO2⟩
        · have hd : decide (cf x y < 0) = false := decide_eq_false hv
          have HO2 : Hid ((s0 < h + 1 → ltOf cf d[p - (h + 1 - 1)]! d[h + 1 - 1]! = false) ∧ (j < mid → ltOf cf d[p - j]! d[j]! = true)) :=
            (show Hid _ from ⟨fun _ => by rw [Nat.add_sub_cancel, HQ.out, ← hx, ← hy]; exact hd, HO.out.2⟩)
          clear HO hx hy HQ
          go_quiet_grown (first | (go_at_fn g; refine Calls.grown_of (hcc _ _)))
          have S2 : Aside (SW enc w0 blk off d (grow (wr.drewN nq) osq)) := S1.out.grown nq osq
          clear la lb hcc S1
          generalize grow (wr.drewN nq) osq = w2 at S2 ⊢
          clear nq osq
          go_wp2
          go_roundg (j - (h + 1))
          case measure => omega
          case rel => exact ⟨h + 1, j, by go_num, rfl, by omega, by omega, by omega, by omega, S2, HO2⟩
      · have hltz : ¬ (i : Int) < (j : Int) := by omega
        obtain rfl : i = j := by omega
        obtain ⟨e, he⟩ : ∃ e, e + i = n := ⟨n - i, by omega⟩
        have ee : (n : Int) - (i : Int) = (e : Int) := by omega
        have he1 : e + i ≤ n := by omega
        have he2 : n ≤ e + i := by omega
        have CU : Hid (Stb.Cut (ltOf cf) (fun k => d[k]!) a m b i e) := (show Hid _ from ⟨by omega, by omega, by omega, by have := HMID.out; omega,
          fun h1 h2 => by have := HO.out.1 (by omega); rw [show p - (i - 1) = e by omega] at this; exact this,
          fun h1 h2 => by have := HO.out.2 (by omega); rw [show p - i = e - 1 by omega] at this; exact this⟩)
        have CR : Hid _ := CU.out.cross hO ((Stb.sd_of (fun k => rfl)).1 HL.out) ((Stb.sd_of (fun k => rfl)).1 HR.out)
        rw [← HMID.out] at CR
        clear he HO CU
        by_cases c1 : i < m ∧ m < e
        · have hrc := rotate_s enc g cb blk off cap i m e d0 d w0 wr R hs S1.out c1.1 c1.2 (by omega) hsz
          have c1a : (i : Int) < (m : Int) := by omega
          have c1b : (m : Int) < (e : Int) := by omega
          by_cases c2 : a < i ∧ i < mid
          · have c2a : (a : Int) < (i : Int) := by omega
            have c2b : (i : Int) < (mid : Int) := by omega
            clear c2
            by_cases c3 : mid < e ∧ e < b
            · have c3a : (mid : Int) < (e : Int) := by omega
              have c3b : (e : Int) < (b : Int) := by omega
              clear c3
              go_wp2_with fail
              refine hrc.mono ?_
              rintro ev w1 ⟨rfl, d1, hz1, hpr, hIr, hwr⟩
              clear c1
              have hp1' : Hid (PermIn a b d d1) := (show Hid _ from permIn_mono _ _ _ _ _ _ (by omega) (by omega) (by omega) hpr)
              have hI1 : Hid (Stb.Is d1 (Stb.rtF i m e (fun k => d[k]!))) := hIr
              have hw1 : Aside (SW enc w0 blk off d1 w1) := hwr
              clear hpr hIr hwr hrc S1
              have C1 : Hid (SortedIn (ltOf cf) a i d1 ∧ SortedIn (ltOf cf) i mid d1 ∧ SortedIn (ltOf cf) mid e d1 ∧ SortedIn (ltOf cf) e b d1 ∧ ∀ x y, a ≤ x → x < mid → mid ≤ y → y < b → ltOf cf d1[y]! d1[x]! = false) :=
                (show Hid _ from ⟨(Stb.sd_of hI1.out).2 CR.out.1, (Stb.sd_of hI1.out).2 CR.out.2.1, (Stb.sd_of hI1.out).2 CR.out.2.2.1, (Stb.sd_of hI1.out).2 CR.out.2.2.2.1, fun x y h1 h2 h3 h4 => by rw [hI1.out, hI1.out]; exact CR.out.2.2.2.2 x y h1 h2 h3 h4⟩)
              clear hI1 CR
              have hl := IH.out a i mid d1 w1 (by omega) (by omega) (by omega) (by omega) (by omega) hw1.out C1.out.1 C1.out.2.1
              rw [hs] at hl
              clear hw1
              go_wp2_with fail
              refine hl.mono ?_
              rintro ev w2 ⟨rfl, d2, hz2, hpl, hsl2, hwl⟩
              have hp2' : Hid (PermIn a mid d1 d2) := hpl
              have hs2' : Hid (SortedIn (ltOf cf) a mid d2) := hsl2
              have hw2 : Aside (SW enc w0 blk off d2 w2) := hwl
              clear hpl hsl2 hwl hl
              have C2 : Hid (SortedIn (ltOf cf) mid e d2 ∧ SortedIn (ltOf cf) e b d2) := (show Hid _ from ⟨C1.out.2.2.1.congr (fun i h1 h2 => hp2'.out.2.1 i (Or.inr h1)), C1.out.2.2.2.1.congr (fun i h1 h2 => hp2'.out.2.1 i (Or.inr (by omega)))⟩)
              have hl3 := IH.out mid e b d2 w2 (by omega) (by omega) (by omega) (by omega) (by omega) hw2.out C2.out.1 C2.out.2
              rw [hs] at hl3
              clear hw2
              go_wp2_with fail
              all_goals refine hl3.mono ?_
              all_goals rintro ev w3 ⟨rfl, d3, hz3, hpl3, hsl3, hwl3⟩
              all_goals go_wp2_with fail
              all_goals go_end0
              all_goals exact ⟨rfl, d3, by omega, permIn_trans _ _ _ _ _ hp1'.out (permIn_trans _ _ _ _ _ (permIn_mono _ _ _ _ _ _ (by omega) (by omega) (by omega) hp2'.out) (permIn_mono _ _ _ _ _ _ (by omega) (by omega) (by omega) hpl3)), Stb.fin (by omega) (by omega) (by omega) C1.out.2.2.2.2 hp2'.out hs2'.out hpl3 hsl3, hwl3⟩
            · have c3a : ¬ ((mid : Int) < (e : Int) ∧ (e : Int) < (b : Int)) := by omega
              go_wp2_with fail
              refine hrc.mono ?_
              rintro ev w1 ⟨rfl, d1, hz1, hpr, hIr, hwr⟩
              clear c1
              have hp1' : Hid (PermIn a b d d1) := (show Hid _ from permIn_mono _ _ _ _ _ _ (by omega) (by omega) (by omega) hpr)
              have hI1 : Hid (Stb.Is d1 (Stb.rtF i m e (fun k => d[k]!))) := hIr
              have hw1 : Aside (SW enc w0 blk off d1 w1) := hwr
              clear hpr hIr hwr hrc S1
              have C1 : Hid (SortedIn (ltOf cf) a i d1 ∧ SortedIn (ltOf cf) i mid d1 ∧ SortedIn (ltOf cf) mid e d1 ∧ SortedIn (ltOf cf) e b d1 ∧ ∀ x y, a ≤ x → x < mid → mid ≤ y → y < b → ltOf cf d1[y]! d1[x]! = false) :=
                (show Hid _ from ⟨(Stb.sd_of hI1.out).2 CR.out.1, (Stb.sd_of hI1.out).2 CR.out.2.1, (Stb.sd_of hI1.out).2 CR.out.2.2.1, (Stb.sd_of hI1.out).2 CR.out.2.2.2.1, fun x y h1 h2 h3 h4 => by rw [hI1.out, hI1.out]; exact CR.out.2.2.2.2 x y h1 h2 h3 h4⟩)
              clear hI1 CR
              have hl := IH.out a i mid d1 w1 (by omega) (by omega) (by omega) (by omega) (by omega) hw1.out C1.out.1 C1.out.2.1
              rw [hs] at hl
              clear hw1
              go_wp2_with fail
              refine hl.mono ?_
              rintro ev w2 ⟨rfl, d2, hz2, hpl, hsl2, hwl⟩
              have hp2' : Hid (PermIn a mid d1 d2) := hpl
              have hs2' : Hid (SortedIn (ltOf cf) a mid d2) := hsl2
              have hw2 : Aside (SW enc w0 blk off d2 w2) := hwl
              clear hpl hsl2 hwl hl
              have C2 : Hid (SortedIn (ltOf cf) mid e d2 ∧ SortedIn (ltOf cf) e b d2) := (show Hid _ from ⟨C1.out.2.2.1.congr (fun i h1 h2 => hp2'.out.2.1 i (Or.inr h1)), C1.out.2.2.2.1.congr (fun i h1 h2 => hp2'.out.2.1 i (Or.inr (by omega)))⟩)
              have hs3' : Hid (SortedIn (ltOf cf) mid b d2) := (show Hid _ from by
                by_cases hq : mid < e
                · have : e = b := by omega
                  have h3 := C2.out.1; rw [this] at h3; exact h3
                · have : e = mid := by omega
                  have h3 := C2.out.2; rw [this] at h3; exact h3)
              go_wp2_with fail
              all_goals go_end0
              all_goals exact ⟨rfl, d2, by omega, permIn_trans _ _ _ _ _ hp1'.out (permIn_mono _ _ _ _ _ _ (by omega) (by omega) (by omega) hp2'.out), Stb.fin (by omega) (by omega) (by omega) C1.out.2.2.2.2 hp2'.out hs2'.out (permIn_refl _ _ _) hs3'.out, hw2.out⟩
          · have c2a : ¬ ((a : Int) < (i : Int) ∧ (i : Int) < (mid : Int)) := by omega
            by_cases c3 : mid < e ∧ e < b
            · have c3a : (mid : Int) < (e : Int) := by omega
              have c3b : (e : Int) < (b : Int) := by omega
              clear c3
              go_wp2_with fail
              refine hrc.mono ?_
              rintro ev w1 ⟨rfl, d1, hz1, hpr, hIr, hwr⟩
              clear c1
              have hp1' : Hid (PermIn a b d d1) := (show Hid _ from permIn_mono _ _ _ _ _ _ (by omega) (by omega) (by omega) hpr)
              have hI1 : Hid (Stb.Is d1 (Stb.rtF i m e (fun k => d[k]!))) := hIr
              have hw1 : Aside (SW enc w0 blk off d1 w1) := hwr
              clear hpr hIr hwr hrc S1
              have C1 : Hid (SortedIn (ltOf cf) a i d1 ∧ SortedIn (ltOf cf) i mid d1 ∧ SortedIn (ltOf cf) mid e d1 ∧ SortedIn (ltOf cf) e b d1 ∧ ∀ x y, a ≤ x → x < mid → mid ≤ y → y < b → ltOf cf d1[y]! d1[x]! = false) :=
                (show Hid _ from ⟨(Stb.sd_of hI1.out).2 CR.out.1, (Stb.sd_of hI1.out).2 CR.out.2.1, (Stb.sd_of hI1.out).2 CR.out.2.2.1, (Stb.sd_of hI1.out).2 CR.out.2.2.2.1, fun x y h1 h2 h3 h4 => by rw [hI1.out, hI1.out]; exact CR.out.2.2.2.2 x y h1 h2 h3 h4⟩)
              clear hI1 CR
              obtain ⟨d2, hd2⟩ : ∃ d2, d2 = d1 := ⟨_, rfl⟩
              obtain ⟨w2, hw2e⟩ : ∃ w2, w2 = w1 := ⟨_, rfl⟩
              have hz2 : d2.size = d1.size := by rw [hd2]
              have hp2' : Hid (PermIn a mid d1 d2) := (show Hid _ from by rw [hd2]; exact permIn_refl _ _ _)
              have hs2' : Hid (SortedIn (ltOf cf) a mid d2) := (show Hid _ from by
                rw [hd2]
                by_cases hq : a < i
                · have : i = mid := by omega
                  have h3 := C1.out.1; rw [this] at h3; exact h3
                · have : i = a := by omega
                  have h3 := C1.out.2.1; rw [this] at h3; exact h3)
              have hw2 : Aside (SW enc w0 blk off d2 w2) := (show Aside _ from by rw [hd2, hw2e]; exact hw1.out)
              rw [← hw2e]
              clear hd2 hw2e hw1
              have C2 : Hid (SortedIn (ltOf cf) mid e d2 ∧ SortedIn (ltOf cf) e b d2) := (show Hid _ from ⟨C1.out.2.2.1.congr (fun i h1 h2 => hp2'.out.2.1 i (Or.inr h1)), C1.out.2.2.2.1.congr (fun i h1 h2 => hp2'.out.2.1 i (Or.inr (by omega)))⟩)
              have hl3 := IH.out mid e b d2 w2 (by omega) (by omega) (by omega) (by omega) (by omega) hw2.out C2.out.1 C2.out.2
              rw [hs] at hl3
              clear hw2
              go_wp2_with fail
              all_goals refine hl3.mono ?_
              all_goals rintro ev w3 ⟨rfl, d3, hz3, hpl3, hsl3, hwl3⟩
              all_goals go_wp2_with fail
              all_goals go_end0
              all_goals exact ⟨rfl, d3, by omega, permIn_trans _ _ _ _ _ hp1'.out (permIn_trans _ _ _ _ _ (permIn_mono _ _ _ _ _ _ (by omega) (by omega) (by omega) hp2'.out) (permIn_mono _ _ _ _ _ _ (by omega) (by omega) (by omega) hpl3)), Stb.fin (by omega) (by omega) (by omega) C1.out.2.2.2.2 hp2'.out hs2'.out hpl3 hsl3, hwl3⟩
            · have c3a : ¬ ((mid : Int) < (e : Int) ∧ (e : Int) < (b : Int)) := by omega
              go_wp2_with fail
              refine hrc.mono ?_
              rintro ev w1 ⟨rfl, d1, hz1, hpr, hIr, hwr⟩
              clear c1
              have hp1' : Hid (PermIn a b d d1) := (show Hid _ from permIn_mono _ _ _ _ _ _ (by omega) (by omega) (by omega) hpr)
              have hI1 : Hid (Stb.Is d1 (Stb.rtF i m e (fun k => d[k]!))) := hIr
              have hw1 : Aside (SW enc w0 blk off d1 w1) := hwr
              clear hpr hIr hwr hrc S1
              have C1 : Hid (SortedIn (ltOf cf) a i d1 ∧ SortedIn (ltOf cf) i mid d1 ∧ SortedIn (ltOf cf) mid e d1 ∧ SortedIn (ltOf cf) e b d1 ∧ ∀ x y, a ≤ x → x < mid → mid ≤ y → y < b → ltOf cf d1[y]! d1[x]! = false) :=
                (show Hid _ from ⟨(Stb.sd_of hI1.out).2 CR.out.1, (Stb.sd_of hI1.out).2 CR.out.2.1, (Stb.sd_of hI1.out).2 CR.out.2.2.1, (Stb.sd_of hI1.out).2 CR.out.2.2.2.1, fun x y h1 h2 h3 h4 => by rw [hI1.out, hI1.out]; exact CR.out.2.2.2.2 x y h1 h2 h3 h4⟩)
              clear hI1 CR
              obtain ⟨d2, hd2⟩ : ∃ d2, d2 = d1 := ⟨_, rfl⟩
              obtain ⟨w2, hw2e⟩ : ∃ w2, w2 = w1 := ⟨_, rfl⟩
              have hz2 : d2.size = d1.size := by rw [hd2]
              have hp2' : Hid (PermIn a mid d1 d2) := (show Hid _ from by rw [hd2]; exact permIn_refl _ _ _)
              have hs2' : Hid (SortedIn (ltOf cf) a mid d2) := (show Hid _ from by
                rw [hd2]
                by_cases hq : a < i
                · have : i = mid := by omega
                  have h3 := C1.out.1; rw [this] at h3; exact h3
                · have : i = a := by omega
                  have h3 := C1.out.2.1; rw [this] at h3; exact h3)
              have hw2 : Aside (SW enc w0 blk off d2 w2) := (show Aside _ from by rw [hd2, hw2e]; exact hw1.out)
              rw [← hw2e]
              clear hd2 hw2e hw1
              have C2 : Hid (SortedIn (ltOf cf) mid e d2 ∧ SortedIn (ltOf cf) e b d2) := (show Hid _ from ⟨C1.out.2.2.1.congr (fun i h1 h2 => hp2'.out.2.1 i (Or.inr h1)), C1.out.2.2.2.1.congr (fun i h1 h2 => hp2'.out.2.1 i (Or.inr (by omega)))⟩)
              have hs3' : Hid (SortedIn (ltOf cf) mid b d2) := (show Hid _ from by
                by_cases hq : mid < e
                · have : e = b := by omega
                  have h3 := C2.out.1; rw [this] at h3; exact h3
                · have : e = mid := by omega
                  have h3 := C2.out.2; rw [this] at h3; exact h3)
              go_wp2_with fail
              all_goals go_end0
              all_goals exact ⟨rfl, d2, by omega, permIn_trans _ _ _ _ _ hp1'.out (permIn_mono _ _ _ _ _ _ (by omega) (by omega) (by omega) hp2'.out), Stb.fin (by omega) (by omega) (by omega) C1.out.2.2.2.2 hp2'.out hs2'.out (permIn_refl _ _ _) hs3'.out, hw2.out⟩
        · have c1a : ¬ ((i : Int) < (m : Int) ∧ (m : Int) < (e : Int)) := by omega
          have hrt : Stb.Is d (Stb.rtF i m e (fun k => d[k]!)) := by
            intro k
            by_cases hq : i < m
            · rw [show e = m by omega, Stb.rt_id2]
            · rw [show i = m by omega, Stb.rt_id1]
          obtain ⟨d1, hd1⟩ : ∃ d1, d1 = d := ⟨_, rfl⟩
          obtain ⟨w1, hw1e⟩ : ∃ w1, w1 = wr := ⟨_, rfl⟩
          have hz1 : d1.size = d.size := by rw [hd1]
          have hp1' : Hid (PermIn a b d d1) := (show Hid _ from by rw [hd1]; exact permIn_refl _ _ _)
          have hI1 : Hid (Stb.Is d1 (Stb.rtF i m e (fun k => d[k]!))) := (show Hid _ from by rw [hd1]; exact hrt)
          have hw1 : Aside (SW enc w0 blk off d1 w1) := (show Aside _ from by rw [hd1, hw1e]; exact S1.out)
          rw [← hw1e]
          clear hd1 hw1e hrt S1
          by_cases c2 : a < i ∧ i < mid
          · have c2a : (a : Int) < (i : Int) := by omega
            have c2b : (i : Int) < (mid : Int) := by omega
            clear c2
            by_cases c3 : mid < e ∧ e < b
            · have c3a : (mid : Int) < (e : Int) := by omega
              have c3b : (e : Int) < (b : Int) := by omega
              clear c3
              rcases (show ¬ (i : Int) < (m : Int) ∨ ((i : Int) < (m : Int) ∧ ¬ (m : Int) < (e : Int)) by omega) with g1 | ⟨g1, g1'⟩
              · have C1 : Hid (SortedIn (ltOf cf) a i d1 ∧ SortedIn (ltOf cf) i mid d1 ∧ SortedIn (ltOf cf) mid e d1 ∧ SortedIn (ltOf cf) e b d1 ∧ ∀ x y, a ≤ x → x < mid → mid ≤ y → y < b → ltOf cf d1[y]! d1[x]! = false) :=
                  (show Hid _ from ⟨(Stb.sd_of hI1.out).2 CR.out.1, (Stb.sd_of hI1.out).2 CR.out.2.1, (Stb.sd_of hI1.out).2 CR.out.2.2.1, (Stb.sd_of hI1.out).2 CR.out.2.2.2.1, fun x y h1 h2 h3 h4 => by rw [hI1.out, hI1.out]; exact CR.out.2.2.2.2 x y h1 h2 h3 h4⟩)
                clear hI1 CR
                have hl := IH.out a i mid d1 w1 (by omega) (by omega) (by omega) (by omega) (by omega) hw1.out C1.out.1 C1.out.2.1
                rw [hs] at hl
                clear hw1
                go_wp2_with fail
                refine hl.mono ?_
                rintro ev w2 ⟨rfl, d2, hz2, hpl, hsl2, hwl⟩
                have hp2' : Hid (PermIn a mid d1 d2) := hpl
                have hs2' : Hid (SortedIn (ltOf cf) a mid d2) := hsl2
                have hw2 : Aside (SW enc w0 blk off d2 w2) := hwl
                clear hpl hsl2 hwl hl
                have C2 : Hid (SortedIn (ltOf cf) mid e d2 ∧ SortedIn (ltOf cf) e b d2) := (show Hid _ from ⟨C1.out.2.2.1.congr (fun i h1 h2 => hp2'.out.2.1 i (Or.inr h1)), C1.out.2.2.2.1.congr (fun i h1 h2 => hp2'.out.2.1 i (Or.inr (by omega)))⟩)
                have hl3 := IH.out mid e b d2 w2 (by omega) (by omega) (by omega) (by omega) (by omega) hw2.out C2.out.1 C2.out.2
                rw [hs] at hl3
                clear hw2
                go_wp2_with fail
                all_goals refine hl3.mono ?_
                all_goals rintro ev w3 ⟨rfl, d3, hz3, hpl3, hsl3, hwl3⟩
                all_goals go_wp2_with fail
                all_goals go_end0
                all_goals exact ⟨rfl, d3, by omega, permIn_trans _ _ _ _ _ hp1'.out (permIn_trans _ _ _ _ _ (permIn_mono _ _ _ _ _ _ (by omega) (by omega) (by omega) hp2'.out) (permIn_mono _ _ _ _ _ _ (by omega) (by omega) (by omega) hpl3)), Stb.fin (by omega) (by omega) (by omega) C1.out.2.2.2.2 hp2'.out hs2'.out hpl3 hsl3, hwl3⟩
              · have C1 : Hid (SortedIn (ltOf cf) a i d1 ∧ SortedIn (ltOf cf) i mid d1 ∧ SortedIn (ltOf cf) mid e d1 ∧ SortedIn (ltOf cf) e b d1 ∧ ∀ x y, a ≤ x → x < mid → mid ≤ y → y < b → ltOf cf d1[y]! d1[x]! = false) :=
                  (show Hid _ from ⟨(Stb.sd_of hI1.out).2 CR.out.1, (Stb.sd_of hI1.out).2 CR.out.2.1, (Stb.sd_of hI1.out).2 CR.out.2.2.1, (Stb.sd_of hI1.out).2 CR.out.2.2.2.1, fun x y h1 h2 h3 h4 => by rw [hI1.out, hI1.out]; exact CR.out.2.2.2.2 x y h1 h2 h3 h4⟩)
                clear hI1 CR
                have hl := IH.out a i mid d1 w1 (by omega) (by omega) (by omega) (by omega) (by omega) hw1.out C1.out.1 C1.out.2.1
                rw [hs] at hl
                clear hw1
                go_wp2_with fail
                refine hl.mono ?_
                rintro ev w2 ⟨rfl, d2, hz2, hpl, hsl2, hwl⟩
                have hp2' : Hid (PermIn a mid d1 d2) := hpl
                have hs2' : Hid (SortedIn (ltOf cf) a mid d2) := hsl2
                have hw2 : Aside (SW enc w0 blk off d2 w2) := hwl
                clear hpl hsl2 hwl hl
                have C2 : Hid (SortedIn (ltOf cf) mid e d2 ∧ SortedIn (ltOf cf) e b d2) := (show Hid _ from ⟨C1.out.2.2.1.congr (fun i h1 h2 => hp2'.out.2.1 i (Or.inr h1)), C1.out.2.2.2.1.congr (fun i h1 h2 => hp2'.out.2.1 i (Or.inr (by omega)))⟩)
                have hl3 := IH.out mid e b d2 w2 (by omega) (by omega) (by omega) (by omega) (by omega) hw2.out C2.out.1 C2.out.2
                rw [hs] at hl3
                clear hw2
                go_wp2_with fail
                all_goals refine hl3.mono ?_
                all_goals rintro ev w3 ⟨rfl, d3, hz3, hpl3, hsl3, hwl3⟩
                all_goals go_wp2_with fail
                all_goals go_end0
                all_goals exact ⟨rfl, d3, by omega, permIn_trans _ _ _ _ _ hp1'.out (permIn_trans _ _ _ _ _ (permIn_mono _ _ _ _ _ _ (by omega) (by omega) (by omega) hp2'.out) (permIn_mono _ _ _ _ _ _ (by omega) (by omega) (by omega) hpl3)), Stb.fin (by omega) (by omega) (by omega) C1.out.2.2.2.2 hp2'.out hs2'.out hpl3 hsl3, hwl3⟩
            · have c3a : ¬ ((mid : Int) < (e : Int) ∧ (e : Int) < (b : Int)) := by omega
              rcases (show ¬ (i : Int) < (m : Int) ∨ ((i : Int) < (m : Int) ∧ ¬ (m : Int) < (e : Int)) by omega) with g1 | ⟨g1, g1'⟩
              · have C1 : Hid (SortedIn (ltOf cf) a i d1 ∧ SortedIn (ltOf cf) i mid d1 ∧ SortedIn (ltOf cf) mid e d1 ∧ SortedIn (ltOf cf) e b d1 ∧ ∀ x y, a ≤ x → x < mid → mid ≤ y → y < b → ltOf cf d1[y]! d1[x]! = false) :=
                  (show Hid _ from ⟨(Stb.sd_of hI1.out).2 CR.out.1, (Stb.sd_of hI1.out).2 CR.out.2.1, (Stb.sd_of hI1.out).2 CR.out.2.2.1, (Stb.sd_of hI1.out).2 CR.out.2.2.2.1, fun x y h1 h2 h3 h4 => by rw [hI1.out, hI1.out]; exact CR.out.2.2.2.2 x y h1 h2 h3 h4⟩)
                clear hI1 CR
                have hl := IH.out a i mid d1 w1 (by omega) (by omega) (by omega) (by omega) (by omega) hw1.out C1.out.1 C1.out.2.1
                rw [hs] at hl
                clear hw1
                go_wp2_with fail
                refine hl.mono ?_
                rintro ev w2 ⟨rfl, d2, hz2, hpl, hsl2, hwl⟩
                have hp2' : Hid (PermIn a mid d1 d2) := hpl
                have hs2' : Hid (SortedIn (ltOf cf) a mid d2) := hsl2
                have hw2 : Aside (SW enc w0 blk off d2 w2) := hwl
                clear hpl hsl2 hwl hl
                have C2 : Hid (SortedIn (ltOf cf) mid e d2 ∧ SortedIn (ltOf cf) e b d2) := (show Hid _ from ⟨C1.out.2.2.1.congr (fun i h1 h2 => hp2'.out.2.1 i (Or.inr h1)), C1.out.2.2.2.1.congr (fun i h1 h2 => hp2'.out.2.1 i (Or.inr (by omega)))⟩)
                have hs3' : Hid (SortedIn (ltOf cf) mid b d2) := (show Hid _ from by
                  by_cases hq : mid < e
                  · have : e = b := by omega
                    have h3 := C2.out.1; rw [this] at h3; exact h3
                  · have : e = mid := by omega
                    have h3 := C2.out.2; rw [this] at h3; exact h3)
                go_wp2_with fail
                all_goals go_end0
                all_goals exact ⟨rfl, d2, by omega, permIn_trans _ _ _ _ _ hp1'.out (permIn_mono _ _ _ _ _ _ (by omega) (by omega) (by omega) hp2'.out), Stb.fin (by omega) (by omega) (by omega) C1.out.2.2.2.2 hp2'.out hs2'.out (permIn_refl _ _ _) hs3'.out, hw2.out⟩
              · have C1 : Hid (SortedIn (ltOf cf) a i d1 ∧ SortedIn (ltOf cf) i mid d1 ∧ SortedIn (ltOf cf) mid e d1 ∧ SortedIn (ltOf cf) e b d1 ∧ ∀ x y, a ≤ x → x < mid → mid ≤ y → y < b → ltOf cf d1[y]! d1[x]! = false) :=
                  (show Hid _ from ⟨(Stb.sd_of hI1.out).2 CR.out.1, (Stb.sd_of hI1.out).2 CR.out.2.1, (Stb.sd_of hI1.out).2 CR.out.2.2.1, (Stb.sd_of hI1.out).2 CR.out.2.2.2.1, fun x y h1 h2 h3 h4 => by rw [hI1.out, hI1.out]; exact CR.out.2.2.2.2 x y h1 h2 h3 h4⟩)
                clear hI1 CR
                have hl := IH.out a i mid d1 w1 (by omega) (by omega) (by omega) (by omega) (by omega) hw1.out C1.out.1 C1.out.2.1
                rw [hs] at hl
                clear hw1
                go_wp2_with fail
                refine hl.mono ?_
                rintro ev w2 ⟨rfl, d2, hz2, hpl, hsl2, hwl⟩
                have hp2' : Hid (PermIn a mid d1 d2) := hpl
                have hs2' : Hid (SortedIn (ltOf cf) a mid d2) := hsl2
                have hw2 : Aside (SW enc w0 blk off d2 w2) := hwl
                clear hpl hsl2 hwl hl
                have C2 : Hid (SortedIn (ltOf cf) mid e d2 ∧ SortedIn (ltOf cf) e b d2) := (show Hid _ from ⟨C1.out.2.2.1.congr (fun i h1 h2 => hp2'.out.2.1 i (Or.inr h1)), C1.out.2.2.2.1.congr (fun i h1 h2 => hp2'.out.2.1 i (Or.inr (by omega)))⟩)
                have hs3' : Hid (SortedIn (ltOf cf) mid b d2) := (show Hid _ from by
                  by_cases hq : mid < e
                  · have : e = b := by omega
                    have h3 := C2.out.1; rw [this] at h3; exact h3
                  · have : e = mid := by omega
                    have h3 := C2.out.2; rw [this] at h3; exact h3)
                go_wp2_with fail
                all_goals go_end0
                all_goals exact ⟨rfl, d2, by omega, permIn_trans _ _ _ _ _ hp1'.out (permIn_mono _ _ _ _ _ _ (by omega) (by omega) (by omega) hp2'.out), Stb.fin (by omega) (by omega) (by omega) C1.out.2.2.2.2 hp2'.out hs2'.out (permIn_refl _ _ _) hs3'.out, hw2.out⟩
          · have c2a : ¬ ((a : Int) < (i : Int) ∧ (i : Int) < (mid : Int)) := by omega
            by_cases c3 : mid < e ∧ e < b
            · have c3a : (mid : Int) < (e : Int) := by omega
              have c3b : (e : Int) < (b : Int) := by omega
              clear c3
              rcases (show ¬ (i : Int) < (m : Int) ∨ ((i : Int) < (m : Int) ∧ ¬ (m : Int) < (e : Int)) by omega) with g1 | ⟨g1, g1'⟩
              · have C1 : Hid (SortedIn (ltOf cf) a i d1 ∧ SortedIn (ltOf cf) i mid d1 ∧ SortedIn (ltOf cf) mid e d1 ∧ SortedIn (ltOf cf) e b d1 ∧ ∀ x y, a ≤ x → x < mid → mid ≤ y → y < b → ltOf cf d1[y]! d1[x]! = false) :=
                  (show Hid _ from ⟨(Stb.sd_of hI1.out).2 CR.out.1, (Stb.sd_of hI1.out).2 CR.out.2.1, (Stb.sd_of hI1.out).2 CR.out.2.2.1, (Stb.sd_of hI1.out).2 CR.out.2.2.2.1, fun x y h1 h2 h3 h4 => by rw [hI1.out, hI1.out]; exact CR.out.2.2.2.2 x y h1 h2 h3 h4⟩)
                clear hI1 CR
                obtain ⟨d2, hd2⟩ : ∃ d2, d2 = d1 := ⟨_, rfl⟩
                obtain ⟨w2, hw2e⟩ : ∃ w2, w2 = w1 := ⟨_, rfl⟩
                have hz2 : d2.size = d1.size := by rw [hd2]
                have hp2' : Hid (PermIn a mid d1 d2) := (show Hid _ from by rw [hd2]; exact permIn_refl _ _ _)
                have hs2' : Hid (SortedIn (ltOf cf) a mid d2) := (show Hid _ from by
                  rw [hd2]
                  by_cases hq : a < i
                  · have : i = mid := by omega
                    have h3 := C1.out.1; rw [this] at h3; exact h3
                  · have : i = a := by omega
                    have h3 := C1.out.2.1; rw [this] at h3; exact h3)
                have hw2 : Aside (SW enc w0 blk off d2 w2) := (show Aside _ from by rw [hd2, hw2e]; exact hw1.out)
                rw [← hw2e]
                clear hd2 hw2e hw1
                have C2 : Hid (SortedIn (ltOf cf) mid e d2 ∧ SortedIn (ltOf cf) e b d2) := (show Hid _ from ⟨C1.out.2.2.1.congr (fun i h1 h2 => hp2'.out.2.1 i (Or.inr h1)), C1.out.2.2.2.1.congr (fun i h1 h2 => hp2'.out.2.1 i (Or.inr (by omega)))⟩)
                have hl3 := IH.out mid e b d2 w2 (by omega) (by omega) (by omega) (by omega) (by omega) hw2.out C2.out.1 C2.out.2
                rw [hs] at hl3
                clear hw2
                go_wp2_with fail
                all_goals refine hl3.mono ?_
                all_goals rintro ev w3 ⟨rfl, d3, hz3, hpl3, hsl3, hwl3⟩
                all_goals go_wp2_with fail
                all_goals go_end0
                all_goals exact ⟨rfl, d3, by omega, permIn_trans _ _ _ _ _ hp1'.out (permIn_trans _ _ _ _ _ (permIn_mono _ _ _ _ _ _ (by omega) (by omega) (by omega) hp2'.out) (permIn_mono _ _ _ _ _ _ (by omega) (by omega) (by omega) hpl3)), Stb.fin (by omega) (by omega) (by omega) C1.out.2.2.2.2 hp2'.out hs2'.out hpl3 hsl3, hwl3⟩
              · have C1 : Hid (SortedIn (ltOf cf) a i d1 ∧ SortedIn (ltOf cf) i mid d1 ∧ SortedIn (ltOf cf) mid e d1 ∧ SortedIn (ltOf cf) e b d1 ∧ ∀ x y, a ≤ x → x < mid → mid ≤ y → y < b → ltOf cf d1[y]! d1[x]! = false) :=
                  (show Hid _ from ⟨(Stb.sd_of hI1.out).2 CR.out.1, (Stb.sd_of hI1.out).2 CR.out.2.1, (Stb.sd_of hI1.out).2 CR.out.2.2.1, (Stb.sd_of hI1.out).2 CR.out.2.2.2.1, fun x y h1 h2 h3 h4 => by rw [hI1.out, hI1.out]; exact CR.out.2.2.2.2 x y h1 h2 h3 h4⟩)
                clear hI1 CR
                obtain ⟨d2, hd2⟩ : ∃ d2, d2 = d1 := ⟨_, rfl⟩
                obtain ⟨w2, hw2e⟩ : ∃ w2, w2 = w1 := ⟨_, rfl⟩
                have hz2 : d2.size = d1.size := by rw [hd2]
                have hp2' : Hid (PermIn a mid d1 d2) := (show Hid _ from by rw [hd2]; exact permIn_refl _ _ _)
                have hs2' : Hid (SortedIn (ltOf cf) a mid d2) := (show Hid _ from by
                  rw [hd2]
                  by_cases hq : a < i
                  · have : i = mid := by omega
                    have h3 := C1.out.1; rw [this] at h3; exact h3
                  · have : i = a := by omega
                    have h3 := C1.out.2.1; rw [this] at h3; exact h3)
                have hw2 : Aside (SW enc w0 blk off d2 w2) := (show Aside _ from by rw [hd2, hw2e]; exact hw1.out)
                rw [← hw2e]
                clear hd2 hw2e hw1
                have C2 : Hid (SortedIn (ltOf cf) mid e d2 ∧ SortedIn (ltOf cf) e b d2) := (show Hid _ from ⟨C1.out.2.2.1.congr (fun i h1 h2 => hp2'.out.2.1 i (Or.inr h1)), C1.out.2.2.2.1.congr (fun i h1 h2 => hp2'.out.2.1 i (Or.inr (by omega)))⟩)
                have hl3 := IH.out mid e b d2 w2 (by omega) (by omega) (by omega) (by omega) (by omega) hw2.out C2.out.1 C2.out.2
                rw [hs] at hl3
                clear hw2
                go_wp2_with fail
                all_goals refine hl3.mono ?_
                all_goals rintro ev w3 ⟨rfl, d3, hz3, hpl3, hsl3, hwl3⟩
                all_goals go_wp2_with fail
                all_goals go_end0
                all_goals exact ⟨rfl, d3, by omega, permIn_trans _ _ _ _ _ hp1'.out (permIn_trans _ _ _ _ _ (permIn_mono _ _ _ _ _ _ (by omega) (by omega) (by omega) hp2'.out) (permIn_mono _ _ _ _ _ _ (by omega) (by omega) (by omega) hpl3)), Stb.fin (by omega) (by omega) (by omega) C1.out.2.2.2.2 hp2'.out hs2'.out hpl3 hsl3, hwl3⟩
            · have c3a : ¬ ((mid : Int) < (e : Int) ∧ (e : Int) < (b : Int)) := by omega
              rcases (show ¬ (i : Int) < (m : Int) ∨ ((i : Int) < (m : Int) ∧ ¬ (m : Int) < (e : Int)) by omega) with g1 | ⟨g1, g1'⟩
              · have C1 : Hid (SortedIn (ltOf cf) a i d1 ∧ SortedIn (ltOf cf) i mid d1 ∧ SortedIn (ltOf cf) mid e d1 ∧ SortedIn (ltOf cf) e b d1 ∧ ∀ x y, a ≤ x → x < mid → mid ≤ y → y < b → ltOf cf d1[y]! d1[x]! = false) :=
                  (show Hid _ from ⟨(Stb.sd_of hI1.out).2 CR.out.1, (Stb.sd_of hI1.out).2 CR.out.2.1, (Stb.sd_of hI1.out).2 CR.out.2.2.1, (Stb.sd_of hI1.out).2 CR.out.2.2.2.1, fun x y h1 h2 h3 h4 => by rw [hI1.out, hI1.out]; exact CR.out.2.2.2.2 x y h1 h2 h3 h4⟩)
                clear hI1 CR
                obtain ⟨d2, hd2⟩ : ∃ d2, d2 = d1 := ⟨_, rfl⟩
                obtain ⟨w2, hw2e⟩ : ∃ w2, w2 = w1 := ⟨_, rfl⟩
                have hz2 : d2.size = d1.size := by rw [hd2]
                have hp2' : Hid (PermIn a mid d1 d2) := (show Hid _ from by rw [hd2]; exact permIn_refl _ _ _)
                have hs2' : Hid (SortedIn (ltOf cf) a mid d2) := (show Hid _ from by
                  rw [hd2]
                  by_cases hq : a < i
                  · have : i = mid := by omega
                    have h3 := C1.out.1; rw [this] at h3; exact h3
                  · have : i = a := by omega
                    have h3 := C1.out.2.1; rw [this] at h3; exact h3)
                have hw2 : Aside (SW enc w0 blk off d2 w2) := (show Aside _ from by rw [hd2, hw2e]; exact hw1.out)
                rw [← hw2e]
                clear hd2 hw2e hw1
                have C2 : Hid (SortedIn (ltOf cf) mid e d2 ∧ SortedIn (ltOf cf) e b d2) := (show Hid _ from ⟨C1.out.2.2.1.congr (fun i h1 h2 => hp2'.out.2.1 i (Or.inr h1)), C1.out.2.2.2.1.congr (fun i h1 h2 => hp2'.out.2.1 i (Or.inr (by omega)))⟩)
                have hs3' : Hid (SortedIn (ltOf cf) mid b d2) := (show Hid _ from by
                  by_cases hq : mid < e
                  · have : e = b := by omega
                    have h3 := C2.out.1; rw [this] at h3; exact h3
                  · have : e = mid := by omega
                    have h3 := C2.out.2; rw [this] at h3; exact h3)
                go_wp2_with fail
                all_goals go_end0
                all_goals exact ⟨rfl, d2, by omega, permIn_trans _ _ _ _ _ hp1'.out (permIn_mono _ _ _ _ _ _ (by omega) (by omega) (by omega) hp2'.out), Stb.fin (by omega) (by omega) (by omega) C1.out.2.2.2.2 hp2'.out hs2'.out (permIn_refl _ _ _) hs3'.out, hw2.out⟩
              · have C1 : Hid (SortedIn (ltOf cf) a i d1 ∧ SortedIn (ltOf cf) i mid d1 ∧ SortedIn (ltOf cf) mid e d1 ∧ SortedIn (ltOf cf) e b d1 ∧ ∀ x y, a ≤ x → x < mid → mid ≤ y → y < b → ltOf cf d1[y]! d1[x]! = false) :=
                  (show Hid _ from ⟨(Stb.sd_of hI1.out).2 CR.out.1, (Stb.sd_of hI1.out).2 CR.out.2.1, (Stb.sd_of hI1.out).2 CR.out.2.2.1, (Stb.sd_of hI1.out).2 CR.out.2.2.2.1, fun x y h1 h2 h3 h4 => by rw [hI1.out, hI1.out]; exact CR.out.2.2.2.2 x y h1 h2 h3 h4⟩)
                clear hI1 CR
                obtain ⟨d2, hd2⟩ : ∃ d2, d2 = d1 := ⟨_, rfl⟩
                obtain ⟨w2, hw2e⟩ : ∃ w2, w2 = w1 := ⟨_, rfl⟩
                have hz2 : d2.size = d1.size := by rw [hd2]
                have hp2' : Hid (PermIn a mid d1 d2) := (show Hid _ from by rw [hd2]; exact permIn_refl _ _ _)
                have hs2' : Hid (SortedIn (ltOf cf) a mid d2) := (show Hid _ from by
                  rw [hd2]
                  by_cases hq : a < i
                  · have : i = mid := by omega
                    have h3 := C1.out.1; rw [this] at h3; exact h3
                  · have : i = a := by omega
                    have h3 := C1.out.2.1; rw [this] at h3; exact h3)
                have hw2 : Aside (SW enc w0 blk off d2 w2) := (show Aside _ from by rw [hd2, hw2e]; exact hw1.out)
                rw [← hw2e]
                clear hd2 hw2e hw1
                have C2 : Hid (SortedIn (ltOf cf) mid e d2 ∧ SortedIn (ltOf cf) e b d2) := (show Hid _ from ⟨C1.out.2.2.1.congr (fun i h1 h2 => hp2'.out.2.1 i (Or.inr h1)), C1.out.2.2.2.1.congr (fun i h1 h2 => hp2'.out.2.1 i (Or.inr (by omega)))⟩)
                have hs3' : Hid (SortedIn (ltOf cf) mid b d2) := (show Hid _ from by
                  by_cases hq : mid < e
                  · have : e = b := by omega
                    have h3 := C2.out.1; rw [this] at h3; exact h3
                  · have : e = mid := by omega
                    have h3 := C2.out.2; rw [this] at h3; exact h3)
                go_wp2_with fail
                all_goals go_end0
                all_goals exact ⟨rfl, d2, by omega, permIn_trans _ _ _ _ _ hp1'.out (permIn_mono _ _ _ _ _ _ (by omega) (by omega) (by omega) hp2'.out), Stb.fin (by omega) (by omega) (by omega) C1.out.2.2.2.2 hp2'.out hs2'.out (permIn_refl _ _ _) hs3'.out, hw2.out⟩
  · have hmz : ¬ (mid : Int) < (m : Int) := by omega
    go_enter Try.func93, Try.ntmps93
    go_wp2
    go_loopg [20, 21] (m - a) (fun g1 vi vj wr => ∃ (i j : Nat), vi = .int .i64 i ∧ vj = .int .i64 j ∧ a ≤ i ∧ i ≤ j ∧ j ≤ m ∧ j - i ≤ g1 ∧ Aside (SW enc w0 blk off d wr) ∧ Hid ((a < i → ltOf cf d[p - (i - 1)]! d[i - 1]! = false) ∧ (j < m → ltOf cf d[p - j]! d[j]! = true)))
    case atStart => exact ⟨a, m, by go_num, by go_num, by omega, by omega, by omega, by omega, S0, (show Hid _ from ⟨fun h => by omega, fun h => by omega⟩)⟩
    case round =>
      clear S0
      obtain ⟨i, j, rfl, rfl, hi, hij, hj, hg1, S1, HO⟩ := hrel
      by_cases hlt : i < j
      · have hltz : (i : Int) < (j : Int) := by omega
        go_wp2_with fail
        obtain ⟨h, hh⟩ : ∃ h, h = (i + j) / 2 := ⟨_, rfl⟩
        have eh : ((i : Int) + (j : Int)) / 2 = (h : Int) := by omega
        rw [eh]
        clear eh
        have hb1 : i ≤ h ∧ h < j := by omega
        clear hh
        obtain ⟨q, hq⟩ : ∃ q, q + h = p := ⟨p - h, by omega⟩
        have epq : (p : Int) - (h : Int) = (q : Int) := by omega
        have bq : (q : Int) < (d.size : Int) := by omega
        have rq : IntKind.i64.wrap (q : Int) = (q : Int) := by rw [IntKind.wrap_i64]; omega
        have HQ : Aside (p - h = q) := (show Aside _ from by show p - h = q; omega)
        clear hq
        have bh : (h : Int) < (d.size : Int) := by omega
        obtain ⟨x, hx⟩ : ∃ x, x = d[q]! := ⟨_, rfl⟩
        obtain ⟨y, hy⟩ : ∃ x, x = d[h]! := ⟨_, rfl⟩
        have la := S1.out.cl R hs.symm q (by omega)
        have lb := S1.out.cl R hs.symm h (by omega)
        rw [← hx] at la
        rw [← hy] at lb
        have hcc := S1.out.cmp HC.out hs.symm x y
        by_cases hv : cf x y < 0
        · have hd : decide (cf x y < 0) = true := decide_eq_true hv
          have HO2 : Hid ((a < i → ltOf cf d[p - (i - 1)]! d[i - 1]! = false) ∧ (h < m → ltOf cf d[p - h]! d[h]! = true)) :=
            (show Hid _ from ⟨HO.out.1, fun _ => by rw [HQ.out, ← hx, ← hy]; exact hd⟩)
          clear HO hx hy HQ
          go_quiet_grown (first | (go_at_fn g; refine Calls.grown_of (hcc _ _)))
          have S2 : Aside (SW enc w0 blk off d (grow (wr.drewN nq) osq)) := S1.out.grown nq osq
          clear la lb hcc S1
          generalize grow (wr.drewN nq) osq = w2 at S2 ⊢
          clear nq osq
          go_wp2
          go_roundg (h - i)
          case measure => omega
          case rel => exact ⟨i, h, rfl, by go_num, by omega, by omega, by omega, by omega, S2, HO2⟩
        · have hd : decide (cf x y < 0) = false := decide_eq_false hv
          have HO2 : Hid ((a < h + 1 → ltOf cf d[p - (h + 1 - 1)]! d[h + 1 - 1]! = false) ∧ (j < m → ltOf cf d[p - j]! d[j]! = true)) :=
            (show Hid _ from ⟨fun _ => by rw [Nat.add_sub_cancel, HQ.out, ← hx, ← hy]; exact hd, HO.out.2⟩)
          clear HO hx hy HQ
          go_quiet_grown (first | (go_at_fn g; refine Calls.grown_of (hcc _ _)))
          have S2 : Aside (SW enc w0 blk off d (grow (wr.drewN nq) osq)) := S1.out.grown nq osq
          clear la lb hcc S1
          generalize grow (wr.drewN nq) osq = w2 at S2 ⊢
          clear nq osq
          go_wp2
          go_roundg (j - (h + 1))
          case measure => omega
          case rel => exact ⟨h + 1, j, by go_num, rfl, by omega, by omega, by omega, by omega, S2, HO2⟩
      · have hltz : ¬ (i : Int) < (j : Int) := by omega
        obtain rfl : i = j := by omega
        obtain ⟨e, he⟩ : ∃ e, e + i = n := ⟨n - i, by omega⟩
        have ee : (n : Int) - (i : Int) = (e : Int) := by omega
        have he1 : e + i ≤ n := by omega
        have he2 : n ≤ e + i := by omega
        have CU : Hid (Stb.Cut (ltOf cf) (fun k => d[k]!) a m b i e) := (show Hid _ from ⟨by omega, by omega, by omega, by have := HMID.out; omega,
          fun h1 h2 => by have := HO.out.1 (by omega); rw [show p - (i - 1) = e by omega] at this; exact this,
          fun h1 h2 => by have := HO.out.2 (by omega); rw [show p - i = e - 1 by omega] at this; exact this⟩)
        have CR : Hid _ := CU.out.cross hO ((Stb.sd_of (fun k => rfl)).1 HL.out) ((Stb.sd_of (fun k => rfl)).1 HR.out)
        rw [← HMID.out] at CR
        clear he HO CU
        by_cases c1 : i < m ∧ m < e
        · have hrc := rotate_s enc g cb blk off cap i m e d0 d w0 wr R hs S1.out c1.1 c1.2 (by omega) hsz
          have c1a : (i : Int) < (m : Int) := by omega
          have c1b : (m : Int) < (e : Int) := by omega
          by_cases c2 : a < i ∧ i < mid
          · have c2a : (a : Int) < (i : Int) := by omega
            have c2b : (i : Int) < (mid : Int) := by omega
            clear c2
            by_cases c3 : mid < e ∧ e < b
            · have c3a : (mid : Int) < (e : Int) := by omega
              have c3b : (e : Int) < (b : Int) := by omega
              clear c3
              go_wp2_with fail
              refine hrc.mono ?_
              rintro ev w1 ⟨rfl, d1, hz1, hpr, hIr, hwr⟩
              clear c1
              have hp1' : Hid (PermIn a b d d1) := (show Hid _ from permIn_mono _ _ _ _ _ _ (by omega) (by omega) (by omega) hpr)
              have hI1 : Hid (Stb.Is d1 (Stb.rtF i m e (fun k => d[k]!))) := hIr
              have hw1 : Aside (SW enc w0 blk off d1 w1) := hwr
              clear hpr hIr hwr hrc S1
              have C1 : Hid (SortedIn (ltOf cf) a i d1 ∧ SortedIn (ltOf cf) i mid d1 ∧ SortedIn (ltOf cf) mid e d1 ∧ SortedIn (ltOf cf) e b d1 ∧ ∀ x y, a ≤ x → x < mid → mid ≤ y → y < b → ltOf cf d1[y]! d1[x]! = false) :=
                (show Hid _ from ⟨(Stb.sd_of hI1.out).2 CR.out.1, (Stb.sd_of hI1.out).2 CR.out.2.1, (Stb.sd_of hI1.out).2 CR.out.2.2.1, (Stb.sd_of hI1.out).2 CR.out.2.2.2.1, fun x y h1 h2 h3 h4 => by rw [hI1.out, hI1.out]; exact CR.out.2.2.2.2 x y h1 h2 h3 h4⟩)
              clear hI1 CR
              have hl := IH.out a i mid d1 w1 (by omega) (by omega) (by omega) (by omega) (by omega) hw1.out C1.out.1 C1.out.2.1
              rw [hs] at hl
              clear hw1
              go_wp2_with fail
              refine hl.mono ?_
              rintro ev w2 ⟨rfl, d2, hz2, hpl, hsl2, hwl⟩
              have hp2' : Hid (PermIn a mid d1 d2) := hpl
              have hs2' : Hid (SortedIn (ltOf cf) a mid d2) := hsl2
              have hw2 : Aside (SW enc w0 blk off d2 w2) := hwl
              clear hpl hsl2 hwl hl
              have C2 : Hid (SortedIn (ltOf cf) mid e d2 ∧ SortedIn (ltOf cf) e b d2) := (show Hid _ from ⟨C1.out.2.2.1.congr (fun i h1 h2 => hp2'.out.2.1 i (Or.inr h1)), C1.out.2.2.2.1.congr (fun i h1 h2 => hp2'.out.2.1 i (Or.inr (by omega)))⟩)
              have hl3 := IH.out mid e b d2 w2 (by omega) (by omega) (by omega) (by omega) (by omega) hw2.out C2.out.1 C2.out.2
              rw [hs] at hl3
              clear hw2
              go_wp2_with fail
              all_goals refine hl3.mono ?_
              all_goals rintro ev w3 ⟨rfl, d3, hz3, hpl3, hsl3, hwl3⟩
              all_goals go_wp2_with fail
              all_goals go_end0
              all_goals exact ⟨rfl, d3, by omega, permIn_trans _ _ _ _ _ hp1'.out (permIn_trans _ _ _ _ _ (permIn_mono _ _ _ _ _ _ (by omega) (by omega) (by omega) hp2'.out) (permIn_mono _ _ _ _ _ _ (by omega) (by omega) (by omega) hpl3)), Stb.fin (by omega) (by omega) (by omega) C1.out.2.2.2.2 hp2'.out hs2'.out hpl3 hsl3, hwl3⟩
            · have c3a : ¬ ((mid : Int) < (e : Int) ∧ (e : Int) < (b : Int)) := by omega
              go_wp2_with fail
              refine hrc.mono ?_
              rintro ev w1 ⟨rfl, d1, hz1, hpr, hIr, hwr⟩
              clear c1
              have hp1' : Hid (PermIn a b d d1) := (show Hid _ from permIn_mono _ _ _ _ _ _ (by omega) (by omega) (by omega) hpr)
              have hI1 : Hid (Stb.Is d1 (Stb.rtF i m e (fun k => d[k]!))) := hIr
              have hw1 : Aside (SW enc w0 blk off d1 w1) := hwr
              clear hpr hIr hwr hrc S1
              have C1 : Hid (SortedIn (ltOf cf) a i d1 ∧ SortedIn (ltOf cf) i mid d1 ∧ SortedIn (ltOf cf) mid e d1 ∧ SortedIn (ltOf cf) e b d1 ∧ ∀ x y, a ≤ x → x < mid → mid ≤ y → y < b → ltOf cf d1[y]! d1[x]! = false) :=
                (show Hid _ from ⟨(Stb.sd_of hI1.out).2 CR.out.1, (Stb.sd_of hI1.out).2 CR.out.2.1, (Stb.sd_of hI1.out).2 CR.out.2.2.1, (Stb.sd_of hI1.out).2 CR.out.2.2.2.1, fun x y h1 h2 h3 h4 => by rw [hI1.out, hI1.out]; exact CR.out.2.2.2.2 x y h1 h2 h3 h4⟩)
              clear hI1 CR
              have hl := IH.out a i mid d1 w1 (by omega) (by omega) (by omega) (by omega) (by omega) hw1.out C1.out.1 C1.out.2.1
              rw [hs] at hl
              clear hw1
              go_wp2_with fail
              refine hl.mono ?_
              rintro ev w2 ⟨rfl, d2, hz2, hpl, hsl2, hwl⟩
              have hp2' : Hid (PermIn a mid d1 d2) := hpl
              have hs2' : Hid (SortedIn (ltOf cf) a mid d2) := hsl2
              have hw2 : Aside (SW enc w0 blk off d2 w2) := hwl
              clear hpl hsl2 hwl hl
              have C2 : Hid (SortedIn (ltOf cf) mid e d2 ∧ SortedIn (ltOf cf) e b d2) := (show Hid _ from ⟨C1.out.2.2.1.congr (fun i h1 h2 => hp2'.out.2.1 i (Or.inr h1)), C1.out.2.2.2.1.congr (fun i h1 h2 => hp2'.out.2.1 i (Or.inr (by omega)))⟩)
              have hs3' : Hid (SortedIn (ltOf cf) mid b d2) := (show Hid _ from by
                by_cases hq : mid < e
                · have : e = b := by omega
                  have h3 := C2.out.1; rw [this] at h3; exact h3
                · have : e = mid := by omega
                  have h3 := C2.out.2; rw [this] at h3; exact h3)
              go_wp2_with fail
              all_goals go_end0
              all_goals exact ⟨rfl, d2, by omega, permIn_trans _ _ _ _ _ hp1'.out (permIn_mono _ _ _ _ _ _ (by omega) (by omega) (by omega) hp2'.out), Stb.fin (by omega) (by omega) (by omega) C1.out.2.2.2.2 hp2'.out hs2'.out (permIn_refl _ _ _) hs3'.out, hw2.out⟩
          · have c2a : ¬ ((a : Int) < (i : Int) ∧ (i : Int) < (mid : Int)) := by omega
            by_cases c3 : mid < e ∧ e < b
            · have c3a : (mid : Int) < (e : Int) := by omega
              have c3b : (e : Int) < (b : Int) := by omega
              clear c3
              go_wp2_with fail
              refine hrc.mono ?_
              rintro ev w1 ⟨rfl, d1, hz1, hpr, hIr, hwr⟩
              clear c1
              have hp1' : Hid (PermIn a b d d1) := (show Hid _ from permIn_mono _ _ _ _ _ _ (by omega) (by omega) (by omega) hpr)
              have hI1 : Hid (Stb.Is d1 (Stb.rtF i m e (fun k => d[k]!))) := hIr
              have hw1 : Aside (SW enc w0 blk off d1 w1) := hwr
              clear hpr hIr hwr hrc S1
              have C1 : Hid (SortedIn (ltOf cf) a i d1 ∧ SortedIn (ltOf cf) i mid d1 ∧ SortedIn (ltOf cf) mid e d1 ∧ SortedIn (ltOf cf) e b d1 ∧ ∀ x y, a ≤ x → x < mid → mid ≤ y → y < b → ltOf cf d1[y]! d1[x]! = false) :=
                (show Hid _ from ⟨(Stb.sd_of hI1.out).2 CR.out.1, (Stb.sd_of hI1.out).2 CR.out.2.1, (Stb.sd_of hI1.out).2 CR.out.2.2.1, (Stb.sd_of hI1.out).2 CR.out.2.2.2.1, fun x y h1 h2 h3 h4 => by rw [hI1.out, hI1.out]; exact CR.out.2.2.2.2 x y h1 h2 h3 h4⟩)
              clear hI1 CR
              obtain ⟨d2, hd2⟩ : ∃ d2, d2 = d1 := ⟨_, rfl⟩
              obtain ⟨w2, hw2e⟩ : ∃ w2, w2 = w1 := ⟨_, rfl⟩
              have hz2 : d2.size = d1.size := by rw [hd2]
              have hp2' : Hid (PermIn a mid d1 d2) := (show Hid _ from by rw [hd2]; exact permIn_refl _ _ _)
              have hs2' : Hid (SortedIn (ltOf cf) a mid d2) := (show Hid _ from by
                rw [hd2]
                by_cases hq : a < i
                · have : i = mid := by omega
                  have h3 := C1.out.1; rw [this] at h3; exact h3
                · have : i = a := by omega
                  have h3 := C1.out.2.1; rw [this] at h3; exact h3)
              have hw2 : Aside (SW enc w0 blk off d2 w2) := (show Aside _ from by rw [hd2, hw2e]; exact hw1.out)
              rw [← hw2e]
              clear hd2 hw2e hw1
              have C2 : Hid (SortedIn (ltOf cf) mid e d2 ∧ SortedIn (ltOf cf) e b d2) := (show Hid _ from ⟨C1.out.2.2.1.congr (fun i h1 h2 => hp2'.out.2.1 i (Or.inr h1)), C1.out.2.2.2.1.congr (fun i h1 h2 => hp2'.out.2.1 i (Or.inr (by omega)))⟩)
              have hl3 := IH.out mid e b d2 w2 (by omega) (by omega) (by omega) (by omega) (by omega) hw2.out C2.out.1 C2.out.2
              rw [hs] at hl3
              clear hw2
              go_wp2_with fail
              all_goals refine hl3.mono ?_
              all_goals rintro ev w3 ⟨rfl, d3, hz3, hpl3, hsl3, hwl3⟩
              all_goals go_wp2_with fail
              all_goals go_end0
              all_goals exact ⟨rfl, d3, by omega, permIn_trans _ _ _ _ _ hp1'.out (permIn_trans _ _ _ _ _ (permIn_mono _ _ _ _ _ _ (by omega) (by omega) (by omega) hp2'.out) (permIn_mono _ _ _ _ _ _ (by omega) (by omega) (by omega) hpl3)), Stb.fin (by omega) (by omega) (by omega) C1.out.2.2.2.2 hp2'.out hs2'.out hpl3 hsl3, hwl3⟩
            · have c3a : ¬ ((mid : Int) < (e : Int) ∧ (e : Int) < (b : Int)) := by omega
              go_wp2_with fail
              refine hrc.mono ?_
              rintro ev w1 ⟨rfl, d1, hz1, hpr, hIr, hwr⟩
              clear c1
              have hp1' : Hid (PermIn a b d d1) := (show Hid _ from permIn_mono _ _ _ _ _ _ (by omega) (by omega) (by omega) hpr)
              have hI1 : Hid (Stb.Is d1 (Stb.rtF i m e (fun k => d[k]!))) := hIr
              have hw1 : Aside (SW enc w0 blk off d1 w1) := hwr
              clear hpr hIr hwr hrc S1
              have C1 : Hid (SortedIn (ltOf cf) a i d1 ∧ SortedIn (ltOf cf) i mid d1 ∧ SortedIn (ltOf cf) mid e d1 ∧ SortedIn (ltOf cf) e b d1 ∧ ∀ x y, a ≤ x → x < mid → mid ≤ y → y < b → ltOf cf d1[y]! d1[x]! = false) :=
                (show Hid _ from ⟨(Stb.sd_of hI1.out).2 CR.out.1, (Stb.sd_of hI1.out).2 CR.out.2.1, (Stb.sd_of hI1.out).2 CR.out.2.2.1, (Stb.sd_of hI1.out).2 CR.out.2.2.2.1, fun x y h1 h2 h3 h4 => by rw [hI1.out, hI1.out]; exact CR.out.2.2.2.2 x y h1 h2 h3 h4⟩)
              clear hI1 CR
              obtain ⟨d2, hd2⟩ : ∃ d2, d2 = d1 := ⟨_, rfl⟩
              obtain ⟨w2, hw2e⟩ : ∃ w2, w2 = w1 := ⟨_, rfl⟩
              have hz2 : d2.size = d1.size := by rw [hd2]
              have hp2' : Hid (PermIn a mid d1 d2) := (show Hid _ from by rw [hd2]; exact permIn_refl _ _ _)
              have hs2' : Hid (SortedIn (ltOf cf) a mid d2) := (show Hid _ from by
                rw [hd2]
                by_cases hq : a < i
                · have : i = mid := by omega
                  have h3 := C1.out.1; rw [this] at h3; exact h3
                · have : i = a := by omega
                  have h3 := C1.out.2.1; rw [this] at h3; exact h3)
              have hw2 : Aside (SW enc w0 blk off d2 w2) := (show Aside _ from by rw [hd2, hw2e]; exact hw1.out)
              rw [← hw2e]
              clear hd2 hw2e hw1
              have C2 : Hid (SortedIn (ltOf cf) mid e d2 ∧ SortedIn (ltOf cf) e b d2) := (show Hid _ from ⟨C1.out.2.2.1.congr (fun i h1 h2 => hp2'.out.2.1 i (Or.inr h1)), C1.out.2.2.2.1.congr (fun i h1 h2 => hp2'.out.2.1 i (Or.inr (by omega)))⟩)
              have hs3' : Hid (SortedIn (ltOf cf) mid b d2) := (show Hid _ from by
                by_cases hq : mid < e
                · have : e = b := by omega
                  have h3 := C2.out.1; rw [this] at h3; exact h3
                · have : e = mid := by omega
                  have h3 := C2.out.2; rw [this] at h3; exact h3)
              go_wp2_with fail
              all_goals go_end0
              all_goals exact ⟨rfl, d2, by omega, permIn_trans _ _ _ _ _ hp1'.out (permIn_mono _ _ _ _ _ _ (by omega) (by omega) (by omega) hp2'.out), Stb.fin (by omega) (by omega) (by omega) C1.out.2.2.2.2 hp2'.out hs2'.out (permIn_refl _ _ _) hs3'.out, hw2.out⟩
        · have c1a : ¬ ((i : Int) < (m : Int) ∧ (m : Int) < (e : Int)) := by omega
          have hrt : Stb.Is d (Stb.rtF i m e (fun k => d[k]!)) := by
            intro k
            by_cases hq : i < m
            · rw [show e = m by omega, Stb.rt_id2]
            · rw [show i = m by omega, Stb.rt_id1]
          obtain ⟨d1, hd1⟩ : ∃ d1, d1 = d := ⟨_, rfl⟩
          obtain ⟨w1, hw1e⟩ : ∃ w1, w1 = wr := ⟨_, rfl⟩
          have hz1 : d1.size = d.size := by rw [hd1]
          have hp1' : Hid (PermIn a b d d1) := (show Hid _ from by rw [hd1]; exact permIn_refl _ _ _)
          have hI1 : Hid (Stb.Is d1 (Stb.rtF i m e (fun k => d[k]!))) := (show Hid _ from by rw [hd1]; exact hrt)
          have hw1 : Aside (SW enc w0 blk off d1 w1) := (show Aside _ from by rw [hd1, hw1e]; exact S1.out)
          rw [← hw1e]
          clear hd1 hw1e hrt S1
          by_cases c2 : a < i ∧ i < mid
          · have c2a : (a : Int) < (i : Int) := by omega
            have c2b : (i : Int) < (mid : Int) := by omega
            clear c2
            by_cases c3 : mid < e ∧ e < b
            · have c3a : (mid : Int) < (e : Int) := by omega
              have c3b : (e : Int) < (b : Int) := by omega
              clear c3
              rcases (show ¬ (i : Int) < (m : Int) ∨ ((i : Int) < (m : Int) ∧ ¬ (m : Int) < (e : Int)) by omega) with g1 | ⟨g1, g1'⟩
              · have C1 : Hid (SortedIn (ltOf cf) a i d1 ∧ SortedIn (ltOf cf) i mid d1 ∧ SortedIn (ltOf cf) mid e d1 ∧ SortedIn (ltOf cf) e b d1 ∧ ∀ x y, a ≤ x → x < mid → mid ≤ y → y < b → ltOf cf d1[y]! d1[x]! = false) :=
                  (show Hid _ from ⟨(Stb.sd_of hI1.out).2 CR.out.1, (Stb.sd_of hI1.out).2 CR.out.2.1, (Stb.sd_of hI1.out).2 CR.out.2.2.1, (Stb.sd_of hI1.out).2 CR.out.2.2.2.1, fun x y h1 h2 h3 h4 => by rw [hI1.out, hI1.out]; exact CR.out.2.2.2.2 x y h1 h2 h3 h4⟩)
                clear hI1 CR
                have hl := IH.out a i mid d1 w1 (by omega) (by omega) (by omega) (by omega) (by omega) hw1.out C1.out.1 C1.out.2.1
                rw [hs] at hl
                clear hw1
                go_wp2_with fail
                refine hl.mono ?_
                rintro ev w2 ⟨rfl, d2, hz2, hpl, hsl2, hwl⟩
                have hp2' : Hid (PermIn a mid d1 d2) := hpl
                have hs2' : Hid (SortedIn (ltOf cf) a mid d2) := hsl2
                have hw2 : Aside (SW enc w0 blk off d2 w2) := hwl
                clear hpl hsl2 hwl hl
                have C2 : Hid (SortedIn (ltOf cf) mid e d2 ∧ SortedIn (ltOf cf) e b d2) := (show Hid _ from ⟨C1.out.2.2.1.congr (fun i h1 h2 => hp2'.out.2.1 i (Or.inr h1)), C1.out.2.2.2.1.congr (fun i h1 h2 => hp2'.out.2.1 i (Or.inr (by omega)))⟩)
                have hl3 := IH.out mid e b d2 w2 (by omega) (by omega) (by omega) (by omega) (by omega) hw2.out C2.out.1 C2.out.2
                rw [hs] at hl3
                clear hw2
                go_wp2_with fail
                all_goals refine hl3.mono ?_
                all_goals rintro ev w3 ⟨rfl, d3, hz3, hpl3, hsl3, hwl3⟩
                all_goals go_wp2_with fail
                all_goals go_end0
                all_goals exact ⟨rfl, d3, by omega, permIn_trans _ _ _ _ _ hp1'.out (permIn_trans _ _ _ _ _ (permIn_mono _ _ _ _ _ _ (by omega) (by omega) (by omega) hp2'.out) (permIn_mono _ _ _ _ _ _ (by omega) (by omega) (by omega) hpl3)), Stb.fin (by omega) (by omega) (by omega) C1.out.2.2.2.2 hp2'.out hs2'.out hpl3 hsl3, hwl3⟩
              · have C1 : Hid (SortedIn (ltOf cf) a i d1 ∧ SortedIn (ltOf cf) i mid d1 ∧ SortedIn (ltOf cf) mid e d1 ∧ SortedIn (ltOf cf) e b d1 ∧ ∀ x y, a ≤ x → x < mid → mid ≤ y → y < b → ltOf cf d1[y]! d1[x]! = false) :=
                  (show Hid _ from ⟨(Stb.sd_of hI1.out).2 CR.out.1, (Stb.sd_of hI1.out).2 CR.out.2.1, (Stb.sd_of hI1.out).2 CR.out.2.2.1, (Stb.sd_of hI1.out).2 CR.out.2.2.2.1, fun x y h1 h2 h3 h4 => by rw [hI1.out, hI1.out]; exact CR.out.2.2.2.2 x y h1 h2 h3 h4⟩)
                clear hI1 CR
                have hl := IH.out a i mid d1 w1 (by omega) (by omega) (by omega) (by omega) (by omega) hw1.out C1.out.1 C1.out.2.1
                rw [hs] at hl
                clear hw1
                go_wp2_with fail
                refine hl.mono ?_
                rintro ev w2 ⟨rfl, d2, hz2, hpl, hsl2, hwl⟩
                have hp2' : Hid (PermIn a mid d1 d2) := hpl
                have hs2' : Hid (SortedIn (ltOf cf) a mid d2) := hsl2
                have hw2 : Aside (SW enc w0 blk off d2 w2) := hwl
                clear hpl hsl2 hwl hl
                have C2 : Hid (SortedIn (ltOf cf) mid e d2 ∧ SortedIn (ltOf cf) e b d2) := (show Hid _ from ⟨C1.out.2.2.1.congr (fun i h1 h2 => hp2'.out.2.1 i (Or.inr h1)), C1.out.2.2.2.1.congr (fun i h1 h2 => hp2'.out.2.1 i (Or.inr (by omega)))⟩)
                have hl3 := IH.out mid e b d2 w2 (by omega) (by omega) (by omega) (by omega) (by omega) hw2.out C2.out.1 C2.out.2
                rw [hs] at hl3
                clear hw2
                go_wp2_with fail
                all_goals refine hl3.mono ?_
                all_goals rintro ev w3 ⟨rfl, d3, hz3, hpl3, hsl3, hwl3⟩
                all_goals go_wp2_with fail
                all_goals go_end0
                all_goals exact ⟨rfl, d3, by omega, permIn_trans _ _ _ _ _ hp1'.out (permIn_trans _ _ _ _ _ (permIn_mono _ _ _ _ _ _ (by omega) (by omega) (by omega) hp2'.out) (permIn_mono _ _ _ _ _ _ (by omega) (by omega) (by omega) hpl3)), Stb.fin (by omega) (by omega) (by omega) C1.out.2.2.2.2 hp2'.out hs2'.out hpl3 hsl3, hwl3⟩
            · have c3a : ¬ ((mid : Int) < (e : Int) ∧ (e : Int) < (b : Int)) := by omega
              rcases (show ¬ (i : Int) < (m : Int) ∨ ((i : Int) < (m : Int) ∧ ¬ (m : Int) < (e : Int)) by omega) with g1 | ⟨g1, g1'⟩
              · have C1 : Hid (SortedIn (ltOf cf) a i d1 ∧ SortedIn (ltOf cf) i mid d1 ∧ SortedIn (ltOf cf) mid e d1 ∧ SortedIn (ltOf cf) e b d1 ∧ ∀ x y, a ≤ x → x < mid → mid ≤ y → y < b → ltOf cf d1[y]! d1[x]! = false) :=
                  (show Hid _ from ⟨(Stb.sd_of hI1.out).2 CR.out.1, (Stb.sd_of hI1.out).2 CR.out.2.1, (Stb.sd_of hI1.out).2 CR.out.2.2.1, (Stb.sd_of hI1.out).2 CR.out.2.2.2.1, fun x y h1 h2 h3 h4 => by rw [hI1.out, hI1.out]; exact CR.out.2.2.2.2 x y h1 h2 h3 h4⟩)
                clear hI1 CR
                have hl := IH.out a i mid d1 w1 (by omega) (by omega) (by omega) (by omega) (by omega) hw1.out C1.out.1 C1.out.2.1
                rw [hs] at hl
                clear hw1
                go_wp2_with fail
                refine hl.mono ?_
                rintro ev w2 ⟨rfl, d2, hz2, hpl, hsl2, hwl⟩
                have hp2' : Hid (PermIn a mid d1 d2) := hpl
                have hs2' : Hid (SortedIn (ltOf cf) a mid d2) := hsl2
                have hw2 : Aside (SW enc w0 blk off d2 w2) := hwl
                clear hpl hsl2 hwl hl
                have C2 : Hid (SortedIn (ltOf cf) mid e d2 ∧ SortedIn (ltOf cf) e b d2) := (show Hid _ from ⟨C1.out.2.2.1.congr (fun i h1 h2 => hp2'.out.2.1 i (Or.inr h1)), C1.out.2.2.2.1.congr (fun i h1 h2 => hp2'.out.2.1 i (Or.inr (by omega)))⟩)
                have hs3' : Hid (SortedIn (ltOf cf) mid b d2) := (show Hid _ from by
                  by_cases hq : mid < e
                  · have : e = b := by omega
                    have h3 := C2.out.1; rw [this] at h3; exact h3
                  · have : e = mid := by omega
                    have h3 := C2.out.2; rw [this] at h3; exact h3)
                go_wp2_with fail
                all_goals go_end0
                all_goals exact ⟨rfl, d2, by omega, permIn_trans _ _ _ _ _ hp1'.out (permIn_mono _ _ _ _ _ _ (by omega) (by omega) (by omega) hp2'.out), Stb.fin (by omega) (by omega) (by omega) C1.out.2.2.2.2 hp2'.out hs2'.out (permIn_refl _ _ _) hs3'.out, hw2.out⟩
              · have C1 : Hid (SortedIn (ltOf cf) a i d1 ∧ SortedIn (ltOf cf) i mid d1 ∧ SortedIn (ltOf cf) mid e d1 ∧ SortedIn (ltOf cf) e b d1 ∧ ∀ x y, a ≤ x → x < mid → mid ≤ y → y < b → ltOf cf d1[y]! d1[x]! = false) :=
                  (show Hid _ from ⟨(Stb.sd_of hI1.out).2 CR.out.1, (Stb.sd_of hI1.out).2 CR.out.2.1, (Stb.sd_of hI1.out).2 CR.out.2.2.1, (Stb.sd_of hI1.out).2 CR.out.2.2.2.1, fun x y h1 h2 h3 h4 => by rw [hI1.out, hI1.out]; exact CR.out.2.2.2.2 x y h1 h2 h3 h4⟩)
                clear hI1 CR
                have hl := IH.out a i mid d1 w1 (by omega) (by omega) (by omega) (by omega) (by omega) hw1.out C1.out.1 C1.out.2.1
                rw [hs] at hl
                clear hw1
                go_wp2_with fail
                refine hl.mono ?_
                rintro ev w2 ⟨rfl, d2, hz2, hpl, hsl2, hwl⟩
                have hp2' : Hid (PermIn a mid d1 d2) := hpl
                have hs2' : Hid (SortedIn (ltOf cf) a mid d2) := hsl2
                have hw2 : Aside (SW enc w0 blk off d2 w2) := hwl
                clear hpl hsl2 hwl hl
                have C2 : Hid (SortedIn (ltOf cf) mid e d2 ∧ SortedIn (ltOf cf) e b d2) := (show Hid _ from ⟨C1.out.2.2.1.congr (fun i h1 h2 => hp2'.out.2.1 i (Or.inr h1)), C1.out.2.2.2.1.congr (fun i h1 h2 => hp2'.out.2.1 i (Or.inr (by omega)))⟩)
                have hs3' : Hid (SortedIn (ltOf cf) mid b d2) := (show Hid _ from by
                  by_cases hq : mid < e
                  · have : e = b := by omega
                    have h3 := C2.out.1; rw [this] at h3; exact h3
                  · have : e = mid := by omega
                    have h3 := C2.out.2; rw [this] at h3; exact h3)
                go_wp2_with fail
                all_goals go_end0
                all_goals exact ⟨rfl, d2, by omega, permIn_trans _ _ _ _ _ hp1'.out (permIn_mono _ _ _ _ _ _ (by omega) (by omega) (by omega) hp2'.out), Stb.fin (by omega) (by omega) (by omega) C1.out.2.2.2.2 hp2'.out hs2'.out (permIn_refl _ _ _) hs3'.out, hw2.out⟩
          · have c2a : ¬ ((a : Int) < (i : Int) ∧ (i : Int) < (mid : Int)) := by omega
            by_cases c3 : mid < e ∧ e < b
            · have c3a : (mid : Int) < (e : Int) := by omega
              have c3b : (e : Int) < (b : Int) := by omega
              clear c3
              rcases (show ¬ (i : Int) < (m : Int) ∨ ((i : Int) < (m : Int) ∧ ¬ (m : Int) < (e : Int)) by omega) with g1 | ⟨g1, g1'⟩
              · have C1 : Hid (SortedIn (ltOf cf) a i d1 ∧ SortedIn (ltOf cf) i mid d1 ∧ SortedIn (ltOf cf) mid e d1 ∧ SortedIn (ltOf cf) e b d1 ∧ ∀ x y, a ≤ x → x < mid → mid ≤ y → y < b → ltOf cf d1[y]! d1[x]! = false) :=
                  (show Hid _ from ⟨(Stb.sd_of hI1.out).2 CR.out.1, (Stb.sd_of hI1.out).2 CR.out.2.1, (Stb.sd_of hI1.out).2 CR.out.2.2.1, (Stb.sd_of hI1.out).2 CR.out.2.2.2.1, fun x y h1 h2 h3 h4 => by rw [hI1.out, hI1.out]; exact CR.out.2.2.2.2 x y h1 h2 h3 h4⟩)
                clear hI1 CR
                obtain ⟨d2, hd2⟩ : ∃ d2, d2 = d1 := ⟨_, rfl⟩
                obtain ⟨w2, hw2e⟩ : ∃ w2, w2 = w1 := ⟨_, rfl⟩
                have hz2 : d2.size = d1.size := by rw [hd2]
                have hp2' : Hid (PermIn a mid d1 d2) := (show Hid _ from by rw [hd2]; exact permIn_refl _ _ _)
                have hs2' : Hid (SortedIn (ltOf cf) a mid d2) := (show Hid _ from by
                  rw [hd2]
                  by_cases hq : a < i
                  · have : i = mid := by omega
                    have h3 := C1.out.1; rw [this] at h3; exact h3
                  · have : i = a := by omega
                    have h3 := C1.out.2.1; rw [this] at h3; exact h3)
                have hw2 : Aside (SW enc w0 blk off d2 w2) := (show Aside _ from by rw [hd2, hw2e]; exact hw1.out)
                rw [← hw2e]
                clear hd2 hw2e hw1
                have C2 : Hid (SortedIn (ltOf cf) mid e d2 ∧ SortedIn (ltOf cf) e b d2) := (show Hid _ from ⟨C1.out.2.2.1.congr (fun i h1 h2 => hp2'.out.2.1 i (Or.inr h1)), C1.out.2.2.2.1.congr (fun i h1 h2 => hp2'.out.2.1 i (Or.inr (by omega)))⟩)
                have hl3 := IH.out mid e b d2 w2 (by omega) (by omega) (by omega) (by omega) (by omega) hw2.out C2.out.1 C2.out.2
                rw [hs] at hl3
                clear hw2
                go_wp2_with fail
                all_goals refine hl3.mono ?_
                all_goals rintro ev w3 ⟨rfl, d3, hz3, hpl3, hsl3, hwl3⟩
                all_goals go_wp2_with fail
                all_goals go_end0
                all_goals exact ⟨rfl, d3, by omega, permIn_trans _ _ _ _ _ hp1'.out (permIn_trans _ _ _ _ _ (permIn_mono _ _ _ _ _ _ (by omega) (by omega) (by omega) hp2'.out) (permIn_mono _ _ _ _ _ _ (by omega) (by omega) (by omega) hpl3)), Stb.fin (by omega) (by omega) (by omega) C1.out.2.2.2.2 hp2'.out hs2'.out hpl3 hsl3, hwl3⟩
              · have C1 : Hid (SortedIn (ltOf cf) a i d1 ∧ SortedIn (ltOf cf) i mid d1 ∧ SortedIn (ltOf cf) mid e d1 ∧ SortedIn (ltOf cf) e b d1 ∧ ∀ x y, a ≤ x → x < mid → mid ≤ y → y < b → ltOf cf d1[y]! d1[x]! = false) :=
                  (show Hid _ from ⟨(Stb.sd_of hI1.out).2 CR.out.1, (Stb.sd_of hI1.out).2 CR.out.2.1, (Stb.sd_of hI1.out).2 CR.out.2.2.1, (Stb.sd_of hI1.out).2 CR.out.2.2.2.1, fun x y h1 h2 h3 h4 => by rw [hI1.out, hI1.out]; exact CR.out.2.2.2.2 x y h1 h2 h3 h4⟩)
                clear hI1 CR
                obtain ⟨d2, hd2⟩ : ∃ d2, d2 = d1 := ⟨_, rfl⟩
                obtain ⟨w2, hw2e⟩ : ∃ w2, w2 = w1 := ⟨_, rfl⟩
                have hz2 : d2.size = d1.size := by rw [hd2]
                have hp2' : Hid (PermIn a mid d1 d2) := (show Hid _ from by rw [hd2]; exact permIn_refl _ _ _)
                have hs2' : Hid (SortedIn (ltOf cf) a mid d2) := (show Hid _ from by
                  rw [hd2]
                  by_cases hq : a < i
                  · have : i = mid := by omega
                    have h3 := C1.out.1; rw [this] at h3; exact h3
                  · have : i = a := by omega
                    have h3 := C1.out.2.1; rw [this] at h3; exact h3)
                have hw2 : Aside (SW enc w0 blk off d2 w2) := (show Aside _ from by rw [hd2, hw2e]; exact hw1.out)
                rw [← hw2e]
                clear hd2 hw2e hw1
                have C2 : Hid (SortedIn (ltOf cf) mid e d2 ∧ SortedIn (ltOf cf) e b d2) := (show Hid _ from ⟨C1.out.2.2.1.congr (fun i h1 h2 => hp2'.out.2.1 i (Or.inr h1)), C1.out.2.2.2.1.congr (fun i h1 h2 => hp2'.out.2.1 i (Or.inr (by omega)))⟩)
                have hl3 := IH.out mid e b d2 w2 (by omega) (by omega) (by omega) (by omega) (by omega) hw2.out C2.out.1 C2.out.2
                rw [hs] at hl3
                clear hw2
                go_wp2_with fail
                all_goals refine hl3.mono ?_
                all_goals rintro ev w3 ⟨rfl, d3, hz3, hpl3, hsl3, hwl3⟩
                all_goals go_wp2_with fail
                all_goals go_end0
                all_goals exact ⟨rfl, d3, by omega, permIn_trans _ _ _ _ _ hp1'.out (permIn_trans _ _ _ _ _ (permIn_mono _ _ _ _ _ _ (by omega) (by omega) (by omega) hp2'.out) (permIn_mono _ _ _ _ _ _ (by omega) (by omega) (by omega) hpl3)), Stb.fin (by omega) (by omega) (by omega) C1.out.2.2.2.2 hp2'.out hs2'.out hpl3 hsl3, hwl3⟩
            · have c3a : ¬ ((mid : Int) < (e : Int) ∧ (e : Int) < (b : Int)) := by omega
              rcases (show ¬ (i : Int) < (m : Int) ∨ ((i : Int) < (m : Int) ∧ ¬ (m : Int) < (e : Int)) by omega) with g1 | ⟨g1, g1'⟩
              · have C1 : Hid (SortedIn (ltOf cf) a i d1 ∧ SortedIn (ltOf cf) i mid d1 ∧ SortedIn (ltOf cf) mid e d1 ∧ SortedIn (ltOf cf) e b d1 ∧ ∀ x y, a ≤ x → x < mid → mid ≤ y → y < b → ltOf cf d1[y]! d1[x]! = false) :=
                  (show Hid _ from ⟨(Stb.sd_of hI1.out).2 CR.out.1, (Stb.sd_of hI1.out).2 CR.out.2.1, (Stb.sd_of hI1.out).2 CR.out.2.2.1, (Stb.sd_of hI1.out).2 CR.out.2.2.2.1, fun x y h1 h2 h3 h4 => by rw [hI1.out, hI1.out]; exact CR.out.2.2.2.2 x y h1 h2 h3 h4⟩)
                clear hI1 CR
                obtain ⟨d2, hd2⟩ : ∃ d2, d2 = d1 := ⟨_, rfl⟩
                obtain ⟨w2, hw2e⟩ : ∃ w2, w2 = w1 := ⟨_, rfl⟩
                have hz2 : d2.size = d1.size := by rw [hd2]
                have hp2' : Hid (PermIn a mid d1 d2) := (show Hid _ from by rw [hd2]; exact permIn_refl _ _ _)
                have hs2' : Hid (SortedIn (ltOf cf) a mid d2) := (show Hid _ from by
                  rw [hd2]
                  by_cases hq : a < i
                  · have : i = mid := by omega
                    have h3 := C1.out.1; rw [this] at h3; exact h3
                  · have : i = a := by omega
                    have h3 := C1.out.2.1; rw [this] at h3; exact h3)
                have hw2 : Aside (SW enc w0 blk off d2 w2) := (show Aside _ from by rw [hd2, hw2e]; exact hw1.out)
                rw [← hw2e]
                clear hd2 hw2e hw1
                have C2 : Hid (SortedIn (ltOf cf) mid e d2 ∧ SortedIn (ltOf cf) e b d2) := (show Hid _ from ⟨C1.out.2.2.1.congr (fun i h1 h2 => hp2'.out.2.1 i (Or.inr h1)), C1.out.2.2.2.1.congr (fun i h1 h2 => hp2'.out.2.1 i (Or.inr (by omega)))⟩)
                have hs3' : Hid (SortedIn (ltOf cf) mid b d2) := (show Hid _ from by
                  by_cases hq : mid < e
                  · have : e = b := by omega
                    have h3 := C2.out.1; rw [this] at h3; exact h3
                  · have : e = mid := by omega
                    have h3 := C2.out.2; rw [this] at h3; exact h3)
                go_wp2_with fail
                all_goals go_end0
                all_goals exact ⟨rfl, d2, by omega, permIn_trans _ _ _ _ _ hp1'.out (permIn_mono _ _ _ _ _ _ (by omega) (by omega) (by omega) hp2'.out), Stb.fin (by omega) (by omega) (by omega) C1.out.2.2.2.2 hp2'.out hs2'.out (permIn_refl _ _ _) hs3'.out, hw2.out⟩
              · have C1 : Hid (SortedIn (ltOf cf) a i d1 ∧ SortedIn (ltOf cf) i mid d1 ∧ SortedIn (ltOf cf) mid e d1 ∧ SortedIn (ltOf cf) e b d1 ∧ ∀ x y, a ≤ x → x < mid → mid ≤ y → y < b → ltOf cf d1[y]! d1[x]! = false) :=
                  (show Hid _ from ⟨(Stb.sd_of hI1.out).2 CR.out.1, (Stb.sd_of hI1.out).2 CR.out.2.1, (Stb.sd_of hI1.out).2 CR.out.2.2.1, (Stb.sd_of hI1.out).2 CR.out.2.2.2.1, fun x y h1 h2 h3 h4 => by rw [hI1.out, hI1.out]; exact CR.out.2.2.2.2 x y h1 h2 h3 h4⟩)
                clear hI1 CR
                obtain ⟨d2, hd2⟩ : ∃ d2, d2 = d1 := ⟨_, rfl⟩
                obtain ⟨w2, hw2e⟩ : ∃ w2, w2 = w1 := ⟨_, rfl⟩
                have hz2 : d2.size = d1.size := by rw [hd2]
                have hp2' : Hid (PermIn a mid d1 d2) := (show Hid _ from by rw [hd2]; exact permIn_refl _ _ _)
                have hs2' : Hid (SortedIn (ltOf cf) a mid d2) := (show Hid _ from by
                  rw [hd2]
                  by_cases hq : a < i
                  · have : i = mid := by omega
                    have h3 := C1.out.1; rw [this] at h3; exact h3
                  · have : i = a := by omega
                    have h3 := C1.out.2.1; rw [this] at h3; exact h3)
                have hw2 : Aside (SW enc w0 blk off d2 w2) := (show Aside _ from by rw [hd2, hw2e]; exact hw1.out)
                rw [← hw2e]
                clear hd2 hw2e hw1
                have C2 : Hid (SortedIn (ltOf cf) mid e d2 ∧ SortedIn (ltOf cf) e b d2) := (show Hid _ from ⟨C1.out.2.2.1.congr (fun i h1 h2 => hp2'.out.2.1 i (Or.inr h1)), C1.out.2.2.2.1.congr (fun i h1 h2 => hp2'.out.2.1 i (Or.inr (by omega)))⟩)
                have hs3' : Hid (SortedIn (ltOf cf) mid b d2) := (show Hid _ from by
                  by_cases hq : mid < e
                  · have : e = b := by omega
                    have h3 := C2.out.1; rw [this] at h3; exact h3
                  · have : e = mid := by omega
                    have h3 := C2.out.2; rw [this] at h3; exact h3)
                go_wp2_with fail
                all_goals go_end0
                all_goals exact ⟨rfl, d2, by omega, permIn_trans _ _ _ _ _ hp1'.out (permIn_mono _ _ _ _ _ _ (by omega) (by omega) (by omega) hp2'.out), Stb.fin (by omega) (by omega) (by omega) C1.out.2.2.2.2 hp2'.out hs2'.out (permIn_refl _ _ _) hs3'.out, hw2.out⟩
end Go.Proofs.Ythlfdhooiekgjaa
/-
  The stable sort of the library: whole. No condition.
-/
set_option linter.unusedSimpArgs false
set_option linter.unusedVariables false
namespace Go.Proofs.Ythlfdhooiekgjaa
open Go Go.RowKit Go.Lib Go.Sort Go.Shelf
variable {α : Type} [Inhabited α]

theorem symMerge_s (enc : α → Value) (cf : α → α → Int) (hO : SWO (ltOf cf)) (g : Nat) (cb : Array Value) (blk off cap : Nat) (d0 : Array α) (w0 : World)
    (eg : ∀ args w, (callFunc g args).run Try.prog w = .ok (.enter g args) w) (hcmp : CmpLays1 Try.prog g cb enc cf blk off d0.size w0) (R : Row1 enc w0 blk off d0) (hsz : d0.size < 4611686018427387904) :
    ∀ (N a m b : Nat) (d : Array α) (w : World), b - a ≤ N → a < m → m < b → b ≤ d.size → d0.size = d.size → SW enc w0 blk off d w → SortedIn (ltOf cf) a m d → SortedIn (ltOf cf) m b d → MergeOk enc cf g cb blk off cap d0 w0 a m b d w
  | 0, a, m, b, d, w, hN, ham, hmb, hb, hs, S, h1, h2 => by omega
  | N + 1, a, m, b, d, w, hN, ham, hmb, hb, hs, S, h1, h2 => by
    by_cases c1 : m = a + 1
    · subst c1
      unfold MergeOk
      rw [hs]
      exact symMerge_l enc cf hO g cb blk off cap a b d0 d w0 w eg hcmp R hs S hmb hb (by omega) h2
    · by_cases c2 : b = m + 1
      · subst c2
        unfold MergeOk
        rw [hs]
        exact symMerge_r enc cf hO g cb blk off cap a m d0 d w0 w eg hcmp R hs S (by omega) hb (by omega) h1
      · exact symMerge_i enc cf hO g cb blk off cap a m b d0 d w0 w eg hcmp R hs S (by omega) (by omega) hb (by omega) h1 h2
          (fun a' m' b' d' w' q1 q2 q3 q4 q5 q6 q7 q8 => symMerge_s enc cf hO g cb blk off cap d0 w0 eg hcmp R hsz N a' m' b' d' w' (by omega) q2 q3 q4 q5 q6 q7 q8)

/-- Blocks of k in order, up to c. -/
def Bks (lt : α → α → Bool) (k c : Nat) (d : Array α) : Prop := ∀ t, SortedIn lt (t * k) (min (t * k + k) c) d
theorem sorted_none (lt : α → α → Bool) {a b : Nat} (d : Array α) (h : b ≤ a) : SortedIn lt a b d := fun i j h1 h2 h3 => by omega
theorem bks_step {lt : α → α → Bool} {k T : Nat} {d d' : Array α} (h : Bks lt k (T * k) d) (hp : PermIn (T * k) (T * k + k) d d') (hs : SortedIn lt (T * k) (T * k + k) d') : Bks lt k ((T + 1) * k) d' := by
  intro t
  rw [Nat.succ_mul]
  by_cases h1 : t < T
  · have : t * k + k ≤ T * k := by rw [← Nat.succ_mul]; exact Nat.mul_le_mul_right _ h1
    have := h t
    rw [show min (t * k + k) (T * k) = t * k + k by omega] at this
    rw [show min (t * k + k) (T * k + k) = t * k + k by omega]
    exact this.congr fun i q1 q2 => hp.2.1 i (Or.inl (by omega))
  · by_cases h2 : t = T
    · subst h2; rw [Nat.min_self]; exact hs
    · have : (T + 1) * k ≤ t * k := Nat.mul_le_mul_right _ (by omega)
      rw [Nat.succ_mul] at this
      exact sorted_none lt _ (by omega)
theorem bks_last {lt : α → α → Bool} {k T n : Nat} {d d' : Array α} (h : Bks lt k (T * k) d) (h1 : T * k ≤ n) (h2 : n < T * k + k) (hp : PermIn (T * k) n d d') (hs : SortedIn lt (T * k) n d') : Bks lt k n d' := by
  intro t
  by_cases h1 : t < T
  · have : t * k + k ≤ T * k := by rw [← Nat.succ_mul]; exact Nat.mul_le_mul_right _ h1
    have := h t
    rw [show min (t * k + k) (T * k) = t * k + k by omega] at this
    rw [show min (t * k + k) n = t * k + k by omega]
    exact this.congr fun i q1 q2 => hp.2.1 i (Or.inl (by omega))
  · by_cases h2 : t = T
    · subst h2; rw [show min (t * k + k) n = n by omega]; exact hs
    · have : (T + 1) * k ≤ t * k := Nat.mul_le_mul_right _ (by omega)
      rw [Nat.succ_mul] at this
      exact sorted_none lt _ (by omega)
/-- What is left in blocks of k, from a on. -/
def Rest (lt : α → α → Bool) (k a n : Nat) (d : Array α) : Prop := ∀ t, a ≤ t * k → SortedIn lt (t * k) (min (t * k + k) n) d
theorem rest_of {lt : α → α → Bool} {k n : Nat} {d : Array α} (h : Bks lt k n d) : Rest lt k 0 n d := fun t _ => h t
theorem rest_two {lt : α → α → Bool} {k n T : Nat} {d : Array α} (h : Rest lt k (T * (2 * k)) n d) (hn : T * (2 * k) + k ≤ n) : SortedIn lt (T * (2 * k)) (T * (2 * k) + k) d ∧ SortedIn lt (T * (2 * k) + k) (min (T * (2 * k) + 2 * k) n) d := by
  have e : 2 * T * k = T * (2 * k) := by rw [Nat.mul_comm 2 T, Nat.mul_assoc]
  have a1 := h (2 * T) (by omega)
  have e2 : (2 * T + 1) * k = T * (2 * k) + k := by rw [Nat.add_mul, e, Nat.one_mul]
  have a2 := h (2 * T + 1) (by omega)
  rw [e, show min (T * (2 * k) + k) n = T * (2 * k) + k by omega] at a1
  rw [e2, show T * (2 * k) + k + k = T * (2 * k) + 2 * k by omega] at a2
  exact ⟨a1, a2⟩
theorem rest_step {lt : α → α → Bool} {k n T : Nat} {d d' : Array α} (h : Rest lt k (T * (2 * k)) n d) (hp : PermIn (T * (2 * k)) (T * (2 * k) + 2 * k) d d') : Rest lt k ((T + 1) * (2 * k)) n d' := fun t ht => by
  have e2 : (T + 1) * (2 * k) = T * (2 * k) + 2 * k := by rw [Nat.add_mul, Nat.one_mul]
  exact (h t (by omega)).congr fun i q1 q2 => hp.2.1 i (Or.inr (by omega))
theorem rest_one {lt : α → α → Bool} {k n T : Nat} {d : Array α} (h : Rest lt k (T * (2 * k)) n d) (hn : n ≤ T * (2 * k) + k) : SortedIn lt (T * (2 * k)) n d := by
  have e : 2 * T * k = T * (2 * k) := by rw [Nat.mul_comm 2 T, Nat.mul_assoc]
  have a1 := h (2 * T) (by omega)
  rw [e, show min (T * (2 * k) + k) n = n by omega] at a1
  exact a1
theorem bks_all {lt : α → α → Bool} {k n : Nat} {d : Array α} (h : Bks lt k n d) (hn : n ≤ k) : SortedIn lt 0 n d := by
  have := h 0
  rwa [Nat.zero_mul, Nat.zero_add, show min k n = n by omega] at this
end Go.Proofs.Ythlfdhooiekgjaa
/-
  The stable sort of the library, walked whole. No condition but a bound on the size.
-/
set_option linter.unusedSimpArgs false
set_option linter.unusedVariables false
namespace Go.Proofs.Ythlfdhooiekgjaa
open Go Go.RowKit Go.Lib Go.Sort Go.Shelf
variable {α : Type} [Inhabited α]

set_option maxHeartbeats 64000000 in
set_option maxRecDepth 1000000 in
theorem stable_s (enc : α → Value) (cf : α → α → Int) (hO : SWO (ltOf cf)) (g : Nat) (cb : Array Value) (blk off cap : Nat) (d0 : Array α) (w0 : World)
    (eg : ∀ args w, (callFunc g args).run Try.prog w = .ok (.enter g args) w) (hcmp : CmpLays1 Try.prog g cb enc cf blk off d0.size w0) (R : Row1 enc w0 blk off d0) (hsz : d0.size < 1073741824) :
    Calls Try.prog 81 #[.slice (some ⟨blk, off, none⟩) d0.size cap, .int .i64 d0.size, .func (.func g) #[] cb] w0 fun e w' => e = .returned (.tuple #[]) ∧ ∃ d', d'.size = d0.size ∧ PermIn 0 d0.size d0 d' ∧ SortedIn (ltOf cf) 0 d0.size d' ∧ SW enc w0 blk off d' w' := by
  have mixed : Try.prog.follows Departure.mixedOrders = true := by kernel_rfl
  have INS : Hid (∀ (a b : Nat) (d : Array α) (w : World), d0.size = d.size → SW enc w0 blk off d w → a ≤ b → b ≤ d.size → Calls Try.prog 82 #[.slice (some ⟨blk, off, none⟩) d0.size cap, .int .i64 a, .int .i64 b, .func (.func g) #[] cb] w fun e w' => e = .returned (.tuple #[]) ∧ ∃ d', d'.size = d.size ∧ PermIn a b d d' ∧ SortedIn (ltOf cf) a b d' ∧ SW enc w0 blk off d' w') :=
    (show Hid _ from fun a b d w h1 h2 h3 h4 => by
      have hc := Any.insertionSortCmpFunc_s (P := Try.prog) (ρ := laysSort_ren) { laysSort with } enc cf g cb blk off cap a b d0 d w0 w eg hcmp R h1 h2 h3 h4 (by omega)
      rw [← h1] at hc
      obtain ⟨q1, q2⟩ := insertionSort_holds hO d a b h3 h4
      exact hc.mono fun e w' ⟨he, hw⟩ => ⟨he, _, q1.1, q1, q2, hw⟩)
  have MRG : Hid (∀ (a m b : Nat) (d : Array α) (w : World), a < m → m < b → b ≤ d.size → d0.size = d.size → SW enc w0 blk off d w → SortedIn (ltOf cf) a m d → SortedIn (ltOf cf) m b d → MergeOk enc cf g cb blk off cap d0 w0 a m b d w) :=
    (show Hid _ from fun a m b d w h1 h2 h3 h4 h5 h6 h7 => symMerge_s enc cf hO g cb blk off cap d0 w0 eg hcmp R (by omega) (b - a) a m b d w (Nat.le_refl _) h1 h2 h3 h4 h5 h6 h7)
  have S0 : Aside (SW enc w0 blk off d0 w0) := SW.start R.hH
  clear hcmp eg
  go_enter Try.func81, Try.ntmps81
  go_wp2
  go_loopg [7, 8] d0.size (fun g1 va vb wr => ∃ (a b : Nat) (d : Array α), va = .int .i64 a ∧ vb = .int .i64 b ∧ a + 20 ≤ b ∧ b ≤ a + 20 ∧ a ≤ d0.size ∧ d0.size - a ≤ g1 ∧ d.size = d0.size ∧ Aside (SW enc w0 blk off d wr) ∧ Hid (∃ T, a = T * 20 ∧ PermIn 0 d0.size d0 d ∧ Bks (ltOf cf) 20 (T * 20) d))
  case atStart => exact ⟨0, 20, d0, by go_num, by go_num, by omega, by omega, by omega, by omega, rfl, S0, (show Hid _ from ⟨0, by omega, permIn_refl _ _ _, fun t => sorted_none _ _ (by omega)⟩)⟩
  case round =>
    clear S0
    obtain ⟨a, b, d, rfl, rfl, hb1, hb2, ha, hg1, hsd, S1, HO⟩ := hrel
    by_cases hbn : b ≤ d0.size
    · have hbz : (b : Int) ≤ (d0.size : Int) := by omega
      have hc := INS.out a b d wr hsd.symm S1.out (by omega) (by omega)
      clear S1
      go_wp2_with fail
      refine hc.mono ?_
      rintro ev w1 ⟨rfl, d1, hz1, hp1, hs1, hw1⟩
      have S2 : Aside (SW enc w0 blk off d1 w1) := hw1
      have HO2 : Hid (∃ T, b = T * 20 ∧ PermIn 0 d0.size d0 d1 ∧ Bks (ltOf cf) 20 (T * 20) d1) := (show Hid _ from by
        obtain ⟨T, e, q1, q2⟩ := HO.out
        subst e
        have eb : b = T * 20 + 20 := by omega
        subst eb
        refine ⟨T + 1, by omega, permIn_trans _ _ _ _ _ q1 (permIn_mono _ _ _ _ _ _ (by omega) (by omega) (by omega) hp1), bks_step q2 hp1 hs1⟩)
      clear hw1 hp1 hs1 hc HO
      go_wp2
      go_roundg (d0.size - b)
      case measure => omega
      case rel => exact ⟨b, b + 20, d1, by go_num, by go_num, by omega, by omega, by omega, by omega, by omega, S2, HO2⟩
    · have hbz : ¬ (b : Int) ≤ (d0.size : Int) := by omega
      have hc := INS.out a d0.size d wr hsd.symm S1.out (by omega) (by omega)
      clear S1
      go_wp2_with fail
      refine hc.mono ?_
      rintro ev w1 ⟨rfl, d1, hz1, hp1, hs1, hw1⟩
      have S2 : Aside (SW enc w0 blk off d1 w1) := hw1
      have HO2 : Hid (PermIn 0 d0.size d0 d1 ∧ Bks (ltOf cf) 20 d0.size d1) := (show Hid _ from by
        obtain ⟨T, e, q1, q2⟩ := HO.out
        subst e
        exact ⟨permIn_trans _ _ _ _ _ q1 (permIn_mono _ _ _ _ _ _ (by omega) (by omega) (by omega) hp1), bks_last q2 ha (by omega) hp1 hs1⟩)
      clear hw1 hp1 hs1 hc HO
      go_wp2
      go_loopg [6] d0.size (fun g1 vk wr => ∃ (k : Nat) (d : Array α), vk = .int .i64 k ∧ 20 ≤ k ∧ k < 2147483648 ∧ d0.size - k ≤ g1 ∧ d.size = d0.size ∧ Aside (SW enc w0 blk off d wr) ∧ Hid (PermIn 0 d0.size d0 d ∧ Bks (ltOf cf) k d0.size d))
      case atStart => exact ⟨20, d1, by go_num, by omega, by omega, by omega, by omega, S2, HO2⟩
      case round =>
        clear S2 HO2
        obtain ⟨k, d2, rfl, hk1, hk2, hg2, hsd2, S3, H3⟩ := hrel
        by_cases hkn : k < d0.size
        · have hkz : (k : Int) < (d0.size : Int) := by omega
          go_wp2
          go_loopg [7, 8] d0.size (fun g1 va vb wr => ∃ (a b : Nat) (d : Array α), va = .int .i64 a ∧ vb = .int .i64 b ∧ a + 2 * k ≤ b ∧ b ≤ a + 2 * k ∧ a ≤ d0.size ∧ d0.size - a ≤ g1 ∧ d.size = d0.size ∧ Aside (SW enc w0 blk off d wr) ∧ Hid (∃ T, a = T * (2 * k) ∧ PermIn 0 d0.size d0 d ∧ Bks (ltOf cf) (2 * k) (T * (2 * k)) d ∧ Rest (ltOf cf) k (T * (2 * k)) d0.size d))
          case atStart => exact ⟨0, 2 * k, d2, by go_num, by go_num, by omega, by omega, by omega, by omega, hsd2, S3, (show Hid _ from ⟨0, by omega, H3.out.1, fun t => sorted_none _ _ (by omega), by rw [Nat.zero_mul]; exact rest_of H3.out.2⟩)⟩
          case round =>
            clear S3 H3
            obtain ⟨a, b, d3, rfl, rfl, hb1, hb2, ha, hg3, hsd3, S4, H4⟩ := hrel
            by_cases hbn : b ≤ d0.size
            · have hbz : (b : Int) ≤ (d0.size : Int) := by omega
              have hc : MergeOk enc cf g cb blk off cap d0 w0 a (a + k) b d3 wr := by
                obtain ⟨T, e, q1, q2, q3⟩ := H4.out
                subst e
                obtain ⟨r1, r2⟩ := rest_two q3 (by omega)
                rw [show min (T * (2 * k) + 2 * k) d0.size = b by omega] at r2
                exact MRG.out _ _ _ d3 wr (by omega) (by omega) (by omega) hsd3.symm S4.out r1 r2
              unfold MergeOk at hc
              rw [Int.natCast_add] at hc
              clear S4
              go_wp2_with fail
              refine hc.mono ?_
              rintro ev w4 ⟨rfl, d4, hz4, hp4, hs4, hw4⟩
              have S5 : Aside (SW enc w0 blk off d4 w4) := hw4
              have H5 : Hid (∃ T, b = T * (2 * k) ∧ PermIn 0 d0.size d0 d4 ∧ Bks (ltOf cf) (2 * k) (T * (2 * k)) d4 ∧ Rest (ltOf cf) k (T * (2 * k)) d0.size d4) := (show Hid _ from by
                obtain ⟨T, e, q1, q2, q3⟩ := H4.out
                subst e
                have eb : b = T * (2 * k) + 2 * k := by omega
                subst eb
                refine ⟨T + 1, by rw [Nat.add_mul, Nat.one_mul], permIn_trans _ _ _ _ _ q1 (permIn_mono _ _ _ _ _ _ (by omega) (by omega) (by omega) hp4), bks_step q2 hp4 hs4, rest_step q3 hp4⟩)
              clear hw4 hp4 hs4 hc H4
              go_wp2
              go_roundg (d0.size - b)
              case measure => omega
              case rel => exact ⟨b, b + 2 * k, d4, by go_num, by go_num, by omega, by omega, by omega, by omega, by omega, S5, H5⟩
            · have hbz : ¬ (b : Int) ≤ (d0.size : Int) := by omega
              by_cases hlast : a + k < d0.size
              · have hlz : (a : Int) + (k : Int) < (d0.size : Int) := by omega
                have hc : MergeOk enc cf g cb blk off cap d0 w0 a (a + k) d0.size d3 wr := by
                  obtain ⟨T, e, q1, q2, q3⟩ := H4.out
                  subst e
                  obtain ⟨r1, r2⟩ := rest_two q3 (by omega)
                  rw [show min (T * (2 * k) + 2 * k) d0.size = d0.size by omega] at r2
                  exact MRG.out _ _ _ d3 wr (by omega) (by omega) (by omega) hsd3.symm S4.out r1 r2
                unfold MergeOk at hc
                rw [Int.natCast_add] at hc
                clear S4
                go_wp2_with fail
                refine hc.mono ?_
                rintro ev w4 ⟨rfl, d4, hz4, hp4, hs4, hw4⟩
                have S5 : Aside (SW enc w0 blk off d4 w4) := hw4
                have H5 : Hid (PermIn 0 d0.size d0 d4 ∧ Bks (ltOf cf) (k * 2) d0.size d4) := (show Hid _ from by
                  obtain ⟨T, e, q1, q2, q3⟩ := H4.out
                  subst e
                  rw [Nat.mul_comm k 2]
                  exact ⟨permIn_trans _ _ _ _ _ q1 (permIn_mono _ _ _ _ _ _ (by omega) (by omega) (by omega) hp4), bks_last q2 ha (by omega) hp4 hs4⟩)
                clear hw4 hp4 hs4 hc H4
                go_wp2
                go_roundg (d0.size - k * 2)
                case measure => omega
                case rel => exact ⟨k * 2, d4, by go_num, by omega, by omega, by omega, by omega, S5, H5⟩
              · have hlz : ¬ (a : Int) + (k : Int) < (d0.size : Int) := by omega
                have H5 : Hid (PermIn 0 d0.size d0 d3 ∧ Bks (ltOf cf) (k * 2) d0.size d3) := (show Hid _ from by
                  obtain ⟨T, e, q1, q2, q3⟩ := H4.out
                  subst e
                  rw [Nat.mul_comm k 2]
                  exact ⟨q1, bks_last q2 ha (by omega) (permIn_refl _ _ _) (rest_one q3 (by omega))⟩)
                clear H4
                go_wp2
                go_roundg (d0.size - k * 2)
                case measure => omega
                case rel => exact ⟨k * 2, d3, by go_num, by omega, by omega, by omega, by omega, S4, H5⟩
        · have hkz : ¬ (k : Int) < (d0.size : Int) := by omega
          go_wp2
          go_end0
          exact ⟨rfl, d2, hsd2, H3.out.1, bks_all H3.out.2 (by omega), S3.out⟩

theorem slices_SortStableFunc (enc : α → Value) (h1 : OneCell enc) (cf : α → α → Int) (hO : SWO (ltOf cf)) (g : Nat) (cb : Array Value) (blk off cap : Nat) (d : Array α) (w : World) (eg : ∀ args w, (callFunc g args).run Try.prog w = .ok (.enter g args) w) (hcmp : CmpLays1 Try.prog g cb enc cf blk off d.size w) (hH : Holds enc w blk off d) (hblk : blk < w.heap.size) (hsz : d.size < 1073741824) :
    Calls Try.prog 74 #[.slice (some ⟨blk, off, none⟩) d.size cap, .func (.func g) #[] cb] w fun e w' =>
      e = .returned (.tuple #[]) ∧ ∃ d' n os, PermIn 0 d.size d d' ∧ SortedIn (ltOf cf) 0 d.size d' ∧ w' = sortWorld enc w blk off n d' os := by
  have hc := stable_s enc cf hO g cb blk off cap d w eg hcmp ⟨h1, hH, hblk⟩ hsz
  go_enter Try.func74, Try.ntmps74
  go_wp2_with fail
  refine hc.mono ?_
  rintro ev w1 ⟨rfl, d1, hz1, hp1, hs1, n, os, hw1⟩
  have A : Hid (PermIn 0 d.size d d1 ∧ SortedIn (ltOf cf) 0 d.size d1 ∧ w1 = sortWorld enc w blk off n d1 os) := (show Hid _ from ⟨hp1, hs1, hw1⟩)
  clear hp1 hs1 hw1 hc
  go_wp2
  go_end0
  exact ⟨rfl, d1, n, os, A.out⟩
end Go.Proofs.Ythlfdhooiekgjaa
/-
  slices.SortStableFunc at own slices of rows, by any function that compares rows; edges by their ratios. No condition.
-/
namespace Go.Proofs.Ythlfdhooiekgjaa
open Go Go.RowKit Go.Sort

section
variable {env : Env} {os : List AO} {d : Option Tmp} {ty : TypeId} {pos : String} {af : Array Edge} {g : Option (Nat × Bool)}

set_option maxHeartbeats 2000000 in
theorem c_sortst {G : FuncId} {cmp : List Int → List Int → Int} {R : List Int → Prop} (hcmpok : CmpOk G cmp R) {x y : Operand} {ats : Array TypeId} {h : Nat} {e e2 : TypeId} {xss : List (List Int)} (hx : AV.ev env x = .own h) (hs : os[h]? = some (.sls e e2 xss)) (hy : AV.ev env y = .val (.func (.func G) #[] #[])) (hp : ∀ xs ∈ xss, R xs) (hn : 0 < xss.length ∧ xss.length ≤ 1048576) :
    COp Try.prog ⟨d, .call { callee := .value (.func 74), args := #[x, y], argTypes := ats }, ty, pos, af, g⟩ env os
      (fun r e' o => ∃ idx : List Nat, idx.Perm (List.range xss.length) ∧ (∀ i j : Nat, i < j → j < idx.length → ¬ cmp (xss.getD (idx.getD j 0) []) (xss.getD (idx.getD i 0) []) < 0) ∧ r = .any ∧ e' = env.mp (AV.noRow h) ∧ o = ((((os ++ [AO.sli e2 []]).map (AO.via (AV.noRow h) h)).set h (.sls e e2 (idx.map fun i => xss.getD i []))).set os.length .dead)) := by
  intro base w gs tm hr
  have hxv := hr.ev x
  rw [hx] at hxv
  have hyv := hr.evv hy
  generalize hv : Act.eval ⟨tm, []⟩ x = v at hxv
  cases hxv with
  | @own _ gh hg =>
  obtain ⟨us, bs, mb, b1, b2, b3, b4, b5, b6, b7, b8⟩ := hr.ho _ _ _ hg hs
  rcases b1.2 with ⟨_, c2⟩ | ⟨blk, cap, cur, c1, c2, c3, c4, c5, c6, c7⟩
  · omega
  have hmb : gh.v.ownBlock = some blk := by rw [c1]; rfl
  have hblk : blk ∈ mb := by
    rcases b6 with ⟨q1, _⟩ | ⟨q1, q2⟩
    · rw [hmb] at q1; cases q1
    · rw [hmb] at q1; cases q1; simp [q2]
  have hmb1 : ∀ b ∈ mb, b = blk := by
    rcases b6 with ⟨q1, _⟩ | ⟨q1, q2⟩
    · rw [hmb] at q1; cases q1
    · rw [hmb] at q1; cases q1; intro b hb; rw [q2] at hb; simpa using hb
  have a8' : (mb ++ bs.flatten).Nodup := by rw [← b7]; exact b8
  have hlt : blk < w.heap.size := (Array.getElem?_eq_some_iff.1 c3).1
  have hbl0 : ∀ b, b ∈ gh.bl → b < w.heap.size := fun b hb => (hr.hn _ _ _ hg hs (by simp) b hb).2
  have rowblk : ∀ (j : Nat) u, us[j]? = some u → ∀ c, u.ownBlock = some c → c ∈ bs.flatten := by
    intro j u hj c hc
    have hjb : j < bs.length := by
      have := (List.getElem?_eq_some_iff.1 hj).1
      omega
    exact List.mem_flatten.2 ⟨bs.getD j [], by rw [List.getD_eq_getElem?_getD, List.getElem?_eq_getElem hjb]; simp, by rw [← (b5 j u hj).2.2, hc]; simp⟩
  have flne : ∀ c, c ∈ bs.flatten → c ≠ blk ∧ c < w.heap.size := fun c hc => ⟨fun e => (List.nodup_append.1 a8').2.2 blk hblk c hc e.symm, hbl0 c (by rw [b7]; exact List.mem_append.2 (.inr hc))⟩
  -- the rows by their numbers
  let n := xss.length
  let ix : Nat → Nat := fun i => if i < n then i else 0
  have hix : ∀ i, ix i < n := fun i => by show (if i < n then i else 0) < n; split <;> omega
  let enc : Nat → Value := fun i => us.getD (ix i) undef
  let row : Nat → List Int := fun i => xss.getD (ix i) []
  let cf : Nat → Nat → Int := fun i j => cmp (row i) (row j)
  have hus : ∀ i, us[ix i]? = some (enc i) := fun i => by
    have : ix i < us.length := by rw [b2]; exact hix i
    show us[ix i]? = some (us.getD (ix i) undef)
    rw [List.getD_eq_getElem?_getD, List.getElem?_eq_getElem this]; rfl
  have hrow : ∀ i, R (row i) := fun i => by
    have : ix i < xss.length := hix i
    refine hp _ ?_
    show xss.getD (ix i) [] ∈ xss
    rw [List.getD_eq_getElem?_getD, List.getElem?_eq_getElem this]
    exact List.getElem_mem this
  have henc : ∀ i, ∃ c cp, enc i = .slice c (row i).length cp := fun i => by
    obtain ⟨q1, q2, q3⟩ := b5 _ _ (hus i)
    obtain ⟨ua, uc, eu⟩ := ownsRow_slice q1
    exact ⟨ua, uc, eu⟩
  have h1 : OneCell enc := fun i => by obtain ⟨c, cp, q⟩ := henc i; rw [q]; rfl
  have hlt' : ∀ i j, ltOf cf i j = true ↔ cmp (row i) (row j) < 0 := fun i j => by
    unfold ltOf
    rw [decide_eq_true_iff]
  have hlf : ∀ i j, ltOf cf i j = false ↔ ¬ cmp (row i) (row j) < 0 := fun i j => by
    rw [← hlt', Bool.not_eq_true]
  have hO : SWO (ltOf cf) := by
    refine ⟨fun i => ?_, fun i j k p q => ?_, fun i j k p q => ?_⟩
    · rw [hlf]; exact hcmpok.2.2.1 _ (hrow i)
    · rw [hlt'] at *; exact hcmpok.2.2.2.1 _ _ _ (hrow i) (hrow j) (hrow k) p q
    · rw [hlf] at *; exact hcmpok.2.2.2.2 _ _ _ (hrow i) (hrow j) (hrow k) p q
  have hbd : HasBody Try.prog 74 := ⟨_, _, Try.func74, by kernel_rfl, rfl⟩
  have hbc := hcmpok.1
  have hsz : (Array.range n).size = us.length := by simp [n, b2]
  have hcmp : CmpLays1 Try.prog G #[] enc cf blk 0 (Array.range n).size w := by
    intro m oss dk hdk i j
    have hat : ∀ i, IntsAt (sortWorld enc w blk 0 m dk oss) (fun _ => True) (enc i) (row i) := fun i => by
      obtain ⟨q1, q2, q3⟩ := b5 _ _ (hus i)
      refine ⟨RowAt.of_owns (base := base) (e := e2) (ownsRow_of_block q1 fun c hc => ?_), q2⟩
      have := flne c (rowblk _ _ (hus i) c hc)
      exact sw_other enc w blk m dk oss this.1 this.2
    exact hcmpok.2.1 _ _ _ _ _ (hat i) (hat j) (hrow i) (hrow j)
  have hH : Holds enc w blk 0 (Array.range n) := by
    intro j hj
    have hj' : j < n := by simpa using hj
    obtain ⟨b', cp, r1, r2, r3, r4⟩ := own_slice b1 (i := j) (by rw [b2]; exact hj')
    have : b' = blk := by rw [hmb] at r2; exact (Option.some.inj r2).symm
    subst this
    rw [Nat.zero_add]
    refine ⟨?_, r4⟩
    have e1 : (Array.range n)[j]! = j := by rw [getElem!_pos _ j (by simpa using hj')]; simp
    have e2 : ix j = j := if_pos hj'
    rw [r3, e1, ← hus j, e2]
  refine ⟨_, _, run_call hbd [x, y] ats _ rfl w, ?_⟩
  have hcall := slices_SortStableFunc enc h1 cf hO G #[] blk 0 cap (Array.range n) w (fun args w => hbc.run args w) hcmp hH hlt (by simp [n]; omega)
  have eargs : ([x, y].map (Act.eval ⟨tm, []⟩)).toArray = #[.slice (some ⟨blk, 0, none⟩) (Array.range n).size cap, .func (.func G) #[] #[]] := by
    simp only [List.map_cons, List.map_nil, hv, hyv, c1, hsz]
  rw [eargs]
  refine hcall.mono ?_
  rintro e' w' ⟨rfl, d', m, oss, ⟨p1, p2, p3⟩, hsort, rfl⟩
  have hdl : d'.size = n := by simpa using p1
  have hperm : d'.toList.Perm (List.range n) := by
    have e1 : (d'.extract 0 (Array.range n).size).toList = d'.toList := by simp; rw [List.take_of_length_le (by simp [hdl])]
    have e2 : ((Array.range n).extract 0 (Array.range n).size).toList = List.range n := by simp
    rw [e1, e2] at p3
    exact p3
  let idx := d'.toList
  have hil : idx.length = n := by simpa [idx] using hdl
  have hin : ∀ i ∈ idx, i < n := fun i hi => List.mem_range.1 (hperm.mem_iff.1 hi)
  have hind : idx.Nodup := hperm.nodup_iff.2 List.nodup_range
  let cs : List (List Nat) := idx.map fun i => bs.getD i []
  let us' : List Value := idx.map enc
  have hus' : ∀ i ∈ idx, us[i]? = some (enc i) := fun i hi => by
    have := hus i
    have e2 : ix i = i := if_pos (hin i hi)
    rwa [e2] at this
  let g' : Gh := ⟨gh.v, gh.b, mb ++ cs.flatten, us'⟩
  have hcs : ∀ b, b ∈ cs.flatten → b ∈ bs.flatten := by
    intro b hb
    obtain ⟨l, hl, hbl⟩ := List.mem_flatten.1 hb
    obtain ⟨i, hi, rfl⟩ := List.mem_map.1 hl
    have hi2 : i < bs.length := by rw [b3]; exact hin i hi
    rw [List.getD_eq_getElem?_getD, List.getElem?_eq_getElem hi2] at hbl
    exact List.mem_flatten.2 ⟨_, List.getElem_mem hi2, hbl⟩
  -- a dummy object, to be taken in
  let gd : Gh := ⟨.slice none 0 0, 0, [], []⟩
  have hr1 : Rel base w (gs ++ [gd]) env (os ++ [.sli e2 []]) tm := hr.new (Below.refl _ _) (.sli e2 []) gd (fun _ b hb => by simp [gd] at hb) ⟨World.ownsRow_nil w base e2 1, fun x hx => by simp at hx, .inl ⟨rfl, rfl⟩⟩
  have hgl : h < gs.length := (List.getElem?_eq_some_iff.1 hg).1
  have hol : h < os.length := (List.getElem?_eq_some_iff.1 hs).1
  have hg1 : (gs ++ [gd])[h]? = some gh := by rw [List.getElem?_append_left hgl]; exact hg
  have hs1 : (os ++ [AO.sli e2 []])[h]? = some (.sls e e2 xss) := by rw [List.getElem?_append_left hol]; exact hs
  have hgd : (gs ++ [gd])[os.length]? = some gd := by rw [← hr.hl]; simp
  have hod : (os ++ [AO.sli e2 []])[os.length]? = some (.sli e2 []) := by simp
  have sv : SameV h (gs ++ [gd]) ((gs ++ [gd]).set h g') := by
    refine ⟨fun j z hj hz => ?_, fun z hz => ⟨g', ?_, ?_, ?_⟩⟩
    · rw [List.getElem?_set, if_neg (fun e => hj e.symm)]; exact hz
    · rw [List.getElem?_set, if_pos rfl, if_pos (by simp; omega)]
    · rw [hg1] at hz; cases hz; rfl
    · rw [hg1] at hz; cases hz; rfl
  have hkeep : ∀ b, b < w.heap.size → b ≠ blk → (sortWorld enc w blk 0 m d' oss).heap[b]? = w.heap[b]? := fun b hb hne => sw_other enc w blk m d' oss hne hb
  have hblkbl : blk ∈ gh.bl := by rw [b7]; exact List.mem_append.2 (.inl hblk)
  refine ⟨.tuple #[], .any, _, _, (gs ++ [gd]).set h g', rfl, ⟨idx, hperm, ?_, rfl, rfl, rfl⟩, hr1.absorb hg1 hs1 trivial hgd hod trivial (by omega) g' _ (AV.noRow h) rfl (fun b hb hn => hkeep b hb fun e => hn (by rw [e]; exact hblkbl)) (by rw [sw_size]; omega) ?_ (fun kp hv => hv.noRow kp sv) ?_, .any _, ?_⟩
  · intro i j hij hj
    have hj2 : j < d'.size := by rw [hdl, ← hil]; exact hj
    have hs2 := hsort i j (Nat.zero_le _) hij (by simpa using (by omega : j < n))
    rw [hlf, getElem!_pos d' j hj2, getElem!_pos d' i (by omega)] at hs2
    have q : ∀ a (ha : a < d'.size), row d'[a] = xss.getD (idx.getD a 0) [] := fun a ha => by
      have e3 : idx.getD a 0 = d'[a] := by
        show d'.toList.getD a 0 = _
        rw [List.getD_eq_getElem?_getD, Array.getElem?_toList, Array.getElem?_eq_getElem ha]; rfl
      have e4 : d'[a] < n := hin _ (by show d'[a] ∈ d'.toList; simp)
      rw [e3]
      show xss.getD (ix d'[a]) [] = _
      rw [show ix d'[a] = d'[a] from if_pos e4]
    rw [q j hj2, q i (by omega)] at hs2
    exact hs2
  · intro b hb
    have hbb : b ∈ gh.bl := by
      rw [b7]
      rcases List.mem_append.1 hb with hb | hb
      · exact List.mem_append.2 (.inl hb)
      · exact List.mem_append.2 (.inr (hcs b hb))
    refine ⟨.inl hbb, ?_⟩
    rw [sw_size]
    have := hbl0 b hbb
    omega
  · intro kp
    refine ⟨us', cs, mb, ?_, by simp [us'], by simp [cs], rfl, fun j u hj => ?_, b6, rfl, ?_⟩
    · refine ⟨by simp, .inr ⟨blk, cap, _, ?_, c2, sw_row enc w blk m d' oss c3, ?_, c5, ?_, ?_⟩⟩
      · show gh.v = _
        rw [c1]
        have : us'.length = us.length := by simp [us', hil, b2, n]
        rw [this]
      · have : us'.length = us.length := by simp [us', hil, b2, n]
        omega
      · simpa [putCells] using c6
      · have : us'.length * 1 = d'.size := by simp [us', hil, hdl]
        rw [this]
        exact take_put enc d' cur (by rw [c6, hdl]; omega)
    · obtain ⟨i, hi, rfl⟩ : ∃ i, idx[j]? = some i ∧ enc i = u := by
        rw [List.getElem?_map] at hj
        cases hjx : idx[j]? with
        | none => rw [hjx] at hj; cases hj
        | some i => rw [hjx] at hj; exact ⟨i, rfl, Option.some.inj hj⟩
      have him := List.mem_of_getElem? hi
      have g1 : (idx.map fun i => xss.getD i []).getD j [] = xss.getD i [] := by
        rw [List.getD_eq_getElem?_getD, List.getElem?_map, hi]; rfl
      have g2 : cs.getD j [] = bs.getD i [] := by
        show (idx.map fun i => bs.getD i []).getD j [] = _
        rw [List.getD_eq_getElem?_getD, List.getElem?_map, hi]; rfl
      obtain ⟨q1, q2, q3⟩ := b5 i _ (hus' i him)
      rw [g1, g2]
      refine ⟨ownsRow_of_block q1 fun c hc => ?_, q2, q3⟩
      have hcf := rowblk i _ (hus' i him) c hc
      exact hkeep c (flne c hcf).2 (flne c hcf).1
    · show (mb ++ cs.flatten).Nodup
      rw [List.nodup_append] at a8' ⊢
      refine ⟨a8'.1, nodup_sel a8'.2.1 hind (fun i hi => by rw [b3]; exact hin i hi), fun a ha b hb e => a8'.2.2 a ha b (hcs b hb) e⟩
  · refine ⟨rfl, rfl, rfl, by rw [sw_size]; omega, fun b hb => hkeep b (by have := hr.hb; omega) fun e => ?_⟩
    omega
end

section
variable {env : Env} {os : List AO} {d : Tmp} {ty : TypeId} {pos : String} {af : Array Edge} {l rest : List Oper} {K : APost}
theorem w_sortst {G : FuncId} {cmp : List Int → List Int → Int} {R : List Int → Prop} (hcmpok : CmpOk G cmp R) {x y : Operand} {ats : Array TypeId} {h : Nat} {e e2 : TypeId} {xss : List (List Int)} (hp : ∀ xs ∈ xss, R xs) (hn : 0 < xss.length ∧ xss.length ≤ 1048576) (hx : evo env x = some (.own h)) (hs : os[h]? = some (.sls e e2 xss)) (hy : evo env y = some (.val (.func (.func G) #[] #[])))
    (h' : ∀ idx : List Nat, idx.Perm (List.range xss.length) → (∀ i j : Nat, i < j → j < idx.length → ¬ cmp (xss.getD (idx.getD j 0) []) (xss.getD (idx.getD i 0) []) < 0) → AOps Try.prog .seq l rest K (Env.up (env.mp (AV.noRow h)) d .any) ((((os ++ [AO.sli e2 []]).map (AO.via (AV.noRow h) h)).set h (.sls e e2 (idx.map fun i => xss.getD i []))).set os.length .dead)) :
    AOps Try.prog .seq l (⟨some d, .call { callee := .value (.func 74), args := #[x, y], argTypes := ats }, ty, pos, af, none⟩ :: rest) K env os :=
  AOps.ca (c_sortst hcmpok (ev_of hx) hs (ev_of hy) hp hn) fun r e o ⟨idx, h1, h2, h3, h4, h5⟩ => by subst h3; subst h4; subst h5; exact h' idx h1 h2
end


/-! ### Edges by their ratios -/
def cmp3 (x y : Int) : Int := if x < y then -1 else if y < x then 1 else 0
theorem cmp3_lt (x y : Int) : cmp3 x y < 0 ↔ x < y := by unfold cmp3; split; omega; split <;> omega
theorem compared_k (x y : Int) (w : World) : Calls Try.prog 76 #[.int .i64 x, .int .i64 y] w fun e w' => e = .returned (.int .i64 (cmp3 x y)) ∧ w' = w := by
  unfold cmp3
  by_cases h1 : x < y
  · rw [if_pos h1]
    go_enter Try.func76, Try.ntmps76
    go_wp2
    go_ret
    exact ⟨rfl, rfl⟩
  · rw [if_neg h1]
    by_cases h2 : y < x
    · rw [if_pos h2]
      go_enter Try.func76, Try.ntmps76
      go_wp2
      go_ret
      exact ⟨rfl, rfl⟩
    · rw [if_neg h2]
      go_enter Try.func76, Try.ntmps76
      go_wp2
      go_ret
      exact ⟨rfl, rfl⟩
set_option maxHeartbeats 4000000 in
theorem joined_k (b1 o1 c1 b2 o2 c2 : Nat) (x0 x1 y0 y1 : Int) (w : World) (h0 : w.cell? ⟨b1, o1, none⟩ = some (.int .i64 x0)) (h1 : w.cell? ⟨b1, o1 + 1, none⟩ = some (.int .i64 x1)) (g0 : w.cell? ⟨b2, o2, none⟩ = some (.int .i64 y0)) (g1 : w.cell? ⟨b2, o2 + 1, none⟩ = some (.int .i64 y1))
    (r1 : IntKind.i64.wrap (y1 * x0) = y1 * x0) (r2 : IntKind.i64.wrap (x1 * y0) = x1 * y0) :
    Calls Try.prog 75 #[.slice (some ⟨b1, o1, none⟩) 2 c1, .slice (some ⟨b2, o2, none⟩) 2 c2] w fun e w' => e = .returned (.int .i64 (cmp3 (y1 * x0) (x1 * y0))) ∧ ∃ q, w' = w.drewN q := by
  have mixed : Try.prog.follows Departure.mixedOrders = true := by kernel_rfl
  go_enter Try.func75, Try.ntmps75
  go_wp2_with fail
  go_quiet (first | (go_at_call 76; refine Calls.quiet_of_same (compared_k _ _ _)))
  go_wp2
  go_ret
  exact ⟨rfl, _, rfl⟩
end Go.Proofs.Ythlfdhooiekgjaa
/-
  The program puts edges together. Condition: few edges with small numbers.
-/
namespace Go.Proofs.Ythlfdhooiekgjaa
open Go Go.RowKit
attribute [local irreducible] AWp AOps ResIs Ret1 QOp LOp COp AFnV AFn Imms LeE LeO
set_option maxHeartbeats 1000000
set_option linter.unusedSimpArgs false
set_option linter.unusedVariables false

def cmpJ (x y : List Int) : Int := cmp3 (geti y 1 * geti x 0) (geti x 1 * geti y 0)
theorem cmpJ_lt {x y : List Int} : cmpJ x y < 0 ↔ wS x y > 0 := by
  unfold cmpJ
  rw [cmp3_lt]
  unfold wS
  rw [Int.mul_comm (geti y 1)]
  omega
theorem mul60 {a b : Int} (ha : 1 ≤ a ∧ a ≤ 60) (hb : 1 ≤ b ∧ b ≤ 60) : 0 ≤ a * b ∧ a * b ≤ 3600 :=
  ⟨Int.mul_nonneg (by omega) (by omega), by have := Int.mul_le_mul ha.2 hb.2 (by omega) (by omega); omega⟩
theorem cmpJ_ok : CmpOk 75 cmpJ E60 := by
  refine ⟨⟨_, _, Try.func75, by kernel_rfl, rfl⟩, ?_, ?_, ?_, ?_⟩
  · intro w v1 v2 xs ys h1 h2 t1 t2
    obtain ⟨b1, o1, c1, rfl, p0, p1⟩ := pair_cells h1 t1.1
    obtain ⟨b2, o2, c2, rfl, q0, q1⟩ := pair_cells h2 t2.1
    have m1 := mul60 t2.2.2 t1.2.1
    have m2 := mul60 t1.2.2 t2.2.1
    refine (joined_k b1 o1 c1 b2 o2 c2 _ _ _ _ w p0 p1 q0 q1 (by rw [IntKind.wrap_i64]; omega) (by rw [IntKind.wrap_i64]; omega)).mono ?_
    rintro e w' ⟨rfl, q, rfl⟩
    exact ⟨rfl, q, #[], by rw [Go.Sort.grow_empty]⟩
  · intro x _; rw [cmpJ_lt, wS_self]; omega
  · intro x y z hx hy hz h1 h2; rw [cmpJ_lt] at *; exact wS_lt1 hx.2.2.1 hy.2.2.1 hz.2.2.1 h1 (by omega)
  · intro x y z hx hy hz h1 h2
    rw [cmpJ_lt] at *
    have a1 := wS_neg x y
    have a2 := wS_neg y z
    have a3 := wS_neg x z
    have := wS_le hz.2.2.1 hy.2.2.1 hx.2.2.1 (by omega : 0 ≤ wS z y) (by omega : 0 ≤ wS y x)
    omega
theorem sS_mem {F : List Int → Int} {A : List (List Int)} (h : ∀ e ∈ A, 0 ≤ F e) {l : List Int} (hl : l ∈ A) : F l ≤ sS F A := by
  obtain ⟨B, C, rfl⟩ := List.append_of_mem hl
  rw [sS_append, sS]
  have h1 := sS_nonneg (F := F) (A := B) fun e he => h e (by simp [he])
  have h2 := sS_nonneg (F := F) (A := C) fun e he => h e (by simp [he])
  omega
theorem sS_bd {F : List Int → Int} {B : Int} : ∀ {A : List (List Int)}, (∀ e ∈ A, F e ≤ B) → sS F A ≤ B * A.length
  | [], _ => by simp [sS]
  | a :: A, h => by
    have h1 := h a (by simp)
    have h2 := sS_bd (A := A) fun e he => h e (by simp [he])
    rw [sS, List.length_cons, Int.natCast_add, Int.mul_add]
    simp only [Int.natCast_one, Int.mul_one]
    omega
theorem JoinOf.bd {Y L : List (List Int)} (h : JoinOf Y L) (hY : ∀ y ∈ Y, E60 y) {n : Nat} (hn : Y.length ≤ n) {l : List Int} (hl : l ∈ L) : l.length = 2 ∧ (1 ≤ geti l 0 ∧ geti l 0 ≤ 60 * n) ∧ (1 ≤ geti l 1 ∧ geti l 1 ≤ 60 * n) := by
  have hp := h.pos l hl
  have a0 := sS_mem (F := E0) (A := L) (fun e he => by have := (h.pos e he).2.1; simp only [E0]; omega) hl
  have a1 := sS_mem (F := E1) (A := L) (fun e he => by have := (h.pos e he).2.2; simp only [E1]; omega) hl
  have b0 := sS_bd (F := E0) (B := 60) (A := Y) (fun e he => (hY e he).2.1.2)
  have b1 := sS_bd (F := E1) (B := 60) (A := Y) (fun e he => (hY e he).2.2.2)
  have ht := h.tot
  have : (Y.length : Int) ≤ n := by omega
  simp only [E0, E1] at a0 a1
  exact ⟨hp.1, ⟨hp.2.1, by omega⟩, ⟨hp.2.2, by omega⟩⟩
def rowsOf (R : List Nat) (zs : List (List Int)) : List (List Int) := R.map fun i => zs.getD i []
theorem take_getD (ys : List (List Int)) {k : Nat} (hk : k < ys.length) : ys.take (k + 1) = ys.take k ++ [ys.getD k []] := by
  rw [List.take_add_one, List.getElem?_eq_getElem hk, List.getD_eq_getElem?_getD, List.getElem?_eq_getElem hk]; rfl
theorem rowsOf_set {R : List Nat} {zs : List (List Int)} {t : Nat} {v : List Int} (h : t ∉ R) : rowsOf R (zs.set t v) = rowsOf R zs := by
  unfold rowsOf
  refine List.map_congr_left fun i hi => ?_
  have hne : t ≠ i := fun e => h (e ▸ hi)
  rw [List.getD_eq_getElem?_getD, List.getD_eq_getElem?_getD, List.getElem?_set, if_neg hne]
theorem gset_self {zs : List (List Int)} {t : Nat} {v : List Int} (h : t < zs.length) : (zs.set t v).getD t [] = v := by
  rw [List.getD_eq_getElem?_getD, List.getElem?_set, if_pos rfl, if_pos h]; rfl
theorem gset_ne {zs : List (List Int)} {t i : Nat} {v : List Int} (h : t ≠ i) : (zs.set t v).getD i [] = zs.getD i [] := by
  rw [List.getD_eq_getElem?_getD, List.getD_eq_getElem?_getD, List.getElem?_set, if_neg h]
theorem set_two {l : List Int} (h : l.length = 2) (a b : Int) : (l.set 0 a).set 1 b = [a, b] := by
  match l, h with
  | [x, y], _ => rfl

set_option maxHeartbeats 16000000 in
theorem joinedEdges_c (xss : List (List Int)) (h0 : 0 < xss.length) (h1 : xss.length ≤ 200) (hp : ∀ r ∈ xss, E60 r) : AFn Try.prog 54 [.intss xss] (fun r os => ∃ L, JoinOf xss L ∧ r = .own 0 ∧ os = [.sls 38 2 L]) := by
  have hcl := copyLists_c xss (by omega) (fun r hr => by have := (hp r hr).1; omega)
  (refine AFn.start Try.func54 Try.ntmps54 rfl (by kernel_rfl) fun hk => ?_; simp only [Env.start, enumF, List.length_cons, List.length_nil, Nat.reduceAdd, Nat.reduceSub, List.cons_append, List.nil_append])
  repeat' (first | (apply AOps.nil; try simp only [List.nil_append, List.cons_append, List.set_cons_zero, List.set_cons_succ, List.length_cons, List.length_nil, Nat.reduceAdd, AV.sh, AV.sh1, AV.sh0, AO.sh, List.map_cons, List.map_nil, Nat.zero_add, Nat.add_zero, setAll]) | (apply w_move; exact rfl; exact rfl) | (apply w_assign; exact rfl; exact rfl) | apply AWp.seq | apply AWp.region | (apply w_callm (hcl); (focus ((repeat (first | exact im_nil | refine im_cons rfl (.intss _) ?_)); done)); rintro r os0 ⟨rfl, rfl⟩; try simp only [List.nil_append, List.cons_append, List.set_cons_zero, List.set_cons_succ, List.length_cons, List.length_nil, Nat.reduceAdd, AV.sh, AV.sh1, AV.sh0, AO.sh, List.map_cons, List.map_nil, Nat.zero_add, Nat.add_zero, setAll]))
  refine w_sortst cmpJ_ok hp ⟨h0, by omega⟩ rfl rfl rfl fun idx hperm hsort => ?_
  simp only [Env.mp, List.map_cons, List.map_nil, List.set_cons_zero, List.set_cons_succ, AV.kill, AV.kill1, AO.kill, AV.noRow, AV.noRow1, AO.via, reduceIte, Nat.reduceEqDiff, Nat.reduceLT, Env.up, Nat.zero_ne_one, Nat.one_ne_zero, Nat.reduceAdd, List.cons_append, List.nil_append]
  have hil : idx.length = xss.length := by have := hperm.length_eq; simpa using this
  obtain ⟨ys, eys⟩ : ∃ ys, ys = idx.map fun i => xss.getD i [] := ⟨_, rfl⟩
  have hyl : ys.length = xss.length := by rw [eys]; simpa using hil
  have hpm : ys.Perm xss := by
    rw [eys]
    have := hperm.map fun i => xss.getD i []
    refine this.trans (List.Perm.of_eq ?_)
    apply List.ext_getElem?
    intro i
    rw [List.getElem?_map]
    by_cases hi : i < xss.length
    · rw [List.getElem?_range hi, List.getElem?_eq_getElem hi, Option.map_some, List.getD_eq_getElem?_getD, List.getElem?_eq_getElem hi]; rfl
    · rw [List.getElem?_eq_none (by simp; omega), List.getElem?_eq_none (by omega)]; rfl
  have hrow : ∀ i : Nat, i < ys.length → ys.getD i [] = xss.getD (idx.getD i 0) [] := by
    intro i hi
    rw [eys, List.getD_eq_getElem?_getD, List.getElem?_map, List.getD_eq_getElem?_getD (l := idx), List.getElem?_eq_getElem (by omega)]
    rfl
  have hs : ∀ j k : Nat, j < k → k < ys.length → 0 ≤ wS (ys.getD j []) (ys.getD k []) := by
    intro j k hj hk
    have := hsort j k hj (by omega)
    rw [cmpJ_lt] at this
    rw [hrow j (by omega), hrow k hk, wS_neg]
    omega
  have hY : ∀ y ∈ ys, E60 y := fun y hy => hp y (hpm.mem_iff.1 hy)
  rw [← eys]
  clear hrow hsort hperm hcl hil eys idx
  repeat' (first | (apply AOps.nil; try simp only [List.nil_append, List.cons_append, List.set_cons_zero, List.set_cons_succ, List.length_cons, List.length_nil, Nat.reduceAdd, AV.sh, AV.sh1, AV.sh0, AO.sh, List.map_cons, List.map_nil, Nat.zero_add, Nat.add_zero, setAll]) | apply AWp.seq | apply AWp.region)
  refine w_bsx0 0 rfl ?_
  try simp only [List.nil_append, List.cons_append, List.set_cons_zero, List.set_cons_succ, List.length_cons, List.length_nil, Nat.reduceAdd, AV.sh, AV.sh1, AV.sh0, AO.sh, List.map_cons, List.map_nil, Nat.zero_add, Nat.add_zero, setAll]
  repeat' (first | (apply AOps.nil; try simp only [List.nil_append, List.cons_append, List.set_cons_zero, List.set_cons_succ, List.length_cons, List.length_nil, Nat.reduceAdd, AV.sh, AV.sh1, AV.sh0, AO.sh, List.map_cons, List.map_nil, Nat.zero_add, Nat.add_zero, setAll]) | (apply w_move; exact rfl; exact rfl) | (apply w_assign; exact rfl; exact rfl) | apply AWp.seq | apply AWp.region | apply AWp.block | (apply w_len; exact rfl; exact rfl; first | exact .ints _ | exact .intss _ | exact .sli rfl | exact .sls rfl | exact .slr rfl | exact .orow rfl | exact .nil))
  refine AWp.loop (ι := Nat × List Nat × List (List Int)) (fun x => ⟨65, [(4, .own 2), (13, .own 0), (14, .i ys.length), (15, .i x.1)]⟩) (fun x => [.sls 38 2 x.2.2, .dead, .slr 38 (x.2.1.reverse.map (AV.orow 0))])
    (fun x => x.1 ≤ ys.length ∧ x.2.2.length = ys.length ∧ (∀ i, x.1 ≤ i → x.2.2.getD i [] = ys.getD i []) ∧ StkOk ys x.1 x.2.1 ∧ JI (ys.take x.1) (rowsOf x.2.1.reverse x.2.2)) (fun x => ys.length - x.1) (0, [], ys) ⟨Nat.zero_le _, rfl, fun _ _ => rfl, ⟨by simp, by simp, by simp⟩, by simpa [rowsOf] using JI.nil⟩ ⟨lee rfl (by (repeat (first | exact le_nil | refine le_eq rfl rfl ?_))), by (repeat (first | exact lo_nil | refine lo_dead ?_ | refine lo_eq rfl ?_)), rfl, (by first | exact rfl | exact lim3 _)⟩ ?_
  rintro ⟨k, R, zs⟩ ⟨k0, k1, k2, k3, k4⟩
  simp only at k0 k1 k2 k3 k4
  have rl := rev_len (R := R)
  have hn := hyl
  by_cases hk : k < ys.length
  · have hE : E60 (ys.getD k []) := hY _ (by rw [List.getD_eq_getElem?_getD, List.getElem?_eq_getElem hk]; exact List.getElem_mem hk)
    have hzk : zs.getD k [] = ys.getD k [] := k2 k (Nat.le_refl _)
    have hk3 : (zs.getD (k : Int).toNat []).length = 2 := by rw [Int.toNat_natCast, hzk]; exact hE.1
    have hpre : ∀ y ∈ ys.take k, 0 ≤ wS y (ys.getD k []) := fun y hy => by
      obtain ⟨j, hj⟩ := List.getElem?_of_mem hy
      rw [List.getElem?_take] at hj
      split at hj
      · rename_i hjk
        have := hs j k hjk hk
        rw [List.getD_eq_getElem?_getD (i := j), hj] at this
        exact this
      · cases hj
    have hYk : ∀ y ∈ ys.take k, E60 y := fun y hy => hY y (List.mem_of_mem_take hy)
    have etk := take_getD ys hk
    have k30 := k3.2.2
    have push : (∀ A l, rowsOf R.reverse zs = A ++ [l] → wS l (ys.getD k []) ≠ 0) → JI (ys.take (k + 1)) (rowsOf (k :: R).reverse zs) := fun hz => by
      rw [etk, List.reverse_cons]
      have : rowsOf (R.reverse ++ [k]) zs = rowsOf R.reverse zs ++ [ys.getD k []] := by
        unfold rowsOf
        rw [List.map_append, List.map_cons, List.map_nil, hzk]
      rw [this]
      exact k4.push (fun y hy => (hYk y hy).ep) hE.ep hpre hz
    cases R with
    | nil =>
      have rl0 : ((([] : List Nat).reverse).map (AV.orow 0)).length = 0 := rfl
      have rl1 : (([] : List Nat).reverse).length = 0 := rfl
      have rl2 : ([] : List Nat).reverse ++ [k] = [k].reverse := rfl
      have pk := push (fun A l h => by simp [rowsOf] at h)
      generalize est : ([] : List Nat).reverse = st at *
      repeat' (first | (apply AOps.nil; try simp only [List.nil_append, List.cons_append, List.set_cons_zero, List.set_cons_succ, List.length_cons, List.length_nil, Nat.reduceAdd, AV.sh, AV.sh1, AV.sh0, AO.sh, List.map_cons, List.map_nil, Nat.zero_add, Nat.add_zero, setAll]) | (apply w_move; exact rfl; exact rfl) | (apply w_assign; exact rfl; exact rfl) | apply AWp.seq | apply AWp.region | ((apply AWp.condP; exact rfl) <;> intro h) | apply AWp.block | apply AWp.ret | apply AWp.exit | apply AWp.skip | (apply w_len; exact rfl; exact rfl; first | exact .ints _ | exact .intss _ | exact .sli rfl | exact .sls rfl | exact .slr rfl | exact .orow rfl | exact .nil) | ((first | apply w_bsx1 | apply w_lss | apply w_gtr | apply w_add | apply w_sub | apply w_idx | apply w_ld); iterate 3 exact rfl) | (apply w_appx; exact rfl; exact rfl; exact rfl; exact rfl; exact rfl; rotate_left 1; simp only [Env.mp, List.map_cons, List.map_nil, List.set_cons_zero, List.set_cons_succ, AV.kill, AV.kill1, AO.kill, AV.rin, AV.rin1, AV.noRow, AV.noRow1, AO.via, reduceIte, Nat.reduceEqDiff, Nat.reduceLT, Env.up, Nat.zero_ne_one, Nat.one_ne_zero, Nat.reduceAdd, List.cons_append, List.nil_append]; rotate_left 1) | omega | (apply w_idxo; exact rfl; exact rfl; (exact .sls rfl); exact rfl) | (apply w_ldls; iterate 4 exact rfl) | (apply inI_of <;> omega))
      refine ⟨(k + 1, [k], zs), ⟨by simp only; omega, k1, fun i hi => k2 i (by simp only at hi; omega), k3.push, pk⟩, by simp only; omega, by simp only [← rl2]; exact ⟨lee rfl (by (repeat (first | exact le_nil | refine le_eq rfl rfl ?_))), by (repeat (first | exact lo_nil | refine lo_dead ?_ | refine lo_eq rfl ?_)), rfl, (by first | exact rfl | exact lim3 _)⟩⟩
    | cons t r =>
      have htk : t < k := k3.2.1 t (by simp)
      have e1 : (t :: r).reverse.getD (((((t :: r).reverse.map (AV.orow 0)).length : Nat) : Int) - 1).toNat 0 = t := rev_top (by rw [rl]; simp)
      have rl' : ((t :: r).reverse.map (AV.orow 0)).length = r.length + 1 := by rw [rl]; rfl
      have hl1 : ((t :: r).reverse).length = r.length + 1 := by simp
      have er : rowsOf (t :: r).reverse zs = rowsOf r.reverse zs ++ [zs.getD t []] := by simp [rowsOf]
      rw [List.length_cons] at k30
      have hlm := k4.join.bd hYk (n := 200) (by rw [List.length_take]; omega) (l := zs.getD t []) (by rw [er]; simp)
      have hl2 : (zs.getD t []).length = 2 := hlm.1
      have hb1 : 0 ≤ geti (zs.getD t []) ((Int.toNat 1 : Nat) : Int) * geti (zs.getD (k : Int).toNat []) ((Int.toNat 0 : Nat) : Int) ∧ geti (zs.getD t []) ((Int.toNat 1 : Nat) : Int) * geti (zs.getD (k : Int).toNat []) ((Int.toNat 0 : Nat) : Int) ≤ 720000 := by
        rw [Int.toNat_natCast, hzk]
        exact ⟨Int.mul_nonneg (by have := hlm.2.2.1; exact Int.le_trans (by decide) this) (by have := hE.2.1.1; exact Int.le_trans (by decide) this), Int.mul_le_mul (c := 12000) (d := 60) (by have := hlm.2.2.2; exact this) hE.2.1.2 (by have := hE.2.1.1; exact Int.le_trans (by decide) this) (by decide)⟩
      have hb2 : 0 ≤ geti (zs.getD (k : Int).toNat []) ((Int.toNat 1 : Nat) : Int) * geti (zs.getD t []) ((Int.toNat 0 : Nat) : Int) ∧ geti (zs.getD (k : Int).toNat []) ((Int.toNat 1 : Nat) : Int) * geti (zs.getD t []) ((Int.toNat 0 : Nat) : Int) ≤ 720000 := by
        rw [Int.toNat_natCast, hzk]
        exact ⟨Int.mul_nonneg (by have := hE.2.2.1; exact Int.le_trans (by decide) this) (by have := hlm.2.1.1; exact Int.le_trans (by decide) this), Int.mul_le_mul (c := 60) (d := 12000) hE.2.2.2 (by have := hlm.2.1.2; exact this) (by have := hlm.2.1.1; exact Int.le_trans (by decide) this) (by decide)⟩
      have hwz : wS (zs.getD t []) (ys.getD k []) = 0 ↔ geti (zs.getD t []) ((Int.toNat 1 : Nat) : Int) * geti (zs.getD (k : Int).toNat []) ((Int.toNat 0 : Nat) : Int) = geti (zs.getD (k : Int).toNat []) ((Int.toNat 1 : Nat) : Int) * geti (zs.getD t []) ((Int.toNat 0 : Nat) : Int) := by
        rw [Int.toNat_natCast, hzk]
        unfold wS
        show geti (zs.getD t []) 1 * geti (ys.getD k []) 0 - geti (zs.getD t []) 0 * geti (ys.getD k []) 1 = 0 ↔ geti (zs.getD t []) 1 * geti (ys.getD k []) 0 = geti (ys.getD k []) 1 * geti (zs.getD t []) 0
        rw [Int.mul_comm (geti (ys.getD k []) 1)]
        omega
      have hz0 : 1 ≤ geti (zs.getD (k : Int).toNat []) ((Int.toNat 0 : Nat) : Int) ∧ geti (zs.getD (k : Int).toNat []) ((Int.toNat 0 : Nat) : Int) ≤ 60 := by rw [Int.toNat_natCast, hzk]; exact hE.2.1
      have hz1 : 1 ≤ geti (zs.getD (k : Int).toNat []) ((Int.toNat 1 : Nat) : Int) ∧ geti (zs.getD (k : Int).toNat []) ((Int.toNat 1 : Nat) : Int) ≤ 60 := by rw [Int.toNat_natCast, hzk]; exact hE.2.2
      have ht0 : 1 ≤ geti (zs.getD t []) ((Int.toNat 0 : Nat) : Int) ∧ geti (zs.getD t []) ((Int.toNat 0 : Nat) : Int) ≤ 12000 := hlm.2.1
      have ht1 : 1 ≤ geti (zs.getD t []) ((Int.toNat 1 : Nat) : Int) ∧ geti (zs.getD t []) ((Int.toNat 1 : Nat) : Int) ≤ 12000 := hlm.2.2
      by_cases hq : wS (zs.getD t []) (ys.getD k []) = 0
      · have hq' := hwz.1 hq
        generalize est : (t :: r).reverse = st at *
        repeat' (first | (apply AOps.nil; try simp only [List.nil_append, List.cons_append, List.set_cons_zero, List.set_cons_succ, List.length_cons, List.length_nil, Nat.reduceAdd, AV.sh, AV.sh1, AV.sh0, AO.sh, List.map_cons, List.map_nil, Nat.zero_add, Nat.add_zero, setAll]) | (apply w_move; exact rfl; exact rfl) | (apply w_assign; exact rfl; exact rfl) | apply AWp.seq | apply AWp.region | ((apply AWp.condP; exact rfl) <;> intro h) | apply AWp.block | apply AWp.ret | apply AWp.exit | apply AWp.skip | (apply w_len; exact rfl; exact rfl; first | exact .ints _ | exact .intss _ | exact .sli rfl | exact .sls rfl | exact .slr rfl | exact .orow rfl | exact .nil) | ((first | apply w_bsx1 | apply w_lss | apply w_gtr | apply w_add | apply w_sub | apply w_idx | apply w_ld); iterate 3 exact rfl) | (apply w_appx; exact rfl; exact rfl; exact rfl; exact rfl; exact rfl; rotate_left 1; simp only [Env.mp, List.map_cons, List.map_nil, List.set_cons_zero, List.set_cons_succ, AV.kill, AV.kill1, AO.kill, AV.rin, AV.rin1, AV.noRow, AV.noRow1, AO.via, reduceIte, Nat.reduceEqDiff, Nat.reduceLT, Env.up, Nat.zero_ne_one, Nat.one_ne_zero, Nat.reduceAdd, List.cons_append, List.nil_append]; rotate_left 1) | omega | (apply w_idxo; exact rfl; exact rfl; (first | exact .sls rfl | exact .slr rfl); exact rfl) | ((apply w_ldr); iterate 4 exact rfl) | (apply w_ldls; iterate 4 exact rfl) | (apply inI_of <;> omega))
        rw [e1]
        apply AWp.regionQ
        · kernel_rfl
        · kernel_rfl
        repeat' (first | (apply AOps.nil; try simp only [List.nil_append, List.cons_append, List.set_cons_zero, List.set_cons_succ, List.length_cons, List.length_nil, Nat.reduceAdd, AV.sh, AV.sh1, AV.sh0, AO.sh, List.map_cons, List.map_nil, Nat.zero_add, Nat.add_zero, setAll]) | (apply w_move; exact rfl; exact rfl) | (apply w_assign; exact rfl; exact rfl) | apply AWp.seq | apply AWp.region | ((apply AWp.condP; exact rfl) <;> intro h) | apply AWp.skip | ((first | apply w_bsx1 | apply w_eql | apply w_add | apply w_mul | apply w_idx | apply w_ld); iterate 3 exact rfl) | (apply w_appx; exact rfl; exact rfl; exact rfl; exact rfl; exact rfl; rotate_left 1; simp only [Env.mp, List.map_cons, List.map_nil, List.set_cons_zero, List.set_cons_succ, AV.kill, AV.kill1, AO.kill, AV.rin, AV.rin1, AV.noRow, AV.noRow1, AO.via, reduceIte, Nat.reduceEqDiff, Nat.reduceLT, Env.up, Nat.zero_ne_one, Nat.one_ne_zero, Nat.reduceAdd, List.cons_append, List.nil_append]; rotate_left 1) | omega | ((first | apply w_idxr | apply w_ldr); iterate 4 exact rfl) | (apply w_ldrp; iterate 4 exact rfl) | (apply inI_of <;> omega))
        obtain ⟨z1, ez1⟩ : ∃ z1, z1 = zs.set t ((zs.getD t []).set (Int.toNat 0) (geti (zs.getD t []) ((Int.toNat 0 : Nat) : Int) + geti (zs.getD (k : Int).toNat []) ((Int.toNat 0 : Nat) : Int))) := ⟨_, rfl⟩
        refine AWp.regionA (by kernel_rfl) (envC := ⟨65, [(4, .own 2), (6, .orow 0 (k : Int).toNat), (7, .orow 0 t), (13, .own 0), (14, .i ys.length), (15, .i k)]⟩) (osC := [.sls 38 2 z1, .dead, .slr 38 (st.map (AV.orow 0))]) rfl rfl ?_ ?_
        · rw [ez1]
          repeat' (first | (apply AOps.nil; try simp only [List.nil_append, List.cons_append, List.set_cons_zero, List.set_cons_succ, List.length_cons, List.length_nil, Nat.reduceAdd, AV.sh, AV.sh1, AV.sh0, AO.sh, List.map_cons, List.map_nil, Nat.zero_add, Nat.add_zero, setAll]) | (apply w_move; exact rfl; exact rfl) | (apply w_storp; exact rfl; exact rfl; rotate_left 2; exact rfl; rotate_left 2) | omega | ((first | apply w_add | apply w_idx | apply w_ld); iterate 3 exact rfl) | ((first | apply w_idxr | apply w_ldr); iterate 4 exact rfl) | (apply w_ldrp; iterate 4 exact rfl) | apply AllOf.nil | (apply AllOf.cons; exact rfl) | (apply AAny.take; exact rfl; exact rfl; kernel_rfl; kernel_rfl) | (apply AAny.all; exact rfl) | (apply AAny.done; exact rfl) | (apply inI_of <;> omega))
          all_goals (apply Or.inl; refine ⟨lee rfl ?_, ?_, rfl, (lim3 _)⟩; (focus ((repeat (first | exact le_nil | refine le_eq rfl rfl ?_)); done)); (focus ((repeat (first | exact lo_nil | refine lo_dead ?_ | refine lo_eq rfl ?_)); done)))
        have z1t : z1.getD t [] = (zs.getD t []).set (Int.toNat 0) (geti (zs.getD t []) ((Int.toNat 0 : Nat) : Int) + geti (zs.getD (k : Int).toNat []) ((Int.toNat 0 : Nat) : Int)) := by rw [ez1]; exact gset_self (by omega)
        have z1k : z1.getD (k : Int).toNat [] = zs.getD (k : Int).toNat [] := by rw [ez1, Int.toNat_natCast]; exact gset_ne (by omega)
        have z1l : z1.length = ys.length := by rw [ez1, List.length_set]; exact k1
        have z1tl : (z1.getD t []).length = 2 := by rw [z1t, List.length_set]; exact hl2
        have z1kl : (z1.getD (k : Int).toNat []).length = 2 := by rw [z1k]; exact hk3
        have z1t1 : geti (z1.getD t []) ((Int.toNat 1 : Nat) : Int) = geti (zs.getD t []) ((Int.toNat 1 : Nat) : Int) := by
          rw [z1t]
          match zs.getD t [], hl2 with
          | [x, y], _ => rfl
        have z1k1 : geti (z1.getD (k : Int).toNat []) ((Int.toNat 1 : Nat) : Int) = geti (zs.getD (k : Int).toNat []) ((Int.toNat 1 : Nat) : Int) := by rw [z1k]
        obtain ⟨z2, ez2⟩ : ∃ z2, z2 = z1.set t ((z1.getD t []).set (Int.toNat 1) (geti (z1.getD t []) ((Int.toNat 1 : Nat) : Int) + geti (z1.getD (k : Int).toNat []) ((Int.toNat 1 : Nat) : Int))) := ⟨_, rfl⟩
        repeat' (apply AWp.seq)
        refine AWp.regionA (by kernel_rfl) (envC := ⟨65, [(4, .own 2), (13, .own 0), (14, .i ys.length), (15, .i k)]⟩) (osC := [.sls 38 2 z2, .dead, .slr 38 (st.map (AV.orow 0))]) rfl rfl ?_ ?_
        · rw [ez2]
          repeat' (first | (apply AOps.nil; try simp only [List.nil_append, List.cons_append, List.set_cons_zero, List.set_cons_succ, List.length_cons, List.length_nil, Nat.reduceAdd, AV.sh, AV.sh1, AV.sh0, AO.sh, List.map_cons, List.map_nil, Nat.zero_add, Nat.add_zero, setAll]) | (apply w_move; exact rfl; exact rfl) | (apply w_storp; exact rfl; exact rfl; rotate_left 2; exact rfl; rotate_left 2) | omega | ((first | apply w_add | apply w_idx | apply w_ld); iterate 3 exact rfl) | ((first | apply w_idxr | apply w_ldr); iterate 4 exact rfl) | (apply w_ldrp; iterate 4 exact rfl) | apply AllOf.nil | (apply AllOf.cons; exact rfl) | (apply AAny.take; exact rfl; exact rfl; kernel_rfl; kernel_rfl) | (apply AAny.all; exact rfl) | (apply AAny.done; exact rfl) | (apply inI_of <;> omega))
          all_goals (apply Or.inl; refine ⟨lee rfl ?_, ?_, rfl, (lim3 _)⟩; (focus ((repeat (first | exact le_nil | refine le_eq rfl rfl ?_)); done)); (focus ((repeat (first | exact lo_nil | refine lo_dead ?_ | refine lo_eq rfl ?_)); done)))
        have ez : z2 = zs.set t (plE (zs.getD t []) (ys.getD k [])) := by
          have e3 : (z1.getD t []).set (Int.toNat 1) (geti (z1.getD t []) ((Int.toNat 1 : Nat) : Int) + geti (z1.getD (k : Int).toNat []) ((Int.toNat 1 : Nat) : Int)) = plE (zs.getD t []) (ys.getD k []) := by
            rw [z1t1, z1k1, z1t, Int.toNat_natCast, hzk]
            exact set_two hl2 _ _
          rw [ez2, e3, ez1, List.set_set]
        have hnr : t ∉ r.reverse := fun h => by
          have := (List.pairwise_cons.1 k3.1).1 t (by simpa using h)
          omega
        have fin : JI (ys.take (k + 1)) (rowsOf st z2) := by
          rw [← est, etk, List.reverse_cons]
          have e4 : rowsOf (r.reverse ++ [t]) z2 = rowsOf r.reverse zs ++ [plE (zs.getD t []) (ys.getD k [])] := by
            have a1 : rowsOf (r.reverse ++ [t]) z2 = rowsOf r.reverse z2 ++ [z2.getD t []] := by simp [rowsOf]
            rw [a1, ez, rowsOf_set hnr, gset_self (by omega)]
          rw [e4]
          rw [er] at k4
          refine k4.same (fun h => ?_) hE.ep hpre hq
          have : (ys.take k).length = 0 := by rw [h]; rfl
          rw [List.length_take] at this
          omega
        repeat' (first | (apply AOps.nil; try simp only [List.nil_append, List.cons_append, List.set_cons_zero, List.set_cons_succ, List.length_cons, List.length_nil, Nat.reduceAdd, AV.sh, AV.sh1, AV.sh0, AO.sh, List.map_cons, List.map_nil, Nat.zero_add, Nat.add_zero, setAll]) | (apply w_move; exact rfl; exact rfl) | apply AWp.region | apply AWp.exit | ((apply w_add); iterate 3 exact rfl) | (apply inI_of <;> omega))
        refine ⟨(k + 1, t :: r, z2), ⟨by simp only; omega, by simp only; rw [ez2, List.length_set]; exact z1l, fun i hi => ?_, k3.up, by simp only [est]; exact fin⟩, by simp only; omega, by simp only [est]; exact ⟨lee rfl (by (repeat (first | exact le_nil | refine le_eq rfl rfl ?_))), by (repeat (first | exact lo_nil | refine lo_dead ?_ | refine lo_eq rfl ?_)), rfl, (by first | exact rfl | exact lim3 _)⟩⟩
        simp only at hi ⊢
        rw [ez, gset_ne (by omega)]
        exact k2 i (by omega)
      · have hq' := fun h => hq (hwz.2 h)
        have pk := push (fun A l h => by
          rw [er] at h
          have := List.append_inj' h rfl
          have : zs.getD t [] = l := by simpa using this.2
          rw [← this]; exact hq)
        generalize est : (t :: r).reverse = st at *
        repeat' (first | (apply AOps.nil; try simp only [List.nil_append, List.cons_append, List.set_cons_zero, List.set_cons_succ, List.length_cons, List.length_nil, Nat.reduceAdd, AV.sh, AV.sh1, AV.sh0, AO.sh, List.map_cons, List.map_nil, Nat.zero_add, Nat.add_zero, setAll]) | (apply w_move; exact rfl; exact rfl) | (apply w_assign; exact rfl; exact rfl) | apply AWp.seq | apply AWp.region | ((apply AWp.condP; exact rfl) <;> intro h) | apply AWp.block | apply AWp.ret | apply AWp.exit | apply AWp.skip | (apply w_len; exact rfl; exact rfl; first | exact .ints _ | exact .intss _ | exact .sli rfl | exact .sls rfl | exact .slr rfl | exact .orow rfl | exact .nil) | ((first | apply w_bsx1 | apply w_lss | apply w_gtr | apply w_add | apply w_sub | apply w_idx | apply w_ld); iterate 3 exact rfl) | (apply w_appx; exact rfl; exact rfl; exact rfl; exact rfl; exact rfl; rotate_left 1; simp only [Env.mp, List.map_cons, List.map_nil, List.set_cons_zero, List.set_cons_succ, AV.kill, AV.kill1, AO.kill, AV.rin, AV.rin1, AV.noRow, AV.noRow1, AO.via, reduceIte, Nat.reduceEqDiff, Nat.reduceLT, Env.up, Nat.zero_ne_one, Nat.one_ne_zero, Nat.reduceAdd, List.cons_append, List.nil_append]; rotate_left 1) | omega | (apply w_idxo; exact rfl; exact rfl; (first | exact .sls rfl | exact .slr rfl); exact rfl) | ((apply w_ldr); iterate 4 exact rfl) | (apply w_ldls; iterate 4 exact rfl) | (apply inI_of <;> omega))
        rw [e1]
        apply AWp.regionQ
        · kernel_rfl
        · kernel_rfl
        repeat' (first | (apply AOps.nil; try simp only [List.nil_append, List.cons_append, List.set_cons_zero, List.set_cons_succ, List.length_cons, List.length_nil, Nat.reduceAdd, AV.sh, AV.sh1, AV.sh0, AO.sh, List.map_cons, List.map_nil, Nat.zero_add, Nat.add_zero, setAll]) | (apply w_move; exact rfl; exact rfl) | (apply w_assign; exact rfl; exact rfl) | apply AWp.seq | apply AWp.region | ((apply AWp.condP; exact rfl) <;> intro h) | apply AWp.skip | ((first | apply w_bsx1 | apply w_eql | apply w_add | apply w_mul | apply w_idx | apply w_ld); iterate 3 exact rfl) | (apply w_appx; exact rfl; exact rfl; exact rfl; exact rfl; exact rfl; rotate_left 1; simp only [Env.mp, List.map_cons, List.map_nil, List.set_cons_zero, List.set_cons_succ, AV.kill, AV.kill1, AO.kill, AV.rin, AV.rin1, AV.noRow, AV.noRow1, AO.via, reduceIte, Nat.reduceEqDiff, Nat.reduceLT, Env.up, Nat.zero_ne_one, Nat.one_ne_zero, Nat.reduceAdd, List.cons_append, List.nil_append]; rotate_left 1) | omega | ((first | apply w_idxr | apply w_ldr); iterate 4 exact rfl) | (apply w_ldrp; iterate 4 exact rfl) | (apply inI_of <;> omega))
        have e5 : (k :: t :: r).reverse = st ++ [k] := by rw [← est]; simp
        refine ⟨(k + 1, k :: t :: r, zs), ⟨by simp only; omega, k1, fun i hi => k2 i (by simp only at hi; omega), k3.push, pk⟩, by simp only; omega, by simp only [e5]; exact ⟨lee rfl (by (repeat (first | exact le_nil | refine le_eq rfl rfl ?_))), by (repeat (first | exact lo_nil | refine lo_dead ?_ | refine lo_eq rfl ?_)), rfl, (by first | exact rfl | exact lim3 _)⟩⟩
  · have ek : k = ys.length := by omega
    subst ek
    rw [List.take_length] at k4
    refine AWp.merge (p := 2) (k := 0) rfl rfl k3.nodup ?_
    simp only [Env.mp, List.map_cons, List.map_nil, List.set_cons_zero, List.set_cons_succ, AV.kill, AV.kill1, AO.kill, AV.noRow, AV.noRow1, AO.via, reduceIte, Nat.reduceEqDiff, Nat.reduceLT, Env.up, Nat.zero_ne_one, Nat.one_ne_zero, Nat.reduceAdd, List.cons_append, List.nil_append]
    repeat' (first | (apply AOps.nil; try simp only [List.nil_append, List.cons_append, List.set_cons_zero, List.set_cons_succ, List.length_cons, List.length_nil, Nat.reduceAdd, AV.sh, AV.sh1, AV.sh0, AO.sh, List.map_cons, List.map_nil, Nat.zero_add, Nat.add_zero, setAll]) | (apply w_move; exact rfl; exact rfl) | (apply w_assign; exact rfl; exact rfl) | apply AWp.seq | apply AWp.region | ((apply AWp.condP; exact rfl) <;> intro h) | apply AWp.block | apply AWp.ret | apply AWp.exit | apply AWp.skip | omega | ((apply w_lss); iterate 3 exact rfl))
    exact ⟨_, _, _, .v1 Try.results54 rfl, .sls rfl, _, k4.join.perm hpm, rfl, rfl⟩
end Go.Proofs.Ythlfdhooiekgjaa
/-
  The stable sort of no rows; no edges put together; edges put together, in general; the points of a chain. Condition: few edges with small numbers.
-/
namespace Go.Proofs.Ythlfdhooiekgjaa
open Go Go.RowKit Go.Sort

theorem insertion_none_k (a : Option Addr) (cap : Nat) (fv : Fn) (b1 b2 : Array Value) (w : World) : Calls Try.prog 82 #[.slice a 0 cap, .int .i64 0, .int .i64 0, .func fv b1 b2] w fun e w' => e = .returned (.tuple #[]) ∧ w' = w := by
  go_enter Try.func82, Try.ntmps82
  go_wp2
  refine wp_loop_rounds 1 ?_
  rw [rounds_succ]
  go_wp2
  go_end0
  exact ⟨rfl, rfl⟩
theorem stable_none_k (a : Option Addr) (cap : Nat) (fv : Fn) (b1 b2 : Array Value) (w : World) : Calls Try.prog 81 #[.slice a 0 cap, .int .i64 0, .func fv b1 b2] w fun e w' => e = .returned (.tuple #[]) ∧ w' = w := by
  go_enter Try.func81, Try.ntmps81
  go_wp2
  refine wp_loop_rounds 1 ?_
  rw [rounds_succ]
  go_wp2_with (go_at_call 82; refine (insertion_none_k _ _ _ _ _ _).mono ?_; rintro e w' ⟨rfl, rfl⟩)
  refine wp_loop_rounds 1 ?_
  rw [rounds_succ]
  go_wp2
  go_end0
  exact ⟨rfl, rfl⟩
theorem sortst_none_k (a : Option Addr) (cap : Nat) (fv : Fn) (b1 b2 : Array Value) (w : World) : Calls Try.prog 74 #[.slice a 0 cap, .func fv b1 b2] w fun e w' => e = .returned (.tuple #[]) ∧ w' = w := by
  go_enter Try.func74, Try.ntmps74
  go_wp2_with (go_at_call 81; refine (stable_none_k _ _ _ _ _ _).mono ?_; rintro e w' ⟨rfl, rfl⟩)
  go_end0
  exact ⟨rfl, rfl⟩
section
variable {env : Env} {os : List AO} {d : Option Tmp} {ty : TypeId} {pos : String} {af : Array Edge} {g : Option (Nat × Bool)}
theorem c_sortst0 {G : FuncId} {x y : Operand} {ats : Array TypeId} {h : Nat} {e e2 : TypeId} (hx : AV.ev env x = .own h) (hs : os[h]? = some (.sls e e2 [])) (hy : AV.ev env y = .val (.func (.func G) #[] #[])) :
    COp Try.prog ⟨d, .call { callee := .value (.func 74), args := #[x, y], argTypes := ats }, ty, pos, af, g⟩ env os (fun r e' o => r = .any ∧ e' = env ∧ o = os) := by
  intro base w gs tm hr
  have hxv := hr.ev x
  rw [hx] at hxv
  have hyv := hr.evv hy
  generalize hv : Act.eval ⟨tm, []⟩ x = v at hxv
  cases hxv with
  | @own _ gh hg =>
  obtain ⟨us, bs, mb, b1, b2, b3, b4, b5, b6, b7, b8⟩ := hr.ho _ _ _ hg hs
  have hbd : HasBody Try.prog 74 := ⟨_, _, Try.func74, by kernel_rfl, rfl⟩
  have hu : us = [] := List.eq_nil_of_length_eq_zero (by simpa using b2)
  have hsl : ∃ a cap, gh.v = .slice a 0 cap := by
    rcases b1.2 with ⟨q1, q2⟩ | ⟨blk, cap, cur, c1, _⟩
    · exact ⟨none, 0, q1⟩
    · exact ⟨_, cap, by rw [c1, hu]; rfl⟩
  obtain ⟨a, cap, hgv⟩ := hsl
  refine ⟨_, _, run_call hbd [x, y] ats _ rfl w, ?_⟩
  have eargs : ([x, y].map (Act.eval ⟨tm, []⟩)).toArray = #[.slice a 0 cap, .func (.func G) #[] #[]] := by
    simp only [List.map_cons, List.map_nil, hv, hyv, hgv]
  rw [eargs]
  refine (sortst_none_k a cap _ _ _ w).mono ?_
  rintro e' w' ⟨rfl, rfl⟩
  exact ⟨.tuple #[], .any, env, os, gs, rfl, ⟨rfl, rfl, rfl⟩, hr, .any _, Below.refl _ _⟩
end
section
variable {env : Env} {os : List AO} {d : Tmp} {ty : TypeId} {pos : String} {af : Array Edge} {l rest : List Oper} {K : APost}
theorem w_sortst0 {G : FuncId} {x y : Operand} {ats : Array TypeId} {h : Nat} {e e2 : TypeId} (hx : evo env x = some (.own h)) (hs : os[h]? = some (.sls e e2 [])) (hy : evo env y = some (.val (.func (.func G) #[] #[])))
    (h' : AOps Try.prog .seq l rest K (Env.up env d .any) os) :
    AOps Try.prog .seq l (⟨some d, .call { callee := .value (.func 74), args := #[x, y], argTypes := ats }, ty, pos, af, none⟩ :: rest) K env os :=
  AOps.ca (c_sortst0 (ev_of hx) hs (ev_of hy)) fun r e o ⟨h3, h4, h5⟩ => by subst h3; subst h4; subst h5; exact h'
end
attribute [local irreducible] AWp AOps ResIs Ret1 QOp LOp COp AFnV AFn Imms LeE LeO
set_option maxHeartbeats 1000000
set_option linter.unusedSimpArgs false
set_option linter.unusedVariables false

theorem joinedEdges_all (xss : List (List Int)) (h1 : xss.length ≤ 200) (hp : ∀ r ∈ xss, E60 r) : AFn Try.prog 54 [.intss xss] (fun r os => ∃ L, JoinOf xss L ∧ r = .own 0 ∧ os = [.sls 38 2 L]) := by
  by_cases h0 : 0 < xss.length
  · exact joinedEdges_c xss h0 h1 hp
  · have e0 : xss = [] := List.eq_nil_of_length_eq_zero (by omega)
    subst e0
    have hcl := copyLists_c [] (by simp) (fun r hr => by simp at hr)
    (refine AFn.start Try.func54 Try.ntmps54 rfl (by kernel_rfl) fun hk => ?_; simp only [Env.start, enumF, List.length_cons, List.length_nil, Nat.reduceAdd, Nat.reduceSub, List.cons_append, List.nil_append])
    repeat' (first
  | (apply AOps.nil; try simp only [List.nil_append, List.cons_append, List.set_cons_zero, List.set_cons_succ, List.length_cons, List.length_nil, Nat.reduceAdd, AV.sh, AV.sh1, AV.sh0, AO.sh, List.map_cons, List.map_nil, Nat.zero_add, Nat.add_zero, setAll])
  | ((apply AOps.splitP; exact rfl; exact rfl) <;> intro h)
  | ((apply AOps.splitN; exact rfl; exact rfl) <;> intro h)
  | (apply w_move; exact rfl; exact rfl)
  | (apply w_assign; exact rfl; exact rfl)
  | apply AWp.seq
  | apply AWp.region
  | ((apply AWp.condP; exact rfl) <;> intro h)
  | ((apply AWp.condN; exact rfl) <;> intro h)
  | (apply AWp.condT; exact rfl)
  | (apply AWp.condF; exact rfl)
  | ((apply AWp.condB; exact rfl) <;> intro h)
  | apply AWp.block
  | apply AWp.ret
  | apply AWp.exit
  | apply AWp.skip
  | (apply AWp.regionQ; kernel_rfl; kernel_rfl)
  | (apply if_pos'; exact rfl)
  | (apply if_neg'; decide)
  | (apply w_skip; exact rfl)
  | (apply w_pickT; exact rfl; exact rfl; exact rfl)
  | (apply w_pickF; exact rfl; exact rfl; exact rfl)
  | (apply w_len; exact rfl; exact rfl; first | exact .ints _ | exact .intss _ | exact .sli rfl | exact .sls rfl | exact .slr rfl | exact .orow rfl | exact .nil)
  | (apply w_callm (hcl); (focus ((repeat (first | exact im_nil | refine im_cons rfl (.val _) ?_ | refine im_cons rfl (.ints _) ?_ | refine im_cons rfl (.intss _) ?_ | refine im_cons rfl (.sli rfl) ?_ | refine im_cons rfl (.sls rfl) ?_ | refine im_cons rfl (.orow rfl) ?_ | refine im_cons rfl (.osub rfl (by simp; omega)) ?_ | refine im_cons rfl (.nil) ?_ | refine im_cons rfl (.nils) ?_ | refine im_cons rfl (im_agg2 (.val _) (.ints _)) ?_ | refine im_cons rfl (im_agg2 (.val _) (.sli rfl)) ?_ | refine im_cons rfl (im_agg2 (.val _) (.nil)) ?_ | refine im_cons rfl (im_agg2 (.ints _) (.intss _)) ?_ | refine im_cons rfl (im_agg2 (.ints _) (.sls rfl)) ?_ | refine im_cons rfl (im_agg2 (.sli rfl) (.intss _)) ?_ | refine im_cons rfl (im_agg2 (.sli rfl) (.sls rfl)) ?_ | refine im_cons rfl (im_agg1 (.ints _)) ?_ | refine im_cons rfl (im_agg1 (.sli rfl)) ?_ | refine im_cons rfl (im_agg1 (.intss _)) ?_ | refine im_cons rfl (im_agg1 (.sls rfl)) ?_ | refine im_cons rfl (im_agg1 (.nil)) ?_ | refine im_cons rfl (im_agg1 (.nils)) ?_)); done)); rintro r os0 ⟨rfl, rfl⟩; try simp only [List.nil_append, List.cons_append, List.set_cons_zero, List.set_cons_succ, List.length_cons, List.length_nil, Nat.reduceAdd, AV.sh, AV.sh1, AV.sh0, AO.sh, List.map_cons, List.map_nil, Nat.zero_add, Nat.add_zero, setAll])
  | ((first | apply w_lss | apply w_leq | apply w_gtr | apply w_geq | apply w_eql | apply w_neq | apply w_add | apply w_sub | apply w_mul | apply w_idx | apply w_ld | apply w_fld | apply w_fa | apply w_extv | apply w_min | apply w_max | apply w_slhi | apply w_sllo | apply w_bs2); iterate 3 exact rfl)
  | ((first | apply w_eqlb | apply w_neqb | apply w_idxs | apply w_lds | apply w_ext); iterate 3 exact rfl)
  | (apply w_rem; exact rfl; exact rfl; exact rfl; (focus (omega; done)); (focus (omega; done)))
  | (apply w_quo; exact rfl; exact rfl; exact rfl; (focus (omega; done)); (focus (omega; done)))
  | (apply w_remT; exact rfl; exact rfl; exact rfl)
  | (apply w_quoT; exact rfl; exact rfl; exact rfl)
  | ((first | apply w_not | apply w_neg | apply w_conv | apply w_build0 | apply w_bs1 | apply w_boxa); iterate 2 exact rfl)
  | (apply w_idxo; exact rfl; exact rfl; (first | exact .sli rfl | exact .sls rfl | exact .slr rfl); exact rfl)
  | ((first | apply w_idxr | apply w_ldr); iterate 4 exact rfl)
  | (apply w_ldo; iterate 4 exact rfl)
  | (apply w_ldls; iterate 4 exact rfl)
  | (apply w_ldrp; iterate 4 exact rfl)
  | (apply w_ldb; iterate 5 exact rfl)
  | (apply w_ldst; iterate 5 exact rfl)
  | ((first | apply w_sllh | apply w_stbi); iterate 4 exact rfl)
  | ((first | apply w_oslo | apply w_oshi | apply w_stbii); iterate 4 exact rfl)
  | (apply w_build1; exact rfl; exact rfl; (first | exact one_val rfl rfl | exact one_ints | exact one_intss | exact one_own rfl True.intro))
  | (apply w_build2; exact rfl; exact rfl; exact rfl; (first | exact one_val rfl rfl | exact one_ints | exact one_intss | exact one_own rfl True.intro); (first | exact one_val rfl rfl | exact one_ints | exact one_intss | exact one_own rfl True.intro))
  | (apply w_bs0; iterate 1 exact rfl)
  | (apply w_appn; exact rfl; exact rfl; (first | exact .ints _ | exact .sli rfl | exact .orow rfl | exact .nil | exact .osub rfl (by simp; omega)); exact rfl)
  | (apply w_app; exact rfl; exact rfl; exact rfl; exact rfl; (first | exact .ints _ | exact .sli rfl | exact .orow rfl | exact .nil | exact .osub rfl (by simp; omega)); rotate_left 1; simp only [Env.mp, List.map_cons, List.map_nil, List.set_cons_zero, List.set_cons_succ, AV.kill, AV.kill1, AO.kill, AV.noRow, AV.noRow1, AO.via, reduceIte, Nat.reduceEqDiff, Nat.reduceLT, Env.up, Nat.zero_ne_one, Nat.one_ne_zero, Nat.reduceAdd, List.cons_append, List.nil_append]; rotate_left 1)
  | (apply w_alst; iterate 2 exact rfl)
  | (apply w_alone; iterate 3 exact rfl)
  | (apply w_sti; exact rfl; exact rfl; rotate_left 1; exact rfl; rotate_left 2)
  | (apply w_stst; iterate 5 exact rfl)
  | (apply w_stbv; iterate 6 exact rfl)
  | (apply w_stbo; exact rfl; exact rfl; exact rfl; exact rfl; exact rfl; exact True.intro)
  | ((apply AOps.splitB; exact rfl; exact rfl) <;> intro h)
  | apply AllOf.nil
  | (apply AllOf.cons; exact rfl)
  | (apply AAny.take; exact rfl; exact rfl; kernel_rfl; kernel_rfl)
  | (apply AAny.all; exact rfl)
  | (apply AAny.done; exact rfl)
  | (apply inI_of <;> omega)
  | omega
  | (simp <;> omega))
    refine w_sortst0 rfl rfl rfl ?_
    repeat' (first
  | (apply AOps.nil; try simp only [List.nil_append, List.cons_append, List.set_cons_zero, List.set_cons_succ, List.length_cons, List.length_nil, Nat.reduceAdd, AV.sh, AV.sh1, AV.sh0, AO.sh, List.map_cons, List.map_nil, Nat.zero_add, Nat.add_zero, setAll])
  | ((apply AOps.splitP; exact rfl; exact rfl) <;> intro h)
  | ((apply AOps.splitN; exact rfl; exact rfl) <;> intro h)
  | (apply w_move; exact rfl; exact rfl)
  | (apply w_assign; exact rfl; exact rfl)
  | apply AWp.seq
  | apply AWp.region
  | ((apply AWp.condP; exact rfl) <;> intro h)
  | ((apply AWp.condN; exact rfl) <;> intro h)
  | (apply AWp.condT; exact rfl)
  | (apply AWp.condF; exact rfl)
  | ((apply AWp.condB; exact rfl) <;> intro h)
  | apply AWp.block
  | apply AWp.ret
  | apply AWp.exit
  | apply AWp.skip
  | (apply AWp.regionQ; kernel_rfl; kernel_rfl)
  | (apply if_pos'; exact rfl)
  | (apply if_neg'; decide)
  | (apply w_skip; exact rfl)
  | (apply w_pickT; exact rfl; exact rfl; exact rfl)
  | (apply w_pickF; exact rfl; exact rfl; exact rfl)
  | (apply w_len; exact rfl; exact rfl; first | exact .ints _ | exact .intss _ | exact .sli rfl | exact .sls rfl | exact .slr rfl | exact .orow rfl | exact .nil)
  | ((first | apply w_lss | apply w_leq | apply w_gtr | apply w_geq | apply w_eql | apply w_neq | apply w_add | apply w_sub | apply w_mul | apply w_idx | apply w_ld | apply w_fld | apply w_fa | apply w_extv | apply w_min | apply w_max | apply w_slhi | apply w_sllo | apply w_bs2); iterate 3 exact rfl)
  | ((first | apply w_eqlb | apply w_neqb | apply w_idxs | apply w_lds | apply w_ext); iterate 3 exact rfl)
  | (apply w_rem; exact rfl; exact rfl; exact rfl; (focus (omega; done)); (focus (omega; done)))
  | (apply w_quo; exact rfl; exact rfl; exact rfl; (focus (omega; done)); (focus (omega; done)))
  | (apply w_remT; exact rfl; exact rfl; exact rfl)
  | (apply w_quoT; exact rfl; exact rfl; exact rfl)
  | ((first | apply w_not | apply w_neg | apply w_conv | apply w_build0 | apply w_bs1 | apply w_boxa); iterate 2 exact rfl)
  | (apply w_idxo; exact rfl; exact rfl; (first | exact .sli rfl | exact .sls rfl | exact .slr rfl); exact rfl)
  | ((first | apply w_idxr | apply w_ldr); iterate 4 exact rfl)
  | (apply w_ldo; iterate 4 exact rfl)
  | (apply w_ldls; iterate 4 exact rfl)
  | (apply w_ldrp; iterate 4 exact rfl)
  | (apply w_ldb; iterate 5 exact rfl)
  | (apply w_ldst; iterate 5 exact rfl)
  | ((first | apply w_sllh | apply w_stbi); iterate 4 exact rfl)
  | ((first | apply w_oslo | apply w_oshi | apply w_stbii); iterate 4 exact rfl)
  | (apply w_build1; exact rfl; exact rfl; (first | exact one_val rfl rfl | exact one_ints | exact one_intss | exact one_own rfl True.intro))
  | (apply w_build2; exact rfl; exact rfl; exact rfl; (first | exact one_val rfl rfl | exact one_ints | exact one_intss | exact one_own rfl True.intro); (first | exact one_val rfl rfl | exact one_ints | exact one_intss | exact one_own rfl True.intro))
  | (apply w_bs0; iterate 1 exact rfl)
  | (apply w_appn; exact rfl; exact rfl; (first | exact .ints _ | exact .sli rfl | exact .orow rfl | exact .nil | exact .osub rfl (by simp; omega)); exact rfl)
  | (apply w_app; exact rfl; exact rfl; exact rfl; exact rfl; (first | exact .ints _ | exact .sli rfl | exact .orow rfl | exact .nil | exact .osub rfl (by simp; omega)); rotate_left 1; simp only [Env.mp, List.map_cons, List.map_nil, List.set_cons_zero, List.set_cons_succ, AV.kill, AV.kill1, AO.kill, AV.noRow, AV.noRow1, AO.via, reduceIte, Nat.reduceEqDiff, Nat.reduceLT, Env.up, Nat.zero_ne_one, Nat.one_ne_zero, Nat.reduceAdd, List.cons_append, List.nil_append]; rotate_left 1)
  | (apply w_alst; iterate 2 exact rfl)
  | (apply w_alone; iterate 3 exact rfl)
  | (apply w_sti; exact rfl; exact rfl; rotate_left 1; exact rfl; rotate_left 2)
  | (apply w_stst; iterate 5 exact rfl)
  | (apply w_stbv; iterate 6 exact rfl)
  | (apply w_stbo; exact rfl; exact rfl; exact rfl; exact rfl; exact rfl; exact True.intro)
  | ((apply AOps.splitB; exact rfl; exact rfl) <;> intro h)
  | apply AllOf.nil
  | (apply AllOf.cons; exact rfl)
  | (apply AAny.take; exact rfl; exact rfl; kernel_rfl; kernel_rfl)
  | (apply AAny.all; exact rfl)
  | (apply AAny.done; exact rfl)
  | (apply inI_of <;> omega)
  | omega
  | (simp <;> omega))
    refine w_bsx0 0 rfl ?_
    try simp only [List.nil_append, List.cons_append, List.set_cons_zero, List.set_cons_succ, List.length_cons, List.length_nil, Nat.reduceAdd, AV.sh, AV.sh1, AV.sh0, AO.sh, List.map_cons, List.map_nil, Nat.zero_add, Nat.add_zero, setAll]
    repeat' (first
  | (apply AOps.nil; try simp only [List.nil_append, List.cons_append, List.set_cons_zero, List.set_cons_succ, List.length_cons, List.length_nil, Nat.reduceAdd, AV.sh, AV.sh1, AV.sh0, AO.sh, List.map_cons, List.map_nil, Nat.zero_add, Nat.add_zero, setAll])
  | ((apply AOps.splitP; exact rfl; exact rfl) <;> intro h)
  | ((apply AOps.splitN; exact rfl; exact rfl) <;> intro h)
  | (apply w_move; exact rfl; exact rfl)
  | (apply w_assign; exact rfl; exact rfl)
  | apply AWp.seq
  | apply AWp.region
  | ((apply AWp.condP; exact rfl) <;> intro h)
  | ((apply AWp.condN; exact rfl) <;> intro h)
  | (apply AWp.condT; exact rfl)
  | (apply AWp.condF; exact rfl)
  | ((apply AWp.condB; exact rfl) <;> intro h)
  | apply AWp.block
  | apply AWp.ret
  | apply AWp.exit
  | apply AWp.skip
  | (apply AWp.regionQ; kernel_rfl; kernel_rfl)
  | (apply if_pos'; exact rfl)
  | (apply if_neg'; decide)
  | (apply w_skip; exact rfl)
  | (apply w_pickT; exact rfl; exact rfl; exact rfl)
  | (apply w_pickF; exact rfl; exact rfl; exact rfl)
  | (apply w_len; exact rfl; exact rfl; first | exact .ints _ | exact .intss _ | exact .sli rfl | exact .sls rfl | exact .slr rfl | exact .orow rfl | exact .nil)
  | ((first | apply w_lss | apply w_leq | apply w_gtr | apply w_geq | apply w_eql | apply w_neq | apply w_add | apply w_sub | apply w_mul | apply w_idx | apply w_ld | apply w_fld | apply w_fa | apply w_extv | apply w_min | apply w_max | apply w_slhi | apply w_sllo | apply w_bs2); iterate 3 exact rfl)
  | ((first | apply w_eqlb | apply w_neqb | apply w_idxs | apply w_lds | apply w_ext); iterate 3 exact rfl)
  | (apply w_rem; exact rfl; exact rfl; exact rfl; (focus (omega; done)); (focus (omega; done)))
  | (apply w_quo; exact rfl; exact rfl; exact rfl; (focus (omega; done)); (focus (omega; done)))
  | (apply w_remT; exact rfl; exact rfl; exact rfl)
  | (apply w_quoT; exact rfl; exact rfl; exact rfl)
  | ((first | apply w_not | apply w_neg | apply w_conv | apply w_build0 | apply w_bs1 | apply w_boxa); iterate 2 exact rfl)
  | (apply w_idxo; exact rfl; exact rfl; (first | exact .sli rfl | exact .sls rfl | exact .slr rfl); exact rfl)
  | ((first | apply w_idxr | apply w_ldr); iterate 4 exact rfl)
  | (apply w_ldo; iterate 4 exact rfl)
  | (apply w_ldls; iterate 4 exact rfl)
  | (apply w_ldrp; iterate 4 exact rfl)
  | (apply w_ldb; iterate 5 exact rfl)
  | (apply w_ldst; iterate 5 exact rfl)
  | ((first | apply w_sllh | apply w_stbi); iterate 4 exact rfl)
  | ((first | apply w_oslo | apply w_oshi | apply w_stbii); iterate 4 exact rfl)
  | (apply w_build1; exact rfl; exact rfl; (first | exact one_val rfl rfl | exact one_ints | exact one_intss | exact one_own rfl True.intro))
  | (apply w_build2; exact rfl; exact rfl; exact rfl; (first | exact one_val rfl rfl | exact one_ints | exact one_intss | exact one_own rfl True.intro); (first | exact one_val rfl rfl | exact one_ints | exact one_intss | exact one_own rfl True.intro))
  | (apply w_bs0; iterate 1 exact rfl)
  | (apply w_appn; exact rfl; exact rfl; (first | exact .ints _ | exact .sli rfl | exact .orow rfl | exact .nil | exact .osub rfl (by simp; omega)); exact rfl)
  | (apply w_app; exact rfl; exact rfl; exact rfl; exact rfl; (first | exact .ints _ | exact .sli rfl | exact .orow rfl | exact .nil | exact .osub rfl (by simp; omega)); rotate_left 1; simp only [Env.mp, List.map_cons, List.map_nil, List.set_cons_zero, List.set_cons_succ, AV.kill, AV.kill1, AO.kill, AV.noRow, AV.noRow1, AO.via, reduceIte, Nat.reduceEqDiff, Nat.reduceLT, Env.up, Nat.zero_ne_one, Nat.one_ne_zero, Nat.reduceAdd, List.cons_append, List.nil_append]; rotate_left 1)
  | (apply w_alst; iterate 2 exact rfl)
  | (apply w_alone; iterate 3 exact rfl)
  | (apply w_sti; exact rfl; exact rfl; rotate_left 1; exact rfl; rotate_left 2)
  | (apply w_stst; iterate 5 exact rfl)
  | (apply w_stbv; iterate 6 exact rfl)
  | (apply w_stbo; exact rfl; exact rfl; exact rfl; exact rfl; exact rfl; exact True.intro)
  | ((apply AOps.splitB; exact rfl; exact rfl) <;> intro h)
  | apply AllOf.nil
  | (apply AllOf.cons; exact rfl)
  | (apply AAny.take; exact rfl; exact rfl; kernel_rfl; kernel_rfl)
  | (apply AAny.all; exact rfl)
  | (apply AAny.done; exact rfl)
  | (apply inI_of <;> omega)
  | omega
  | (simp <;> omega))
    refine AWp.loop (ι := Unit) (fun x => ⟨65, [(4, .own 1), (13, .own 0), (14, .i 0), (15, .i 0)]⟩) (fun x => [.sls 38 2 [], .slr 38 (([] : List Nat).map (AV.orow 0))]) (fun x => True) (fun x => 0) () trivial ⟨lee rfl (by (repeat (first | exact le_nil | refine le_eq rfl rfl ?_ | refine le_eq rfl (congrArg AV.i (by omega)) ?_))), by (repeat (first | exact lo_nil | refine lo_dead ?_ | refine lo_eq rfl ?_)), rfl, rfl⟩ ?_
    rintro _ _
    refine AWp.merge (p := 1) (k := 0) (idx := []) rfl rfl List.nodup_nil ?_
    simp only [Env.mp, List.map_cons, List.map_nil, List.set_cons_zero, List.set_cons_succ, AV.kill, AV.kill1, AO.kill, AV.noRow, AV.noRow1, AO.via, reduceIte, Nat.reduceEqDiff, Nat.reduceLT, Env.up, Nat.zero_ne_one, Nat.one_ne_zero, Nat.reduceAdd, List.cons_append, List.nil_append]
    repeat' (first
  | (apply AOps.nil; try simp only [List.nil_append, List.cons_append, List.set_cons_zero, List.set_cons_succ, List.length_cons, List.length_nil, Nat.reduceAdd, AV.sh, AV.sh1, AV.sh0, AO.sh, List.map_cons, List.map_nil, Nat.zero_add, Nat.add_zero, setAll])
  | ((apply AOps.splitP; exact rfl; exact rfl) <;> intro h)
  | ((apply AOps.splitN; exact rfl; exact rfl) <;> intro h)
  | (apply w_move; exact rfl; exact rfl)
  | (apply w_assign; exact rfl; exact rfl)
  | apply AWp.seq
  | apply AWp.region
  | ((apply AWp.condP; exact rfl) <;> intro h)
  | ((apply AWp.condN; exact rfl) <;> intro h)
  | (apply AWp.condT; exact rfl)
  | (apply AWp.condF; exact rfl)
  | ((apply AWp.condB; exact rfl) <;> intro h)
  | apply AWp.block
  | apply AWp.ret
  | apply AWp.exit
  | apply AWp.skip
  | (apply AWp.regionQ; kernel_rfl; kernel_rfl)
  | (apply if_pos'; exact rfl)
  | (apply if_neg'; decide)
  | (apply w_skip; exact rfl)
  | (apply w_pickT; exact rfl; exact rfl; exact rfl)
  | (apply w_pickF; exact rfl; exact rfl; exact rfl)
  | (apply w_len; exact rfl; exact rfl; first | exact .ints _ | exact .intss _ | exact .sli rfl | exact .sls rfl | exact .slr rfl | exact .orow rfl | exact .nil)
  | omega
  | ((first | apply w_lss | apply w_leq | apply w_gtr | apply w_geq | apply w_eql | apply w_neq | apply w_add | apply w_sub | apply w_mul | apply w_idx | apply w_ld | apply w_fld | apply w_fa | apply w_extv | apply w_min | apply w_max | apply w_slhi | apply w_sllo | apply w_bs2); iterate 3 exact rfl)
  | ((first | apply w_eqlb | apply w_neqb | apply w_idxs | apply w_lds | apply w_ext); iterate 3 exact rfl)
  | (apply w_rem; exact rfl; exact rfl; exact rfl; (focus (omega; done)); (focus (omega; done)))
  | (apply w_quo; exact rfl; exact rfl; exact rfl; (focus (omega; done)); (focus (omega; done)))
  | (apply w_remT; exact rfl; exact rfl; exact rfl)
  | (apply w_quoT; exact rfl; exact rfl; exact rfl)
  | ((first | apply w_not | apply w_neg | apply w_conv | apply w_build0 | apply w_bs1 | apply w_boxa); iterate 2 exact rfl)
  | (apply w_idxo; exact rfl; exact rfl; (first | exact .sli rfl | exact .sls rfl | exact .slr rfl); exact rfl)
  | ((first | apply w_idxr | apply w_ldr); iterate 4 exact rfl)
  | (apply w_ldo; iterate 4 exact rfl)
  | (apply w_ldls; iterate 4 exact rfl)
  | (apply w_ldrp; iterate 4 exact rfl)
  | (apply w_ldb; iterate 5 exact rfl)
  | (apply w_ldst; iterate 5 exact rfl)
  | ((first | apply w_sllh | apply w_stbi); iterate 4 exact rfl)
  | ((first | apply w_oslo | apply w_oshi | apply w_stbii); iterate 4 exact rfl)
  | (apply w_build1; exact rfl; exact rfl; (first | exact one_val rfl rfl | exact one_ints | exact one_intss | exact one_own rfl True.intro))
  | (apply w_build2; exact rfl; exact rfl; exact rfl; (first | exact one_val rfl rfl | exact one_ints | exact one_intss | exact one_own rfl True.intro); (first | exact one_val rfl rfl | exact one_ints | exact one_intss | exact one_own rfl True.intro))
  | (apply w_bs0; iterate 1 exact rfl)
  | (apply w_appn; exact rfl; exact rfl; (first | exact .ints _ | exact .sli rfl | exact .orow rfl | exact .nil | exact .osub rfl (by simp; omega)); exact rfl)
  | (apply w_app; exact rfl; exact rfl; exact rfl; exact rfl; (first | exact .ints _ | exact .sli rfl | exact .orow rfl | exact .nil | exact .osub rfl (by simp; omega)); rotate_left 1; simp only [Env.mp, List.map_cons, List.map_nil, List.set_cons_zero, List.set_cons_succ, AV.kill, AV.kill1, AO.kill, AV.noRow, AV.noRow1, AO.via, reduceIte, Nat.reduceEqDiff, Nat.reduceLT, Env.up, Nat.zero_ne_one, Nat.one_ne_zero, Nat.reduceAdd, List.cons_append, List.nil_append]; rotate_left 1)
  | (apply w_alst; iterate 2 exact rfl)
  | (apply w_alone; iterate 3 exact rfl)
  | (apply w_sti; exact rfl; exact rfl; rotate_left 1; exact rfl; rotate_left 2)
  | (apply w_stst; iterate 5 exact rfl)
  | (apply w_stbv; iterate 6 exact rfl)
  | (apply w_stbo; exact rfl; exact rfl; exact rfl; exact rfl; exact rfl; exact True.intro)
  | ((apply AOps.splitB; exact rfl; exact rfl) <;> intro h)
  | apply AllOf.nil
  | (apply AllOf.cons; exact rfl)
  | (apply AAny.take; exact rfl; exact rfl; kernel_rfl; kernel_rfl)
  | (apply AAny.all; exact rfl)
  | (apply AAny.done; exact rfl)
  | (apply inI_of <;> omega)
  | omega
  | (simp <;> omega))
    exact ⟨_, _, _, .v1 Try.results54 rfl, .sls rfl, [], JI.nil.join, rfl, rfl⟩
end Go.Proofs.Ythlfdhooiekgjaa
/-
  Own slices whose cells are rows that are only read. No condition.
-/
namespace Go.Proofs.Ythlfdhooiekgjaa
open Go Go.RowKit

section
variable {P : Program} {env : Env} {os : List AO} {d : Option Tmp} {ty : TypeId} {pos : String} {af : Array Edge} {g : Option (Nat × Bool)} {wl : Bool}

end

section
variable {P : Program} {env : Env} {os : List AO} {d : Tmp} {ty : TypeId} {pos : String} {af : Array Edge} {g : Option (Nat × Bool)} {l rest : List Oper} {K : APost} {q : Md}
end
end Go.Proofs.Ythlfdhooiekgjaa
/-
  The points of a chain, walked; limited points; the reference's polygon of edges. Condition: numbers of moderate size.
-/
namespace Go.Proofs.Ythlfdhooiekgjaa
open Go Go.RowKit
attribute [local irreducible] AWp AOps ResIs Ret1 QOp LOp COp AFnV AFn Imms LeE LeO
set_option maxHeartbeats 1000000
set_option linter.unusedSimpArgs false
set_option linter.unusedVariables false

theorem geti_p0 (a b : Int) : geti [a, b] 0 = a := rfl
theorem geti_p1 (a b : Int) : geti [a, b] 1 = b := rfl
set_option maxHeartbeats 4000000 in
theorem verticesFrom_c (p : List Int) (L : List (List Int)) (hp : p.length = 2) (hn : L.length ≤ 100000) (hL : ∀ l ∈ L, l.length = 2) (hb : ∀ q ∈ vfP p L, (0 ≤ geti q 0 ∧ geti q 0 ≤ 100000) ∧ (0 ≤ geti q 1 ∧ geti q 1 ≤ 100000)) :
    AFn Try.prog 53 [.ints p, .intss L] (IsIntss 38 2 (vfP p L)) := by
  have hcl := clone_c p (by omega) (by omega)
  have hlen := vfP_len L p
  have e0 : (vfP p L).take 1 = [p] := by
    obtain ⟨r, hr⟩ := vfP_ne p L
    rw [hr]; rfl
  (refine AFn.start Try.func53 Try.ntmps53 rfl (by kernel_rfl) fun hk => ?_; simp only [Env.start, enumF, List.length_cons, List.length_nil, Nat.reduceAdd, Nat.reduceSub, List.cons_append, List.nil_append])
  repeat' (first | (apply AOps.nil; try simp only [List.nil_append, List.cons_append, List.set_cons_zero, List.set_cons_succ, List.length_cons, List.length_nil, Nat.reduceAdd, AV.sh, AV.sh1, AV.sh0, AO.sh, List.map_cons, List.map_nil, Nat.zero_add, Nat.add_zero, setAll]) | (apply w_move; exact rfl; exact rfl) | (apply w_assign; exact rfl; exact rfl) | apply AWp.seq | apply AWp.region | apply AWp.block | (apply w_len; exact rfl; exact rfl; first | exact .ints _ | exact .intss _ | exact .sli rfl | exact .sls rfl | exact .slr rfl | exact .orow rfl | exact .nil) | (apply w_bsr1s; exact rfl; exact rfl; exact rfl; exact rfl; simp only [Env.mp, List.map_cons, List.map_nil, List.set_cons_zero, List.set_cons_succ, AV.kill, AV.kill1, AO.kill, AV.rin, AV.rin1, AV.noRow, AV.noRow1, AO.via, reduceIte, Nat.reduceEqDiff, Nat.reduceLT, Env.up, Nat.zero_ne_one, Nat.one_ne_zero, Nat.reduceAdd, List.cons_append, List.nil_append]) | (apply w_callm (hcl); (focus ((repeat (first | exact im_nil | refine im_cons rfl (.ints _) ?_)); done)); rintro r os0 ⟨rfl, rfl⟩; try simp only [List.nil_append, List.cons_append, List.set_cons_zero, List.set_cons_succ, List.length_cons, List.length_nil, Nat.reduceAdd, AV.sh, AV.sh1, AV.sh0, AO.sh, List.map_cons, List.map_nil, Nat.zero_add, Nat.add_zero, setAll]))
  refine AWp.loop (ι := Nat) (fun n => ⟨44, [(5, .own 1), (12, .intss L), (13, .i L.length), (14, .i n)]⟩) (fun n => [.dead, .sls 38 2 ((vfP p L).take (n + 1))]) (fun n => n ≤ L.length) (fun n => L.length - n) 0 (by omega) (by rw [e0]; exact ⟨lee rfl (by (repeat (first | exact le_nil | refine le_eq rfl rfl ?_))), by (repeat (first | exact lo_nil | refine lo_dead ?_ | refine lo_eq rfl ?_)), rfl, rfl⟩) ?_
  rintro n n0
  have hk : ((vfP p L).take (n + 1)).length = n + 1 := by rw [List.length_take]; omega
  by_cases hlt : n < L.length
  · have hrow : (gets L (n : Nat)).length = 2 := hL _ (gets_mem (by omega) (by omega))
    have eg : gets L (n : Nat) = L.getD n [] := by simp [gets, List.getD_eq_getElem?_getD]
    have el : ((((n + 1 : Nat) : Int)) - 1).toNat = n := by omega
    have hq := hb ((vfP p L).getD n []) (by rw [List.getD_eq_getElem?_getD, List.getElem?_eq_getElem (by omega)]; exact List.getElem_mem _)
    have hq2 := hb ((vfP p L).getD (n + 1) []) (by rw [List.getD_eq_getElem?_getD, List.getElem?_eq_getElem (by omega)]; exact List.getElem_mem _)
    have hs := vfP_succ L p n hlt
    have hql : ((vfP p L).getD n []).length = 2 := vfP_row hp _ (by rw [List.getD_eq_getElem?_getD, List.getElem?_eq_getElem (by omega)]; exact List.getElem_mem _)
    have et : ((vfP p L).take (n + 1)).getD n [] = (vfP p L).getD n [] := take_gets _ _ _ (by omega)
    rw [hs] at hq2
    simp only [geti_p0, geti_p1] at hq2
    rw [← eg] at hq2 hs
    have e2 := vfP_take L p n hlt
    rw [← eg] at e2
    have hrl : (((vfP p L).take (n + 1)).getD ((((n + 1 : Nat) : Int)) - 1).toNat []).length = 2 := by rw [el, et]; exact hql
    have hkl : (((vfP p L).take (n + 1)).length : Int) = ((n + 1 : Nat) : Int) := by rw [hk]
    rw [← et] at hq hq2 e2 hql
    generalize eV : (vfP p L).take (n + 1) = V at *
    have el' : ((V.length : Int) - 1).toNat = n := by omega
    have hq' := hq
    have hql' := hql
    rw [← el'] at hq' hql'
    have hq3 : (0 ≤ geti (V.getD n []) ((Int.toNat 0 : Nat) : Int) + geti (gets L (n : Nat)) 0 ∧ geti (V.getD n []) ((Int.toNat 0 : Nat) : Int) + geti (gets L (n : Nat)) 0 ≤ 100000) ∧ (0 ≤ geti (V.getD n []) ((Int.toNat 1 : Nat) : Int) - geti (gets L (n : Nat)) 1 ∧ geti (V.getD n []) ((Int.toNat 1 : Nat) : Int) - geti (gets L (n : Nat)) 1 ≤ 100000) := hq2
    repeat' (first | (apply AOps.nil; try simp only [List.nil_append, List.cons_append, List.set_cons_zero, List.set_cons_succ, List.length_cons, List.length_nil, Nat.reduceAdd, AV.sh, AV.sh1, AV.sh0, AO.sh, List.map_cons, List.map_nil, Nat.zero_add, Nat.add_zero, setAll]) | (apply w_move; exact rfl; exact rfl) | (apply w_assign; exact rfl; exact rfl) | apply AWp.seq | apply AWp.region | ((apply AWp.condP; exact rfl) <;> intro h) | apply AWp.block | apply AWp.ret | apply AWp.exit | apply AWp.skip | (apply w_len; exact rfl; exact rfl; first | exact .ints _ | exact .intss _ | exact .sli rfl | exact .sls rfl | exact .slr rfl | exact .orow rfl | exact .nil) | omega | ((first | apply w_lss | apply w_sub | apply w_idx | apply w_ld); iterate 3 exact rfl) | ((first | apply w_idxs | apply w_lds); iterate 3 exact rfl) | (apply w_idxo; exact rfl; exact rfl; (exact .sls rfl); exact rfl) | (apply w_ldls; iterate 4 exact rfl) | (apply inI_of <;> omega))
    refine AWp.regionG [] (by kernel_rfl) (envC := ⟨44, [(5, .own 1), (12, .intss L), (13, .i L.length), (14, .i n)]⟩) (osC := [.dead, .sls 38 2 (V ++ [[geti (V.getD n []) 0 + geti (gets L (n : Nat)) 0, geti (V.getD n []) 1 - geti (gets L (n : Nat)) 1]])]) rfl rfl ?_ ?_
    · rw [el']
      repeat' (first | (apply AOps.nil; try simp only [List.nil_append, List.cons_append, List.set_cons_zero, List.set_cons_succ, List.length_cons, List.length_nil, Nat.reduceAdd, AV.sh, AV.sh1, AV.sh0, AO.sh, List.map_cons, List.map_nil, Nat.zero_add, Nat.add_zero, setAll]) | (apply w_move; exact rfl; exact rfl) | (apply w_assign; exact rfl; exact rfl) | ((first | apply w_bsr1 | apply w_add | apply w_sub | apply w_idx | apply w_ld | apply w_bs2); iterate 3 exact rfl) | (apply w_appr; exact rfl; exact rfl; exact rfl; exact rfl; exact rfl; exact rfl; exact rfl; rotate_left 1; simp only [Env.mp, List.map_cons, List.map_nil, List.set_cons_zero, List.set_cons_succ, AV.kill, AV.kill1, AO.kill, AV.rin, AV.rin1, AV.noRow, AV.noRow1, AO.via, reduceIte, Nat.reduceEqDiff, Nat.reduceLT, Env.up, Nat.zero_ne_one, Nat.one_ne_zero, Nat.reduceAdd, List.cons_append, List.nil_append]; rotate_left 1) | apply AllOfG.nil | (apply AllOfG.consS; exact rfl; exact rfl) | (apply AAnyG.takeW; exact rfl; exact rfl; kernel_rfl; kernel_rfl) | (apply AAnyG.takeL; exact rfl; exact rfl; kernel_rfl) | (apply AAnyG.all; exact rfl) | (apply AAnyG.done; exact rfl) | omega | ((first | apply w_idxr | apply w_ldr); iterate 4 exact rfl) | (apply w_ldrp; iterate 4 exact rfl) | (apply inI_of <;> omega))
      all_goals (apply Or.inl; refine ⟨lee rfl ?_, ?_, rfl, rfl⟩; (focus ((repeat (first | exact le_nil | refine le_eq rfl rfl ?_)); done)); (focus ((repeat (first | exact lo_nil | refine lo_dead ?_ | refine lo_eq rfl ?_)); done)))
    repeat' (first | (apply AOps.nil; try simp only [List.nil_append, List.cons_append, List.set_cons_zero, List.set_cons_succ, List.length_cons, List.length_nil, Nat.reduceAdd, AV.sh, AV.sh1, AV.sh0, AO.sh, List.map_cons, List.map_nil, Nat.zero_add, Nat.add_zero, setAll]) | (apply w_move; exact rfl; exact rfl) | apply AWp.region | ((apply w_add); iterate 3 exact rfl) | (apply inI_of <;> omega))
    exact ⟨n + 1, by omega, by omega, ⟨lee rfl (by (repeat (first | exact le_nil | refine le_eq rfl rfl ?_))), by (repeat (first | exact lo_nil | refine lo_dead ?_ | refine lo_eq (congrArg (AO.sls _ _) (e2)) ?_)), rfl, rfl⟩⟩
  · repeat' (first | (apply AOps.nil; try simp only [List.nil_append, List.cons_append, List.set_cons_zero, List.set_cons_succ, List.length_cons, List.length_nil, Nat.reduceAdd, AV.sh, AV.sh1, AV.sh0, AO.sh, List.map_cons, List.map_nil, Nat.zero_add, Nat.add_zero, setAll]) | (apply w_move; exact rfl; exact rfl) | (apply w_assign; exact rfl; exact rfl) | apply AWp.seq | apply AWp.region | ((apply AWp.condP; exact rfl) <;> intro h) | apply AWp.block | apply AWp.ret | apply AWp.exit | apply AWp.skip | omega | ((apply w_lss); iterate 3 exact rfl))
    have e : n = L.length := by omega
    subst e
    have ea : (vfP p L).take (L.length + 1) = vfP p L := List.take_of_length_le (by omega)
    rw [ea]
    exact ⟨_, _, _, .v1 Try.results53 rfl, .sls rfl, rfl, rfl⟩
end Go.Proofs.Ythlfdhooiekgjaa
/-
  Limited points; the reference's polygon of edges. Condition: numbers of moderate size.
-/
namespace Go.Proofs.Ythlfdhooiekgjaa
open Go Go.RowKit
attribute [local irreducible] AWp AOps ResIs Ret1 QOp LOp COp AFnV AFn Imms LeE LeO
set_option maxHeartbeats 1000000
set_option linter.unusedSimpArgs false
set_option linter.unusedVariables false

/-- Both coordinates from 0 to 60. -/
def R60 (r : List Int) : Prop := (0 ≤ geti r 0 ∧ geti r 0 ≤ 60) ∧ (0 ≤ geti r 1 ∧ geti r 1 ≤ 60)
theorem limOk_c (V : List (List Int)) (hn : V.length ≤ 1000000) (hr : ∀ r ∈ V, r.length = 2 ∧ R60 r) :
    AFnC Try.prog 52 [.own 0] [.sls 38 2 V] (fun r os => r = .tup [.own 0, .i 0] ∧ os = [.sls 38 2 V]) := by
  have hrn : ∀ n : Nat, n < V.length → (V.getD (n : Int).toNat []).length = 2 ∧ R60 (V.getD (n : Int).toNat []) := fun n hn => hr _ (by
    rw [Int.toNat_natCast, List.getD_eq_getElem?_getD, List.getElem?_eq_getElem hn]; exact List.getElem_mem _)
  (refine AFnC.start Try.func52 Try.ntmps52 rfl (by kernel_rfl) fun K => ?_; simp only [Env.start, enumF, List.map_cons, List.map_nil, AV.sh, List.length_cons, List.length_nil, Nat.reduceAdd, Nat.reduceSub, List.cons_append, List.nil_append])
  repeat' (first | (apply AOps.nil; try simp only [List.nil_append, List.cons_append, List.set_cons_zero, List.set_cons_succ, List.length_cons, List.length_nil, Nat.reduceAdd, AV.sh, AV.sh1, AV.sh0, AO.sh, List.map_cons, List.map_nil, Nat.zero_add, Nat.add_zero, setAll]) | (apply w_move; exact rfl; exact rfl) | (apply w_assign; exact rfl; exact rfl) | apply AWp.seq | apply AWp.region | apply AWp.block | (apply w_len; exact rfl; exact rfl; first | exact .ints _ | exact .intss _ | exact .sli rfl | exact .sls rfl | exact .slr rfl | exact .orow rfl | exact .nil))
  refine AWp.loop (ι := Nat) (fun n => ⟨17, [(0, .own 1), (6, .own 1), (7, .i V.length), (8, .i n)]⟩) (fun n => [.keep 1 K, .sls 38 2 V]) (fun n => n ≤ V.length) (fun n => V.length - n) 0 (by omega) ⟨lee rfl (by (repeat (first | exact le_nil | refine le_eq rfl rfl ?_))), by (repeat (first | exact lo_nil | refine lo_eq rfl ?_)), rfl, rfl⟩ ?_
  rintro n n0
  by_cases hlt : n < V.length
  · obtain ⟨h1, h2⟩ := hrn n hlt
    have hw := within2_c (V.getD (n : Int).toNat []) h1
    unfold R60 at h2
    rw [decide_eq_true h2] at hw
    repeat' (first | (apply AOps.nil; try simp only [List.nil_append, List.cons_append, List.set_cons_zero, List.set_cons_succ, List.length_cons, List.length_nil, Nat.reduceAdd, AV.sh, AV.sh1, AV.sh0, AO.sh, List.map_cons, List.map_nil, Nat.zero_add, Nat.add_zero, setAll]) | (apply w_move; exact rfl; exact rfl) | (apply w_assign; exact rfl; exact rfl) | apply AWp.seq | apply AWp.region | ((apply AWp.condP; exact rfl) <;> intro h) | (apply AWp.condF; exact rfl) | apply AWp.block | apply AWp.ret | apply AWp.exit | apply AWp.skip | (apply w_call (hw); exact rfl; exact rfl; focus ((repeat (first | exact im_nil | refine im_cons rfl (.val _) ?_ | refine im_cons rfl (.orow rfl) ?_)); done)) | omega | ((first | apply w_lss | apply w_add | apply w_idx | apply w_ld); iterate 3 exact rfl) | ((apply w_not); iterate 2 exact rfl) | (apply w_idxo; exact rfl; exact rfl; (exact .sls rfl); exact rfl) | (apply w_ldls; iterate 4 exact rfl) | (apply inI_of <;> omega))
    exact ⟨n + 1, hlt, by omega, ⟨lee rfl (by (repeat (first | exact le_nil | refine le_eq rfl rfl ?_))), by (repeat (first | exact lo_nil | refine lo_eq rfl ?_)), rfl, rfl⟩⟩
  · repeat' (first | (apply AOps.nil; try simp only [List.nil_append, List.cons_append, List.set_cons_zero, List.set_cons_succ, List.length_cons, List.length_nil, Nat.reduceAdd, AV.sh, AV.sh1, AV.sh0, AO.sh, List.map_cons, List.map_nil, Nat.zero_add, Nat.add_zero, setAll]) | (apply w_move; exact rfl; exact rfl) | (apply w_assign; exact rfl; exact rfl) | apply AWp.seq | apply AWp.region | ((apply AWp.condP; exact rfl) <;> intro h) | apply AWp.block | apply AWp.ret | apply AWp.exit | apply AWp.skip | omega | ((apply w_lss); iterate 3 exact rfl))
    refine ⟨⟨17, [(2, .own 1), (3, .i 0)]⟩, [.sls 38 2 V], .tup [.own 0, .i 0], .or (.inl ⟨lee rfl (by (repeat (first | exact le_nil | refine le_eq rfl rfl ?_))), by (repeat (first | exact lo_nil | refine lo_eq rfl ?_)), rfl, rfl⟩), .a2 Try.results52 rfl rfl, by simp [AV.fl, AV.fl1, AV.fl0], ⟨rfl, rfl⟩, by simp [AO.plain]⟩
theorem limBad_c (V : List (List Int)) (hn : V.length ≤ 1000000) (hr : ∀ r ∈ V, r.length = 2) (hb : ∃ r ∈ V, ¬ R60 r) :
    AFnC Try.prog 52 [.own 0] [.sls 38 2 V] (fun r os => r = .tup [.val (.slice none 0 0), .i 3] ∧ os = []) := by
  have hrn : ∀ n : Nat, n < V.length → (V.getD (n : Int).toNat []).length = 2 := fun n hn => hr _ (by
    rw [Int.toNat_natCast, List.getD_eq_getElem?_getD, List.getElem?_eq_getElem hn]; exact List.getElem_mem _)
  obtain ⟨i, hi, hbad⟩ : ∃ i : Nat, i < V.length ∧ ¬ R60 (V.getD i []) := by
    obtain ⟨r, hr, hz⟩ := hb
    obtain ⟨i, hi⟩ := List.getElem?_of_mem hr
    exact ⟨i, (List.getElem?_eq_some_iff.1 hi).1, by rw [List.getD_eq_getElem?_getD, hi]; exact hz⟩
  (refine AFnC.start Try.func52 Try.ntmps52 rfl (by kernel_rfl) fun K => ?_; simp only [Env.start, enumF, List.map_cons, List.map_nil, AV.sh, List.length_cons, List.length_nil, Nat.reduceAdd, Nat.reduceSub, List.cons_append, List.nil_append])
  repeat' (first | (apply AOps.nil; try simp only [List.nil_append, List.cons_append, List.set_cons_zero, List.set_cons_succ, List.length_cons, List.length_nil, Nat.reduceAdd, AV.sh, AV.sh1, AV.sh0, AO.sh, List.map_cons, List.map_nil, Nat.zero_add, Nat.add_zero, setAll]) | (apply w_move; exact rfl; exact rfl) | (apply w_assign; exact rfl; exact rfl) | apply AWp.seq | apply AWp.region | apply AWp.block | (apply w_len; exact rfl; exact rfl; first | exact .ints _ | exact .intss _ | exact .sli rfl | exact .sls rfl | exact .slr rfl | exact .orow rfl | exact .nil))
  refine AWp.loop (ι := Nat) (fun n => ⟨17, [(0, .own 1), (6, .own 1), (7, .i V.length), (8, .i n)]⟩) (fun n => [.keep 1 K, .sls 38 2 V]) (fun n => n ≤ i) (fun n => V.length - n) 0 (by omega) ⟨lee rfl (by (repeat (first | exact le_nil | refine le_eq rfl rfl ?_))), by (repeat (first | exact lo_nil | refine lo_eq rfl ?_)), rfl, rfl⟩ ?_
  rintro n n0
  have hlt : n < V.length := by omega
  have h1 := hrn n hlt
  have hw := within2_c (V.getD (n : Int).toNat []) h1
  by_cases h2 : R60 (V.getD (n : Int).toNat [])
  · have hne : n ≠ i := fun e => by subst e; exact hbad h2
    unfold R60 at h2
    rw [decide_eq_true h2] at hw
    repeat' (first | (apply AOps.nil; try simp only [List.nil_append, List.cons_append, List.set_cons_zero, List.set_cons_succ, List.length_cons, List.length_nil, Nat.reduceAdd, AV.sh, AV.sh1, AV.sh0, AO.sh, List.map_cons, List.map_nil, Nat.zero_add, Nat.add_zero, setAll]) | (apply w_move; exact rfl; exact rfl) | (apply w_assign; exact rfl; exact rfl) | apply AWp.seq | apply AWp.region | ((apply AWp.condP; exact rfl) <;> intro h) | (apply AWp.condF; exact rfl) | apply AWp.block | apply AWp.ret | apply AWp.exit | apply AWp.skip | (apply w_call (hw); exact rfl; exact rfl; focus ((repeat (first | exact im_nil | refine im_cons rfl (.val _) ?_ | refine im_cons rfl (.orow rfl) ?_)); done)) | omega | ((first | apply w_lss | apply w_add | apply w_idx | apply w_ld); iterate 3 exact rfl) | ((apply w_not); iterate 2 exact rfl) | (apply w_idxo; exact rfl; exact rfl; (exact .sls rfl); exact rfl) | (apply w_ldls; iterate 4 exact rfl) | (apply inI_of <;> omega))
    exact ⟨n + 1, by omega, by omega, ⟨lee rfl (by (repeat (first | exact le_nil | refine le_eq rfl rfl ?_))), by (repeat (first | exact lo_nil | refine lo_eq rfl ?_)), rfl, rfl⟩⟩
  · unfold R60 at h2
    rw [decide_eq_false h2] at hw
    repeat' (first | (apply AOps.nil; try simp only [List.nil_append, List.cons_append, List.set_cons_zero, List.set_cons_succ, List.length_cons, List.length_nil, Nat.reduceAdd, AV.sh, AV.sh1, AV.sh0, AO.sh, List.map_cons, List.map_nil, Nat.zero_add, Nat.add_zero, setAll]) | (apply w_move; exact rfl; exact rfl) | (apply w_assign; exact rfl; exact rfl) | apply AWp.seq | apply AWp.region | ((apply AWp.condP; exact rfl) <;> intro h) | (apply AWp.condT; exact rfl) | apply AWp.block | apply AWp.ret | apply AWp.exit | apply AWp.skip | (apply w_call (hw); exact rfl; exact rfl; focus ((repeat (first | exact im_nil | refine im_cons rfl (.val _) ?_ | refine im_cons rfl (.orow rfl) ?_)); done)) | omega | ((first | apply w_lss | apply w_idx | apply w_ld); iterate 3 exact rfl) | ((apply w_not); iterate 2 exact rfl) | (apply w_idxo; exact rfl; exact rfl; (exact .sls rfl); exact rfl) | (apply w_ldls; iterate 4 exact rfl))
    refine ⟨⟨17, [(2, .val (.slice none 0 0)), (3, .i 3)]⟩, [], .tup [.val (.slice none 0 0), .i 3], .or ?_, .a2 Try.results52 rfl rfl, by simp [AV.fl, AV.fl1, AV.fl0], ⟨rfl, rfl⟩, by simp⟩
    (apply Or.inl; refine ⟨lee rfl ?_, ?_, rfl, rfl⟩; (focus ((repeat (first | exact le_nil | refine le_eq rfl rfl ?_)); done)); (focus ((repeat (first | exact lo_nil | refine lo_eq rfl ?_)); done)))

/-! ### The polygon of edges -/
def EdgOk (xss : List (List Int)) : Prop := (1 ≤ xss.length ∧ xss.length ≤ 60) ∧ ∀ e ∈ xss, E60 e
open Classical in
noncomputable def seE (xss : List (List Int)) : Int := if EdgOk xss then (if 60 < sS E0 xss ∨ 60 < sS E1 xss then 3 else 0) else 2
noncomputable def seL (xss : List (List Int)) : List (List Int) := if seE xss = 0 then verts (vfP [0, sS E1 xss] (srtE xss xss.length)) else []
theorem seE_ok {xss : List (List Int)} (h : EdgOk xss) (h2 : ¬ (60 < sS E0 xss ∨ 60 < sS E1 xss)) : seE xss = 0 ∧ seL xss = verts (vfP [0, sS E1 xss] (srtE xss xss.length)) := by
  have e : seE xss = 0 := by rw [seE, if_pos h, if_neg h2]
  exact ⟨e, by rw [seL, if_pos e]⟩

end Go.Proofs.Ythlfdhooiekgjaa
/-
  The program's polygon of edges. No condition.
-/
namespace Go.Proofs.Ythlfdhooiekgjaa
open Go Go.RowKit
attribute [local irreducible] AWp AOps ResIs Ret1 QOp LOp COp AFnV AFn Imms LeE LeO
set_option maxHeartbeats 1000000
set_option linter.unusedSimpArgs false
set_option linter.unusedVariables false

end Go.Proofs.Ythlfdhooiekgjaa
/-
  Sums of hulls, walked on both sides. Condition: both lists are supports.
-/
namespace Go.Proofs.Ythlfdhooiekgjaa
open Go Go.RowKit
attribute [local irreducible] AWp AOps ResIs Ret1 QOp LOp COp AFnV AFn Imms LeE LeO
set_option maxHeartbeats 1000000
set_option linter.unusedSimpArgs false
set_option linter.unusedVariables false

theorem corS' {xss : List (List Int)} (h : isSup xss = true) : AFn Try.prog 37 [.intss xss] (IsIntss 38 2 (verts xss)) := corners_c xss (sup_rows h).1.1 (by have := (sup_rows h).1.2; omega) (sup_pb h)
theorem verS' {xss : List (List Int)} (h : isSup xss = true) : AFn Try.prog 39 [.intss xss] (IsIntss 38 2 (verts xss)) := l15Vertices_c xss (sup_rows h).1.1 (by have := (sup_rows h).1.2; omega) (sup_pb h)
theorem hasS {xss : List (List Int)} (h : isSup xss = true) : HasV xss (verts xss) := by
  obtain ⟨V, hV⟩ := verts_ex (sup_rows h).1.1 (fun r hr => ((sup_rows h).2 r hr).2.2.1)
  rw [verts_eq (fun r hr => ((sup_rows h).2 r hr).1) hV]
  exact hV

/-- The vertices of the sum. -/
noncomputable def vsum (a b : List (List Int)) : List (List Int) := verts (sumsI (verts a) (verts b) (verts a).length)
theorem sum_rows {V W : List (List Int)} (hV : VOk 60 V) (hW : VOk 60 W) {n : Nat} (hn : n ≤ V.length) : ∀ q ∈ sumsI V W n, q.length = 2 ∧ (0 ≤ geti q 0 ∧ geti q 0 ≤ 120) ∧ (0 ≤ geti q 1 ∧ geti q 1 ≤ 120) := by
  intro q hq
  unfold sumsI at hq
  obtain ⟨v, hv, hq⟩ := List.mem_flatMap.1 hq
  obtain ⟨w, hw, rfl⟩ := List.mem_map.1 hq
  have h1 := hV.row v (List.mem_of_mem_take hv)
  have h2 := hW.row w hw
  refine ⟨rfl, ?_, ?_⟩
  · show 0 ≤ geti v 0 + geti w 0 ∧ geti v 0 + geti w 0 ≤ 120; omega
  · show 0 ≤ geti v 1 + geti w 1 ∧ geti v 1 + geti w 1 ≤ 120; omega
theorem sum_pos {V W : List (List Int)} (hV : VOk 60 V) (hW : VOk 60 W) : 0 < (sumsI V W V.length).length ∧ (sumsI V W V.length).length ≤ 3721 := by
  rw [sumsI_len V W _ (Nat.le_refl _)]
  have h1 := hV.pos
  have h2 := hW.pos
  have h3 := hV.len
  have h4 := hW.len
  refine ⟨Nat.mul_pos h1 h2, ?_⟩
  have : V.length * W.length ≤ 61 * 61 := Nat.mul_le_mul (by omega) (by omega)
  omega
theorem vsum_ok {a b : List (List Int)} (ha : isSup a = true) (hb : isSup b = true) : VOk 120 (vsum a b) :=
  verts_ok (sum_pos (sup_ok ha) (sup_ok hb)).1 (sum_rows (sup_ok ha) (sup_ok hb) (Nat.le_refl _))

set_option maxHeartbeats 8000000 in
theorem l15Sum_c (a b : List (List Int)) (ha : isSup a = true) (hb : isSup b = true) : AFn Try.prog 62 [.intss a, .intss b] (IsIntss 38 2 (vsum a b)) := by
  have hv1 := verS' ha
  have hv2 := verS' hb
  have oV := sup_ok ha
  have oW := sup_ok hb
  unfold vsum
  generalize verts a = V at *
  generalize verts b = W at *
  have lV := oV.len
  have lW := oW.len
  have hsp := sum_pos oV oW
  (refine AFn.start Try.func62 Try.ntmps62 rfl (by kernel_rfl) fun hk => ?_; simp only [Env.start, enumF, List.length_cons, List.length_nil, Nat.reduceAdd, Nat.reduceSub, List.cons_append, List.nil_append])
  repeat' (first | (apply AOps.nil; try simp only [List.nil_append, List.cons_append, List.set_cons_zero, List.set_cons_succ, List.length_cons, List.length_nil, Nat.reduceAdd, AV.sh, AV.sh1, AV.sh0, AO.sh, List.map_cons, List.map_nil, Nat.zero_add, Nat.add_zero, setAll]) | (apply w_move; exact rfl; exact rfl) | (apply w_assign; exact rfl; exact rfl) | apply AWp.seq | apply AWp.region | apply AWp.block | ((apply w_bsr0); iterate 1 exact rfl) | (apply w_callm (hv1); (focus ((repeat (first | exact im_nil | refine im_cons rfl (.intss _) ?_)); done)); rintro r os0 ⟨rfl, rfl⟩; try simp only [List.nil_append, List.cons_append, List.set_cons_zero, List.set_cons_succ, List.length_cons, List.length_nil, Nat.reduceAdd, AV.sh, AV.sh1, AV.sh0, AO.sh, List.map_cons, List.map_nil, Nat.zero_add, Nat.add_zero, setAll]) | (apply w_callm (hv2); (focus ((repeat (first | exact im_nil | refine im_cons rfl (.intss _) ?_)); done)); rintro r os0 ⟨rfl, rfl⟩; try simp only [List.nil_append, List.cons_append, List.set_cons_zero, List.set_cons_succ, List.length_cons, List.length_nil, Nat.reduceAdd, AV.sh, AV.sh1, AV.sh0, AO.sh, List.map_cons, List.map_nil, Nat.zero_add, Nat.add_zero, setAll]))
  refine AWp.loop (ι := Nat) (fun i => ⟨59, [(5, .own 0), (6, .own 1), (7, .own 2), (8, .i i)]⟩) (fun i => [.sls 38 2 V, .sls 38 2 W, .sls 38 2 (sumsI V W i)]) (fun i => i ≤ V.length) (fun i => V.length - i) 0 (by omega) ⟨lee rfl (by (repeat (first | exact le_nil | refine le_eq rfl rfl ?_))), by (repeat (first | exact lo_nil | refine lo_eq rfl ?_)), rfl, rfl⟩ ?_
  rintro i i0
  by_cases hi : i < V.length
  · have hpre := sumsI_len V W i i0
    have hs := sumsI_succ V W i hi
    have hil : i * W.length ≤ 61 * 61 := Nat.mul_le_mul (by omega) (by omega)
    obtain ⟨p1, p2, p3⟩ : (V.getD (i : Int).toNat []).length = 2 ∧ (0 ≤ geti (V.getD (i : Int).toNat []) 0 ∧ geti (V.getD (i : Int).toNat []) 0 ≤ 60) ∧ (0 ≤ geti (V.getD (i : Int).toNat []) 1 ∧ geti (V.getD (i : Int).toNat []) 1 ≤ 60) :=
      oV.row _ (by rw [Int.toNat_natCast, List.getD_eq_getElem?_getD, List.getElem?_eq_getElem hi]; exact List.getElem_mem _)
    repeat' (first | (apply AOps.nil; try simp only [List.nil_append, List.cons_append, List.set_cons_zero, List.set_cons_succ, List.length_cons, List.length_nil, Nat.reduceAdd, AV.sh, AV.sh1, AV.sh0, AO.sh, List.map_cons, List.map_nil, Nat.zero_add, Nat.add_zero, setAll]) | (apply w_move; exact rfl; exact rfl) | (apply w_assign; exact rfl; exact rfl) | apply AWp.seq | apply AWp.region | ((apply AWp.condP; exact rfl) <;> intro h) | apply AWp.block | apply AWp.exit | apply AWp.skip | (apply w_len; exact rfl; exact rfl; first | exact .ints _ | exact .intss _ | exact .sli rfl | exact .sls rfl | exact .slr rfl | exact .orow rfl | exact .nil) | omega | ((apply w_lss); iterate 3 exact rfl))
    generalize eS : sumsI V W i = S at *
    refine AWp.loop (ι := Nat) (fun k => ⟨59, [(5, .own 0), (6, .own 1), (7, .own 2), (8, .i i), (9, .i k)]⟩) (fun k => [.sls 38 2 V, .sls 38 2 W, .sls 38 2 (S ++ (W.take k).map (addR (V.getD (i : Int).toNat [])))]) (fun k => k ≤ W.length) (fun k => W.length - k) 0 (by omega) (by simp only [List.take_zero, List.map_nil, List.append_nil]; exact ⟨lee rfl (by (repeat (first | exact le_nil | refine le_eq rfl rfl ?_))), by (repeat (first | exact lo_nil | refine lo_eq rfl ?_)), rfl, rfl⟩) ?_
    rintro k k0
    by_cases hk : k < W.length
    · obtain ⟨q1, q2, q3⟩ : (W.getD (k : Int).toNat []).length = 2 ∧ (0 ≤ geti (W.getD (k : Int).toNat []) 0 ∧ geti (W.getD (k : Int).toNat []) 0 ≤ 60) ∧ (0 ≤ geti (W.getD (k : Int).toNat []) 1 ∧ geti (W.getD (k : Int).toNat []) 1 ≤ 60) :=
        oW.row _ (by rw [Int.toNat_natCast, List.getD_eq_getElem?_getD, List.getElem?_eq_getElem hk]; exact List.getElem_mem _)
      have ek : (W.take (k + 1)).map (addR (V.getD (i : Int).toNat [])) = (W.take k).map (addR (V.getD (i : Int).toNat [])) ++ [addR (V.getD (i : Int).toNat []) (W.getD (k : Int).toNat [])] := by
        rw [List.take_add_one, List.getElem?_eq_getElem hk, Int.toNat_natCast, Int.toNat_natCast, List.getD_eq_getElem?_getD (l := W), List.getElem?_eq_getElem hk, List.map_append]; rfl
      have hbs : (S ++ (W.take k).map (addR (V.getD (i : Int).toNat []))).length ≤ 4000 := by rw [List.length_append, List.length_map, List.length_take]; omega
      rw [List.length_append] at hbs
      have er : S ++ (W.take (k + 1)).map (addR (V.getD (i : Int).toNat [])) = (S ++ (W.take k).map (addR (V.getD (i : Int).toNat []))) ++ [[geti (V.getD (i : Int).toNat []) ((Int.toNat 0 : Nat) : Int) + geti (W.getD (k : Int).toNat []) ((Int.toNat 0 : Nat) : Int), geti (V.getD (i : Int).toNat []) ((Int.toNat 1 : Nat) : Int) + geti (W.getD (k : Int).toNat []) ((Int.toNat 1 : Nat) : Int)]] := by
        rw [ek, ← List.append_assoc]; rfl
      have p2' : 0 ≤ geti (V.getD (i : Int).toNat []) ((Int.toNat 0 : Nat) : Int) ∧ geti (V.getD (i : Int).toNat []) ((Int.toNat 0 : Nat) : Int) ≤ 60 := p2
      have p3' : 0 ≤ geti (V.getD (i : Int).toNat []) ((Int.toNat 1 : Nat) : Int) ∧ geti (V.getD (i : Int).toNat []) ((Int.toNat 1 : Nat) : Int) ≤ 60 := p3
      have q2' : 0 ≤ geti (W.getD (k : Int).toNat []) ((Int.toNat 0 : Nat) : Int) ∧ geti (W.getD (k : Int).toNat []) ((Int.toNat 0 : Nat) : Int) ≤ 60 := q2
      have q3' : 0 ≤ geti (W.getD (k : Int).toNat []) ((Int.toNat 1 : Nat) : Int) ∧ geti (W.getD (k : Int).toNat []) ((Int.toNat 1 : Nat) : Int) ≤ 60 := q3
      have hbb : (S ++ (W.take k).map (addR (V.getD (i : Int).toNat []))).length ≤ 4000 := by rw [List.length_append]; exact hbs
      clear hbs ek
      generalize S ++ (W.take k).map (addR (V.getD (i : Int).toNat [])) = Z at *
      repeat' (first | (apply AOps.nil; try simp only [List.nil_append, List.cons_append, List.set_cons_zero, List.set_cons_succ, List.length_cons, List.length_nil, Nat.reduceAdd, AV.sh, AV.sh1, AV.sh0, AO.sh, List.map_cons, List.map_nil, Nat.zero_add, Nat.add_zero, setAll]) | (apply w_move; exact rfl; exact rfl) | apply AWp.seq | apply AWp.region | ((apply AWp.condP; exact rfl) <;> intro h) | apply AWp.block | apply AWp.exit | apply AWp.skip | (apply w_len; exact rfl; exact rfl; first | exact .ints _ | exact .intss _ | exact .sli rfl | exact .sls rfl | exact .slr rfl | exact .orow rfl | exact .nil) | omega | ((apply w_lss); iterate 3 exact rfl))
      refine AWp.regionG [] (by kernel_rfl) (envC := ⟨59, [(5, .own 0), (6, .own 1), (7, .own 2), (8, .i i), (9, .i k)]⟩) (osC := [.sls 38 2 V, .sls 38 2 W, .sls 38 2 (Z ++ [[geti (V.getD (i : Int).toNat []) ((Int.toNat 0 : Nat) : Int) + geti (W.getD (k : Int).toNat []) ((Int.toNat 0 : Nat) : Int), geti (V.getD (i : Int).toNat []) ((Int.toNat 1 : Nat) : Int) + geti (W.getD (k : Int).toNat []) ((Int.toNat 1 : Nat) : Int)]])]) rfl rfl ?_ ?_
      · repeat' (first | (apply AOps.nil; try simp only [List.nil_append, List.cons_append, List.set_cons_zero, List.set_cons_succ, List.length_cons, List.length_nil, Nat.reduceAdd, AV.sh, AV.sh1, AV.sh0, AO.sh, List.map_cons, List.map_nil, Nat.zero_add, Nat.add_zero, setAll]) | (apply w_move; exact rfl; exact rfl) | (apply w_assign; exact rfl; exact rfl) | ((first | apply w_bsr1 | apply w_add | apply w_idx | apply w_ld | apply w_bs2); iterate 3 exact rfl) | (apply w_appr; exact rfl; exact rfl; exact rfl; exact rfl; exact rfl; exact rfl; exact rfl; rotate_left 1; simp only [Env.mp, List.map_cons, List.map_nil, List.set_cons_zero, List.set_cons_succ, AV.kill, AV.kill1, AO.kill, AV.rin, AV.rin1, AV.noRow, AV.noRow1, AO.via, reduceIte, Nat.reduceEqDiff, Nat.reduceLT, Env.up, Nat.zero_ne_one, Nat.one_ne_zero, Nat.reduceAdd, List.cons_append, List.nil_append]; rotate_left 1) | apply AllOfG.nil | (apply AllOfG.consS; exact rfl; exact rfl) | (apply AAnyG.takeW; exact rfl; exact rfl; kernel_rfl; kernel_rfl) | (apply AAnyG.takeL; exact rfl; exact rfl; kernel_rfl) | (apply AAnyG.all; exact rfl) | (apply AAnyG.done; exact rfl) | omega | (apply w_idxo; exact rfl; exact rfl; (exact .sls rfl); exact rfl) | ((first | apply w_idxr | apply w_ldr); iterate 4 exact rfl) | (apply w_ldls; iterate 4 exact rfl) | (apply w_ldrp; iterate 4 exact rfl) | (apply inI_of <;> omega))
        all_goals (apply Or.inl; refine ⟨lee rfl ?_, ?_, rfl, rfl⟩; (focus ((repeat (first | exact le_nil | refine le_eq rfl rfl ?_)); done)); (focus ((repeat (first | exact lo_nil | refine lo_eq rfl ?_)); done)))
      repeat' (first | (apply AOps.nil; try simp only [List.nil_append, List.cons_append, List.set_cons_zero, List.set_cons_succ, List.length_cons, List.length_nil, Nat.reduceAdd, AV.sh, AV.sh1, AV.sh0, AO.sh, List.map_cons, List.map_nil, Nat.zero_add, Nat.add_zero, setAll]) | (apply w_move; exact rfl; exact rfl) | (apply w_assign; exact rfl; exact rfl) | apply AWp.region | ((apply w_add); iterate 3 exact rfl) | (apply inI_of <;> omega))
      exact ⟨k + 1, by omega, by omega, ⟨lee rfl (by (repeat (first | exact le_nil | refine le_eq rfl rfl ?_))), by (repeat (first | exact lo_nil | refine lo_eq rfl ?_ | refine lo_eq (congrArg (AO.sls _ _) (er.symm)) ?_)), rfl, rfl⟩⟩
    · have ek : k = W.length := by omega
      subst ek
      have e2 : S ++ (W.take W.length).map (addR (V.getD (i : Int).toNat [])) = sumsI V W (i + 1) := by rw [hs, List.take_length]; rfl
      rw [e2]
      repeat' (first | (apply AOps.nil; try simp only [List.nil_append, List.cons_append, List.set_cons_zero, List.set_cons_succ, List.length_cons, List.length_nil, Nat.reduceAdd, AV.sh, AV.sh1, AV.sh0, AO.sh, List.map_cons, List.map_nil, Nat.zero_add, Nat.add_zero, setAll]) | (apply w_move; exact rfl; exact rfl) | (apply w_assign; exact rfl; exact rfl) | apply AWp.seq | apply AWp.region | ((apply AWp.condP; exact rfl) <;> intro h) | apply AWp.block | apply AWp.exit | apply AWp.skip | (apply w_len; exact rfl; exact rfl; first | exact .ints _ | exact .intss _ | exact .sli rfl | exact .sls rfl | exact .slr rfl | exact .orow rfl | exact .nil) | omega | ((first | apply w_lss | apply w_add); iterate 3 exact rfl) | (apply inI_of <;> omega))
      exact ⟨i + 1, by omega, by omega, ⟨lee rfl (by (repeat (first | exact le_nil | refine le_eq rfl rfl ?_))), by (repeat (first | exact lo_nil | refine lo_eq rfl ?_)), rfl, rfl⟩⟩
  · have ei : i = V.length := by omega
    subst ei
    have hver := l15Vertices_c (sumsI V W V.length) hsp.1 (by omega) (fun r hr => by have := sum_rows oV oW (Nat.le_refl _) r hr; unfold PB; omega)
    repeat' (first | (apply AOps.nil; try simp only [List.nil_append, List.cons_append, List.set_cons_zero, List.set_cons_succ, List.length_cons, List.length_nil, Nat.reduceAdd, AV.sh, AV.sh1, AV.sh0, AO.sh, List.map_cons, List.map_nil, Nat.zero_add, Nat.add_zero, setAll]) | (apply w_move; exact rfl; exact rfl) | (apply w_assign; exact rfl; exact rfl) | apply AWp.seq | apply AWp.region | ((apply AWp.condP; exact rfl) <;> intro h) | apply AWp.block | apply AWp.ret | apply AWp.exit | apply AWp.skip | (apply w_len; exact rfl; exact rfl; first | exact .ints _ | exact .intss _ | exact .sli rfl | exact .sls rfl | exact .slr rfl | exact .orow rfl | exact .nil) | (apply w_callm (hver); (focus ((repeat (first | exact im_nil | refine im_cons rfl (.sls rfl) ?_)); done)); rintro r os0 ⟨rfl, rfl⟩; try simp only [List.nil_append, List.cons_append, List.set_cons_zero, List.set_cons_succ, List.length_cons, List.length_nil, Nat.reduceAdd, AV.sh, AV.sh1, AV.sh0, AO.sh, List.map_cons, List.map_nil, Nat.zero_add, Nat.add_zero, setAll]) | omega | ((apply w_lss); iterate 3 exact rfl))
    exact ⟨_, _, _, .v1 Try.results62 rfl, .sls rfl, rfl, rfl⟩
end Go.Proofs.Ythlfdhooiekgjaa
