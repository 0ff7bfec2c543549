
/-
  bits.Len, by the library's own contract laid at this dump in plain words. No condition.
-/
import Derived.Shelf.Small.Bits
import Derived.Test.YtpbfgmehdhdjdaaInts
import Derived.Test.YtpbfgmehdhdjdaaAmMore
import Derived.Test.YtpbfgmehdhdjdaaProg
namespace Go.Proofs.Ytpbfgmehdhdjdaa
open Go Go.RowKit Go.Shelf
def lays125_ren : Go.Shelf.Ren := ⟨fun | 125 => 104 | 128 => 114 | 129 => 115 | n => n, fun | 46 => 95 | 3 => 3 | 51 => 106 | 53 => 108 | 4 => 4 | 5 => 5 | 9 => 9 | n => n, fun | n => n⟩
theorem lays125 : Go.Proofs.Lays.n125 Try.prog lays125_ren := {
  mixed := by kernel_rfl
  f125 := Try.func104.trans (congrArg some (by kernel_rfl))
  f128 := Try.func114.trans (congrArg some (by kernel_rfl))
  f129 := Try.func115.trans (congrArg some (by kernel_rfl))
  t3 := Try.underlying3
  a3 := Try.isAgg3
  z3 := Try.sizeOf3
  v3 := Try.zeroValue3
  t4 := Try.underlying4
  a4 := Try.isAgg4
  z4 := Try.sizeOf4
  v4 := Try.zeroValue4
  t5 := Try.underlying5
  a5 := Try.isAgg5
  z5 := Try.sizeOf5
  v5 := Try.zeroValue5
  t9 := Try.underlying9
  a9 := Try.isAgg9
  z9 := Try.sizeOf9
  v9 := Try.zeroValue9
  t46 := Try.underlying95
  a46 := Try.isAgg95
  z46 := Try.sizeOf95
  v46 := Try.zeroValue95
  t51 := Try.underlying106
  a51 := Try.isAgg106
  z51 := Try.sizeOf106
  v51 := Try.zeroValue106
  t53 := Try.underlying108
  a53 := Try.isAgg108
  z53 := Try.sizeOf108
  v53 := Try.zeroValue108 }
theorem bits_Len (x : Int) (w : World) (h0 : 0 ≤ x) (h1 : x ≤ 18446744073709551615) :
    Calls Try.prog 104 #[.int .u64 x] w fun e w' => e = .returned (.int .i64 (Lib.bitLen x.toNat)) ∧ w' = w := Any.bits_Len lays125 x w h0 h1
theorem bitsLen_c (n : Int) (h0 : 0 ≤ n) (h1 : n ≤ 18446744073709551615) : AFnV Try.prog 104 [.val (.int .u64 n)] (.int .i64 (Lib.bitLen n.toNat)) := by
  refine ⟨⟨_, _, Try.func104, by kernel_rfl, rfl⟩, fun w vs ⟨h2, h3⟩ => ?_⟩
  have e0 := h3 0
  obtain ⟨l⟩ := vs
  match l, h2 with
  | [v], _ =>
    have e1 : RV w (fun _ => True) [] v (.val (.int .u64 n)) := by simpa using e0
    cases e1
    exact (bits_Len n w h0 h1).mono fun e w' ⟨he, hw⟩ => ⟨he, hw ▸ Below.refl _ _⟩
end Go.Proofs.Ytpbfgmehdhdjdaa
