/-
  A nil check, a shift by one, a conversion back from uint. No condition.
-/
import Derived.Test.YtpllbdjobmgikaaAmMore22
namespace Go.Proofs.Ytpllbdjobmgikaa
open Go Go.RowKit
set_option linter.unusedSimpArgs false
section
variable {P : Program} {wl : Bool} {env : Env} {os : List AO} {d : Option Tmp} {ty : TypeId} {pos : String} {af : Array Edge} {g : Option (Nat × Bool)}
theorem q_nilck {x : Operand} {h i : Nat} (hx : AV.ev env x = .optr h i) : QOp P wl ⟨d, .nilCheck x, ty, pos, af, g⟩ env os (.optr h i) :=
  .of_run fun _ w gs tm hr => by
    have hh := hr.ev x
    rw [hx] at hh
    generalize hv : Act.eval ⟨tm, []⟩ x = v at hh
    cases hh with
    | optr hg => exact ⟨_, .optr hg, fun w' _ => by simp [execOp, hv]⟩
theorem q_convu {src dst : TypeId} [hs : TKind P src .i64] [hd : TKind P dst .u64] {x : Operand} {a : Int} (ha : AV.ev env x = .i a) (h0 : 0 ≤ a) (h1 : a ≤ 9223372036854775807) :
    QOp P wl ⟨d, .convert src dst x, ty, pos, af, g⟩ env os (.val (.int .u64 a)) :=
  .of_run fun _ _ _ tm hr => ⟨_, .val _, fun w' _ => by
    have e : IntKind.u64.wrap a = a := by simp [IntKind.wrap, IntKind.bits, IntKind.signed]; omega
    simp [execOp, hr.evv ha, convert, run_underlying hs.und, run_underlying hd.und, Conv.intToInt, e]⟩
theorem q_convi {src dst : TypeId} [hs : TKind P src .u64] [hd : TKind P dst .i64] {x : Operand} {a : Int} (ha : AV.ev env x = .val (.int .u64 a)) (h0 : 0 ≤ a) (h1 : a ≤ 9223372036854775807) :
    QOp P wl ⟨d, .convert src dst x, ty, pos, af, g⟩ env os (.i a) :=
  .of_run fun _ _ _ tm hr => ⟨_, .val _, fun w' _ => by
    have e : IntKind.i64.wrap a = a := by rw [IntKind.wrap_i64]; omega
    simp [execOp, hr.evv ha, convert, run_underlying hs.und, run_underlying hd.und, Conv.intToInt, e]⟩
theorem q_shr1 {xt yt : TypeId} {x y : Operand} {a : Int} (ha : AV.ev env x = .val (.int .u64 a)) (hb : AV.ev env y = .val (.int .u64 1)) (h0 : 0 ≤ a) (h1 : a ≤ 9223372036854775807) :
    QOp P wl ⟨d, .binOp .shr xt x y yt, ty, pos, af, g⟩ env os (.val (.int .u64 (a / 2))) :=
  q_bin ha hb (by simp [go_sem]) fun w => by
    have e : IntKind.u64.wrap (a / 2) = a / 2 := by simp [IntKind.wrap, IntKind.bits, IntKind.signed]; omega
    simp [go_sem, e]
end
section
variable {P : Program} {env : Env} {os : List AO} {d : Tmp} {ty : TypeId} {pos : String} {af : Array Edge} {g : Option (Nat × Bool)} {l rest : List Oper} {K : APost} {q : Md}
theorem w_nilck {x : Operand} {h i : Nat} (hw : wantedA l env ⟨some d, .nilCheck x, ty, pos, af, g⟩ = some true) (hx : evo env x = some (.optr h i)) (h' : AOps P q l rest K (env.up d (.optr h i)) os) : AOps P q l (⟨some d, .nilCheck x, ty, pos, af, g⟩ :: rest) K env os := AOps.qo hw (q_nilck (ev_of hx)) h'
theorem w_convu {src dst : TypeId} [TKind P src .i64] [TKind P dst .u64] {x : Operand} {a : Int} (hw : wantedA l env ⟨some d, .convert src dst x, ty, pos, af, g⟩ = some true) (ha : evo env x = some (.i a)) (h0 : 0 ≤ a) (h1 : a ≤ 9223372036854775807) (h' : AOps P q l rest K (env.up d (.val (.int .u64 a))) os) :
    AOps P q l (⟨some d, .convert src dst x, ty, pos, af, g⟩ :: rest) K env os := AOps.qo hw (q_convu (ev_of ha) h0 h1) h'
theorem w_convi {src dst : TypeId} [TKind P src .u64] [TKind P dst .i64] {x : Operand} {a : Int} (hw : wantedA l env ⟨some d, .convert src dst x, ty, pos, af, g⟩ = some true) (ha : evo env x = some (.val (.int .u64 a))) (h0 : 0 ≤ a) (h1 : a ≤ 9223372036854775807) (h' : AOps P q l rest K (env.up d (.i a)) os) :
    AOps P q l (⟨some d, .convert src dst x, ty, pos, af, g⟩ :: rest) K env os := AOps.qo hw (q_convi (ev_of ha) h0 h1) h'
theorem w_shr1 {xt yt : TypeId} {x y : Operand} {a : Int} (hw : wantedA l env ⟨some d, .binOp .shr xt x y yt, ty, pos, af, g⟩ = some true) (ha : evo env x = some (.val (.int .u64 a))) (hb : evo env y = some (.val (.int .u64 1))) (h0 : 0 ≤ a) (h1 : a ≤ 9223372036854775807) (h' : AOps P q l rest K (env.up d (.val (.int .u64 (a / 2)))) os) :
    AOps P q l (⟨some d, .binOp .shr xt x y yt, ty, pos, af, g⟩ :: rest) K env os := AOps.qo hw (q_shr1 (ev_of ha) (ev_of hb) h0 h1) h'
end
end Go.Proofs.Ytpllbdjobmgikaa
