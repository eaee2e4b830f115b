import Derived.Test.YtgmbdadkbominaaGreatDoorPlatF
import Derived.Laws.Shifts
import Derived.Laws.Entries
import Derived.Laws.Bits128
set_option linter.unusedVariables false
set_option linter.unusedSimpArgs false
section
namespace Go.Av
open Go.RowKit
section
variable {P:Program} {G:Glob} {fr:Nat -> EV} {mem:List PO} {o:Oper}
theorem ztL {T U:TypeId} {x y:Operand} {p q:Int} (ho:o.op = .binOp .shr T x y U) (hx:evO fr x = I p) (hy:evO fr y = I q) (hq:0 <= q) (hq2:q <= 63):OpY P G fr mem o (I (p / 2 ^ q.toNat)):=
 yN ho hx hy (fun w=>by
  have hm:min q.toNat IntKind.i64.bits = q.toNat:=by
   have:IntKind.i64.bits = 64:=rfl
   omega
  have h1:binOp .shr T (.int .i64 p) (.int .i64 q) = Op.shift .shr .i64 p .i64 q:=rfl
  rw [h1, shift_shr_any _ _ _ _ hq, hm]; rfl) rfl
theorem zpj (n:Int):bits .and .i64 n 1 = n % 2:=by
 have h1:(BitVec.ofInt 64 1).toNat = 2 ^ 1 - 1:=by decide
 have key:(BitVec.ofInt 64 n &&& BitVec.ofInt 64 1).toNat = (n % ((2 ^ 64:Nat):Int)).toNat % 2 ^ 1:=by
  rw [BitVec.toNat_and, BitVec.toNat_ofInt, h1, Nat.and_two_pow_sub_one_eq_mod]
 show IntKind.i64.wrap ((BitVec.ofInt 64 n &&& BitVec.ofInt 64 1).toNat:Nat) = n % 2
 rw [key, IntKind.wrap_i64]
 omega
theorem zsD {T U:TypeId} {x y:Operand} {p:Int} (ho:o.op = .binOp .and T x y U) (hx:evO fr x = I p) (hy:evO fr y = I 1):OpY P G fr mem o (I (p % 2)):=
 yN ho hx hy (fun w=>by
  have h1:binOp .and T (.int .i64 p) (.int .i64 1) = Op.intBits .and .i64 p 1:=by simp [binOp]
  rw [h1, intBits_and, zpj]; rfl) rfl
end
end Go.Av
end
