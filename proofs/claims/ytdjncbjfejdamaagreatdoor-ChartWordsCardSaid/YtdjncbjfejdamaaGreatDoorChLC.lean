import Derived.Test.YtdjncbjfejdamaaGreatDoorPlatH
import Derived.Test.YtdjncbjfejdamaaGreatDoorPlatQ
import Derived.Shelf.SlSortCmp.QuietGrown
import Derived.Test.YtdjncbjfejdamaaGreatDoorPlatM
import Derived.Shelf.SlSortCmp.WholeK
import Derived.Shelf.SlSortCmp.NoneTotal
import Derived.Test.YtdjncbjfejdamaaGreatDoorChE
import Derived.Test.YtdjncbjfejdamaaGreatDoorChLB
import Derived.ChangeKeysEq
import Derived.Laws.StructEq
import Derived.Test.YtdjncbjfejdamaaGreatDoorChM
import Derived.Test.YtdjncbjfejdamaaGreatDoorPlatF
set_option linter.unusedVariables false
set_option linter.unusedSimpArgs false
section
namespace Go.Av
open Go.Proofs
set_option maxRecDepth 100000
def zHG (c:Cr):Value:=.agg #[.int .i64 (c.1:Int), .int .i64 (c.2:Int)]
theorem zKd:Tryz.prog.underlying 50 = some (.struct (Tryz.prog.fieldsOf 50)):=by kernel_rfl
theorem zQC:Tryz.prog.stoodInHeld 50 = false:=by kernel_rfl
def zQL:Field:=⟨"Low", 3, 0, false, "", "", 0⟩
def zNM:Field:=⟨"High", 3, 1, false, "", "", 8⟩
theorem zKM:(Tryz.prog.fieldsOf 50).toList = [zQL, zNM]:=by kernel_rfl
theorem pk3:Tryz.prog.plainKey 3 = true:=by kernel_rfl
theorem pt3 {xs:Array Value} {off:Nat} {v:Value} (w:World) (hx:xs[off]? = some v):(part 3 xs off).run Tryz.prog w = .ok v w:=run_part_plain w pk3 hx
theorem zMb (a b:Cr) (w:World):(Op.equalIn 10000 50 (zHG a) (zHG b)).run Tryz.prog w = .ok (decide (b = a)) w:=by
 unfold zHG
 rw [run_equalIn_struct w 9999 50 _ _ zKd zQC, zKM]
 have h1:∀ p q:Int, (Op.equalIn 9999 3 (.int .i64 p) (.int .i64 q)).run Tryz.prog w = .ok (p == q) w:=fun p q=>run_equalIn_int w 9998 3 .i64 .i64 p q Tryz.underlying3
 have p0:∀ x y:Value, (part 3 #[x, y] 0).run Tryz.prog w = .ok x w:=fun x y=>pt3 w rfl
 have p1:∀ x y:Value, (part 3 #[x, y] 1).run Tryz.prog w = .ok y w:=fun x y=>pt3 w rfl
 have key:decide (b = a) = (((a.1:Int) == (b.1:Int)) && ((a.2:Int) == (b.2:Int))):=by
  rw [Bool.eq_iff_iff]
  obtain ⟨a1, a2⟩:=a
  obtain ⟨b1, b2⟩:=b
  simp only[zLa, beq_iff_eq, decide_eq_true_eq, zLp]
  omega
 rw [key]
 simp only[Op.eqFields, zQL, zNM, ne_eq, String.reduceEq, not_false_eq_true, if_true, Sem.run_bind, p0, h1, Result.andThen_ok]
 cases (a.1:Int) == (b.1:Int) with
 | false=>rfl
 | true=>
  simp only[Bool.not_true, Bool.false_eq_true, if_false, Sem.run_bind, p1, h1, Result.andThen_ok, Bool.true_and]
  cases (a.2:Int) == (b.2:Int) <;> rfl
theorem eqC (a b:Cr) (w:World):(Op.equal 50 (zHG a) (zHG b)).run Tryz.prog w = .ok (decide (b = a)) w:=zMb a b w
section
variable {G:Glob} {fr:Nat -> EV} {mem:List PO} {o:Oper}
end
end Go.Av
end
section
namespace Go.Av
open Go.Proofs
set_option maxRecDepth 100000
set_option maxHeartbeats 1000000
variable {G:Glob}
def hiF (f:Fld) (lvl:Int) (p:Nat):Bool:=decide (lvl <= f.vals.getD p 0)
theorem f96 (f:Fld) (lvl:Int) (p:Nat) (hp:p < f.vals.length) (hl:f.vals.length <= 1000):ACall Tryz.prog G 96 [.agg (zHF f), ei (p:Int), ei lvl] (.v (.bool (hiF f lvl p))):=by
 refine zS Tryz.func96 rfl (by kernel_rfl) rfl ?_
 refine zuy (zh ?_)
 refine zg rfl rfl (jf rfl (zY rfl)) ?_
 refine zg rfl rfl (zn rfl rfl) ?_
 refine zo (zf (zuy (zh ?_)))
 refine zg rfl rfl (zu rfl rfl zHx) ?_
 refine zg rfl rfl (zA rfl rfl rfl zHR) ?_
 refine zg rfl rfl (zi rfl rfl) ?_
 refine zg rfl rfl (zVZ rfl rfl rfl zIz (by omega) (wu hp) jC) ?_
 refine zg rfl rfl (zA rfl rfl rfl ty3) ?_
 refine zg rfl rfl (zi rfl rfl) ?_
 refine zg rfl rfl (zbe rfl rfl rfl) ?_
 refine zg rfl rfl (zn rfl rfl) ?_
 refine zo (zf (zP ?_))
 exact ⟨.inr rfl, AVle.of (by unfold hiF; rw [getD_at hp])⟩
end Go.Av
end
