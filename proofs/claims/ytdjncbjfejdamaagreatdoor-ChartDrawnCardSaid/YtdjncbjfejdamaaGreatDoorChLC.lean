import Derived.Test.YtdjncbjfejdamaaGreatDoorPlatN
import Derived.Test.YtdjncbjfejdamaaGreatDoorPlatU
import Derived.Test.YtdjncbjfejdamaaGreatDoorChE
import Derived.Test.YtdjncbjfejdamaaGreatDoorChLB
import Derived.ChangeKeysEq
import Derived.Laws.StructEq
import Derived.Test.YtdjncbjfejdamaaGreatDoorChM
import Derived.Test.YtdjncbjfejdamaaGreatDoorPlatR
set_option linter.unusedVariables false
set_option linter.unusedSimpArgs false
section
namespace Go.Av
open Go.Proofs
set_option maxRecDepth 100000
def eCr (c:Cr):List AV:=[.v (.int .i64 (c.1:Int)), .v (.int .i64 (c.2:Int))]
def zHA (l:List Cr):AV:=.sl (l.map eCr)
def rCr (c:Cr):List EV:=[.pub (.v (.int .i64 (c.1:Int))), .pub (.v (.int .i64 (c.2:Int)))]
def zHG (c:Cr):Value:=.agg #[.int .i64 (c.1:Int), .int .i64 (c.2:Int)]
theorem zIg (l:List Cr):l.map rCr = (l.map eCr).map (·.map .pub):=by simp [rCr, eCr]
theorem zHv {l:List Cr}:∀ q ∈ l.map rCr, q.length = 2:=fun q h=>by obtain ⟨c, _, rfl⟩:=List.mem_map.1 h; rfl
theorem zH4 {l:List Cr}:∀ q ∈ l.map eCr, q.length = 2:=fun q h=>by obtain ⟨c, _, rfl⟩:=List.mem_map.1 h; rfl
theorem zIU {l:List Cr} {k:Nat} (h:k < l.length):(l.map eCr)[k]? = some (eCr l[k]):=by simp [h]
theorem zJD {l:List Cr} {k:Nat} (h:k < l.length):(l.map rCr)[k]? = some (rCr l[k]):=by simp [h]
theorem zKd:Tryz.prog.underlying 50 = some (.struct (Tryz.prog.fieldsOf 50)):=by kernel_rfl
theorem zQC:Tryz.prog.stoodInHeld 50 = false:=by kernel_rfl
def zQL:Field:=⟨"Low", 3, 0, false, "", "", 0⟩
def zNM:Field:=⟨"High", 3, 1, false, "", "", 8⟩
theorem zKM:(Tryz.prog.fieldsOf 50).toList = [zQL, zNM]:=by kernel_rfl
theorem pk3:Tryz.prog.plainKey 3 = true:=by kernel_rfl
theorem pt3 {xs:Array Value} {off:Nat} {v:Value} (w:World) (hx:xs[off]? = some v):(part 3 xs off).run Tryz.prog w = .ok v w:=run_part_plain w pk3 hx
theorem zMb (a b:Cr) (w:World):(Op.equalIn 10000 50 (zHG a) (zHG b)).run Tryz.prog w = .ok (decide (b = a)) w:=by
 unfold zHG
 rw [run_equalIn_struct w 9999 50 _ _ zKd zQC, zKM]
 have h1:∀ p q:Int, (Op.equalIn 9999 3 (.int .i64 p) (.int .i64 q)).run Tryz.prog w = .ok (p == q) w:=fun p q=>run_equalIn_int w 9998 3 .i64 .i64 p q Tryz.underlying3
 have p0:∀ x y:Value, (part 3 #[x, y] 0).run Tryz.prog w = .ok x w:=fun x y=>pt3 w rfl
 have p1:∀ x y:Value, (part 3 #[x, y] 1).run Tryz.prog w = .ok y w:=fun x y=>pt3 w rfl
 have key:decide (b = a) = (((a.1:Int) == (b.1:Int)) && ((a.2:Int) == (b.2:Int))):=by
  rw [Bool.eq_iff_iff]
  obtain ⟨a1, a2⟩:=a
  obtain ⟨b1, b2⟩:=b
  simp only[zLa, beq_iff_eq, decide_eq_true_eq, zLp]
  omega
 rw [key]
 simp only[Op.eqFields, zQL, zNM, ne_eq, String.reduceEq, not_false_eq_true, if_true, Sem.run_bind, p0, h1, Result.andThen_ok]
 cases (a.1:Int) == (b.1:Int) with
 | false=>rfl
 | true=>
  simp only[Bool.not_true, Bool.false_eq_true, if_false, Sem.run_bind, p1, h1, Result.andThen_ok, Bool.true_and]
  cases (a.2:Int) == (b.2:Int) <;> rfl
theorem eqC (a b:Cr) (w:World):(Op.equal 50 (zHG a) (zHG b)).run Tryz.prog w = .ok (decide (b = a)) w:=zMb a b w
theorem ckI (b:Bool) (d:Nat) (x:Int) (w:World):(Instr.checkKey b (d + 1) 3 (.int .i64 x)).run Tryz.prog w = .ok () w:=by
 simp only[Instr.checkKey, Sem.run_bind, run_underlying Tryz.underlying3, Result.andThen_ok, Sem.run_pure]
theorem ckC (b:Bool) (c:Cr) (w:World):(Instr.checkKey b 10000 50 (zHG c)).run Tryz.prog w = .ok () w:=by
 have p0:∀ (x y:Value) (w:World), (part 3 #[x, y] 0).run Tryz.prog w = .ok x w:=fun x y w=>pt3 w rfl
 have p1:∀ (x y:Value) (w:World), (part 3 #[x, y] 1).run Tryz.prog w = .ok y w:=fun x y w=>pt3 w rfl
 unfold zHG
 rw [show (10000:Nat) = 9998 + 2 from rfl, Instr.checkKey]
 simp only[Sem.run_bind, run_underlying zKd, Result.andThen_ok]
 rw [← Array.forIn_toList, zKM]
 simp only[List.forIn_cons, List.forIn_nil, zQL, zNM, ne_eq, String.reduceEq, not_false_eq_true, if_true, Sem.run_bind, p0, p1, ckI, Result.andThen_ok, Sem.run_pure]
theorem zSG:KeyT Tryz.prog 50 zHG:=zn9 zKd (fun _ _=>rfl) eqC ckC (fun a=>by simp [zHG, Instr.sameBits])
section
variable {G:Glob} {fr:Nat -> EV} {mem:List PO} {o:Oper}
end
end Go.Av
end
section
namespace Go.Av
open Go.Proofs
set_option maxRecDepth 100000
set_option maxHeartbeats 1000000
variable {G:Glob}
theorem zJn:fldIs Tryz.prog 50 0 0 = true:=by kernel_rfl
theorem zJ2:fldIs Tryz.prog 50 1 1 = true:=by kernel_rfl
theorem zt9:zau Tryz.prog 48 2 = true:=by kernel_rfl
theorem zHs:tyIs Tryz.prog 50 true 2 = true:=by kernel_rfl
def hiF (f:Fld) (lvl:Int) (p:Nat):Bool:=decide (lvl <= f.vals.getD p 0)
theorem zI5 (a b:Nat):(((a:Int)) == (b:Int)) = (a == b):=by rw [Bool.eq_iff_iff, beq_iff_eq, beq_iff_eq]; omega
end Go.Av
end
