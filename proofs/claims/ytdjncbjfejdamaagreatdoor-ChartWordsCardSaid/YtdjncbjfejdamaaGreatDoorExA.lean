import Derived.Test.YtdjncbjfejdamaaGreatDoorRunD
import Derived.Test.YtdjncbjfejdamaaGreatDoorLib
import Derived.Test.YtdjncbjfejdamaaGreatDoorChE
set_option linter.unusedVariables false
set_option linter.unusedSimpArgs false
section
namespace Go.Av
open Go.Proofs Go.Bv
noncomputable section
set_option maxRecDepth 100000
def drC:FuncId -> Bool:=fun f=>Nat.testBit 61011324905942632329051835728859218133633423946175299452928 f
def zRK:FuncId -> List VV -> Mem -> Option VV:=zOz zQx (zrX 140 167 0)
theorem zHZ:ziq Tryz.prog zRK:=zOh zPh (zpF zsN zsc)
def mapM:Mp:=⟨4, 3, 100, [⟨0, 76000, 76010⟩, ⟨5, 75850, 75870⟩, ⟨11, 76030, 76050⟩]⟩
def zPp:Mp:=⟨3, 3, 100, [⟨4, 75800, 75810⟩, ⟨0, 75950, 75960⟩, ⟨2, 75950, 75960⟩, ⟨6, 75950, 75960⟩, ⟨8, 75950, 75960⟩]⟩
def zNP:Fld:=⟨4, [76005, 75935, 75935, 76000, 75935, 75860, 75900, 76000, 75935, 75900, 76000, 76040]⟩
def zQE:Fld:=⟨3, [75960, 75900, 75960, 75900, 75800, 75900, 75960, 75900, 75960]⟩
def zRy (a b:Int):List AV:=[ei a, ei b]
def eLs (l:List (List (Int × Int))):AV:=.sl (l.map fun r=>[.sl (r.map fun p=>zRy p.1 p.2)])
def lnA:List (List (Int × Int)):=[[(9, 8), (5, 4), (5, 1), (6, 2), (6, 7), (6, 10), (9, 10)]]
def lnB:List (List (Int × Int)):=[[(5, 1), (5, 4), (5, 9), (5, 6)]]
def GT:Glob:=⟨fun w=>TabAt w 0 0 /\ ∃ m, w.cell? ⟨1, 0, none⟩ = some (.int .i64 m), fun w w' h hb=>by
 obtain ⟨⟨T, fz, hh⟩, m, hm⟩:=h
 refine ⟨⟨T, fz, by rw [hb.block 0 (Array.getElem?_eq_some_iff.1 hh).1]; exact hh⟩, m, ?_⟩
 have hlt:1 < w.heap.size:=World.block_lt_of_cell? _ _ hm
 rw [← hm]
 simp only[World.cell?]
 rw [hb.block 1 hlt]⟩
theorem gT:∀ w, GT.holds w -> TabAt w 0 0:=fun _ h=>h.1
end
end Go.Av
end
section
namespace Go.Av
open Go.Proofs Go.Bv
set_option maxRecDepth 100000
theorem d60:ACall Tryz.prog GT 60 [] (.agg (eMp mapM)):=qW zHZ gT (n:=10000) (drt:=drC) (by kernel_rfl)
theorem d61:ACall Tryz.prog GT 61 [] (.agg (eMp zPp)):=qW zHZ gT (n:=10000) (drt:=drC) (by kernel_rfl)
theorem drawM:zN6 mapM = zNP:=by kernel_rfl
theorem zQb:zH5 mapM = none:=by kernel_rfl
end Go.Av
end
section
namespace Go.Av
open Go.Proofs Go.Bv
set_option maxRecDepth 100000
def zQW:ByteArray:=⟨List.toArray [99, 104, 97, 114, 116, 32, 52, 32, 51, 10, 55, 54, 48, 48, 53, 32, 55, 53, 57, 51, 53, 32, 55, 53, 57, 51, 53, 32, 55, 54, 48, 48, 48, 10, 55, 53, 57, 51, 53, 32, 55, 53, 56, 54, 48, 32, 55, 53, 57, 48, 48, 32, 55, 54, 48, 48, 48, 10, 55, 53, 57, 51, 53, 32, 55, 53, 57, 48, 48, 32, 55, 54, 48, 48, 48, 32, 55, 54, 48, 52, 48, 10, 101, 110, 100, 32, 55, 48, 10]⟩
theorem d56:ACall Tryz.prog GT 56 [.agg (zHF zNP)] (.tup [.v (.string zQW), ei 0]):=qW zHZ gT (n:=10000) (drt:=drC) (by kernel_rfl)
theorem zRz:ACall Tryz.prog GT 30 [eLs lnA, eLs lnA] (.v (.bool true)):=qW zHZ gT (n:=10000) (drt:=drC) (by kernel_rfl)
theorem zRA:ACall Tryz.prog GT 30 [eLs lnB, eLs lnB] (.v (.bool true)):=qW zHZ gT (n:=10000) (drt:=drC) (by kernel_rfl)
theorem zRB:ACall Tryz.prog GT 24 [.agg (zHF zQE), .agg (zHF zQE)] (.v (.bool true)):=qW zHZ gT (n:=10000) (drt:=drC) (by kernel_rfl)
end Go.Av
end
