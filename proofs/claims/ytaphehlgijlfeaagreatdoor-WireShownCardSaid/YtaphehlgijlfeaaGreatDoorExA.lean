import Derived.Test.YtaphehlgijlfeaaGreatDoorRunD
import Derived.Test.YtaphehlgijlfeaaGreatDoorLib
import Derived.Test.YtaphehlgijlfeaaGreatDoorWiA
set_option linter.unusedVariables false
set_option linter.unusedSimpArgs false
section
namespace Go.Av
open Go.Proofs Go.Bv
noncomputable section
set_option maxRecDepth 100000
def drW:FuncId -> Bool:=fun f=>Nat.testBit 6756364598947625696628938996222623195841942389143105096650900635648 f
def ztb:FuncId -> List VV -> Mem -> Option VV:=zrX 161 175 2
theorem jR:ziq Tryz.prog ztb:=zpF zsN zsc
def zlW:Cod:=⟨[(73000, 78000), (0, 35999)], [0, 128, 0, 256, 0, 0, 0, 2, 8, 0], 1⟩
def cpA:List (List UInt8):=[[55, 53, 51, 49, 48], [50, 55, 48, 51, 48], [57, 50, 56, 52, 48]]
def cpB:List (List UInt8):=[[55, 53, 56, 49, 48], [50, 55, 48, 51, 48], [57, 50, 56, 52, 48]]
def cpD:List (List UInt8):=[[55, 53, 56, 49, 48], [50, 55, 48, 51, 49], [57, 50, 56, 52, 48]]
def bkB:List Ent:=[⟨[97, 98, 97, 102, 116], 75810, 27030⟩, ⟨[98, 97, 117, 108, 107], 27030, 12000⟩, ⟨[97, 98, 98, 111, 116], 75810, 27030⟩]
def zsv:Nt:=⟨4, [⟨0, 1, 5, 1⟩, ⟨1, 3, 5, 1⟩, ⟨0, 2, 4, 2⟩, ⟨2, 3, 4, 1⟩, ⟨0, 3, 20, 0⟩]⟩
def ztf:List UInt8:=[110, 111, 32, 49, 55, 32, 119, 111, 114, 100, 115, 32, 51, 10, 55, 53, 56, 49, 48, 32, 50, 55, 48, 51, 48, 32, 57, 50, 56, 52, 48, 10, 101, 110, 100, 32, 48, 53, 50, 10]
def GT:Glob:=⟨fun w=>TabAt w 2 0 /\ ∃ m, w.cell? ⟨3, 0, none⟩ = some (.int .i64 m), fun w w' h hb=>by
 obtain ⟨⟨T, fz, hh⟩, m, hm⟩:=h
 refine ⟨⟨T, fz, by rw [hb.block 2 (Array.getElem?_eq_some_iff.1 hh).1]; exact hh⟩, m, ?_⟩
 have hlt:3 < w.heap.size:=World.block_lt_of_cell? _ _ hm
 rw [← hm]
 simp only[World.cell?]
 rw [hb.block 3 hlt]⟩
theorem gT:∀ w, GT.holds w -> TabAt w 2 0:=fun _ h=>h.1
end
end Go.Av
end
section
namespace Go.Av
open Go.Proofs Go.Bv
set_option maxRecDepth 100000
theorem d79:ACall Tryz.prog GT 79 [] (.agg (qK zlW)):=qW jR gT (n:=10000) (drt:=drW) (by kernel_rfl)
theorem d80:ACall Tryz.prog GT 80 [] (jD cpA):=qW jR gT (n:=10000) (drt:=drW) (by kernel_rfl)
theorem d81:ACall Tryz.prog GT 81 [] (jD cpB):=qW jR gT (n:=10000) (drt:=drW) (by kernel_rfl)
theorem d82:ACall Tryz.prog GT 82 [] (jD cpD):=qW jR gT (n:=10000) (drt:=drW) (by kernel_rfl)
theorem d83:ACall Tryz.prog GT 83 [] (eBk bkB):=qW jR gT (n:=10000) (drt:=drW) (by kernel_rfl)
theorem d84:ACall Tryz.prog GT 84 [] (.agg (eNt zsv)):=qW jR gT (n:=10000) (drt:=drW) (by kernel_rfl)
theorem d50:ACall Tryz.prog GT 50 [.agg (ztk ⟨100, 2, 31⟩), ei 3, ei 2] (.tup [ei 197, ei 0]):=qW jR gT (n:=10000) (drt:=drW) (by kernel_rfl)
theorem d74:ACall Tryz.prog GT 74 [ei 17, jD cpB] (.tup [eS ztf, ei 0]):=qW jR gT (n:=10000) (drt:=drW) (by kernel_rfl)
end Go.Av
end
