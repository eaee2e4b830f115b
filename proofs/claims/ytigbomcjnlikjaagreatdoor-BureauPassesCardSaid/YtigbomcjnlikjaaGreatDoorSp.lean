import Derived.Test.YtigbomcjnlikjaaGreatDoorProg
noncomputable abbrev Go.tP:=Go.Proofs.Tryz.prog
