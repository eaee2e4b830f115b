import Derived.Test.YtgmbdadkbominaaGreatDoorFrame
import Derived.Test.YtgmbdadkbominaaGreatDoorChQ
set_option linter.unusedVariables false
set_option linter.unusedSimpArgs false
section
namespace Go.Proofs.YtgmbdadkbominaaGreatDoor
open Go Go.ChangeShapes Go.WideShapes Go.RowKit Go.Av Go.Bv
set_option maxRecDepth 100000
theorem pl_int {n:Nat} {xs:List AV} (h:qK Tryz.prog (n + 1) 3 xs):∃ q:Int, xs = [.v (.int .i64 q)]:=by
 obtain ⟨q, h, _⟩:=zhu Tryz.underlying3 h
 exact ⟨q, h⟩
theorem zik {n:Nat} {xs:List AV} (h:qK Tryz.prog (n + 2) 24 xs):∃ l:List (Int), xs = [Ct.eInts l]:=by
 obtain ⟨rows, rfl, _, hr⟩:=yC Tryz.underlying24 h
 obtain ⟨l, rfl⟩:=zaY (e:=fun q:Int=>[AV.v (.int .i64 q)]) (fun r hrm=>pl_int (hr r hrm))
 exact ⟨l, rfl⟩
theorem zrM {n:Nat} {xs:List AV} (h:qK Tryz.prog (n + 3) 63 xs):∃ f:Ct.Fld, xs = Ct.eFld f:=by
 have h:=yH Tryz.underlying63 h
 obtain ⟨a, _, rfl, h1, b, _, rfl, h2, rfl⟩:=h
 obtain ⟨w, rfl⟩:=pl_int h1
 obtain ⟨l, rfl⟩:=zik h2
 exact ⟨⟨w, l⟩, rfl⟩
theorem zsG {n:Nat} {xs:List AV} (h:qK Tryz.prog (n + 2) 46 xs):∃ a b:Int, xs = [.v (.int .i64 a), .v (.int .i64 b)]:=by
 have h:=yH Tryz.underlying46 h
 obtain ⟨a, _, rfl, h1, b, _, rfl, h2, rfl⟩:=h
 obtain ⟨x, rfl⟩:=pl_int h1
 obtain ⟨y, rfl⟩:=pl_int h2
 exact ⟨x, y, rfl⟩
theorem zyI {n:Nat} {xs:List AV} (h:qK Tryz.prog (n + 3) 86 xs):∃ s:Ct.Stn, xs = Ct.eStn s:=by
 have h:=yH Tryz.underlying86 h
 obtain ⟨a, _, rfl, h1, b, _, rfl, h2, rfl⟩:=h
 obtain ⟨p, rfl⟩:=pl_int h1
 obtain ⟨x, y, rfl⟩:=zsG h2
 exact ⟨⟨p, x, y⟩, rfl⟩
theorem zzo {n:Nat} {xs:List AV} (h:qK Tryz.prog (n + 5) 69 xs):∃ m:Ct.Mp, xs = Ct.eMp m:=by
 have h:=yH Tryz.underlying69 h
 obtain ⟨a, _, rfl, h1, b, _, rfl, h2, d, _, rfl, h3, e, _, rfl, h4, rfl⟩:=h
 obtain ⟨x, rfl⟩:=pl_int h1
 obtain ⟨y, rfl⟩:=pl_int h2
 obtain ⟨z, rfl⟩:=pl_int h3
 obtain ⟨rows, rfl, _, hr⟩:=yC Tryz.underlying67 h4
 obtain ⟨l, rfl⟩:=zaY (e:=Ct.eStn) (fun r hrm=>zyI (hr r hrm))
 exact ⟨⟨x, y, z, l⟩, rfl⟩
theorem zzq {n:Nat} {xs:List AV} (h:qK Tryz.prog (n + 6) 103 xs):∃ t:Tp.Tc, xs = Tp.eTc t:=by
 have h:=yH Tryz.underlying103 h
 obtain ⟨a, _, rfl, h1, b, _, rfl, h2, d, _, rfl, h3, e, _, rfl, h4, rfl⟩:=h
 obtain ⟨x, rfl⟩:=pl_int h1
 obtain ⟨m, rfl⟩:=zzo h2
 obtain ⟨f, rfl⟩:=zrM h3
 obtain ⟨p, rfl⟩:=pl_int h4
 exact ⟨⟨x, m, f, p⟩, rfl⟩
theorem zyO {x:AV} (h:xU Tryz.prog 8 96 x):∃ l:List Tp.Tc, x = .sl (l.map Tp.eTc):=by
 unfold xU at h
 rw [Tryz.underlying96] at h
 obtain ⟨rows, h0, _, hr⟩:=yC Tryz.underlying96 h
 obtain ⟨l, rfl⟩:=zaY (e:=Tp.eTc) (fun r hrm=>zzq (n:=2) (hr r hrm))
 exact ⟨l, by simpa using h0⟩
theorem zkJ {x:AV} (h:xU Tryz.prog 8 3 x):∃ q:Int, x = Ct.ei q:=by
 unfold xU at h
 rw [Tryz.underlying3] at h
 obtain ⟨q, h⟩:=pl_int h
 exact ⟨q, by simpa [Ct.ei] using h⟩
end Go.Proofs.YtgmbdadkbominaaGreatDoor
end
