import Derived.Test.YtgmbdadkbominaaGreatDoorFrame
import Derived.Test.YtgmbdadkbominaaGreatDoorChY
set_option linter.unusedVariables false
set_option linter.unusedSimpArgs false
section
namespace Go.Proofs.YtgmbdadkbominaaGreatDoor
open Go Go.ChangeShapes Go.WideShapes Go.RowKit Go.Av Go.Bv
set_option maxRecDepth 100000
theorem pl_int {n:Nat} {xs:List AV} (h:qK Tryz.prog (n + 1) 3 xs):∃ q:Int, xs = [.v (.int .i64 q)]:=by
 obtain ⟨q, h, _⟩:=zhu Tryz.underlying3 h
 exact ⟨q, h⟩
theorem zth (s:ByteArray):AV.v (.string s) = eS s.data.toList:=by unfold eS; rfl
theorem zrO {n:Nat} {xs:List AV} (h:qK Tryz.prog (n + 1) 9 xs):∃ s:List UInt8, xs = [eS s]:=by
 obtain ⟨s, h, _⟩:=zdq Tryz.underlying9 h
 exact ⟨s.data.toList, by rw [h, zth]⟩
theorem zik {n:Nat} {xs:List AV} (h:qK Tryz.prog (n + 2) 24 xs):∃ l:List (Int), xs = [Wr.eInts l]:=by
 obtain ⟨rows, rfl, _, hr⟩:=yC Tryz.underlying24 h
 obtain ⟨l, rfl⟩:=zaY (e:=fun q:Int=>[AV.v (.int .i64 q)]) (fun r hrm=>pl_int (hr r hrm))
 exact ⟨l, rfl⟩
theorem zpX {n:Nat} {xs:List AV} (h:qK Tryz.prog (n + 2) 81 xs):∃ l:List (List UInt8), xs = [Wr.eStrs l]:=by
 obtain ⟨rows, rfl, _, hr⟩:=yC Tryz.underlying81 h
 obtain ⟨l, rfl⟩:=zaY (e:=fun q:List UInt8=>[eS q]) (fun r hrm=>zrO (hr r hrm))
 exact ⟨l, rfl⟩
theorem zrC {n:Nat} {xs:List AV} (h:qK Tryz.prog (n + 3) 74 xs):∃ l:List (List (List UInt8)), xs = [Wr.eCps l]:=by
 obtain ⟨rows, rfl, _, hr⟩:=yC Tryz.underlying74 h
 obtain ⟨l, rfl⟩:=zaY (e:=fun q:List (List UInt8)=>[Wr.eStrs q]) (fun r hrm=>zpX (hr r hrm))
 exact ⟨l, rfl⟩
theorem zsG {n:Nat} {xs:List AV} (h:qK Tryz.prog (n + 2) 46 xs):∃ s:Int × Int, xs = Wr.eSpn s:=by
 have h:=yH Tryz.underlying46 h
 obtain ⟨a, _, rfl, h1, b, _, rfl, h2, rfl⟩:=h
 obtain ⟨x, rfl⟩:=pl_int h1
 obtain ⟨y, rfl⟩:=pl_int h2
 exact ⟨(x, y), rfl⟩
theorem zqA {n:Nat} {xs:List AV} (h:qK Tryz.prog (n + 3) 23 xs):∃ l:List (Int × Int), xs = [.sl (l.map Wr.eSpn)]:=by
 obtain ⟨rows, rfl, _, hr⟩:=yC Tryz.underlying23 h
 obtain ⟨l, rfl⟩:=zaY (e:=Wr.eSpn) (fun r hrm=>zsG (hr r hrm))
 exact ⟨l, rfl⟩
theorem zsI {n:Nat} {xs:List AV} (h:qK Tryz.prog (n + 4) 26 xs):∃ c:Wr.Cod, xs = Wr.eCod c:=by
 have h:=yH Tryz.underlying26 h
 obtain ⟨a, _, rfl, h1, b, _, rfl, h2, d, _, rfl, h3, rfl⟩:=h
 obtain ⟨x, rfl⟩:=zqA h1
 obtain ⟨y, rfl⟩:=zik h2
 obtain ⟨z, rfl⟩:=pl_int h3
 exact ⟨⟨x, y, z⟩, rfl⟩
theorem zrM {n:Nat} {xs:List AV} (h:qK Tryz.prog (n + 3) 63 xs):∃ f:Ct.Fld, xs = Ct.eFld f:=by
 have h:=yH Tryz.underlying63 h
 obtain ⟨a, _, rfl, h1, b, _, rfl, h2, rfl⟩:=h
 obtain ⟨w, rfl⟩:=pl_int h1
 obtain ⟨l, rfl⟩:=zik h2
 exact ⟨⟨w, l⟩, rfl⟩
theorem ztJ {n:Nat} {xs:List AV} (h:qK Tryz.prog (n + 4) 76 xs):∃ t:Tp.Tw, xs = Tp.eTw t:=by
 have h:=yH Tryz.underlying76 h
 obtain ⟨a, _, rfl, h1, b, _, rfl, h2, d, _, rfl, h3, rfl⟩:=h
 obtain ⟨x, rfl⟩:=pl_int h1
 obtain ⟨y, rfl⟩:=zik h2
 obtain ⟨z, rfl⟩:=zrC h3
 exact ⟨⟨x, y, z⟩, rfl⟩
theorem zsf {x:AV} (h:xU Tryz.prog 8 26 x):∃ m:Wr.Cod, x = .agg (Wr.eCod m):=by
 unfold xU at h
 rw [Tryz.underlying26] at h
 obtain ⟨xs, rfl, h⟩:=h
 obtain ⟨m, rfl⟩:=zsI (n:=5) (by unfold qK; rw [Tryz.underlying26]; exact h)
 exact ⟨m, rfl⟩
theorem zrL {x:AV} (h:xU Tryz.prog 8 63 x):∃ m:Ct.Fld, x = .agg (Ct.eFld m):=by
 unfold xU at h
 rw [Tryz.underlying63] at h
 obtain ⟨xs, rfl, h⟩:=h
 obtain ⟨m, rfl⟩:=zrM (n:=6) (by unfold qK; rw [Tryz.underlying63]; exact h)
 exact ⟨m, rfl⟩
theorem zrZ {x:AV} (h:xU Tryz.prog 8 64 x):∃ l:List Tp.Tw, x = .sl (l.map Tp.eTw):=by
 unfold xU at h
 rw [Tryz.underlying64] at h
 obtain ⟨rows, h0, _, hr⟩:=yC Tryz.underlying64 h
 obtain ⟨l, rfl⟩:=zaY (e:=Tp.eTw) (fun r hrm=>ztJ (n:=4) (hr r hrm))
 exact ⟨l, by simpa using h0⟩
theorem zkJ {x:AV} (h:xU Tryz.prog 8 3 x):∃ q:Int, x = Ct.ei q:=by
 unfold xU at h
 rw [Tryz.underlying3] at h
 obtain ⟨q, h⟩:=pl_int h
 exact ⟨q, by simpa [Ct.ei] using h⟩
end Go.Proofs.YtgmbdadkbominaaGreatDoor
end
