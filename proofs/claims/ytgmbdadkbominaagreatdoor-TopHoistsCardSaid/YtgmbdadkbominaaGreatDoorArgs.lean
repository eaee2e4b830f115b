import Derived.Test.YtgmbdadkbominaaGreatDoorFrame
import Derived.Test.YtgmbdadkbominaaGreatDoorBuF
set_option linter.unusedVariables false
set_option linter.unusedSimpArgs false
section
namespace Go.Proofs.YtgmbdadkbominaaGreatDoor
open Go Go.ChangeShapes Go.WideShapes Go.RowKit Go.Av Go.Bv
set_option maxRecDepth 100000
theorem pl_int {n:Nat} {xs:List AV} (h:qK Tryz.prog (n + 1) 3 xs):∃ q:Int, xs = [.v (.int .i64 q)]:=by
 obtain ⟨q, h, _⟩:=zhu Tryz.underlying3 h
 exact ⟨q, h⟩
theorem zik {n:Nat} {xs:List AV} (h:qK Tryz.prog (n + 2) 24 xs):∃ l:List (Int), xs = [Hs.eI l]:=by
 obtain ⟨rows, rfl, _, hr⟩:=yC Tryz.underlying24 h
 obtain ⟨l, rfl⟩:=zaY (e:=fun q:Int=>[AV.v (.int .i64 q)]) (fun r hrm=>pl_int (hr r hrm))
 exact ⟨l, rfl⟩
theorem zsG {n:Nat} {xs:List AV} (h:qK Tryz.prog (n + 2) 46 xs):∃ a b:Int, xs = [.v (.int .i64 a), .v (.int .i64 b)]:=by
 have h:=yH Tryz.underlying46 h
 obtain ⟨a, _, rfl, h1, b, _, rfl, h2, rfl⟩:=h
 obtain ⟨x, rfl⟩:=pl_int h1
 obtain ⟨y, rfl⟩:=pl_int h2
 exact ⟨x, y, rfl⟩
theorem zqA {n:Nat} {xs:List AV} (h:qK Tryz.prog (n + 3) 23 xs):∃ l:List (Int × Int), xs = [.sl (l.map Wr.eSpn)]:=by
 obtain ⟨rows, rfl, _, hr⟩:=yC Tryz.underlying23 h
 obtain ⟨l, rfl⟩:=zaY (e:=Wr.eSpn) (fun r hrm=>by
  obtain ⟨x, y, rfl⟩:=zsG (hr r hrm)
  exact ⟨(x, y), rfl⟩)
 exact ⟨l, rfl⟩
theorem zsI {n:Nat} {xs:List AV} (h:qK Tryz.prog (n + 4) 26 xs):∃ c:Wr.Cod, xs = Wr.eCod c:=by
 have h:=yH Tryz.underlying26 h
 obtain ⟨a, _, rfl, h1, b, _, rfl, h2, d, _, rfl, h3, rfl⟩:=h
 obtain ⟨x, rfl⟩:=zqA h1
 obtain ⟨y, rfl⟩:=zik h2
 obtain ⟨z, rfl⟩:=pl_int h3
 exact ⟨⟨x, y, z⟩, rfl⟩
theorem zCI {n:Nat} {xs:List AV} (h:qK Tryz.prog (n + 3) 48 xs):∃ r:Hs.Rep, xs = Hs.eRep r:=by
 have h:=yH Tryz.underlying48 h
 obtain ⟨a, _, rfl, h1, b, _, rfl, h2, d, _, rfl, h3, e, _, rfl, h4, f, _, rfl, h5, g, _, rfl, h6, rfl⟩:=h
 obtain ⟨x1, rfl⟩:=pl_int h1
 obtain ⟨x2, rfl⟩:=pl_int h2
 obtain ⟨x3, rfl⟩:=pl_int h3
 obtain ⟨x4, x5, rfl⟩:=zsG h4
 obtain ⟨x6, rfl⟩:=pl_int h5
 obtain ⟨x7, rfl⟩:=pl_int h6
 exact ⟨⟨x1, x2, x3, x4, x5, x6, x7⟩, rfl⟩
theorem zBo {n:Nat} {xs:List AV} (h:qK Tryz.prog (n + 4) 29 xs):∃ l:List Hs.Rep, xs = [.sl (l.map Hs.eRep)]:=by
 obtain ⟨rows, rfl, _, hr⟩:=yC Tryz.underlying29 h
 obtain ⟨l, rfl⟩:=zaY (e:=Hs.eRep) (fun r hrm=>zCI (hr r hrm))
 exact ⟨l, rfl⟩
theorem zCB {n:Nat} {xs:List AV} (h:qK Tryz.prog (n + 2) 225 xs):∃ r:Hs.Lnk, xs = Hs.eLnk r:=by
 have h:=yH Tryz.underlying225 h
 obtain ⟨a, _, rfl, h1, b, _, rfl, h2, d, _, rfl, h3, rfl⟩:=h
 obtain ⟨x1, rfl⟩:=pl_int h1
 obtain ⟨x2, rfl⟩:=pl_int h2
 obtain ⟨x3, rfl⟩:=pl_int h3
 exact ⟨⟨x1, x2, x3⟩, rfl⟩
theorem zB6 {n:Nat} {xs:List AV} (h:qK Tryz.prog (n + 3) 30 xs):∃ l:List Hs.Lnk, xs = [.sl (l.map Hs.eLnk)]:=by
 obtain ⟨rows, rfl, _, hr⟩:=yC Tryz.underlying30 h
 obtain ⟨l, rfl⟩:=zaY (e:=Hs.eLnk) (fun r hrm=>zCB (hr r hrm))
 exact ⟨l, rfl⟩
theorem zCx {n:Nat} {xs:List AV} (h:qK Tryz.prog (n + 3) 55 xs):∃ r:Hs.Prt, xs = Hs.ePrt r:=by
 have h:=yH Tryz.underlying55 h
 obtain ⟨a, _, rfl, h1, b, _, rfl, h2, d, _, rfl, h3, rfl⟩:=h
 obtain ⟨x1, x2, rfl⟩:=zsG h1
 obtain ⟨x3, rfl⟩:=pl_int h2
 obtain ⟨x4, rfl⟩:=pl_int h3
 exact ⟨⟨x1, x2, x3, x4⟩, rfl⟩
theorem zCi {n:Nat} {xs:List AV} (h:qK Tryz.prog (n + 4) 31 xs):∃ l:List Hs.Prt, xs = [.sl (l.map Hs.ePrt)]:=by
 obtain ⟨rows, rfl, _, hr⟩:=yC Tryz.underlying31 h
 obtain ⟨l, rfl⟩:=zaY (e:=Hs.ePrt) (fun r hrm=>zCx (hr r hrm))
 exact ⟨l, rfl⟩
theorem zCZ {n:Nat} {xs:List AV} (h:qK Tryz.prog (n + 5) 33 xs):∃ w:Hs.Wt, xs = Hs.eWt w:=by
 have h:=yH Tryz.underlying33 h
 obtain ⟨a, _, rfl, h1, b, _, rfl, h2, d, _, rfl, h3, e, _, rfl, h4, f, _, rfl, h5, g, _, rfl, h6, i, _, rfl, h7, j, _, rfl, h8, k, _, rfl, h9, rfl⟩:=h
 obtain ⟨x1, rfl⟩:=pl_int h1
 obtain ⟨x2, rfl⟩:=zBo h2
 obtain ⟨x3, rfl⟩:=zB6 h3
 obtain ⟨x4, rfl⟩:=zCi h4
 obtain ⟨x5, rfl⟩:=pl_int h5
 obtain ⟨x6, rfl⟩:=pl_int h6
 obtain ⟨x7, rfl⟩:=pl_int h7
 obtain ⟨x8, rfl⟩:=pl_int h8
 obtain ⟨x9, rfl⟩:=pl_int h9
 exact ⟨⟨x1, x2, x3, x4, x5, x6, x7, x8, x9⟩, rfl⟩
theorem zCH {n:Nat} {xs:List AV} (h:qK Tryz.prog (n + 3) 220 xs):∃ r:Hs.Chk, xs = Hs.eChk r:=by
 have h:=yH Tryz.underlying220 h
 obtain ⟨a, _, rfl, h1, b, _, rfl, h2, rfl⟩:=h
 obtain ⟨x1, rfl⟩:=pl_int h1
 obtain ⟨x2, x3, rfl⟩:=zsG h2
 exact ⟨⟨x1, x2, x3⟩, rfl⟩
theorem zCL {n:Nat} {xs:List AV} (h:qK Tryz.prog (n + 6) 125 xs):∃ r:Hs.BSt, xs = Hs.eBSt r:=by
 have h:=yH Tryz.underlying125 h
 obtain ⟨a, _, rfl, g1, b, _, rfl, g2, rfl⟩:=h
 obtain ⟨x, rfl⟩:=pl_int g2
 have h:=yH Tryz.underlying123 g1
 obtain ⟨a, _, rfl, h1, b, _, rfl, h2, d, _, rfl, h3, e, _, rfl, h4, f, _, rfl, h5, g, _, rfl, h6, i, _, rfl, h7, rfl⟩:=h
 obtain ⟨x1, x2, rfl⟩:=zsG h1
 obtain ⟨x3, x4, rfl⟩:=zsG h2
 obtain ⟨x5, rfl⟩:=pl_int h3
 obtain ⟨x6, rfl⟩:=pl_int h4
 obtain ⟨x7, rfl⟩:=pl_int h5
 obtain ⟨x8, rfl⟩:=pl_int h6
 obtain ⟨rows, rfl, _, hr⟩:=yC Tryz.underlying121 h7
 obtain ⟨l, rfl⟩:=zaY (e:=Hs.eChk) (fun r hrm=>zCH (hr r hrm))
 exact ⟨⟨⟨x1, x2, x3, x4, x5, x6, x7, x8, l⟩, x⟩, rfl⟩
theorem zCg {n:Nat} {xs:List AV} (h:qK Tryz.prog (n + 7) 22 xs):∃ l:List Hs.BSt, xs = [.sl (l.map Hs.eBSt)]:=by
 obtain ⟨rows, rfl, _, hr⟩:=yC Tryz.underlying22 h
 obtain ⟨l, rfl⟩:=zaY (e:=Hs.eBSt) (fun r hrm=>zCL (hr r hrm))
 exact ⟨l, rfl⟩
theorem zBM {n:Nat} {xs:List AV} {t:TypeId} (ht:Tryz.prog.underlying t = Tryz.prog.underlying 28) (h:qK Tryz.prog (n + 2) t xs):∃ a b c:Int, xs = [.v (.int .i64 a), .v (.int .i64 b), .v (.int .i64 c)]:=by
 have h:=yH (ht.trans Tryz.underlying28) h
 obtain ⟨a, _, rfl, h1, b, _, rfl, h2, d, _, rfl, h3, rfl⟩:=h
 obtain ⟨x1, rfl⟩:=pl_int h1
 obtain ⟨x2, rfl⟩:=pl_int h2
 obtain ⟨x3, rfl⟩:=pl_int h3
 exact ⟨x1, x2, x3, rfl⟩
theorem zCO {n:Nat} {xs:List AV} (h:qK Tryz.prog (n + 2) 35 xs):∃ a b c:Int, xs = [.v (.int .i64 a), .v (.int .i64 b), .v (.int .i64 c)]:=by
 have h:=yH Tryz.underlying35 h
 obtain ⟨a, _, rfl, h1, b, _, rfl, h2, d, _, rfl, h3, rfl⟩:=h
 obtain ⟨x1, rfl⟩:=pl_int h1
 obtain ⟨x2, rfl⟩:=pl_int h2
 obtain ⟨x3, rfl⟩:=pl_int h3
 exact ⟨x1, x2, x3, rfl⟩
theorem zCD {x:AV} (h:xU Tryz.prog 8 37 x):∃ s:Hs.Sut, x = .agg (Hs.eSut s):=by
 unfold xU at h
 rw [Tryz.underlying37] at h
 obtain ⟨xs, rfl, h⟩:=h
 obtain ⟨a, _, rfl, h1, b, _, rfl, h2, d, _, rfl, h3, e, _, rfl, h4, f, _, rfl, h5, g, _, rfl, h6, i, _, rfl, h7, j, _, rfl, h8, k, _, rfl, h9, l, _, rfl, h10, m, _, rfl, h11, rfl⟩:=h
 obtain ⟨st, rfl⟩:=zCg (n:=1) h1
 obtain ⟨c, rfl⟩:=zsI (n:=4) h2
 obtain ⟨t1, t2, t3, rfl⟩:=zBM (n:=6) rfl h3
 obtain ⟨x4, rfl⟩:=pl_int h4
 obtain ⟨x5, rfl⟩:=pl_int h5
 obtain ⟨x6, rfl⟩:=pl_int h6
 obtain ⟨w, rfl⟩:=zCZ (n:=3) h7
 obtain ⟨x8, rfl⟩:=pl_int h8
 obtain ⟨x9, rfl⟩:=zik (n:=6) h9
 obtain ⟨p1, p2, p3, rfl⟩:=zCO (n:=6) h10
 obtain ⟨x11, rfl⟩:=pl_int h11
 exact ⟨⟨st, c, t1, t2, t3, x4, x5, x6, w, x8, x9, p1, p2, p3, x11⟩, rfl⟩
theorem zCc {x:AV} (h:xU Tryz.prog 8 29 x):∃ l:List Hs.Rep, x = .sl (l.map Hs.eRep):=by
 unfold xU at h
 rw [Tryz.underlying29] at h
 obtain ⟨l, h⟩:=zBo (n:=5) h
 exact ⟨l, by simpa using h⟩
theorem zCa {x:AV} (h:xU Tryz.prog 8 24 x):∃ l:List Int, x = Hs.eI l:=by
 unfold xU at h
 rw [Tryz.underlying24] at h
 obtain ⟨l, h⟩:=zik (n:=7) h
 exact ⟨l, by simpa using h⟩
theorem zkJ {x:AV} (h:xU Tryz.prog 8 3 x):∃ q:Int, x = Hs.ei q:=by
 unfold xU at h
 rw [Tryz.underlying3] at h
 obtain ⟨q, h⟩:=pl_int h
 exact ⟨q, by simpa using h⟩
end Go.Proofs.YtgmbdadkbominaaGreatDoor
end
