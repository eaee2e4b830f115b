import Derived.Test.YtgmbdadkbominaaGreatDoorPlatW
import Derived.Test.YtgmbdadkbominaaGreatDoorChC
import Derived.Test.YtgmbdadkbominaaGreatDoorPlatH
import Derived.Test.YtgmbdadkbominaaGreatDoorPlatQ
import Derived.Shelf.SlSortCmp.QuietGrown
import Derived.Test.YtgmbdadkbominaaGreatDoorChB
import Derived.ChangeKeysEq
import Derived.Laws.StructEq
import Derived.Test.YtgmbdadkbominaaGreatDoorPlatF
import Derived.Test.YtgmbdadkbominaaGreatDoorChD
set_option linter.unusedVariables false
set_option linter.unusedSimpArgs false
section
namespace Go.Av.Pn.Ct
end Go.Av.Pn.Ct
namespace Go.Av.Ct
end Go.Av.Ct
namespace Go.Av.Pn
namespace Ct
open Go.Av.Ct
open Go.Av Go.Proofs Go.RowKit
set_option maxRecDepth 100000
set_option maxHeartbeats 1000000
variable {G:Glob}
theorem zrU (w r p:Int) (c:Bool) (hw:1 <= w /\ w <= 6) (hr:1 <= r /\ r <= 5) (hp:0 <= p /\ p <= 30):zcM Tryz.prog G 178 [] [.ptr (vS w r), .ptr [ei p], .ptr [.v (.bool c)]] (nbQ w r p c):=by
 have har:=area hw.1 hw.2 hr.1 hr.2
 have hN:((w * r).toNat:Int) = w * r:=by omega
 obtain ⟨N, hNe⟩:∃ N, N = (w * r).toNat:=⟨_, rfl⟩
 rw [← hNe] at hN
 refine ze2 (qs:=(nbQ w r p c)) Tryz.func178 Y (by kernel_rfl) Y Y (fun C hC=>?_)
 refine jU ?_
 refine yf ?_
 refine zx (zf (zi Y Y zdQ) (zf (zl Y Y Y ty3) (zf (zi Y Y ziE) (zf (zl Y Y Y ty3) (zf (ya Y Y Y ⟨by omega, by omega⟩) (zf (zh Y Y) (zM ?_)))))))
 refine qE ?_
 refine xG ?_
 refine zeM (ι:={ k:Nat // k <= N }) (fun k=>⟨Tryz.f178.ntmps, frL [(0, .pub (.v (.func (.yield C.l) #[] #[]))), (1, .pub (.ptr (vS w r))), (2, .pub (.ptr [ei p])), (3, .pub (.ptr [.v (.bool c)])), (12, I (w * r)), (13, I (k.1:Int))], []⟩) (fun k=>.on (xm (zdU w p c) k.1)) (fun k=>N - k.1) (⟨0, by omega⟩) Y ?_ ?_
 ·exact zy _ ⟨Y, Y, Y, Y, Y, Y, trivial⟩ (Y)
 ·rintro ⟨k, hk⟩
  dsimp only
  refine jU ?_
  refine yf ?_
  refine zx (zf (qx Y Y Y) (zM ?_))
  refine qE ?_
  refine jU ?_
  refine vW Y (fun h0=>?_) (fun h0=>?_)
  ·have hlt:k < N:=by simp at h0; omega
   refine y5 ?_
   refine qE ?_
   refine jU ?_
   refine xG ?_
   refine jU ?_
   refine yf ?_
   refine zx (zf (zh Y Y) (zf (zg Y Y) (zM ?_)))
   refine qE ?_
   refine jU ?_
   refine yf ?_
   refine zx (zf (zK Y Y yw (by exact zLb Y)) (zf (zl Y Y Y ty3) (zf (zh Y Y) (zf (zB (av:=[_, _, _]) Y ⟨Y, Y, Y, trivial⟩ (f119 w r p (k:Int) (by omega) (by omega) (by omega))) (zf (zg Y Y) (zM ?_))))))
   refine qE ?_
   refine jU ?_
   refine yf ?_
   refine qp mixed (by kernel_rfl) Y ?_
   refine zu Y (zh Y Y) (zu Y (qR Y Y Y) (zu Y (zh Y Y) (zq Y (fun hg=>zl Y Y Y ty4) (zq Y (fun hg=>zh Y (if_pos hg)) (zq (zT Y Y Y) (fun hg=>zh Y Y) (zq (zT Y Y Y) (fun hg=>qR Y (if_pos hg) Y) (zq Y (fun hg=>jg Y (if_pos hg) (vG hg) Y) (zq Y (fun hg=>zh Y (if_pos hg)) (zq (zT Y Y Y) (fun hg=>zK Y Y yw (by exact zLb Y)) (zq (zT Y Y Y) (fun hg=>zl Y Y Y ty3) ?_))))))))))
   refine zq (zT Y Y Y) (fun hg=>zB (av:=[_, _]) Y ⟨(by exact if_pos hg), (by exact if_pos hg), trivial⟩ (f120 w r p (by omega) (by omega))) ?_
   refine zq (zT Y Y Y) (fun hg=>zK Y Y yw (by exact zLb Y)) (zq (zT Y Y Y) (fun hg=>zh Y Y) ?_)
   refine zq (zT Y Y Y) (fun hg=>zB (av:=[_, _]) Y ⟨(by exact if_pos hg), (by exact if_pos hg), trivial⟩ (f120 w r (k:Int) (by omega) (by omega))) ?_
   refine zq (zT Y Y Y) (fun hg=>wE Y (if_pos hg) (if_pos hg)) (zq Y (fun hg=>jg Y (if_pos hg) (vG hg) Y) (zq Y (fun hg=>zh Y (if_pos hg)) (zq (zT Y Y Y) (fun hg=>zK Y Y yw (by exact zLb Y)) (zq (zT Y Y Y) (fun hg=>zl Y Y Y ty3) ?_))))
   refine zq (zT Y Y Y) (fun hg=>zB (av:=[_, _]) Y ⟨(by exact if_pos hg), (by exact if_pos hg), trivial⟩ (f121 w r p (by omega) (by omega))) ?_
   refine zq (zT Y Y Y) (fun hg=>zK Y Y yw (by exact zLb Y)) (zq (zT Y Y Y) (fun hg=>zh Y Y) ?_)
   refine zq (zT Y Y Y) (fun hg=>zB (av:=[_, _]) Y ⟨(by exact if_pos hg), (by exact if_pos hg), trivial⟩ (f121 w r (k:Int) (by omega) (by omega))) ?_
   refine zq (zT Y Y Y) (fun hg=>wE Y (if_pos hg) (if_pos hg)) (zq Y (fun hg=>jg Y (if_pos hg) (vG hg) Y) (zu Y (jf Y Y Y Y) (zu Y (zg Y Y) (qF ?_))))
   refine qE ?_
   refine jU ?_
   cases hb:zdU w p c k with
   | false=>
    refine zaj (zy (mem':=[]) [(0, .pub (.v (.func (.yield C.l) #[] #[]))), (1, .pub (.ptr (vS w r))), (2, .pub (.ptr [ei p])), (3, .pub (.ptr [.v (.bool c)])), (12, I (w * r)), (5, I (k:Int)), (7, B false), (13, I (k:Int))] ⟨Y, Y, Y, Y, Y, Y, congrArg B hb, Y, trivial⟩ Y) ?_
    refine yT ?_
    refine vX Y Y (zh Y Y) ?_
    refine vX Y Y (zh Y Y) ?_
    refine qN (x:=.pub .top) Y Y Y (fun h=>absurd h (by decide)) ?_
    refine qN (x:=.pub .top) Y Y Y (fun h=>absurd h (by decide)) ?_
    refine xJ (q:=[]) (c:=false) Y Y Y Y (fun h=>absurd h (by decide)) (fun h=>absurd h (by decide)) (fun h=>absurd h (by decide)) Y Y Y Y Y (fun _=>?_) (fun h=>absurd h (by decide)) (fun h=>absurd h (by decide)) (fun h=>absurd h (by decide))
    refine qN (x:=.pub .top) Y Y Y (fun h=>absurd h (by decide)) ?_
    refine vX Y Y (yZ Y Y (fun h=>absurd h (by decide)) (fun _=>rfl)) ?_
    refine zas ?_
    refine qE ?_
    refine vW (b:=false) Y (fun h=>absurd h (by decide)) (fun _=>?_)
    refine y5 ?_
    refine yS ?_
    refine qE ?_
    refine yf ?_
    refine zx (zf (zW Y Y Y ⟨by omega, by omega⟩) (zf (zh Y Y) (zM ?_)))
    exact ⟨⟨k + 1, by omega⟩, by dsimp only; omega, by simp only[yV, hb]; rfl, zy _ ⟨Y, Y, Y, Y, Y, Y, trivial⟩ Y⟩
   | true=>
    refine zaj (zy (mem':=[]) [(0, .pub (.v (.func (.yield C.l) #[] #[]))), (1, .pub (.ptr (vS w r))), (2, .pub (.ptr [ei p])), (3, .pub (.ptr [.v (.bool c)])), (12, I (w * r)), (5, I (k:Int)), (7, B true), (13, I (k:Int))] ⟨Y, Y, Y, Y, Y, Y, congrArg B hb, Y, trivial⟩ Y) ?_
    refine yT ?_
    refine vX Y Y (zh Y Y) ?_
    refine vX Y Y (zh Y Y) ?_
    refine qN Y Y Y (fun _=>zh Y Y) ?_
    refine qN Y Y Y (fun _=>zh Y Y) ?_
    refine xJ (q:=[ei (k:Int)]) (c:=true) Y Y Y Y (fun _=>rfl) (fun _=>rfl) (fun _=>by rw [hC]; exact zoE (by omega) hb) Y Y Y Y Y (fun h=>absurd h (by decide)) (fun _=>?_) (fun _=>?_) (fun _ ch=>?_)
    ·refine qN Y Y Y (fun _=>qJ Y Y) ?_
     refine vX Y Y (yZ Y Y (fun _=>rfl) (fun h=>absurd h (by decide))) ?_
     refine zas ?_
     refine qE ?_
     refine vW (b:=false) Y (fun h=>absurd h (by decide)) (fun _=>?_)
     refine y5 ?_
     refine yS ?_
     refine qE ?_
     refine yf ?_
     refine zx (zf (zW Y Y Y ⟨by omega, by omega⟩) (zf (zh Y Y) (zM ?_)))
     exact ⟨⟨k + 1, by omega⟩, by dsimp only; omega, by simp only[yV, hb]; rfl, zy _ ⟨Y, Y, Y, Y, Y, Y, trivial⟩ Y⟩
    ·refine qN Y Y Y (fun _=>qJ Y Y) ?_
     refine vX Y Y (yZ Y Y (fun _=>rfl) (fun h=>absurd h (by decide))) ?_
     refine zas ?_
     refine qE ?_
     refine vW (b:=true) Y (fun _=>?_) (fun h=>absurd h (by decide))
     refine zhR ?_
     refine zc9 ?_
     refine zc1 ?_
     refine zc1 ?_
     refine zc9 ?_
     exact ⟨Y, .inl ⟨.inr Y, .inr ⟨_, Y⟩⟩⟩
    ·exact ⟨Y, .inr ⟨ch, Y, Y⟩⟩
  ·have hge:N <= k:=by simp at h0; omega
   refine zeV ?_
   refine zbc ?_
   refine zbc ?_
   refine zeP ?_
   exact ⟨Y, .inl ⟨.inl Y, .inl (by rw [zlf, ← hNe, show N = k from by omega])⟩⟩
end Ct
end Go.Av.Pn
end
section
namespace Go.Gr
variable {C:Type} [DecidableEq C] (nb:C -> List C)
structure Pth (r:List C):Prop where
 nd:r.Nodup
 st:∀ i (h:i + 1 < r.length), r[i + 1] ∈ nb r[i]
variable {nb}
structure Gph (nb:C -> List C) (all:List C):Prop where
 cl:∀ x ∈ all, ∀ y ∈ nb x, y ∈ all
 sym:∀ x ∈ all, ∀ y ∈ nb x, x ∈ nb y
 irr:∀ x ∈ all, x ∉ nb x
 nd:∀ x ∈ all, (nb x).Nodup
 two:∀ x ∈ all, (nb x).length <= 2
section
variable {all:List C} (G:Gph nb all) {r:List C} (hp:Pth nb r) (ha:∀ y ∈ r, y ∈ all)
include G hp ha
end
end Go.Gr
end
section
namespace Go.Gr
variable {C:Type} [DecidableEq C] (nb:C -> List C)
variable {nb} {all:List C}
structure LOK (nb:C -> List C) (all:List C) (r:List C):Prop where
 pth:Pth nb r
 pos:0 < r.length
 sub:∀ y ∈ r, y ∈ all
 cl:∀ x ∈ r, ∀ y ∈ nb x, y ∈ r
 ends:(nb r[0]).length < 2 ↔ (nb r[r.length - 1]).length < 2
structure SI (nb:C -> List C) (all:List C) (s:List C × List (List C)):Prop where
 flat:s.2.flatten = s.1
 nd:s.1.Nodup
 lines:∀ r ∈ s.2, LOK nb all r
end Go.Gr
end
section
namespace Go.Av
namespace Ct
open Go.Gr
set_option maxRecDepth 100000
section
variable {h:Nat -> Bool} {w r:Nat}
end
end Ct
end Go.Av
end
section
namespace Go.Av
namespace Ct
open Go.Proofs
set_option maxRecDepth 100000
set_option maxHeartbeats 1000000
variable {G:Glob}
def hiF (f:Fld) (lvl:Int) (p:Nat):Bool:=decide (lvl <= f.vals.getD p 0)
theorem f96 (f:Fld) (lvl:Int) (p:Nat) (hp:p < f.vals.length) (hl:f.vals.length <= 1000):ACall Tryz.prog G 91 [.agg (eFld f), ei (p:Int), ei lvl] (.v (.bool (hiF f lvl p))):=by
 refine zO Tryz.func91 Y (by kernel_rfl) Y ?_
 refine zn (zf (ql Y (zQ Y)) (zf (zg Y Y) (zo (zn (zf (zi Y Y jo) (zf (zl Y Y Y jH) (zf (zh Y Y) (zf (zD Y Y Y jV (by omega) (jM hp) qH) ?_))))))))
 refine zf (zl Y Y Y ty3) (zf (zh Y Y) (zf (kG Y Y Y) (zf (zg Y Y) (zo (zN ?_)))))
 exact ⟨.inr Y, AVle.of (by unfold hiF; rw [getD_at hp])⟩
def wF (f:Fld):Nat:=f.wide.toNat
def rF (f:Fld):Nat:=(rowsOf f).toNat
theorem zuh {f:Fld} (h:yb f = true):((wF f:Nat):Int) = f.wide /\ 1 <= wF f /\ wF f <= 6 /\ 1 <= rF f /\ rF f <= 5 /\ f.vals.length = wF f * rF f:=by
 unfold yb at h
 simp only[zLa] at h
 have h:=zdT h.1
 obtain ⟨h1, h2, h3, h4, h5⟩:=h
 have e1:((wF f:Nat):Int) = f.wide:=by unfold wF; omega
 have e2:((rF f:Nat):Int) = rowsOf f:=by unfold rF; omega
 refine ⟨e1, by omega, by omega, by omega, by omega, ?_⟩
 have:((wF f * rF f:Nat):Int) = f.vals.length:=by rw [Int.natCast_mul, e1, e2]; exact h5.symm
 omega
def zmK (w a b:Int):Bool:=(a != b) && (decide (vC (a / w) (b / w) <= 1) && decide (vC (a % w) (b % w) <= 1))
def zhM (f:Fld) (p:Int):Bool:=(p / f.wide == 0) || ((p / f.wide == ((f.vals.length:Int) / f.wide) - 1) || ((p % f.wide == 0) || (p % f.wide == f.wide - 1)))
theorem f97 (w a b:Int) (hw:1 <= w /\ w <= 1000) (ha:0 <= a /\ a <= 100000) (hb:0 <= b /\ b <= 100000):ACall Tryz.prog G 92 [.v (.int .i64 w), .v (.int .i64 a), .v (.int .i64 b)] (.v (.bool (zmK w a b))):=by
 have h1:=dm hw.1 ha
 have h2:=dm hw.1 hb
 have h3:=zaf (N:=100000) ⟨h1.1, h1.2.1⟩ ⟨h2.1, h2.2.1⟩
 have h4:=zaf (N:=w) ⟨h1.2.2.1, by omega⟩ ⟨h2.2.2.1, by omega⟩
 refine zO Tryz.func92 Y (by kernel_rfl) Y ?_
 refine zn (zf (zg Y Y) (zo (zt ?_)))
 refine qp mixed (by kernel_rfl) Y ?_
 refine zu Y (zh Y Y) (zu Y (zh Y Y) (zu Y (wE Y Y Y) (zu Y (zh Y Y) (zq Y (fun hg=>zh Y Y) (zq Y (fun hg=>zh Y Y) ?_)))))
 refine zq Y (fun hg=>x9 Y (if_pos hg) (if_pos hg) ⟨(by first | omega | (simp at hg; omega)), (by first | omega | (simp at hg; omega)), (by first | omega | (simp at hg; omega))⟩) ?_
 refine zq Y (fun hg=>zh Y Y) (zq Y (fun hg=>zh Y Y) ?_)
 refine zq Y (fun hg=>x9 Y (if_pos hg) (if_pos hg) ⟨(by first | omega | (simp at hg; omega)), (by first | omega | (simp at hg; omega)), (by first | omega | (simp at hg; omega))⟩) ?_
 refine zq Y (fun hg=>zB (av:=[_, _]) Y ⟨(by exact if_pos hg), (by exact if_pos hg), trivial⟩ (f95 _ _ (by omega) (by omega))) ?_
 refine zq Y (fun hg=>zbt Y (if_pos hg) Y) (zu Y (jg Y Y Y Y) (zu Y (zh Y Y) (zq Y (fun hg=>zh Y Y) (zq Y (fun hg=>zh Y Y) ?_))))
 refine zq Y (fun hg=>ku Y (if_pos hg) (if_pos hg) ⟨(by first | omega | (simp at hg; omega)), (by first | omega | (simp at hg; omega))⟩) ?_
 refine zq Y (fun hg=>zh Y Y) (zq Y (fun hg=>zh Y Y) ?_)
 refine zq Y (fun hg=>ku Y (if_pos hg) (if_pos hg) ⟨(by first | omega | (simp at hg; omega)), (by first | omega | (simp at hg; omega))⟩) ?_
 refine zq Y (fun hg=>zB (av:=[_, _]) Y ⟨(by exact if_pos hg), (by exact if_pos hg), trivial⟩ (f95 _ _ (by omega) (by omega))) ?_
 refine zq Y (fun hg=>zbt Y (if_pos hg) Y) (zu Y (jg Y Y Y Y) (zu Y (zg Y Y) (qF (zk (zN ?_)))))
 exact ⟨.inr Y, AVle.of (by unfold zmK; simp [Bool.and_assoc])⟩
theorem f98 (f:Fld) (p:Int) (hw:1 <= f.wide /\ f.wide <= 1000) (hp:0 <= p /\ p <= 100000) (hl:f.vals.length <= 1000):ACall Tryz.prog G 93 [.agg (eFld f), .v (.int .i64 p)] (.v (.bool (zhM f p))):=by
 have h1:=dm hw.1 hp
 have h2:=dm hw.1 (show 0 <= (f.vals.length:Int) /\ (f.vals.length:Int) <= 100000 by omega)
 refine zO Tryz.func93 Y (by kernel_rfl) Y ?_
 refine zn (zf (ql Y (zQ Y)) (zf (zg Y Y) (zo (zn (zf (zi Y Y jo) (zf (zl Y Y Y jH) (zf (vg Y Y Tryz.underlying24) (zf (zi Y Y jY) ?_))))))))
 refine zf (zl Y Y Y ty3) (zf (x9 Y Y Y ⟨(by omega), by omega, by omega⟩) (zf (zg Y Y) (zo (zt ?_))))
 refine qp mixed (by kernel_rfl) Y ?_
 refine zu Y (zh Y Y) (zu Y (zi Y Y jY) (zu Y (zl Y Y Y ty3) (zu Y (x9 Y Y Y ⟨(by omega), by omega, by omega⟩) (zu Y (qR Y Y Y) (zu Y (zh Y Y) (zq Y (fun hg=>zh Y Y) (zq Y (fun hg=>zi Y Y jY) (zq Y (fun hg=>zl Y (if_pos hg) Y ty3) ?_))))))))
 refine zq Y (fun hg=>x9 Y (if_pos hg) (if_pos hg) ⟨(by first | omega | (simp at hg; omega)), (by first | omega | (simp at hg; omega)), (by first | omega | (simp at hg; omega))⟩) ?_
 refine zq Y (fun hg=>zh Y Y) ?_
 refine zq Y (fun hg=>vN Y (if_pos hg) Y ⟨(by first | omega | (simp at hg; omega)), (by first | omega | (simp at hg; omega))⟩) ?_
 refine zq Y (fun hg=>qR Y (if_pos hg) (if_pos hg)) (zu Y (jf Y Y Y Y) (zu Y (zh Y Y) (zq Y (fun hg=>zh Y Y) (zq Y (fun hg=>zi Y Y jY) (zq Y (fun hg=>zl Y (if_pos hg) Y ty3) ?_)))))
 refine zq Y (fun hg=>ku Y (if_pos hg) (if_pos hg) ⟨(by first | omega | (simp at hg; omega)), (by first | omega | (simp at hg; omega))⟩) ?_
 refine zq Y (fun hg=>qR Y (if_pos hg) Y) (zu Y (jf Y Y Y Y) (zu Y (zh Y Y) (zq Y (fun hg=>zh Y Y) (zq Y (fun hg=>zi Y Y jY) (zq Y (fun hg=>zl Y (if_pos hg) Y ty3) ?_)))))
 refine zq Y (fun hg=>ku Y (if_pos hg) (if_pos hg) ⟨(by first | omega | (simp at hg; omega)), (by first | omega | (simp at hg; omega))⟩) ?_
 refine zq Y (fun hg=>zi Y Y jY) (zq Y (fun hg=>zl Y (if_pos hg) Y ty3) ?_)
 refine zq Y (fun hg=>vN Y (if_pos hg) Y ⟨(by first | omega | (simp at hg; omega)), (by first | omega | (simp at hg; omega))⟩) ?_
 refine zq Y (fun hg=>qR Y (if_pos hg) (if_pos hg)) (zu Y (jf Y Y Y Y) (zu Y (zg Y Y) (qF (zk (zN ?_)))))
 exact ⟨.inr Y, AVle.of (by unfold zhM; simp [Bool.or_assoc])⟩
theorem ti4:Tryz.prog.info? 4 = some Tryz.t4:=by kernel_rfl
def zaV (b:Bool):List EV:=[B b]
theorem ziJ {l:List Bool}:∀ q ∈ l.map zaV, q.length = 1:=fun q h=>by obtain ⟨c, _, rfl⟩:=List.mem_map.1 h; rfl
theorem zlN {l:List Bool} {k:Nat} (h:k < l.length):(l.map zaV)[k]? = some (zaV (l.getD k false)):=by simp [h, List.getD]
def zgI (f:Fld) (lvl:Int) (hi:Bool) (p q:Nat):Bool:=(hiF f lvl q == hi) && ((dist f.wide (p:Int) (q:Int) == 1) || (!hi && zmK f.wide (p:Int) (q:Int)))
theorem ziL:kw Tryz.prog 193 1 = true:=by kernel_rfl
section
variable (f:Fld) (lvl:Int) (hi:Bool)
def stQ (p q:Nat) (m:List Bool):List Bool:=bif m.getD p false && zgI f lvl hi p q then m.set q true else m
def foQ (p:Nat) (m:List Bool) (k:Nat):List Bool:=(List.range k).foldl (fun m q=>stQ f lvl hi p q m) m
def foP (m:List Bool) (k:Nat):List Bool:=(List.range k).foldl (fun m p=>foQ f lvl hi p m f.vals.length) m
def foA (m:List Bool) (k:Nat):List Bool:=(List.range k).foldl (fun m _=>foP f lvl hi m f.vals.length) m
def zdj (p:Nat):List Bool:=foA f lvl hi ((List.replicate f.vals.length false).set p true) f.vals.length
def closedR (p:Nat):Bool:=(hiF f lvl p == hi) && (List.range f.vals.length).all fun q=>!((zdj f lvl hi p).getD q false && zhM f (q:Int))
end
theorem zaX {f:Fld} {lvl:Int} {hi:Bool} {p:Nat} {m:List Bool} {k:Nat}:foQ f lvl hi p m (k + 1) = stQ f lvl hi p k (foQ f lvl hi p m k):=by unfold foQ; rw [List.range_succ, List.foldl_append]; rfl
theorem foP_succ {f:Fld} {lvl:Int} {hi:Bool} {m:List Bool} {k:Nat}:foP f lvl hi m (k + 1) = foQ f lvl hi k (foP f lvl hi m k) f.vals.length:=by unfold foP; rw [List.range_succ, List.foldl_append]; rfl
theorem foA_succ {f:Fld} {lvl:Int} {hi:Bool} {m:List Bool} {k:Nat}:foA f lvl hi m (k + 1) = foP f lvl hi (foA f lvl hi m k) f.vals.length:=by unfold foA; rw [List.range_succ, List.foldl_append]; rfl
theorem zqR {f:Fld} {lvl:Int} {hi:Bool} {p q:Nat} {m:List Bool}:(stQ f lvl hi p q m).length = m.length:=by unfold stQ; cases (m.getD p false && zgI f lvl hi p q) <;> simp
theorem zbe {f:Fld} {lvl:Int} {hi:Bool} {p:Nat} {m:List Bool}:∀ k, (foQ f lvl hi p m k).length = m.length
 | 0=>rfl
 | k + 1=>by rw [zaX, zqR, zbe k]
theorem x8 {f:Fld} {lvl:Int} {hi:Bool} {m:List Bool}:∀ k, (foP f lvl hi m k).length = m.length
 | 0=>rfl
 | k + 1=>by rw [foP_succ, zbe, x8 k]
theorem zcy {f:Fld} {lvl:Int} {hi:Bool} {m:List Bool}:∀ k, (foA f lvl hi m k).length = m.length
 | 0=>rfl
 | k + 1=>by rw [foA_succ, x8, zcy k]
theorem zo6 {l:List Bool} {k:Nat}:(l.map zaV).set k [B true] = (l.set k true).map zaV:=by rw [List.map_set]; rfl
theorem f46 (f:Fld) (p:Nat) (lvl:Int) (hi:Bool) (hf:yb f = true) (hp:p < f.vals.length) (hl:f.vals.length <= 1000):ACall Tryz.prog G 32 [.agg (eFld f), ei (p:Int), ei lvl, .v (.bool hi)] (.v (.bool (closedR f lvl hi p))):=by
 obtain ⟨zw, w1, w6, r1, r5, hlen⟩:=zuh hf
 have hML:((List.replicate f.vals.length false).set p true).length = f.vals.length:=by simp
 have hAL:=fun k=>(zcy (f:=f) (lvl:=lvl) (hi:=hi) (m:=((List.replicate f.vals.length false).set p true)) k).trans hML
 have hPL:=fun k i=>(x8 (f:=f) (lvl:=lvl) (hi:=hi) (m:=(foA f lvl hi ((List.replicate f.vals.length false).set p true) k)) i).trans (hAL k)
 have hQL:=fun k a j=>(zbe (f:=f) (lvl:=lvl) (hi:=hi) (p:=a) (m:=(foP f lvl hi (foA f lvl hi ((List.replicate f.vals.length false).set p true) k) a)) j).trans (hPL k a)
 refine zO Tryz.func32 Y (by kernel_rfl) Y ?_
 refine zn (zf (ql Y (zQ Y)) (zf (zg Y Y) (zo (zt (zn (zf (zK Y Y zq0 (by exact zLb Y)) (zf (zh Y Y) (zf (zh Y Y) ?_))))))))
 refine zf (zB (av:=[_, _, _]) Y ⟨Y, Y, Y, trivial⟩ (f96 f lvl p hp hl)) (zf (zh Y Y) (zf (zrQ Y Y Y Tryz.underlying4) (zo (zA Y (fun h0=>?_) (fun h0=>?_)))))
 ·have hz:closedR f lvl hi p = false:=by unfold closedR; rw [show (hiF f lvl p == hi) = false by simpa using h0]; rfl
  refine zn (zf (zg Y Y) (zo (zN (zP ?_))))
  exact ⟨.inr Y, AVle.of (by rw [hz])⟩
 ·have hz:(hiF f lvl p == hi) = true:=by simpa using h0
  refine zH (zk (zn (zf (zi Y Y jo) (zf (zl Y Y Y jH) (zf (vg Y Y Tryz.underlying24) ?_)))))
  refine qL Y (znE Y Y Y Tryz.underlying193 ti4 Y Y Y (zs:=[.bool false]) Y Y Y (by decide) (by omega) (by omega) (by decide)) ?_
  refine zf (jm Y Y) (zo (zt ?_))
  refine qY (zy (mem':=[.row ((List.replicate f.vals.length false).map zaV)]) [(1, I (p:Int)), (2, I lvl), (3, B hi), (4, .pub (.ptr (eFld f))), (9, .psl 0 f.vals.length)] ?_ ?_) ?_
  ·exact ⟨Y, Y, Y, Y, (congrArg (EV.psl 0) (Int.toNat_natCast _)), trivial⟩
  ·exact (by rw [List.map_replicate]; rfl)
  refine zx (zf (jq Y Y) (zf (zh Y Y) ?_))
  refine zf (jw Y Y Y Y (by first | (rw [List.length_map]; exact hML0) | simp) ziL (by omega) (by omega) ziJ) ?_
  refine qL Y (qw (r:=zaV ((List.replicate f.vals.length false).getD p false)) Y Y Y Y (by rw [List.length_map]; exact List.length_replicate) (zlN (by rw [List.length_replicate]; exact hp)) (qU Y) ty4 (by rfl) (by exact zLb Y)) ?_
  refine zo (zt (zn (zf (zg Y Y) (zo (zF ?_)))))
  refine qm (ι:={ k:Nat // k <= f.vals.length }) (fun k=>⟨Tryz.f32.ntmps, frL [(2, I lvl), (3, B hi), (4, .pub (.ptr (eFld f))), (9, .psl 0 f.vals.length), (10, I (k.1:Int))], [.row ((foA f lvl hi ((List.replicate f.vals.length false).set p true) k.1).map zaV)]⟩) (fun k=>f.vals.length - k.1) (⟨0, by omega⟩) ?_ ?_
  ·exact zy _ ⟨Y, Y, Y, Y, Y, trivial⟩ ((congrArg (fun z=>[PO.row z]) zo6))
  ·rintro ⟨k, hk⟩
   dsimp only
   refine zt (zn (zf (zh Y Y) (zf (zi Y Y jo) (zf (zl Y Y Y jH) (zf (vg Y Y Tryz.underlying24) (zf (qx Y Y Y) (zo (zA Y (fun h1=>?_) (fun h1=>?_)))))))))
   ·have hk1:k < f.vals.length:=by simpa using h1
    refine zH (zk (zt (zF (zn (zf (zg Y Y) (zo (zF ?_)))))))
    refine qm (ι:={ a:Nat // a <= f.vals.length }) (fun a=>⟨Tryz.f32.ntmps, frL [(2, I lvl), (3, B hi), (4, .pub (.ptr (eFld f))), (9, .psl 0 f.vals.length), (10, I (k:Int)), (11, I (a.1:Int))], [.row ((foP f lvl hi (foA f lvl hi ((List.replicate f.vals.length false).set p true) k) a.1).map zaV)]⟩) (fun a=>f.vals.length - a.1) (⟨0, by omega⟩) ?_ ?_
    ·exact zy _ ⟨Y, Y, Y, Y, Y, Y, trivial⟩ (Y)
    ·rintro ⟨a, ha⟩
     dsimp only
     refine zt (zn (zf (zh Y Y) (zf (zi Y Y jo) (zf (zl Y Y Y jH) (zf (vg Y Y Tryz.underlying24) (zf (qx Y Y Y) (zo (zA Y (fun h2=>?_) (fun h2=>?_)))))))))
     ·have ha1:a < f.vals.length:=by simpa using h2
      refine zH (zk (zt (zF (zn (zf (zg Y Y) (zo (zF ?_)))))))
      refine qm (ι:={ j:Nat // j <= f.vals.length }) (fun j=>⟨Tryz.f32.ntmps, frL [(2, I lvl), (3, B hi), (4, .pub (.ptr (eFld f))), (9, .psl 0 f.vals.length), (10, I (k:Int)), (11, I (a:Int)), (12, I (j.1:Int))], [.row ((foQ f lvl hi a (foP f lvl hi (foA f lvl hi ((List.replicate f.vals.length false).set p true) k) a) j.1).map zaV)]⟩) (fun j=>f.vals.length - j.1) (⟨0, by omega⟩) ?_ ?_
      ·exact zy _ ⟨Y, Y, Y, Y, Y, Y, Y, trivial⟩ (Y)
      ·rintro ⟨j, hj⟩
       dsimp only
       refine zt (zn (zf (zh Y Y) (zf (zi Y Y jo) (zf (zl Y Y Y jH) (zf (vg Y Y Tryz.underlying24) (zf (qx Y Y Y) (zo (zA Y (fun h3=>?_) (fun h3=>?_)))))))))
       ·have hj1:j < f.vals.length:=by simpa using h3
        refine zH (zk (zt (zF (zn (zf (jq Y Y) (zf (zh Y Y) ?_))))))
        refine zf (jw Y Y Y Y (by first | (rw [List.length_map]; exact (hQL k a j)) | simp) ziL (by omega) (by omega) ziJ) ?_
        refine zf (zX (r:=zaV ((foQ f lvl hi a (foP f lvl hi (foA f lvl hi ((List.replicate f.vals.length false).set p true) k) a) j).getD a false)) Y Y Y (by rw [List.length_map]; exact (hQL k a j)) (zlN (by rw [hQL]; exact ha1)) Y ty4) ?_
        refine zf (zh Y Y) (zC Y (fun hg=>zK Y Y zq0 (by exact zLb Y)) (zC Y (fun hg=>zh Y Y) (zC Y (fun hg=>zh Y Y) ?_)))
        refine zC Y (fun hg=>zB (av:=[_, _, _]) Y ⟨(by exact if_pos hg), (by exact if_pos hg), (by exact if_pos hg), trivial⟩ (f96 f lvl j hj1 hl)) ?_
        refine zC Y (fun hg=>zh Y Y) (zC Y (fun hg=>zhY Y (if_pos hg) (if_pos hg) Tryz.underlying4) (zf (jg Y Y Y Y) (zf (zh Y Y) (zC Y (fun hg=>zi Y Y jY) (zC Y (fun hg=>zl Y (if_pos hg) Y ty3) (zC Y (fun hg=>zh Y Y) (zC Y (fun hg=>zh Y Y) ?_)))))))
        refine zC Y (fun hg=>zB (av:=[_, _, _]) Y ⟨(by exact if_pos hg), (by exact if_pos hg), (by exact if_pos hg), trivial⟩ (f35 f.wide (a:Int) (j:Int) (by omega) (by omega) (by omega))) ?_
        refine zC Y (fun hg=>zh Y (if_pos hg)) (zC (zT Y Y Y) (fun hg=>zh Y Y) (zC (zT Y Y Y) (fun hg=>qJ Y (if_pos hg)) (zC (zT Y Y Y) (fun hg=>zh Y (if_pos hg)) (zC (zT Y Y Y) (fun hg=>zi Y Y jY) (zC (zT Y Y Y) (fun hg=>zl Y (if_pos hg) Y ty3) (zC (zT Y Y Y) (fun hg=>zh Y Y) (zC (zT Y Y Y) (fun hg=>zh Y Y) ?_)))))))
        refine zC (zT Y Y Y) (fun hg=>zB (av:=[_, _, _]) Y ⟨(by exact if_pos hg), (by exact if_pos hg), (by exact if_pos hg), trivial⟩ (f97 f.wide (a:Int) (j:Int) (by omega) (by omega) (by omega))) ?_
        refine zC (zT Y Y Y) (fun hg=>jg Y (if_pos hg) (vG hg) Y) (zC Y (fun hg=>jf Y (if_pos hg) Y (vG hg)) (zf (jg Y Y Y Y) (zo (zA Y (fun h4=>?_) (fun h4=>?_)))))
        ·have hst:((foQ f lvl hi a (foP f lvl hi (foA f lvl hi ((List.replicate f.vals.length false).set p true) k) a) j).set j true) = foQ f lvl hi a (foP f lvl hi (foA f lvl hi ((List.replicate f.vals.length false).set p true) k) a) (j + 1):=by rw [zaX]; unfold stQ; rw [show ((foQ f lvl hi a (foP f lvl hi (foA f lvl hi ((List.replicate f.vals.length false).set p true) k) a) j).getD a false && zgI f lvl hi a j) = true from (Bool.and_assoc _ _ _).symm.trans h4]; rfl
         have hmE:([.row (((foQ f lvl hi a (foP f lvl hi (foA f lvl hi ((List.replicate f.vals.length false).set p true) k) a) j).map zaV).set j [B true])]:List PO) = [.row ((foQ f lvl hi a (foP f lvl hi (foA f lvl hi ((List.replicate f.vals.length false).set p true) k) a) (j + 1)).map zaV)]:=by rw [zo6, hst]
         refine zx (zf (jq Y Y) (zf (zh Y Y) ?_))
         refine zf (jw Y Y Y Y (by first | (rw [List.length_map]; exact (hQL k a j)) | simp) ziL (by omega) (by omega) ziJ) ?_
         refine qL Y (qw (r:=zaV ((foQ f lvl hi a (foP f lvl hi (foA f lvl hi ((List.replicate f.vals.length false).set p true) k) a) j).getD j false)) Y Y Y Y (by rw [List.length_map]; exact (hQL k a j)) (zlN (by rw [hQL]; exact hj1)) (qU Y) ty4 (by rfl) (by exact zLb Y)) ?_
         refine zM (zJ (zk (zx (zf (zh Y Y) (zf (zW Y Y Y ⟨by omega, by omega⟩) (zf (zg Y Y) (zM ?_)))))))
         exact ⟨⟨j + 1, by omega⟩, by dsimp only; omega, zy _ ⟨Y, Y, Y, Y, Y, Y, Y, trivial⟩ (hmE)⟩
        ·have hst:(foQ f lvl hi a (foP f lvl hi (foA f lvl hi ((List.replicate f.vals.length false).set p true) k) a) j) = foQ f lvl hi a (foP f lvl hi (foA f lvl hi ((List.replicate f.vals.length false).set p true) k) a) (j + 1):=by rw [zaX]; unfold stQ; rw [show ((foQ f lvl hi a (foP f lvl hi (foA f lvl hi ((List.replicate f.vals.length false).set p true) k) a) j).getD a false && zgI f lvl hi a j) = false from (Bool.and_assoc _ _ _).symm.trans h4]; rfl
         have hmE:([.row ((foQ f lvl hi a (foP f lvl hi (foA f lvl hi ((List.replicate f.vals.length false).set p true) k) a) j).map zaV)]:List PO) = [.row ((foQ f lvl hi a (foP f lvl hi (foA f lvl hi ((List.replicate f.vals.length false).set p true) k) a) (j + 1)).map zaV)]:=by rw [hst]
         refine zH (zJ (zk (zx (zf (zh Y Y) (zf (zW Y Y Y ⟨by omega, by omega⟩) (zf (zg Y Y) (zM ?_)))))))
         exact ⟨⟨j + 1, by omega⟩, by dsimp only; omega, zy _ ⟨Y, Y, Y, Y, Y, Y, Y, trivial⟩ (hmE)⟩
       ·have hge:j = f.vals.length:=by have:=h3; simp at this; omega
        subst hge
        refine qg (zS (zS (qh (zJ (zk (zx (zf (zh Y Y) (zf (zW Y Y Y ⟨by omega, by omega⟩) (zf (zg Y Y) (zM ?_))))))))))
        exact ⟨⟨a + 1, by omega⟩, by dsimp only; omega, zy _ ⟨Y, Y, Y, Y, Y, Y, trivial⟩ ((congrArg (fun z:List Bool=>([.row (z.map zaV)]:List PO)) foP_succ.symm))⟩
     ·have hge:a = f.vals.length:=by have:=h2; simp at this; omega
      subst hge
      refine qg (zS (zS (qh (zJ (zk (zx (zf (zh Y Y) (zf (zW Y Y Y ⟨by omega, by omega⟩) (zf (zg Y Y) (zM ?_))))))))))
      exact ⟨⟨k + 1, by omega⟩, by dsimp only; omega, zy _ ⟨Y, Y, Y, Y, Y, trivial⟩ ((congrArg (fun z:List Bool=>([.row (z.map zaV)]:List PO)) foA_succ.symm))⟩
   ·have hge:k = f.vals.length:=by have:=h1; simp at this; omega
    subst hge
    refine qg (zS (zS (qh (zk (zt (zn (zf (zg Y Y) (zo (zF ?_)))))))))
    refine qm (ι:={ k:Nat // k <= f.vals.length /\ ∀ q, q < k -> ((zdj f lvl hi p).getD q false && zhM f (q:Int)) = false }) (fun k=>⟨Tryz.f32.ntmps, frL [(2, I lvl), (3, B hi), (4, .pub (.ptr (eFld f))), (9, .psl 0 f.vals.length), (13, I (k.1:Int))], [.row ((zdj f lvl hi p).map zaV)]⟩) (fun k=>f.vals.length - k.1) (⟨0, by omega, fun _ h=>absurd h (by omega)⟩) ?_ ?_
    ·exact zy _ ⟨Y, Y, Y, Y, Y, trivial⟩ (Y)
    ·rintro ⟨k, hk⟩
     dsimp only
     have hAE:(zdj f lvl hi p).length = f.vals.length:=hAL f.vals.length
     refine zt (zn (zf (zh Y Y) (zf (zi Y Y jo) (zf (zl Y Y Y jH) (zf (vg Y Y Tryz.underlying24) (zf (qx Y Y Y) (zo (zA Y (fun h5=>?_) (fun h5=>?_)))))))))
     ·have hk1:k < f.vals.length:=by simpa using h5
      refine zH (zk (zt (zF (zn (zf (jq Y Y) (zf (zh Y Y) ?_))))))
      refine zf (jw Y Y Y Y (by first | (rw [List.length_map]; exact hAE) | simp) ziL (by omega) (by omega) ziJ) ?_
      refine zf (zX (r:=zaV ((zdj f lvl hi p).getD k false)) Y Y Y (by rw [List.length_map]; exact hAE) (zlN (by rw [hAE]; exact hk1)) Y ty4) ?_
      refine zf (zh Y Y) (zC Y (fun hg=>zK Y Y zq0 (by exact zLb Y)) (zC Y (fun hg=>zh Y Y) ?_))
      refine zC Y (fun hg=>zB (av:=[_, _]) Y ⟨(by exact if_pos hg), (by exact if_pos hg), trivial⟩ (f98 f (k:Int) (by omega) (by omega) hl)) ?_
      refine zf (jg Y Y Y Y) (zo (zA Y (fun h6=>?_) (fun h6=>?_)))
      ·have hz2:closedR f lvl hi p = false:=by unfold closedR; rw [hz, Bool.true_and, ← Bool.not_eq_true, List.all_eq_true]; intro hA; have:=hA k (List.mem_range.2 hk1); rw [h6] at this; cases this
       refine zn (zf (zg Y Y) (zo (zN (zZ (zP (zP (zZ (zP ?_))))))))
       exact ⟨.inr Y, AVle.of (by rw [hz2])⟩
      ·refine zH (zJ (zk (zx (zf (zh Y Y) (zf (zW Y Y Y ⟨by omega, by omega⟩) (zf (zg Y Y) (zM ?_)))))))
       exact ⟨⟨k + 1, by omega, fun q hq=>(if e:q = k then by subst e; exact h6 else hk.2 q (by omega))⟩, by dsimp only; omega, zy _ ⟨Y, Y, Y, Y, Y, trivial⟩ (Y)⟩
     ·have hge:k = f.vals.length:=by have:=h5; simp at this; omega
      refine qg (zS (zS (qh (zk (zn (zf (zg Y Y) (zo (zN ?_))))))))
      exact ⟨.inr Y, AVle.of (by unfold closedR; rw [hz, Bool.true_and, List.all_eq_true.2 fun q hq=>by rw [hk.2 q (by have:=List.mem_range.1 hq; omega)]; rfl])⟩
end Ct
end Go.Av
end
