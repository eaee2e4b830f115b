import Derived.Test.YtgmbdadkbominaaGreatDoorChO
set_option linter.unusedVariables false
set_option linter.unusedSimpArgs false
section
namespace Go.Av
namespace Tp
open Go.Proofs
set_option maxRecDepth 100000
set_option maxHeartbeats 1000000
variable {G:Glob}
theorem jQ:fldIs Tryz.prog 101 0 0 = true:=by kernel_rfl
theorem yI:fldIs Tryz.prog 101 1 1 = true:=by kernel_rfl
theorem zuH:fldIs Tryz.prog 101 2 2 = true:=by kernel_rfl
theorem zuA:fldIs Tryz.prog 101 3 3 = true:=by kernel_rfl
theorem zzl:ze3 Tryz.prog 196 1 [.slice none 0 0, .slice none 0 0, .slice none 0 0, .slice none 0 0]:=⟨_, _, Tryz.t82, Tryz.underlying196, by kernel_rfl, by kernel_rfl, by kernel_rfl⟩
theorem zwc:zeE Tryz.prog 196 4 1 = true:=by kernel_rfl
structure DpB (L:List Sp) (D:List Int):Prop where
 len:D.length = L.length
 dep:∀ i, i < L.length -> (L.getD i sp0).lo <= D.getD i 0 /\ D.getD i 0 <= (L.getD i sp0).hi
def xL (L:List Sp):List Int:=L.map (·.x)
def yL (L:List Sp):List Int:=L.map (·.y)
def eTr (L:List Sp) (D:List Int):List AV:=[sV L.length, .sl (zuu (xL L)), .sl (zuu (yL L)), .sl (zuu D)]
theorem zxL (L:List Sp):(xL L).length = L.length:=by simp [xL]
theorem zxN (L:List Sp):(yL L).length = L.length:=by simp [yL]
theorem zxH {L:List Sp} {i:Nat} {k:Int} (h:i < L.length) (hk:k = (i:Int)):(zuu (xL L))[k.toNat]? = some [.sl [[Ct.ei (L.getD i sp0).x]]]:=by
 rw [zuM (by rw [zxL]; exact h) hk]; simp [xL, h]
theorem zx2 {L:List Sp} {i:Nat} {k:Int} (h:i < L.length) (hk:k = (i:Int)):(zuu (yL L))[k.toNat]? = some [.sl [[Ct.ei (L.getD i sp0).y]]]:=by
 rw [zuM (by rw [zxN]; exact h) hk]; simp [yL, h]
def dX (L:List Sp) (i:Nat):Int:=(L.getD i sp0).x - (L.getD (i - 1) sp0).x
def dY (L:List Sp) (i:Nat):Int:=(L.getD i sp0).y - (L.getD (i - 1) sp0).y
def dD (D:List Int) (i:Nat):Int:=D.getD i 0 - D.getD (i - 1) 0
def rtB (L:List Sp) (r q:Int) (D:List Int) (i:Nat):Bool:=decide (i = 0) || (Ct.inB (dX L i) (-(r * hrL L i)) (r * hrL L i) && Ct.inB (dY L i) (-(r * hrL L i)) (r * hrL L i) && Ct.inB (dD D i) (-(q * hrL L i)) (q * hrL L i))
def ftB (L:List Sp) (r q:Int) (D:List Int):Bool:=(List.range L.length).all (rtB L r q D)
def bfN (u:Nat):Int:=if u = 0 then 0 else 1
theorem zyh (u:Nat):Ct.inB (lk u) (-1) (bfN u - 1) = true:=by unfold lk bfN Ct.inB; split <;> simp
theorem zxf {L:List Sp} {r q:Int} {D:List Int} {u:Nat} (hu:u < L.length) (h0:1 <= u) (h:Ct.inB (dX L u) (-(r * hrL L u)) (r * hrL L u) = false ∨ Ct.inB (dY L u) (-(r * hrL L u)) (r * hrL L u) = false ∨ Ct.inB (dD D u) (-(q * hrL L u)) (q * hrL L u) = false):ftB L r q D = false:=by
 refine zyj hu ?_
 unfold rtB
 rw [decide_eq_false (by omega)]
 rcases h with h | h | h <;> simp [h]
theorem zze {L:List Sp} {r q:Int} {D:List Int} {u:Nat} (h:u = 0):rtB L r q D u = true:=by subst h; rfl
theorem zzp {L:List Sp} {r q:Int} {D:List Int} {u:Nat} (h1:Ct.inB (dX L u) (-(r * hrL L u)) (r * hrL L u) = true) (h2:Ct.inB (dY L u) (-(r * hrL L u)) (r * hrL L u) = true) (h3:Ct.inB (dD D u) (-(q * hrL L u)) (q * hrL L u) = true):rtB L r q D u = true:=by unfold rtB; rw [h1, h2, h3]; simp
theorem zxb {L:List Sp} {u:Nat}:Ct.inB (L.getD u sp0).x (ownB L u).x0 (ownB L u).x1 = true /\ Ct.inB (L.getD u sp0).y (ownB L u).y0 (ownB L u).y1 = true:=by simp [Ct.inB, ownB, zx1]
theorem zyE {L:List Sp} {D:List Int} (hd:DpB L D) {u:Nat} (hu:u < L.length):Ct.inB (D.getD u 0) (ownB L u).p0 (ownB L u).p1 = true:=by
 have:=hd.dep u hu
 simp only[Ct.inB, ownB, zx1, zLa, decide_eq_true_eq]; simpa using this
theorem nb {b:Bool} (h:(!b) = true) (h2:b = true):False:=by subst h2; cases h
theorem nbf {b:Bool} (h:(!b) = true):b = false:=by cases b <;> simp_all
theorem nbt {b:Bool} (h:(!b) = false):b = true:=by cases b <;> simp_all
theorem zyB {L:List Sp} {r q:Int} {D:List Int} (hs:SuP L r q) (hd:DpB L D) {u:Nat} (h:u < L.length):(0 <= (L.getD u sp0).x /\ (L.getD u sp0).x <= 100) /\ (0 <= (L.getD u sp0).y /\ (L.getD u sp0).y <= 100) /\ 0 <= D.getD u 0 /\ D.getD u 0 <= 99999:=by
 have h1:=hs.sp u h
 have h2:=hd.dep u h
 simp [zuB, spB, -List.getD_eq_getElem?_getD] at h1
 omega
theorem f34 {L:List Sp} {r q:Int} {D:List Int} (hs:SuP L r q) (hd:DpB L D):ACall Tryz.prog G 34 [.agg (eSu L r q), .agg (eTr L D)] (.tup [.v (.bool (ftB L r q D)), Ct.ei 0]):=by
 have hn4:=hs.n4
 have hn1:=hs.n1
 have hln:(L.map eLm).length = L.length:=by simp
 have hon:=zu0 (lkL L.length)
 have hlk:=zu1 L.length
 have hr0:=hs.r0
 have hq0:=hs.q0
 refine zO Tryz.func34 Y (by kernel_rfl) Y ?_
 refine zn (zf (ql Y (zQ Y)) (zf (ql Y (zQ Y)) (zf (zg Y Y) (zf (zg Y Y) (zo (zt (zn (zf (zK Y Y yw (by exact zLb Y)) ?_))))))))
 refine zf (zB (av:=[_]) Y ⟨Y, trivial⟩ (f96 hs)) (zf (qJ Y Y) (zo (zA Y (fun h0=>?_) (fun h0=>?_))))
 ·exfalso; simp at h0
 ·refine zH (zk (zt (zn (zf (zi Y Y jQ) (zf (zl Y Y Y zum) (zf (zi Y Y yI) (zf (zl Y Y Y zum) (zf (zi Y Y zuH) (zf (zl Y Y Y zum) (zf (zi Y Y zuA) ?_))))))))))
  refine zf (zl Y Y Y zum) ?_
  refine zf (zkf (cs:=[_, _, _, _]) Y zzl Y ⟨_, _, Y, (zjo Y), ⟨_, _, Y, (zjo Y), ⟨_, _, Y, (zjo Y), ⟨_, _, Y, (zjo Y), Y⟩⟩⟩⟩ (by rfl) (by simp [ofV])) ?_
  refine zf (zh Y Y) (zo (zF ?_))
  refine qm (ι:={ k:Nat // k < 5 }) (fun k=>match k.1 with | 0=>⟨Tryz.f34.ntmps, frL [(2, .pub (.ptr (eSu L r q))), (3, .pub (.ptr (eTr L D))), (37, .pub (.agg (eTr L D))), (38, I 0)], []⟩ | 1=>⟨Tryz.f34.ntmps, frL [(2, .pub (.ptr (eSu L r q))), (3, .pub (.ptr (eTr L D))), (37, .pub (.agg (eTr L D))), (38, I 1)], []⟩ | 2=>⟨Tryz.f34.ntmps, frL [(2, .pub (.ptr (eSu L r q))), (3, .pub (.ptr (eTr L D))), (37, .pub (.agg (eTr L D))), (38, I 2)], []⟩ | 3=>⟨Tryz.f34.ntmps, frL [(2, .pub (.ptr (eSu L r q))), (3, .pub (.ptr (eTr L D))), (37, .pub (.agg (eTr L D))), (38, I 3)], []⟩ | _=>⟨Tryz.f34.ntmps, frL [(2, .pub (.ptr (eSu L r q))), (3, .pub (.ptr (eTr L D))), (37, .pub (.agg (eTr L D))), (38, I 4)], []⟩) (fun k=>5 - k.1) (⟨0, by omega⟩) ?_ ?_
  ·exact zy _ ⟨Y, Y, Y, Y, trivial⟩ (Y)
  ·rintro ⟨k, hk⟩
   have hk3:k = 0 ∨ k = 1 ∨ k = 2 ∨ k = 3 ∨ k = 4:=by omega
   rcases hk3 with rfl | rfl | rfl | rfl | rfl
   ·dsimp only
    refine zn (zf (qx Y Y Y) (zo (zt (zA Y (fun h1=>?_) (fun h1=>?_)))))
    ·refine zH (zk (zt (zF (zn ?_))))
     refine zf (zes Y Y Y zwc (fun e he=>by rw [Tryz.underlying196] at he; cases he; exact zum) (by omega) (by omega) Y) ?_
     refine zf (qG Y Y) (zo (zn (zf (zK Y Y yw (by exact zLb Y)) (zf (zI Y Y) (zf (zB (av:=[_, _]) Y ⟨Y, Y, trivial⟩ (f97 (lkL L.length) L r q (zu1 _) hn4)) (zf (qJ Y Y) (zo (zA Y (fun h2=>?_) (fun h2=>?_)))))))))
     ·exfalso; simp at h2
     ·refine zH (zJ (zk (zx (zf (zW Y Y Y ⟨by omega, by omega⟩) (zf (zh Y Y) (zM ?_))))))
      exact ⟨⟨1, by omega⟩, by dsimp only; omega, (by refine zy (mem':=[]) [(2, .pub (.ptr (eSu L r q))), (3, .pub (.ptr (eTr L D))), (37, .pub (.agg (eTr L D))), (38, I 1)] ?_ ?_; exact ⟨Y, Y, Y, Y, trivial⟩; exact (Y))⟩
    ·exfalso; simp at h1
   ·dsimp only
    refine zn (zf (qx Y Y Y) (zo (zt (zA Y (fun h1=>?_) (fun h1=>?_)))))
    ·refine zH (zk (zt (zF (zn ?_))))
     refine zf (zes Y Y Y zwc (fun e he=>by rw [Tryz.underlying196] at he; cases he; exact zum) (by omega) (by omega) Y) ?_
     refine zf (qG Y Y) (zo (zn (zf (zK Y Y yw (by exact zLb Y)) (zf (zI Y Y) (zf (zB (av:=[_, _]) Y ⟨Y, Y, trivial⟩ (f97 (xL L) L r q (zxL _) hn4)) (zf (qJ Y Y) (zo (zA Y (fun h2=>?_) (fun h2=>?_)))))))))
     ·exfalso; simp at h2
     ·refine zH (zJ (zk (zx (zf (zW Y Y Y ⟨by omega, by omega⟩) (zf (zh Y Y) (zM ?_))))))
      exact ⟨⟨2, by omega⟩, by dsimp only; omega, (by refine zy (mem':=[]) [(2, .pub (.ptr (eSu L r q))), (3, .pub (.ptr (eTr L D))), (37, .pub (.agg (eTr L D))), (38, I 2)] ?_ ?_; exact ⟨Y, Y, Y, Y, trivial⟩; exact (Y))⟩
    ·exfalso; simp at h1
   ·dsimp only
    refine zn (zf (qx Y Y Y) (zo (zt (zA Y (fun h1=>?_) (fun h1=>?_)))))
    ·refine zH (zk (zt (zF (zn ?_))))
     refine zf (zes Y Y Y zwc (fun e he=>by rw [Tryz.underlying196] at he; cases he; exact zum) (by omega) (by omega) Y) ?_
     refine zf (qG Y Y) (zo (zn (zf (zK Y Y yw (by exact zLb Y)) (zf (zI Y Y) (zf (zB (av:=[_, _]) Y ⟨Y, Y, trivial⟩ (f97 (yL L) L r q (zxN _) hn4)) (zf (qJ Y Y) (zo (zA Y (fun h2=>?_) (fun h2=>?_)))))))))
     ·exfalso; simp at h2
     ·refine zH (zJ (zk (zx (zf (zW Y Y Y ⟨by omega, by omega⟩) (zf (zh Y Y) (zM ?_))))))
      exact ⟨⟨3, by omega⟩, by dsimp only; omega, (by refine zy (mem':=[]) [(2, .pub (.ptr (eSu L r q))), (3, .pub (.ptr (eTr L D))), (37, .pub (.agg (eTr L D))), (38, I 3)] ?_ ?_; exact ⟨Y, Y, Y, Y, trivial⟩; exact (Y))⟩
    ·exfalso; simp at h1
   ·dsimp only
    refine zn (zf (qx Y Y Y) (zo (zt (zA Y (fun h1=>?_) (fun h1=>?_)))))
    ·refine zH (zk (zt (zF (zn ?_))))
     refine zf (zes Y Y Y zwc (fun e he=>by rw [Tryz.underlying196] at he; cases he; exact zum) (by omega) (by omega) Y) ?_
     refine zf (qG Y Y) (zo (zn (zf (zK Y Y yw (by exact zLb Y)) (zf (zI Y Y) (zf (zB (av:=[_, _]) Y ⟨Y, Y, trivial⟩ (f97 D L r q hd.len hn4)) (zf (qJ Y Y) (zo (zA Y (fun h2=>?_) (fun h2=>?_)))))))))
     ·exfalso; simp at h2
     ·refine zH (zJ (zk (zx (zf (zW Y Y Y ⟨by omega, by omega⟩) (zf (zh Y Y) (zM ?_))))))
      exact ⟨⟨4, by omega⟩, by dsimp only; omega, (by refine zy (mem':=[]) [(2, .pub (.ptr (eSu L r q))), (3, .pub (.ptr (eTr L D))), (37, .pub (.agg (eTr L D))), (38, I 4)] ?_ ?_; exact ⟨Y, Y, Y, Y, trivial⟩; exact (Y))⟩
    ·exfalso; simp at h1
   ·dsimp only
    refine zn (zf (qx Y Y Y) (zo (zt (zA Y (fun h1=>?_) (fun h1=>?_)))))
    ·exfalso; simp at h1
    ·refine qg (zS (zS (qh (zk (zt (zn (zf (zi Y Y jQ) (zf (zl Y Y Y zum) (zf (qA Y Y Y Tryz.underlying82) (zf (zh Y Y) ?_))))))))))
     refine zo (zF ?_)
     refine qm (ι:={ u:Nat // u <= L.length }) (fun u=>⟨Tryz.f34.ntmps, frL [(2, .pub (.ptr (eSu L r q))), (3, .pub (.ptr (eTr L D))), (47, .pub (sV L.length)), (48, I (((zuu (lkL L.length)).length:Nat):Int)), (49, I (u.1:Int))], []⟩) (fun u=>L.length - u.1) (⟨0, by omega⟩) ?_ ?_
     ·exact zy _ ⟨Y, Y, Y, Y, Y, trivial⟩ (Y)
     ·rintro ⟨u, hu⟩
      dsimp only
      refine zn (zf (qx Y Y Y) (zo (zt (zA Y (fun h3=>?_) (fun h3=>?_)))))
      ·have hlu:u < L.length:=by simp at h3; omega
       refine zH (zk (zt (zF (zn (zf (zh Y Y) (zf (zD Y Y Y zla (by omega) (zvj hlu Y) zu4) (zf (zl Y Y Y kN) (zf (zg Y Y) (zf (qG Y Y) (zM ?_))))))))))
       refine zk (zn (zf (zg Y Y) (zo (zt (zn (zf (zh Y Y) (zf (jB Y Y Y) (zM ?_))))))))
       refine zk (zA Y (fun h4=>?_) (fun h4=>?_))
       ·have hu0:1 <= u:=by simp at h4; omega
        have hbf:bfN u = 1:=by unfold bfN; rw [if_neg (by omega)]
        refine zx (zf (zi Y Y zdQ) (zf (zl Y Y Y zuq) (zf (zh Y Y) ?_)))
        refine zf (vN Y Y Y ⟨by omega, by omega⟩) ?_
        refine zf (zD Y Y Y zur (by omega) (zvb (show u - 1 < L.length by omega) (by omega)) zun) ?_
        refine zf (zi Y Y zG) (zf (zl Y Y Y zuo) (zf (qA Y Y Y Tryz.underlying106) (zf (zg Y Y) (zo (zt ?_)))))
        refine qY (zy (mem':=[]) [(2, .pub (.ptr (eSu L r q))), (3, .pub (.ptr (eTr L D))), (47, .pub (sV L.length)), (48, I (((zuu (lkL L.length)).length:Nat):Int)), (49, I (u:Int)), (8, I (u:Int)), (9, .pub (.sl [[Ct.ei (lk u)]])), (10, I (bfN u))] ?_ ?_) ?_
        ·exact ⟨Y, Y, Y, Y, Y, Y, Y, (congrArg I hbf.symm), trivial⟩
        ·exact Y
        refine zx (zf (zI Y Y) (zf (qA Y Y Y Tryz.underlying24) (zf (zh Y Y) (zo (zF ?_)))))
        refine qm (ι:={ k:Nat // k < 2 }) (fun k=>match k.1 with | 0=>⟨Tryz.f34.ntmps, frL [(2, .pub (.ptr (eSu L r q))), (3, .pub (.ptr (eTr L D))), (47, .pub (sV L.length)), (48, I (((zuu (lkL L.length)).length:Nat):Int)), (49, I (u:Int)), (8, I (u:Int)), (9, .pub (.sl [[Ct.ei (lk u)]])), (10, I (bfN u)), (64, .pub (.sl [[Ct.ei (lk u)]])), (65, I 1), (66, I 0)], []⟩ | _=>⟨Tryz.f34.ntmps, frL [(2, .pub (.ptr (eSu L r q))), (3, .pub (.ptr (eTr L D))), (47, .pub (sV L.length)), (48, I (((zuu (lkL L.length)).length:Nat):Int)), (49, I (u:Int)), (8, I (u:Int)), (9, .pub (.sl [[Ct.ei (lk u)]])), (10, I (bfN u)), (64, .pub (.sl [[Ct.ei (lk u)]])), (65, I 1), (66, I 1)], []⟩) (fun k=>2 - k.1) (⟨0, by omega⟩) ?_ ?_
        ·exact zy _ ⟨Y, Y, Y, Y, Y, Y, Y, Y, Y, Y, Y, trivial⟩ (Y)
        ·rintro ⟨k, hk⟩
         have hk3:k = 0 ∨ k = 1:=by omega
         rcases hk3 with rfl | rfl
         ·dsimp only
          refine zn (zf (qx Y Y Y) (zo (zt (zA Y (fun h5=>?_) (fun h5=>?_)))))
          ·refine zH (zk (zt (zF (zn ?_))))
           refine zf (zD Y Y Y zjc (by omega) (by exact zuD (k:=0) (by omega)) zut) ?_
           refine zf (zl Y Y Y ty3) (zf (zg Y Y) (zo (zn (zf (zh Y Y) (zf (zh Y Y) ?_)))))
           refine zf (vN Y Y Y ⟨by unfold bfN; split <;> omega, by unfold bfN; split <;> omega⟩) ?_
           refine zf (zB (av:=[_, _, _]) Y ⟨Y, Y, Y, trivial⟩ (f98 _ _ _)) (zf (qJ Y Y) (zo (zA Y (fun h6=>?_) (fun h6=>?_))))
           ·exfalso; simp [zyh] at h6
           ·refine zH (zJ (zk (zx (zf (zW Y Y Y ⟨by omega, by omega⟩) (zf (zh Y Y) (zM ?_))))))
            exact ⟨⟨1, by omega⟩, by dsimp only; omega, (by refine zy (mem':=[]) [(2, .pub (.ptr (eSu L r q))), (3, .pub (.ptr (eTr L D))), (47, .pub (sV L.length)), (48, I (((zuu (lkL L.length)).length:Nat):Int)), (49, I (u:Int)), (8, I (u:Int)), (9, .pub (.sl [[Ct.ei (lk u)]])), (10, I (bfN u)), (64, .pub (.sl [[Ct.ei (lk u)]])), (65, I 1), (66, I 1)] ?_ ?_; exact ⟨Y, Y, Y, Y, Y, Y, Y, Y, Y, Y, Y, trivial⟩; exact (Y))⟩
          ·exfalso; simp at h5
         ·dsimp only
          refine zn (zf (qx Y Y Y) (zo (zt (zA Y (fun h5=>?_) (fun h5=>?_)))))
          ·exfalso; simp at h5
          ·refine qg (zS (zS (qh (zJ (zk (zx (zf (zW Y Y Y ⟨by omega, by omega⟩) (zf (zh Y Y) (zM ?_)))))))))
           exact ⟨⟨u + 1, by omega⟩, by dsimp only; omega, zy _ ⟨Y, Y, Y, Y, Y, trivial⟩ (Y)⟩
       ·have hu0:u = 0:=by simp at h4; omega
        have hbf:bfN u = 0:=by unfold bfN; rw [if_pos hu0]
        refine zH (zk (zt ?_))
        refine qY (zy (mem':=[]) [(2, .pub (.ptr (eSu L r q))), (3, .pub (.ptr (eTr L D))), (47, .pub (sV L.length)), (48, I (((zuu (lkL L.length)).length:Nat):Int)), (49, I (u:Int)), (8, I (u:Int)), (9, .pub (.sl [[Ct.ei (lk u)]])), (10, I (bfN u))] ?_ ?_) ?_
        ·exact ⟨Y, Y, Y, Y, Y, Y, Y, (congrArg I hbf.symm), trivial⟩
        ·exact Y
        refine zx (zf (zI Y Y) (zf (qA Y Y Y Tryz.underlying24) (zf (zh Y Y) (zo (zF ?_)))))
        refine qm (ι:={ k:Nat // k < 2 }) (fun k=>match k.1 with | 0=>⟨Tryz.f34.ntmps, frL [(2, .pub (.ptr (eSu L r q))), (3, .pub (.ptr (eTr L D))), (47, .pub (sV L.length)), (48, I (((zuu (lkL L.length)).length:Nat):Int)), (49, I (u:Int)), (8, I (u:Int)), (9, .pub (.sl [[Ct.ei (lk u)]])), (10, I (bfN u)), (64, .pub (.sl [[Ct.ei (lk u)]])), (65, I 1), (66, I 0)], []⟩ | _=>⟨Tryz.f34.ntmps, frL [(2, .pub (.ptr (eSu L r q))), (3, .pub (.ptr (eTr L D))), (47, .pub (sV L.length)), (48, I (((zuu (lkL L.length)).length:Nat):Int)), (49, I (u:Int)), (8, I (u:Int)), (9, .pub (.sl [[Ct.ei (lk u)]])), (10, I (bfN u)), (64, .pub (.sl [[Ct.ei (lk u)]])), (65, I 1), (66, I 1)], []⟩) (fun k=>2 - k.1) (⟨0, by omega⟩) ?_ ?_
        ·exact zy _ ⟨Y, Y, Y, Y, Y, Y, Y, Y, Y, Y, Y, trivial⟩ (Y)
        ·rintro ⟨k, hk⟩
         have hk3:k = 0 ∨ k = 1:=by omega
         rcases hk3 with rfl | rfl
         ·dsimp only
          refine zn (zf (qx Y Y Y) (zo (zt (zA Y (fun h5=>?_) (fun h5=>?_)))))
          ·refine zH (zk (zt (zF (zn ?_))))
           refine zf (zD Y Y Y zjc (by omega) (by exact zuD (k:=0) (by omega)) zut) ?_
           refine zf (zl Y Y Y ty3) (zf (zg Y Y) (zo (zn (zf (zh Y Y) (zf (zh Y Y) ?_)))))
           refine zf (vN Y Y Y ⟨by unfold bfN; split <;> omega, by unfold bfN; split <;> omega⟩) ?_
           refine zf (zB (av:=[_, _, _]) Y ⟨Y, Y, Y, trivial⟩ (f98 _ _ _)) (zf (qJ Y Y) (zo (zA Y (fun h6=>?_) (fun h6=>?_))))
           ·exfalso; simp [zyh] at h6
           ·refine zH (zJ (zk (zx (zf (zW Y Y Y ⟨by omega, by omega⟩) (zf (zh Y Y) (zM ?_))))))
            exact ⟨⟨1, by omega⟩, by dsimp only; omega, (by refine zy (mem':=[]) [(2, .pub (.ptr (eSu L r q))), (3, .pub (.ptr (eTr L D))), (47, .pub (sV L.length)), (48, I (((zuu (lkL L.length)).length:Nat):Int)), (49, I (u:Int)), (8, I (u:Int)), (9, .pub (.sl [[Ct.ei (lk u)]])), (10, I (bfN u)), (64, .pub (.sl [[Ct.ei (lk u)]])), (65, I 1), (66, I 1)] ?_ ?_; exact ⟨Y, Y, Y, Y, Y, Y, Y, Y, Y, Y, Y, trivial⟩; exact (Y))⟩
          ·exfalso; simp at h5
         ·dsimp only
          refine zn (zf (qx Y Y Y) (zo (zt (zA Y (fun h5=>?_) (fun h5=>?_)))))
          ·exfalso; simp at h5
          ·refine qg (zS (zS (qh (zJ (zk (zx (zf (zW Y Y Y ⟨by omega, by omega⟩) (zf (zh Y Y) (zM ?_)))))))))
           exact ⟨⟨u + 1, by omega⟩, by dsimp only; omega, zy _ ⟨Y, Y, Y, Y, Y, trivial⟩ (Y)⟩
      ·refine qg (zS (zS (qh (zk (zn (zf (zK Y Y yw (by exact zLb Y)) (zf (zi Y Y jQ) (zf (zl Y Y Y zum) ?_))))))))
       refine zf (yl (cs:=[_, _, _, _, _, _]) Y zwk Y ⟨_, _, Y, (zQ Y), ⟨_, _, Y, (zjo Y), Y⟩⟩ (by rfl) (by simp [ofV])) ?_
       refine qP  Y Y Y Y Y Y Y zvl zup Y (by rfl) (zQ Y) Y ?_
       refine zo (zn (zf (zg Y Y) (zf (zg Y Y) (zo (zt (zn (zf (zi Y Y zdQ) ?_)))))))
       refine zf (zl Y Y Y zuq) (zf (qA Y Y Y Tryz.underlying97) (zf (zh Y Y) (zo (zF ?_))))
       refine qm (ι:={ u:Nat // u <= L.length /\ (List.range u).all (rtB L r q D) = true }) (fun u=>⟨Tryz.f34.ntmps, frL [(2, .pub (.ptr (eSu L r q))), (3, .pub (.ptr (eTr L D))), (13, .pub (.ptr (eLk L r q (sV L.length)))), (14, I 0), (15, I 0), (82, .pub (.sl (L.map eLm))), (83, I (((L.map eLm).length:Nat):Int)), (84, I (u.1:Int))], []⟩) (fun u=>L.length - u.1) (⟨0, by simp⟩) ?_ ?_
       ·exact zy _ ⟨Y, Y, Y, Y, Y, Y, Y, Y, trivial⟩ (Y)
       ·rintro ⟨u, hu⟩
        dsimp only
        refine zn (zf (qx Y Y Y) (zo (zt (zA Y (fun h7=>?_) (fun h7=>?_)))))
        ·have hlu:u < L.length:=by simp at h7; omega
         have hbu:=zyB hs hd hlu
         refine zH (zk (zt (zF (zn (zf (zh Y Y) (zf (zg Y Y) (zo (zt (zt ?_)))))))))
         refine zx (zf (zi Y Y jQ) (zf (zl Y Y Y zum) (zf (zh Y Y) (zf (zD Y Y Y zla (by omega) (zvj hlu Y) zu4) (zf (zl Y Y Y kN) (zf (qA Y Y Y Tryz.underlying24) (zf (zh Y Y) (zo (zF ?_)))))))))
         refine qm (ι:={ k:Nat // k < 2 /\ (0 < k -> rtB L r q D u = true) }) (fun k=>match k.1 with | 0=>⟨Tryz.f34.ntmps, frL [(2, .pub (.ptr (eSu L r q))), (3, .pub (.ptr (eTr L D))), (13, .pub (.ptr (eLk L r q (sV L.length)))), (14, I 0), (15, I 0), (82, .pub (.sl (L.map eLm))), (83, I (((L.map eLm).length:Nat):Int)), (84, I (u:Int)), (16, I (u:Int)), (91, .pub (.sl [[Ct.ei (lk u)]])), (92, I 1), (93, I 0)], []⟩ | _=>⟨Tryz.f34.ntmps, frL [(2, .pub (.ptr (eSu L r q))), (3, .pub (.ptr (eTr L D))), (13, .pub (.ptr (eLk L r q (sV L.length)))), (14, I 0), (15, I 0), (82, .pub (.sl (L.map eLm))), (83, I (((L.map eLm).length:Nat):Int)), (84, I (u:Int)), (16, I (u:Int)), (91, .pub (.sl [[Ct.ei (lk u)]])), (92, I 1), (93, I 1)], []⟩) (fun k=>2 - k.1) (⟨0, by omega, by simp⟩) ?_ ?_
         ·exact zy _ ⟨Y, Y, Y, Y, Y, Y, Y, Y, Y, Y, Y, Y, trivial⟩ (Y)
         ·rintro ⟨k, hk, hinv⟩
          have hk3:k = 0 ∨ k = 1:=by omega
          rcases hk3 with rfl | rfl
          ·dsimp only
           refine zn (zf (qx Y Y Y) (zo (zt (zA Y (fun h8=>?_) (fun h8=>?_)))))
           ·refine zH (zk (zt (zF (zn (zf (zh Y Y) ?_)))))
            refine zf (zD Y Y Y zjc (by omega) (by exact zuD (k:=0) (by omega)) zut) ?_
            refine zf (zl Y Y Y ty3) (zf (zg Y Y) (zf (zg Y Y) (zo (zt ?_))))
            refine qY zgO ?_
            refine zfD (fun _=>True) (fun k=>match k with | 0=>.stable | 1=>.stable | 2=>.stable | 3=>.stable | 4=>.stable | 5=>.stable | 6=>.stable | 7=>.stable | 8=>.stable | 9=>.stable | 10=>.stable | 11=>.stable | 12=>.stable | 13=>.stable | 14=>.stable | 15=>.stable | 16=>.stable | 17=>.stable | 18=>.stable | 19=>.stable | 20=>.stable | 21=>.stable | 22=>.stable | 23=>.stable | 24=>.stable | 25=>.own 0 | 26=>.writes | _=>.here) mixed (by kernel_rfl) rfl (by kernel_rfl) trivial ?_
            refine jv Y Y (fun m hm=>zi Y Y yI) (jv Y Y (fun m hm=>zl Y Y Y zum) (jv Y Y (fun m hm=>zh Y Y) (jv Y Y (fun m hm=>zD Y Y Y zla (by omega) (zxH hlu Y) zus) (jv Y Y (fun m hm=>zl Y Y Y kN) (jv Y Y (fun m hm=>zh Y Y) ?_)))))
            refine jv Y Y (fun m hm=>zD Y Y Y zjc (by omega) (by exact zuD (k:=0) (by omega)) zut) ?_
            refine jv Y Y (fun m hm=>zl Y Y Y ty3) (jv Y Y (fun m hm=>zi Y Y zuH) (jv Y Y (fun m hm=>zl Y Y Y zum) (jv Y Y (fun m hm=>zh Y Y) (jv Y Y (fun m hm=>zD Y Y Y zla (by omega) (zx2 hlu Y) zus) (jv Y Y (fun m hm=>zl Y Y Y kN) (jv Y Y (fun m hm=>zh Y Y) ?_))))))
            refine jv Y Y (fun m hm=>zD Y Y Y zjc (by omega) (by exact zuD (k:=0) (by omega)) zut) ?_
            refine jv Y Y (fun m hm=>zl Y Y Y ty3) (jv Y Y (fun m hm=>zi Y Y zuA) (jv Y Y (fun m hm=>zl Y Y Y zum) (jv Y Y (fun m hm=>zh Y Y) ?_)))
            refine jv Y Y (fun m hm=>zD Y Y Y zla (by omega) (zuM (show u < D.length by rw [hd.len]; exact hlu) Y) zus) ?_
            refine jv Y Y (fun m hm=>zl Y Y Y kN) (jv Y Y (fun m hm=>zh Y Y) ?_)
            refine jv Y Y (fun m hm=>zD Y Y Y zjc (by omega) (by exact zuD (k:=0) (by omega)) zut) ?_
            refine jv Y Y (fun m hm=>zl Y Y Y ty3) ?_
            refine jv Y Y (fun m hm=>zkf (cs:=[_, _, _]) Y zxA Y ⟨_, _, Y, (qU Y), ⟨_, _, Y, (qU Y), ⟨_, _, Y, (qU Y), Y⟩⟩⟩ (by rfl) (by simp [ofV])) ?_
            refine ztC Y Y (zmH Y zw1 Y Y Y) ?_
            refine zpt Y Y (zd0 Y Y Y Y Y Y (zQ Y) zwA (by rfl) (by rfl)) trivial ?_
            refine zfa (zk (zt (zt ?_)))
            refine qY (zmJ (k:=0) (cs:=[Ct.ei (L.getD u sp0).x, Ct.ei (L.getD u sp0).y, Ct.ei (D.getD u 0)]) 19 Y Y) ?_
            refine qY (zy (mem':=[.dead]) [(2, .pub (.ptr (eSu L r q))), (3, .pub (.ptr (eTr L D))), (13, .pub (.ptr (eLk L r q (sV L.length)))), (14, I 0), (15, I 0), (82, .pub (.sl (L.map eLm))), (83, I (((L.map eLm).length:Nat):Int)), (84, I (u:Int)), (16, I (u:Int)), (91, .pub (.sl [[Ct.ei (lk u)]])), (92, I 1), (93, I 0), (17, I 0), (18, I (lk u)), (19, .pub (.ptr [Ct.ei (L.getD u sp0).x, Ct.ei (L.getD u sp0).y, Ct.ei (D.getD u 0)]))] ?_ ?_) ?_
            ·exact ⟨Y, Y, Y, Y, Y, Y, Y, Y, Y, Y, Y, Y, Y, Y, Y, trivial⟩
            ·exact Y
            refine qY (zoR 0 ?_ ?_) ?_
            ·exact ⟨trivial, trivial, trivial, trivial, trivial, trivial, trivial, trivial, trivial, trivial, trivial, trivial, trivial, trivial, trivial, trivial⟩
            ·exact trivial
            refine zx (zf (zK Y Y zup (by exact zLb Y)) (zf (zh Y Y) (zf (zh Y Y) (zf (zB (av:=[_, _, _]) Y ⟨Y, Y, Y, trivial⟩ (zwf L r q _ u hlu _ Y)) (zf (zh Y Y) (zo (zF ?_)))))))
            refine qm (ι:={ k:Nat // k < 4 }) (fun k=>match k.1 with | 0=>⟨Tryz.f34.ntmps, frL [(2, .pub (.ptr (eSu L r q))), (3, .pub (.ptr (eTr L D))), (13, .pub (.ptr (eLk L r q (sV L.length)))), (14, I 0), (15, I 0), (82, .pub (.sl (L.map eLm))), (83, I (((L.map eLm).length:Nat):Int)), (84, I (u:Int)), (16, I (u:Int)), (91, .pub (.sl [[Ct.ei (lk u)]])), (92, I 1), (93, I 0), (17, I 0), (18, I (lk u)), (19, .pub (.ptr [Ct.ei (L.getD u sp0).x, Ct.ei (L.getD u sp0).y, Ct.ei (D.getD u 0)])), (126, .pub (.agg (eBx (ownB L u)))), (127, I 0)], []⟩ | 1=>⟨Tryz.f34.ntmps, frL [(2, .pub (.ptr (eSu L r q))), (3, .pub (.ptr (eTr L D))), (13, .pub (.ptr (eLk L r q (sV L.length)))), (14, I 0), (15, I 0), (82, .pub (.sl (L.map eLm))), (83, I (((L.map eLm).length:Nat):Int)), (84, I (u:Int)), (16, I (u:Int)), (91, .pub (.sl [[Ct.ei (lk u)]])), (92, I 1), (93, I 0), (17, I 0), (18, I (lk u)), (19, .pub (.ptr [Ct.ei (L.getD u sp0).x, Ct.ei (L.getD u sp0).y, Ct.ei (D.getD u 0)])), (126, .pub (.agg (eBx (ownB L u)))), (127, I 1)], []⟩ | 2=>⟨Tryz.f34.ntmps, frL [(2, .pub (.ptr (eSu L r q))), (3, .pub (.ptr (eTr L D))), (13, .pub (.ptr (eLk L r q (sV L.length)))), (14, I 0), (15, I 0), (82, .pub (.sl (L.map eLm))), (83, I (((L.map eLm).length:Nat):Int)), (84, I (u:Int)), (16, I (u:Int)), (91, .pub (.sl [[Ct.ei (lk u)]])), (92, I 1), (93, I 0), (17, I 0), (18, I (lk u)), (19, .pub (.ptr [Ct.ei (L.getD u sp0).x, Ct.ei (L.getD u sp0).y, Ct.ei (D.getD u 0)])), (126, .pub (.agg (eBx (ownB L u)))), (127, I 2)], []⟩ | _=>⟨Tryz.f34.ntmps, frL [(2, .pub (.ptr (eSu L r q))), (3, .pub (.ptr (eTr L D))), (13, .pub (.ptr (eLk L r q (sV L.length)))), (14, I 0), (15, I 0), (82, .pub (.sl (L.map eLm))), (83, I (((L.map eLm).length:Nat):Int)), (84, I (u:Int)), (16, I (u:Int)), (91, .pub (.sl [[Ct.ei (lk u)]])), (92, I 1), (93, I 0), (17, I 0), (18, I (lk u)), (19, .pub (.ptr [Ct.ei (L.getD u sp0).x, Ct.ei (L.getD u sp0).y, Ct.ei (D.getD u 0)])), (126, .pub (.agg (eBx (ownB L u)))), (127, I 3)], []⟩) (fun k=>4 - k.1) (⟨0, by omega⟩) ?_ ?_
            ·exact zy _ ⟨Y, Y, Y, Y, Y, Y, Y, Y, Y, Y, Y, Y, Y, Y, Y, Y, Y, trivial⟩ (Y)
            ·rintro ⟨k, hk⟩
             have hk3:k = 0 ∨ k = 1 ∨ k = 2 ∨ k = 3:=by omega
             rcases hk3 with rfl | rfl | rfl | rfl
             ·dsimp only
              refine zn (zf (qx Y Y Y) (zo (zt (zA Y (fun h9=>?_) (fun h9=>?_)))))
              ·refine zH (zk (zt (zF (zn (zf (zh Y Y) ?_)))))
               refine zf (zuZ Y Y Y qf (fun e he=>by rw [Tryz.underlying202] at he; cases he; exact zuz) (by omega) (by omega) Y) ?_
               refine zjZ  Y Y Y Y Y Y Y Y (zg Y Y) Y Y Y zwq zuz Y (by rfl) (zQ Y) Y ?_
               refine zo (zt ?_)
               refine qp mixed (by kernel_rfl) Y ?_
               refine zu Y (zh Y Y) (zu Y (qc Y Y Y zuF (by omega) (by omega)) (zu Y (zl Y Y Y ty3) (zu Y (zi Y Y zqK) (zu Y (zl Y Y Y ty3) (zu Y (zi Y Y zqc) (zu Y (zl Y Y Y ty3) (zu Y (zB (av:=[_, _, _]) Y ⟨Y, Y, Y, trivial⟩ (f98 _ _ _)) (zu Y (qJ Y Y) (qF (zk (zA Y (fun h10=>?_) (fun h10=>?_))))))))))))
               ·exact (nb h10 zxb.1).elim
               ·refine zH (zJ (zk (zx (zf (zW Y Y Y ⟨by omega, by omega⟩) (zf (zh Y Y) (zM ?_))))))
                exact ⟨⟨1, by omega⟩, by dsimp only; omega, (by refine zy (mem':=[]) [(2, .pub (.ptr (eSu L r q))), (3, .pub (.ptr (eTr L D))), (13, .pub (.ptr (eLk L r q (sV L.length)))), (14, I 0), (15, I 0), (82, .pub (.sl (L.map eLm))), (83, I (((L.map eLm).length:Nat):Int)), (84, I (u:Int)), (16, I (u:Int)), (91, .pub (.sl [[Ct.ei (lk u)]])), (92, I 1), (93, I 0), (17, I 0), (18, I (lk u)), (19, .pub (.ptr [Ct.ei (L.getD u sp0).x, Ct.ei (L.getD u sp0).y, Ct.ei (D.getD u 0)])), (126, .pub (.agg (eBx (ownB L u)))), (127, I 1)] ?_ ?_; exact ⟨Y, Y, Y, Y, Y, Y, Y, Y, Y, Y, Y, Y, Y, Y, Y, Y, Y, trivial⟩; exact (Y))⟩
              ·exfalso; simp at h9
             ·dsimp only
              refine zn (zf (qx Y Y Y) (zo (zt (zA Y (fun h9=>?_) (fun h9=>?_)))))
              ·refine zH (zk (zt (zF (zn (zf (zh Y Y) ?_)))))
               refine zf (zuZ Y Y Y qf (fun e he=>by rw [Tryz.underlying202] at he; cases he; exact zuz) (by omega) (by omega) Y) ?_
               refine zjZ  Y Y Y Y Y Y Y Y (zg Y Y) Y Y Y zwq zuz Y (by rfl) (zQ Y) Y ?_
               refine zo (zt ?_)
               refine qp mixed (by kernel_rfl) Y ?_
               refine zu Y (zh Y Y) (zu Y (qc Y Y Y zuF (by omega) (by omega)) (zu Y (zl Y Y Y ty3) (zu Y (zi Y Y zqK) (zu Y (zl Y Y Y ty3) (zu Y (zi Y Y zqc) (zu Y (zl Y Y Y ty3) (zu Y (zB (av:=[_, _, _]) Y ⟨Y, Y, Y, trivial⟩ (f98 _ _ _)) (zu Y (qJ Y Y) (qF (zk (zA Y (fun h10=>?_) (fun h10=>?_))))))))))))
               ·exact (nb h10 zxb.2).elim
               ·refine zH (zJ (zk (zx (zf (zW Y Y Y ⟨by omega, by omega⟩) (zf (zh Y Y) (zM ?_))))))
                exact ⟨⟨2, by omega⟩, by dsimp only; omega, (by refine zy (mem':=[]) [(2, .pub (.ptr (eSu L r q))), (3, .pub (.ptr (eTr L D))), (13, .pub (.ptr (eLk L r q (sV L.length)))), (14, I 0), (15, I 0), (82, .pub (.sl (L.map eLm))), (83, I (((L.map eLm).length:Nat):Int)), (84, I (u:Int)), (16, I (u:Int)), (91, .pub (.sl [[Ct.ei (lk u)]])), (92, I 1), (93, I 0), (17, I 0), (18, I (lk u)), (19, .pub (.ptr [Ct.ei (L.getD u sp0).x, Ct.ei (L.getD u sp0).y, Ct.ei (D.getD u 0)])), (126, .pub (.agg (eBx (ownB L u)))), (127, I 2)] ?_ ?_; exact ⟨Y, Y, Y, Y, Y, Y, Y, Y, Y, Y, Y, Y, Y, Y, Y, Y, Y, trivial⟩; exact (Y))⟩
              ·exfalso; simp at h9
             ·dsimp only
              refine zn (zf (qx Y Y Y) (zo (zt (zA Y (fun h9=>?_) (fun h9=>?_)))))
              ·refine zH (zk (zt (zF (zn (zf (zh Y Y) ?_)))))
               refine zf (zuZ Y Y Y qf (fun e he=>by rw [Tryz.underlying202] at he; cases he; exact zuz) (by omega) (by omega) Y) ?_
               refine zjZ  Y Y Y Y Y Y Y Y (zg Y Y) Y Y Y zwq zuz Y (by rfl) (zQ Y) Y ?_
               refine zo (zt ?_)
               refine qp mixed (by kernel_rfl) Y ?_
               refine zu Y (zh Y Y) (zu Y (qc Y Y Y zuF (by omega) (by omega)) (zu Y (zl Y Y Y ty3) (zu Y (zi Y Y zqK) (zu Y (zl Y Y Y ty3) (zu Y (zi Y Y zqc) (zu Y (zl Y Y Y ty3) (zu Y (zB (av:=[_, _, _]) Y ⟨Y, Y, Y, trivial⟩ (f98 _ _ _)) (zu Y (qJ Y Y) (qF (zk (zA Y (fun h10=>?_) (fun h10=>?_))))))))))))
               ·exact (nb h10 (zyE hd hlu)).elim
               ·refine zH (zJ (zk (zx (zf (zW Y Y Y ⟨by omega, by omega⟩) (zf (zh Y Y) (zM ?_))))))
                exact ⟨⟨3, by omega⟩, by dsimp only; omega, (by refine zy (mem':=[]) [(2, .pub (.ptr (eSu L r q))), (3, .pub (.ptr (eTr L D))), (13, .pub (.ptr (eLk L r q (sV L.length)))), (14, I 0), (15, I 0), (82, .pub (.sl (L.map eLm))), (83, I (((L.map eLm).length:Nat):Int)), (84, I (u:Int)), (16, I (u:Int)), (91, .pub (.sl [[Ct.ei (lk u)]])), (92, I 1), (93, I 0), (17, I 0), (18, I (lk u)), (19, .pub (.ptr [Ct.ei (L.getD u sp0).x, Ct.ei (L.getD u sp0).y, Ct.ei (D.getD u 0)])), (126, .pub (.agg (eBx (ownB L u)))), (127, I 3)] ?_ ?_; exact ⟨Y, Y, Y, Y, Y, Y, Y, Y, Y, Y, Y, Y, Y, Y, Y, Y, Y, trivial⟩; exact (Y))⟩
              ·exfalso; simp at h9
             ·dsimp only
              refine zn (zf (qx Y Y Y) (zo (zt (zA Y (fun h9=>?_) (fun h9=>?_)))))
              ·exfalso; simp at h9
              ·refine qg (zS (zS (qh (zk (zt (zn (zf (zh Y Y) (zf (qR Y Y Y) (zo (zA Y (fun h11=>?_) (fun h11=>?_)))))))))))
               ·have hu0:u = 0:=by simp at h11; omega
                refine qg (zS (qh (zk (zx (zf (zW Y Y Y ⟨by omega, by omega⟩) (zf (zh Y Y) (zM ?_)))))))
                exact ⟨⟨1, by omega, fun _=>by first | exact zze hu0 | exact zzp hxx hyy hdd⟩, by dsimp only; omega, (by refine zy (mem':=[]) [(2, .pub (.ptr (eSu L r q))), (3, .pub (.ptr (eTr L D))), (13, .pub (.ptr (eLk L r q (sV L.length)))), (14, I 0), (15, I 0), (82, .pub (.sl (L.map eLm))), (83, I (((L.map eLm).length:Nat):Int)), (84, I (u:Int)), (16, I (u:Int)), (91, .pub (.sl [[Ct.ei (lk u)]])), (92, I 1), (93, I 1)] ?_ ?_; exact ⟨Y, Y, Y, Y, Y, Y, Y, Y, Y, Y, Y, Y, trivial⟩; exact (Y))⟩
               ·have hu1:1 <= u:=by simp at h11; omega
                have hbv:=zyB hs hd (u:=u - 1) (by omega)
                have hrb:0 <= hrL L u /\ hrL L u <= 1000:=by have:=zyv hs.toSuB (i:=u - 1) (by omega); rwa [show u - 1 + 1 = u by omega] at this
                have hP1:r * hrL L u <= 1000 * 1000:=Int.mul_le_mul hr0.2 hrb.2 hrb.1 (by omega)
                have hP2:q * hrL L u <= 1000 * 1000:=Int.mul_le_mul hq0.2 hrb.2 hrb.1 (by omega)
                have hP3:=Int.mul_nonneg hr0.1 hrb.1
                have hP4:=Int.mul_nonneg hq0.1 hrb.1
                refine zH (zk (zt (zn (zf (zh Y Y) (zf (qx Y Y Y) (zo (zA Y (fun h12=>?_) (fun h12=>?_))))))))
                ·exfalso; simp [zu9 (show 0 < u by omega)] at h12
                ·refine zH (zk (zt ?_))
                 refine qY zgO ?_
                 refine zfD (fun _=>True) (fun k=>match k with | 0=>.stable | 1=>.stable | 2=>.stable | 3=>.stable | 4=>.stable | 5=>.stable | 6=>.stable | 7=>.stable | 8=>.stable | 9=>.stable | 10=>.stable | 11=>.stable | 12=>.stable | 13=>.stable | 14=>.stable | 15=>.stable | 16=>.stable | 17=>.stable | 18=>.stable | 19=>.stable | 20=>.stable | 21=>.stable | 22=>.stable | 23=>.stable | 24=>.stable | 25=>.stable | 26=>.stable | 27=>.stable | 28=>.own 0 | 29=>.writes | _=>.here) mixed (by kernel_rfl) rfl (by kernel_rfl) trivial ?_
                 refine jv Y Y (fun m hm=>zi Y Y yI) (jv Y Y (fun m hm=>zl Y Y Y zum) (jv Y Y (fun m hm=>zh Y Y) (jv Y Y (fun m hm=>vN Y Y Y ⟨by omega, by omega⟩) (jv Y Y (fun m hm=>zD Y Y Y zla (by omega) (zxH (i:=u - 1) (by omega) (by omega)) zus) (jv Y Y (fun m hm=>zl Y Y Y kN) (jv Y Y (fun m hm=>zh Y Y) ?_))))))
                 refine jv Y Y (fun m hm=>zD Y Y Y zjc (by rw [zu9 (by omega)]; exact Int.le_refl _) (by rw [zu9 (show 0 < u by omega)]; exact zuD (k:=0) (by omega)) zut) ?_
                 refine jv Y Y (fun m hm=>zl Y Y Y ty3) (jv Y Y (fun m hm=>zi Y Y zuH) (jv Y Y (fun m hm=>zl Y Y Y zum) (jv Y Y (fun m hm=>zh Y Y) (jv Y Y (fun m hm=>vN Y Y Y ⟨by omega, by omega⟩) (jv Y Y (fun m hm=>zD Y Y Y zla (by omega) (zx2 (i:=u - 1) (by omega) (by omega)) zus) (jv Y Y (fun m hm=>zl Y Y Y kN) (jv Y Y (fun m hm=>zh Y Y) ?_)))))))
                 refine jv Y Y (fun m hm=>zD Y Y Y zjc (by rw [zu9 (by omega)]; exact Int.le_refl _) (by rw [zu9 (show 0 < u by omega)]; exact zuD (k:=0) (by omega)) zut) ?_
                 refine jv Y Y (fun m hm=>zl Y Y Y ty3) (jv Y Y (fun m hm=>zi Y Y zuA) (jv Y Y (fun m hm=>zl Y Y Y zum) (jv Y Y (fun m hm=>zh Y Y) (jv Y Y (fun m hm=>vN Y Y Y ⟨by omega, by omega⟩) ?_))))
                 refine jv Y Y (fun m hm=>zD Y Y Y zla (by omega) (zuM (i:=u - 1) (by rw [hd.len]; omega) (by omega)) zus) ?_
                 refine jv Y Y (fun m hm=>zl Y Y Y kN) (jv Y Y (fun m hm=>zh Y Y) ?_)
                 refine jv Y Y (fun m hm=>zD Y Y Y zjc (by rw [zu9 (by omega)]; exact Int.le_refl _) (by rw [zu9 (show 0 < u by omega)]; exact zuD (k:=0) (by omega)) zut) ?_
                 refine jv Y Y (fun m hm=>zl Y Y Y ty3) ?_
                 refine jv Y Y (fun m hm=>zkf (cs:=[_, _, _]) Y zxA Y ⟨_, _, Y, (qU Y), ⟨_, _, Y, (qU Y), ⟨_, _, Y, (qU Y), Y⟩⟩⟩ (by rfl) (by simp [ofV])) ?_
                 refine ztC Y Y (zmH Y zw1 Y Y Y) ?_
                 refine zpt Y Y (zd0 Y Y Y Y Y Y (zQ Y) zwA (by rfl) (by rfl)) trivial ?_
                 refine zfa (zk (zt (zt ?_)))
                 refine qY (zmJ (k:=0) (cs:=[Ct.ei (L.getD (u - 1) sp0).x, Ct.ei (L.getD (u - 1) sp0).y, Ct.ei (D.getD (u - 1) 0)]) 22 Y Y) ?_
                 refine qY (zy (mem':=[.dead]) [(2, .pub (.ptr (eSu L r q))), (3, .pub (.ptr (eTr L D))), (13, .pub (.ptr (eLk L r q (sV L.length)))), (14, I 0), (15, I 0), (82, .pub (.sl (L.map eLm))), (83, I (((L.map eLm).length:Nat):Int)), (84, I (u:Int)), (16, I (u:Int)), (91, .pub (.sl [[Ct.ei (lk u)]])), (92, I 1), (93, I 0), (17, I 0), (18, I (lk u)), (19, .pub (.ptr [Ct.ei (L.getD u sp0).x, Ct.ei (L.getD u sp0).y, Ct.ei (D.getD u 0)])), (22, .pub (.ptr [Ct.ei (L.getD (u - 1) sp0).x, Ct.ei (L.getD (u - 1) sp0).y, Ct.ei (D.getD (u - 1) 0)]))] ?_ ?_) ?_
                 ·exact ⟨Y, Y, Y, Y, Y, Y, Y, Y, Y, Y, Y, Y, Y, Y, Y, Y, trivial⟩
                 ·exact Y
                 refine qY (zoR 0 ?_ ?_) ?_
                 ·exact ⟨trivial, trivial, trivial, trivial, trivial, trivial, trivial, trivial, trivial, trivial, trivial, trivial, trivial, trivial, trivial, trivial, trivial⟩
                 ·exact trivial
                 refine qp mixed (by kernel_rfl) Y ?_
                 refine zu Y (zK Y Y zup (by exact zLb Y)) (zu Y (zK Y Y zup (by exact zLb Y)) (zu Y (zh Y Y) (zu Y (zB (av:=[_, _]) Y ⟨Y, Y, trivial⟩ (zwP hs.toSuB _ u (by omega) hlu _ Y)) (zu Y (zB (av:=[_, _]) Y ⟨Y, Y, trivial⟩ (f100 L r q _ _ hs.r0 hs.q0 hrb)) (zu Y (zh Y Y) (qF (zk (zF ?_))))))))
                 refine qm (ι:={ k:Nat // k < 4 /\ ((0 < k -> Ct.inB (dX L u) (-(r * hrL L u)) (r * hrL L u) = true) /\ (1 < k -> Ct.inB (dY L u) (-(r * hrL L u)) (r * hrL L u) = true) /\ (2 < k -> Ct.inB (dD D u) (-(q * hrL L u)) (q * hrL L u) = true)) }) (fun k=>match k.1 with | 0=>⟨Tryz.f34.ntmps, frL [(2, .pub (.ptr (eSu L r q))), (3, .pub (.ptr (eTr L D))), (13, .pub (.ptr (eLk L r q (sV L.length)))), (14, I 0), (15, I 0), (82, .pub (.sl (L.map eLm))), (83, I (((L.map eLm).length:Nat):Int)), (84, I (u:Int)), (16, I (u:Int)), (91, .pub (.sl [[Ct.ei (lk u)]])), (92, I 1), (93, I 0), (17, I 0), (18, I (lk u)), (19, .pub (.ptr [Ct.ei (L.getD u sp0).x, Ct.ei (L.getD u sp0).y, Ct.ei (D.getD u 0)])), (22, .pub (.ptr [Ct.ei (L.getD (u - 1) sp0).x, Ct.ei (L.getD (u - 1) sp0).y, Ct.ei (D.getD (u - 1) 0)])), (179, .pub (.agg [Ct.ei (r * hrL L u), Ct.ei (r * hrL L u), Ct.ei (q * hrL L u)])), (180, I 0)], []⟩ | 1=>⟨Tryz.f34.ntmps, frL [(2, .pub (.ptr (eSu L r q))), (3, .pub (.ptr (eTr L D))), (13, .pub (.ptr (eLk L r q (sV L.length)))), (14, I 0), (15, I 0), (82, .pub (.sl (L.map eLm))), (83, I (((L.map eLm).length:Nat):Int)), (84, I (u:Int)), (16, I (u:Int)), (91, .pub (.sl [[Ct.ei (lk u)]])), (92, I 1), (93, I 0), (17, I 0), (18, I (lk u)), (19, .pub (.ptr [Ct.ei (L.getD u sp0).x, Ct.ei (L.getD u sp0).y, Ct.ei (D.getD u 0)])), (22, .pub (.ptr [Ct.ei (L.getD (u - 1) sp0).x, Ct.ei (L.getD (u - 1) sp0).y, Ct.ei (D.getD (u - 1) 0)])), (179, .pub (.agg [Ct.ei (r * hrL L u), Ct.ei (r * hrL L u), Ct.ei (q * hrL L u)])), (180, I 1)], []⟩ | 2=>⟨Tryz.f34.ntmps, frL [(2, .pub (.ptr (eSu L r q))), (3, .pub (.ptr (eTr L D))), (13, .pub (.ptr (eLk L r q (sV L.length)))), (14, I 0), (15, I 0), (82, .pub (.sl (L.map eLm))), (83, I (((L.map eLm).length:Nat):Int)), (84, I (u:Int)), (16, I (u:Int)), (91, .pub (.sl [[Ct.ei (lk u)]])), (92, I 1), (93, I 0), (17, I 0), (18, I (lk u)), (19, .pub (.ptr [Ct.ei (L.getD u sp0).x, Ct.ei (L.getD u sp0).y, Ct.ei (D.getD u 0)])), (22, .pub (.ptr [Ct.ei (L.getD (u - 1) sp0).x, Ct.ei (L.getD (u - 1) sp0).y, Ct.ei (D.getD (u - 1) 0)])), (179, .pub (.agg [Ct.ei (r * hrL L u), Ct.ei (r * hrL L u), Ct.ei (q * hrL L u)])), (180, I 2)], []⟩ | _=>⟨Tryz.f34.ntmps, frL [(2, .pub (.ptr (eSu L r q))), (3, .pub (.ptr (eTr L D))), (13, .pub (.ptr (eLk L r q (sV L.length)))), (14, I 0), (15, I 0), (82, .pub (.sl (L.map eLm))), (83, I (((L.map eLm).length:Nat):Int)), (84, I (u:Int)), (16, I (u:Int)), (91, .pub (.sl [[Ct.ei (lk u)]])), (92, I 1), (93, I 0), (17, I 0), (18, I (lk u)), (19, .pub (.ptr [Ct.ei (L.getD u sp0).x, Ct.ei (L.getD u sp0).y, Ct.ei (D.getD u 0)])), (22, .pub (.ptr [Ct.ei (L.getD (u - 1) sp0).x, Ct.ei (L.getD (u - 1) sp0).y, Ct.ei (D.getD (u - 1) 0)])), (179, .pub (.agg [Ct.ei (r * hrL L u), Ct.ei (r * hrL L u), Ct.ei (q * hrL L u)])), (180, I 3)], []⟩) (fun k=>4 - k.1) (⟨0, by omega, by simp⟩) ?_ ?_
                 ·exact zy _ ⟨Y, Y, Y, Y, Y, Y, Y, Y, Y, Y, Y, Y, Y, Y, Y, Y, Y, Y, trivial⟩ (Y)
                 ·rintro ⟨k, hk, hinv⟩
                  have hk3:k = 0 ∨ k = 1 ∨ k = 2 ∨ k = 3:=by omega
                  rcases hk3 with rfl | rfl | rfl | rfl
                  ·dsimp only
                   refine zn (zf (qx Y Y Y) (zo (zt (zA Y (fun h13=>?_) (fun h13=>?_)))))
                   ·refine zH (zk (zt (zF (zn (zf (zh Y Y) ?_)))))
                    refine zf (zes Y Y Y zuF (fun e he=>by rw [Tryz.underlying200] at he; cases he; exact ty3) (by omega) (by omega) Y) ?_
                    refine zf (zg Y Y) (zf (zg Y Y) (zo (zt ?_)))
                    refine qp mixed (by kernel_rfl) Y ?_
                    refine zu Y (zh Y Y) (zu Y (qc Y Y Y zuF (by omega) (by omega)) (zu Y (zl Y Y Y ty3) (zu Y (zh Y Y) (zu Y (qc Y Y Y zuF (by omega) (by omega)) (zu Y (zl Y Y Y ty3) (zu Y (vN Y Y Y ⟨by omega, by omega⟩) (zu Y (zh Y Y) ?_)))))))
                    refine zu Y (zvJ Y Y ⟨by omega, by omega⟩) ?_
                    refine zu Y (zh Y Y) (zu Y (zB (av:=[_, _, _]) Y ⟨Y, Y, Y, trivial⟩ (f98 _ _ _)) (zu Y (qJ Y Y) (qF (zk (zA Y (fun h14=>?_) (fun h14=>?_))))))
                    ·have hno:ftB L r q D = false:=zxf hlu hu1 (.inl (nbf h14))
                     refine zn (zf (zg Y Y) (zf (zg Y Y) (zo (zN (zZ (zP (zP (zZ (zP ?_)))))))))
                     refine zZ (zP (zP (zZ (zP (zZ (zP (zP (zZ (zP ?_)))))))))
                     exact ⟨.inr Y, ⟨_, Y, ⟨_, _, Y, AVle.of (by rw [hno]), ⟨_, _, Y, AVle.refl _, Y⟩⟩⟩⟩
                    ·have hy0:Ct.inB (dX L u) (-(r * hrL L u)) (r * hrL L u) = true:=nbt h14
                     refine zH (zJ (zk (zx (zf (zW Y Y Y ⟨by omega, by omega⟩) (zf (zh Y Y) (zM ?_))))))
                     exact ⟨⟨1, by omega, ⟨fun _=>hy0, fun h=>absurd h (by omega), fun h=>absurd h (by omega)⟩⟩, by dsimp only; omega, (by refine zy (mem':=[]) [(2, .pub (.ptr (eSu L r q))), (3, .pub (.ptr (eTr L D))), (13, .pub (.ptr (eLk L r q (sV L.length)))), (14, I 0), (15, I 0), (82, .pub (.sl (L.map eLm))), (83, I (((L.map eLm).length:Nat):Int)), (84, I (u:Int)), (16, I (u:Int)), (91, .pub (.sl [[Ct.ei (lk u)]])), (92, I 1), (93, I 0), (17, I 0), (18, I (lk u)), (19, .pub (.ptr [Ct.ei (L.getD u sp0).x, Ct.ei (L.getD u sp0).y, Ct.ei (D.getD u 0)])), (22, .pub (.ptr [Ct.ei (L.getD (u - 1) sp0).x, Ct.ei (L.getD (u - 1) sp0).y, Ct.ei (D.getD (u - 1) 0)])), (179, .pub (.agg [Ct.ei (r * hrL L u), Ct.ei (r * hrL L u), Ct.ei (q * hrL L u)])), (180, I 1)] ?_ ?_; exact ⟨Y, Y, Y, Y, Y, Y, Y, Y, Y, Y, Y, Y, Y, Y, Y, Y, Y, Y, trivial⟩; exact (Y))⟩
                   ·exfalso; simp at h13
                  ·dsimp only
                   refine zn (zf (qx Y Y Y) (zo (zt (zA Y (fun h13=>?_) (fun h13=>?_)))))
                   ·refine zH (zk (zt (zF (zn (zf (zh Y Y) ?_)))))
                    refine zf (zes Y Y Y zuF (fun e he=>by rw [Tryz.underlying200] at he; cases he; exact ty3) (by omega) (by omega) Y) ?_
                    refine zf (zg Y Y) (zf (zg Y Y) (zo (zt ?_)))
                    refine qp mixed (by kernel_rfl) Y ?_
                    refine zu Y (zh Y Y) (zu Y (qc Y Y Y zuF (by omega) (by omega)) (zu Y (zl Y Y Y ty3) (zu Y (zh Y Y) (zu Y (qc Y Y Y zuF (by omega) (by omega)) (zu Y (zl Y Y Y ty3) (zu Y (vN Y Y Y ⟨by omega, by omega⟩) (zu Y (zh Y Y) ?_)))))))
                    refine zu Y (zvJ Y Y ⟨by omega, by omega⟩) ?_
                    refine zu Y (zh Y Y) (zu Y (zB (av:=[_, _, _]) Y ⟨Y, Y, Y, trivial⟩ (f98 _ _ _)) (zu Y (qJ Y Y) (qF (zk (zA Y (fun h14=>?_) (fun h14=>?_))))))
                    ·have hno:ftB L r q D = false:=zxf hlu hu1 (.inr (.inl (nbf h14)))
                     refine zn (zf (zg Y Y) (zf (zg Y Y) (zo (zN (zZ (zP (zP (zZ (zP ?_)))))))))
                     refine zZ (zP (zP (zZ (zP (zZ (zP (zP (zZ (zP ?_)))))))))
                     exact ⟨.inr Y, ⟨_, Y, ⟨_, _, Y, AVle.of (by rw [hno]), ⟨_, _, Y, AVle.refl _, Y⟩⟩⟩⟩
                    ·have hy1:Ct.inB (dY L u) (-(r * hrL L u)) (r * hrL L u) = true:=nbt h14
                     refine zH (zJ (zk (zx (zf (zW Y Y Y ⟨by omega, by omega⟩) (zf (zh Y Y) (zM ?_))))))
                     exact ⟨⟨2, by omega, ⟨fun _=>hinv.1 (by omega), fun _=>hy1, fun h=>absurd h (by omega)⟩⟩, by dsimp only; omega, (by refine zy (mem':=[]) [(2, .pub (.ptr (eSu L r q))), (3, .pub (.ptr (eTr L D))), (13, .pub (.ptr (eLk L r q (sV L.length)))), (14, I 0), (15, I 0), (82, .pub (.sl (L.map eLm))), (83, I (((L.map eLm).length:Nat):Int)), (84, I (u:Int)), (16, I (u:Int)), (91, .pub (.sl [[Ct.ei (lk u)]])), (92, I 1), (93, I 0), (17, I 0), (18, I (lk u)), (19, .pub (.ptr [Ct.ei (L.getD u sp0).x, Ct.ei (L.getD u sp0).y, Ct.ei (D.getD u 0)])), (22, .pub (.ptr [Ct.ei (L.getD (u - 1) sp0).x, Ct.ei (L.getD (u - 1) sp0).y, Ct.ei (D.getD (u - 1) 0)])), (179, .pub (.agg [Ct.ei (r * hrL L u), Ct.ei (r * hrL L u), Ct.ei (q * hrL L u)])), (180, I 2)] ?_ ?_; exact ⟨Y, Y, Y, Y, Y, Y, Y, Y, Y, Y, Y, Y, Y, Y, Y, Y, Y, Y, trivial⟩; exact (Y))⟩
                   ·exfalso; simp at h13
                  ·dsimp only
                   refine zn (zf (qx Y Y Y) (zo (zt (zA Y (fun h13=>?_) (fun h13=>?_)))))
                   ·refine zH (zk (zt (zF (zn (zf (zh Y Y) ?_)))))
                    refine zf (zes Y Y Y zuF (fun e he=>by rw [Tryz.underlying200] at he; cases he; exact ty3) (by omega) (by omega) Y) ?_
                    refine zf (zg Y Y) (zf (zg Y Y) (zo (zt ?_)))
                    refine qp mixed (by kernel_rfl) Y ?_
                    refine zu Y (zh Y Y) (zu Y (qc Y Y Y zuF (by omega) (by omega)) (zu Y (zl Y Y Y ty3) (zu Y (zh Y Y) (zu Y (qc Y Y Y zuF (by omega) (by omega)) (zu Y (zl Y Y Y ty3) (zu Y (vN Y Y Y ⟨by omega, by omega⟩) (zu Y (zh Y Y) ?_)))))))
                    refine zu Y (zvJ Y Y ⟨by omega, by omega⟩) ?_
                    refine zu Y (zh Y Y) (zu Y (zB (av:=[_, _, _]) Y ⟨Y, Y, Y, trivial⟩ (f98 _ _ _)) (zu Y (qJ Y Y) (qF (zk (zA Y (fun h14=>?_) (fun h14=>?_))))))
                    ·have hno:ftB L r q D = false:=zxf hlu hu1 (.inr (.inr (nbf h14)))
                     refine zn (zf (zg Y Y) (zf (zg Y Y) (zo (zN (zZ (zP (zP (zZ (zP ?_)))))))))
                     refine zZ (zP (zP (zZ (zP (zZ (zP (zP (zZ (zP ?_)))))))))
                     exact ⟨.inr Y, ⟨_, Y, ⟨_, _, Y, AVle.of (by rw [hno]), ⟨_, _, Y, AVle.refl _, Y⟩⟩⟩⟩
                    ·have hy2:Ct.inB (dD D u) (-(q * hrL L u)) (q * hrL L u) = true:=nbt h14
                     refine zH (zJ (zk (zx (zf (zW Y Y Y ⟨by omega, by omega⟩) (zf (zh Y Y) (zM ?_))))))
                     exact ⟨⟨3, by omega, ⟨fun _=>hinv.1 (by omega), fun _=>hinv.2.1 (by omega), fun _=>hy2⟩⟩, by dsimp only; omega, (by refine zy (mem':=[]) [(2, .pub (.ptr (eSu L r q))), (3, .pub (.ptr (eTr L D))), (13, .pub (.ptr (eLk L r q (sV L.length)))), (14, I 0), (15, I 0), (82, .pub (.sl (L.map eLm))), (83, I (((L.map eLm).length:Nat):Int)), (84, I (u:Int)), (16, I (u:Int)), (91, .pub (.sl [[Ct.ei (lk u)]])), (92, I 1), (93, I 0), (17, I 0), (18, I (lk u)), (19, .pub (.ptr [Ct.ei (L.getD u sp0).x, Ct.ei (L.getD u sp0).y, Ct.ei (D.getD u 0)])), (22, .pub (.ptr [Ct.ei (L.getD (u - 1) sp0).x, Ct.ei (L.getD (u - 1) sp0).y, Ct.ei (D.getD (u - 1) 0)])), (179, .pub (.agg [Ct.ei (r * hrL L u), Ct.ei (r * hrL L u), Ct.ei (q * hrL L u)])), (180, I 3)] ?_ ?_; exact ⟨Y, Y, Y, Y, Y, Y, Y, Y, Y, Y, Y, Y, Y, Y, Y, Y, Y, Y, trivial⟩; exact (Y))⟩
                   ·exfalso; simp at h13
                  ·dsimp only
                   refine zn (zf (qx Y Y Y) (zo (zt (zA Y (fun h13=>?_) (fun h13=>?_)))))
                   ·exfalso; simp at h13
                   ·have hxx:=hinv.1 (by omega)
                    have hyy:=hinv.2.1 (by omega)
                    have hdd:=hinv.2.2 (by omega)
                    refine qg (zS (zS (qh (zk (zn (zf (zi Y Y jQ) (zf (zl Y Y Y zum) (zf (zh Y Y) (zf (zD Y Y Y zla (by omega) (zvj hlu Y) zu4) (zf (zl Y Y Y kN) ?_))))))))))
                    refine zf (zh Y Y) ?_
                    refine zf (zwJ Y Y Y Y zjc zut (by omega) (by omega) (by simp)) ?_
                    refine zf (zh Y Y) (zf (zB (av:=[_, _]) Y ⟨Y, Y, trivial⟩ (zyp (lk u))) (zo (zA Y (fun h15=>?_) (fun h15=>?_))))
                    ·exfalso; simp at h15
                    ·refine zH (zJ (zk (zx (zf (zW Y Y Y ⟨by omega, by omega⟩) (zf (zh Y Y) (zM ?_))))))
                     exact ⟨⟨1, by omega, fun _=>by first | exact zze hu0 | exact zzp hxx hyy hdd⟩, by dsimp only; omega, (by refine zy (mem':=[]) [(2, .pub (.ptr (eSu L r q))), (3, .pub (.ptr (eTr L D))), (13, .pub (.ptr (eLk L r q (sV L.length)))), (14, I 0), (15, I 0), (82, .pub (.sl (L.map eLm))), (83, I (((L.map eLm).length:Nat):Int)), (84, I (u:Int)), (16, I (u:Int)), (91, .pub (.sl [[Ct.ei (lk u)]])), (92, I 1), (93, I 1)] ?_ ?_; exact ⟨Y, Y, Y, Y, Y, Y, Y, Y, Y, Y, Y, Y, trivial⟩; exact (Y))⟩
           ·exfalso; simp at h8
          ·dsimp only
           refine zn (zf (qx Y Y Y) (zo (zt (zA Y (fun h8=>?_) (fun h8=>?_)))))
           ·exfalso; simp at h8
           ·have hrt:rtB L r q D u = true:=hinv (by omega)
            refine qg (zS (zS (qh (zk (zt (zn (zf (zh Y Y) (zf (qR Y Y Y) (zo (zA Y (fun h16=>?_) (fun h16=>?_)))))))))))
            ·have hu0:u = 0:=by simp at h16; omega
             refine qg (zS (qh (zk (zx (zf (zW Y Y Y ⟨by omega, by omega⟩) (zf (zh Y Y) (zM ?_)))))))
             exact ⟨⟨u + 1, by omega, zxu hu.2 hrt⟩, by dsimp only; omega, zy _ ⟨Y, Y, Y, Y, Y, Y, Y, Y, trivial⟩ (Y)⟩
            ·have hu1:1 <= u:=by simp at h16; omega
             refine zH (zk (zn (zf (zi Y Y zdQ) (zf (zl Y Y Y zuq) (zf (zh Y Y) (zf (vN Y Y Y ⟨by omega, by omega⟩) ?_))))))
             refine zf (zD Y Y Y zur (by omega) (zvb (show u - 1 < L.length by omega) (by omega)) zun) ?_
             refine zf (zi Y Y zG) (zf (zl Y Y Y zuo) (zf (qA Y Y Y Tryz.underlying106) (zf (zh Y Y) (zo (zF ?_)))))
             refine qm (ι:={ k:Nat // k < 2 }) (fun k=>match k.1 with | 0=>⟨Tryz.f34.ntmps, frL [(2, .pub (.ptr (eSu L r q))), (3, .pub (.ptr (eTr L D))), (13, .pub (.ptr (eLk L r q (sV L.length)))), (14, I 0), (15, I 0), (82, .pub (.sl (L.map eLm))), (83, I (((L.map eLm).length:Nat):Int)), (84, I (u:Int)), (16, I (u:Int)), (216, I 1), (217, I 0)], []⟩ | _=>⟨Tryz.f34.ntmps, frL [(2, .pub (.ptr (eSu L r q))), (3, .pub (.ptr (eTr L D))), (13, .pub (.ptr (eLk L r q (sV L.length)))), (14, I 0), (15, I 0), (82, .pub (.sl (L.map eLm))), (83, I (((L.map eLm).length:Nat):Int)), (84, I (u:Int)), (16, I (u:Int)), (216, I 1), (217, I 1)], []⟩) (fun k=>2 - k.1) (⟨0, by omega⟩) ?_ ?_
             ·exact zy _ ⟨Y, Y, Y, Y, Y, Y, Y, Y, Y, Y, Y, trivial⟩ (Y)
             ·rintro ⟨k, hk⟩
              have hk3:k = 0 ∨ k = 1:=by omega
              rcases hk3 with rfl | rfl
              ·dsimp only
               refine zn (zf (qx Y Y Y) (zo (zt (zA Y (fun h17=>?_) (fun h17=>?_)))))
               ·refine zH (zk (zt (zF (zn (zf (zh Y Y) (zf (zg Y Y) (zo (zn ?_))))))))
                refine zf (zi Y Y jQ) (zf (zl Y Y Y zum) (zf (zh Y Y) (zf (zD Y Y Y zla (by omega) (zvj hlu Y) zu4) (zf (zl Y Y Y kN) (zf (zh Y Y) (zf (zB (av:=[_, _]) Y ⟨Y, Y, trivial⟩ (f102 (lk u) 0)) (zf (qJ Y Y) (zo (zA Y (fun h18=>?_) (fun h18=>?_))))))))))
                ·exfalso; simp [zu9 (show 0 < u by omega)] at h18
                ·refine zH (zJ (zk (zx (zf (zW Y Y Y ⟨by omega, by omega⟩) (zf (zh Y Y) (zM ?_))))))
                 exact ⟨⟨1, by omega⟩, by dsimp only; omega, (by refine zy (mem':=[]) [(2, .pub (.ptr (eSu L r q))), (3, .pub (.ptr (eTr L D))), (13, .pub (.ptr (eLk L r q (sV L.length)))), (14, I 0), (15, I 0), (82, .pub (.sl (L.map eLm))), (83, I (((L.map eLm).length:Nat):Int)), (84, I (u:Int)), (16, I (u:Int)), (216, I 1), (217, I 1)] ?_ ?_; exact ⟨Y, Y, Y, Y, Y, Y, Y, Y, Y, Y, Y, trivial⟩; exact (Y))⟩
               ·exfalso; simp at h17
              ·dsimp only
               refine zn (zf (qx Y Y Y) (zo (zt (zA Y (fun h17=>?_) (fun h17=>?_)))))
               ·exfalso; simp at h17
               ·refine qg (zS (zS (qh (zJ (zk (zx (zf (zW Y Y Y ⟨by omega, by omega⟩) (zf (zh Y Y) (zM ?_)))))))))
                exact ⟨⟨u + 1, by omega, zxu hu.2 hrt⟩, by dsimp only; omega, zy _ ⟨Y, Y, Y, Y, Y, Y, Y, Y, trivial⟩ (Y)⟩
        ·have hge:u = L.length:=by simp at h7; omega
         have hfin:ftB L r q D = true:=by unfold ftB; rw [← hge]; exact hu.2
         refine qg (zS (zS (qh (zk (zn (zf (zh Y Y) (zf (zi Y Y zvo) (zf (zl Y Y Y ty3) (zf (zbt Y Y Y) (zf (zh Y Y) ?_))))))))))
         refine zC Y (fun hg=>zh Y Y) (zC Y (fun hg=>zi Y Y zvp) (zC Y (fun hg=>zl Y Y Y ty3) (zC Y (fun hg=>zbt Y Y Y) (zf (jg Y Y Y Y) (zf (zg Y Y) (zf (zg Y Y) (zo (zN ?_))))))))
         exact ⟨.inr Y, ⟨_, Y, ⟨_, _, Y, AVle.of (by rw [hfin]; rfl), ⟨_, _, Y, AVle.refl _, Y⟩⟩⟩⟩
end Tp
end Go.Av
end
