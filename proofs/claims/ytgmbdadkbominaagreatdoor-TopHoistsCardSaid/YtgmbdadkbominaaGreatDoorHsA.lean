import Derived.Test.YtgmbdadkbominaaGreatDoorPlatX
import Derived.Test.YtgmbdadkbominaaGreatDoorProg
import Derived.Test.YtgmbdadkbominaaGreatDoorPlatY
import Derived.Test.YtgmbdadkbominaaGreatDoorPlatN
import Derived.ChangeKeysEq
import Derived.Laws.StructEq
set_option linter.unusedVariables false
set_option linter.unusedSimpArgs false
section
namespace Go.Av
namespace Hs
open Go.Proofs
set_option maxRecDepth 100000
set_option maxHeartbeats 1000000
variable {G:Glob}
theorem mixed:Tryz.prog.follows .mixedOrders = true:=by kernel_rfl
theorem zqK:fldIs Tryz.prog 46 0 0 = true:=by kernel_rfl
theorem ty3:tyIs Tryz.prog 3 false 1 = true:=by kernel_rfl
theorem zqc:fldIs Tryz.prog 46 1 1 = true:=by kernel_rfl
theorem zA1:kw Tryz.prog 29 7 = true:=by kernel_rfl
theorem zAs:tyIs Tryz.prog 48 true 7 = true:=by kernel_rfl
theorem zFM:kw Tryz.prog 30 3 = true:=by kernel_rfl
theorem zES:tyIs Tryz.prog 225 true 3 = true:=by kernel_rfl
theorem zCn:kw Tryz.prog 31 4 = true:=by kernel_rfl
theorem zFB:tyIs Tryz.prog 55 true 4 = true:=by kernel_rfl
theorem zDB:fldIs Tryz.prog 48 0 0 = true:=by kernel_rfl
theorem zDR:fldIs Tryz.prog 33 0 0 = true:=by kernel_rfl
theorem zDx:fldIs Tryz.prog 48 1 1 = true:=by kernel_rfl
theorem zDS:fldIs Tryz.prog 48 2 2 = true:=by kernel_rfl
theorem zB7:fldIs Tryz.prog 48 3 3 = true:=by kernel_rfl
theorem zuz:tyIs Tryz.prog 46 true 2 = true:=by kernel_rfl
theorem zE0:fldIs Tryz.prog 48 4 5 = true:=by kernel_rfl
theorem zE2:fldIs Tryz.prog 48 5 6 = true:=by kernel_rfl
theorem zDC:fldIs Tryz.prog 225 0 0 = true:=by kernel_rfl
theorem zDE:fldIs Tryz.prog 225 1 1 = true:=by kernel_rfl
theorem zD6:fldIs Tryz.prog 225 2 2 = true:=by kernel_rfl
theorem zBf:fldIs Tryz.prog 55 0 0 = true:=by kernel_rfl
theorem zEZ:fldIs Tryz.prog 55 1 2 = true:=by kernel_rfl
theorem zE4:fldIs Tryz.prog 55 2 3 = true:=by kernel_rfl
theorem zz8:tyIs Tryz.prog 33 true 9 = true:=by kernel_rfl
theorem zzR:fldIs Tryz.prog 33 1 1 = true:=by kernel_rfl
theorem zq0:tyIs Tryz.prog 29 false 1 = true:=by kernel_rfl
theorem zBn:fldIs Tryz.prog 33 2 2 = true:=by kernel_rfl
theorem zei:tyIs Tryz.prog 30 false 1 = true:=by kernel_rfl
theorem zAa:fldIs Tryz.prog 33 3 3 = true:=by kernel_rfl
theorem zBt:tyIs Tryz.prog 31 false 1 = true:=by kernel_rfl
theorem zEc:fldIs Tryz.prog 33 4 4 = true:=by kernel_rfl
theorem zEe:fldIs Tryz.prog 33 5 5 = true:=by kernel_rfl
theorem zEl:fldIs Tryz.prog 33 6 6 = true:=by kernel_rfl
theorem zD2:fldIs Tryz.prog 33 7 7 = true:=by kernel_rfl
theorem zD3:fldIs Tryz.prog 33 8 8 = true:=by kernel_rfl
structure Rep where
 st:Int
 tk:Int
 pr:Int
 dl:Int
 dh:Int
 ug:Int
 co:Int
structure Lnk where
 a:Int
 b:Int
 df:Int
structure Prt where
 ol:Int
 oh:Int
 dy:Int
 nt:Int
structure Wt where
 n:Int
 reps:List Rep
 lnks:List Lnk
 prts:List Prt
 fall:Int
 win:Int
 hold:Int
 dawn:Int
 dusk:Int
abbrev ei (x:Int):AV:=.v (.int .i64 x)
def eRep (r:Rep):List AV:=[ei r.st, ei r.tk, ei r.pr, ei r.dl, ei r.dh, ei r.ug, ei r.co]
def eLnk (l:Lnk):List AV:=[ei l.a, ei l.b, ei l.df]
def ePrt (p:Prt):List AV:=[ei p.ol, ei p.oh, ei p.dy, ei p.nt]
def eWt (w:Wt):List AV:=[ei w.n, .sl (w.reps.map eRep), .sl (w.lnks.map eLnk), .sl (w.prts.map ePrt), ei w.fall, ei w.win, ei w.hold, ei w.dawn, ei w.dusk]
def inB (a l h:Int):Bool:=decide (l <= a) && decide (a <= h)
theorem zz6 {a l h:Int}:inB a l h = true ↔ l <= a /\ a <= h:=by simp [inB]
def m1 (n:Int):Int:=IntKind.i64.wrap (n - 1)
theorem zEg {P:Program} {fr:Nat -> EV} {mem:List PO} {o:Oper} {T U:TypeId} {x:Operand} {p:Int} (ho:o.op = .binOp .sub T x (.const (.int .i64 1)) U) (hx:evO fr x = I p):OpY P G fr mem o (I (m1 p)):=
 yN ho hx rfl (fun w=>by simp [binOp, Op.intArith, m1]) rfl
def zB5 (a b m:Int):Bool:=decide (a ≥ 0) && decide (a <= b) && decide (b <= m)
def zz9 (n:Int) (r:Rep):Bool:=inB r.st 0 (m1 n) && inB r.tk 0 10080 && inB r.pr 0 99999 && zB5 r.dl r.dh 2880 && inB r.ug 0 2880 && inB r.co 0 10000
def zAK (n:Int) (l:Lnk):Bool:=inB l.a 0 (m1 n) && inB l.b 0 (m1 n) && (l.a != l.b) && inB l.df 1 99999
def zAk (p:Prt):Bool:=zB5 p.ol p.oh 2880 && decide (p.oh - p.ol <= 300) && inB p.dy 0 50000 && inB p.nt 0 50000
def zDr (w:Wt):Bool:=inB w.n 1 6 && decide ((w.reps.length:Int) <= 9) && decide ((w.lnks.length:Int) <= 8) && decide ((w.prts.length:Int) <= 4) && inB w.fall 1 99999 && inB w.win 1 2880 && inB w.hold 1 2880 && decide (w.dawn ≥ 0) && decide (w.dawn <= w.dusk) && decide (w.dusk <= 1440) && !(w.reps.any fun r=>!zz9 w.n r) && !(w.lnks.any fun l=>!zAK w.n l) && !(w.prts.any fun p=>!zAk p)
def ixF {α:Type} (p:α -> Bool) (xs:List α):Int:=if xs.findIdx p < xs.length then (xs.findIdx p:Int) else -1
theorem zE1 {α:Type} {p:α -> Bool} {xs:List α} {k:Nat} (hk:k < xs.length) (h:p xs[k] = true) (hn:∀ j (hj:j < xs.length), j < k -> p xs[j] = false):ixF p xs = (k:Int):=by
 have e:xs.findIdx p = k:=(List.findIdx_eq hk).2 ⟨h, fun j hj=>hn j (by omega) hj⟩
 unfold ixF; rw [e, if_pos hk]
theorem zE3 {α:Type} {p:α -> Bool} {xs:List α} (hn:∀ j (hj:j < xs.length), p xs[j] = false):ixF p xs = -1:=by
 unfold ixF
 rw [if_neg]
 intro h
 have:=List.findIdx_getElem (w:=h)
 rw [hn _ h] at this; cases this
theorem zEk {α:Type} {p:α -> Bool} {xs:List α}:decide (ixF p xs ≥ 0) = xs.any p:=by
 unfold ixF
 rw [Bool.eq_iff_iff, decide_eq_true_eq, List.any_eq_true]
 split
 ·rename_i h
  exact ⟨fun _=>List.findIdx_lt_length.1 h, fun _=>by omega⟩
 ·rename_i h
  exact ⟨fun h2=>by omega, fun h2=>absurd (List.findIdx_lt_length.2 h2) h⟩
theorem zBh {α:Type} {e:α -> List AV} {xs:List α} {k:Nat} (h:k < xs.length):(xs.map e)[k]? = some (e xs[k]):=by simp [h]
theorem zz7 {α:Type} {e:α -> List AV} {xs:List α} {n:Nat} (h:∀ x, (e x).length = n):∀ q ∈ xs.map e, q.length = n:=fun q hq=>by
 obtain ⟨t, _, rfl⟩:=List.mem_map.1 hq; exact h t
theorem f148 (a l h:Int):ACall Tryz.prog G 148 [ei a, ei l, ei h] (.v (.bool (inB a l h))):=by
 refine zO Tryz.func148 rfl (by kernel_rfl) rfl ?_
 refine zn (jy rfl rfl (zg rfl rfl) (zo (zn (jy rfl rfl (zh rfl rfl) (jy rfl rfl (zh rfl rfl) (jy rfl rfl (kG rfl rfl rfl) (jy rfl rfl (zh rfl rfl) (zjW rfl rfl rfl (fun hg=>zh rfl rfl) ?_))))))))
 refine zjW rfl rfl rfl (fun hg=>zh rfl rfl) (zjW rfl rfl rfl (fun hg=>zbt rfl (if_pos hg) (if_pos hg)) (jy rfl rfl (jg rfl rfl rfl rfl) (jy rfl rfl (zg rfl rfl) (zo (zN ?_)))))
 exact ⟨.inr rfl, AVle.of (by simp [inB])⟩
theorem f117 (a l h:Int):ACall Tryz.prog G 117 [ei a, ei l, ei h] (.v (.bool (inB a l h))):=by
 refine zO Tryz.func117 rfl (by kernel_rfl) rfl ?_
 refine zn (jy rfl rfl (zg rfl rfl) (zo (zn (jy rfl rfl (zh rfl rfl) (jy rfl rfl (zh rfl rfl) (jy rfl rfl (kG rfl rfl rfl) (jy rfl rfl (zh rfl rfl) (zjW rfl rfl rfl (fun hg=>zh rfl rfl) ?_))))))))
 refine zjW rfl rfl rfl (fun hg=>zh rfl rfl) (zjW rfl rfl rfl (fun hg=>zbt rfl (if_pos hg) (if_pos hg)) (jy rfl rfl (jg rfl rfl rfl rfl) (jy rfl rfl (zg rfl rfl) (zo (zN ?_)))))
 exact ⟨.inr rfl, AVle.of (by simp [inB])⟩
theorem f218 (a b m:Int):ACall Tryz.prog G 218 [.agg [ei a, ei b], ei m] (.v (.bool (zB5 a b m))):=by
 refine zO Tryz.func218 rfl (by kernel_rfl) rfl ?_
 refine zn (jy rfl rfl (ql rfl (zQ rfl)) (jy rfl rfl (zg rfl rfl) (zo (zn (jy rfl rfl (zi rfl rfl zqK) (jy rfl rfl (zl rfl rfl rfl ty3) (jy rfl rfl (kG rfl rfl rfl) (jy rfl rfl (zh rfl rfl) ?_))))))))
 refine zjW rfl rfl rfl (fun hg=>zi rfl rfl zqK) (zjW rfl rfl rfl (fun hg=>zl rfl (if_pos hg) rfl ty3) (zjW rfl rfl rfl (fun hg=>zi rfl rfl zqc) (zjW rfl rfl rfl (fun hg=>zl rfl (if_pos hg) rfl ty3) (zjW rfl rfl rfl (fun hg=>zbt rfl (if_pos hg) (if_pos hg)) (jy rfl rfl (jg rfl rfl rfl rfl) (jy rfl rfl (zh rfl rfl) (zjW rfl rfl rfl (fun hg=>zi rfl rfl zqc) (zjW rfl rfl rfl (fun hg=>zl rfl (if_pos hg) rfl ty3) (zjW rfl rfl rfl (fun hg=>zh rfl rfl) (zjW rfl rfl rfl (fun hg=>zbt rfl (if_pos hg) (if_pos hg)) (jy rfl rfl (jg rfl rfl rfl rfl) ?_)))))))))))
 refine jy rfl rfl (zg rfl rfl) (zo (zN ?_))
 exact ⟨.inr rfl, AVle.of (by simp [zB5, Bool.and_assoc])⟩
theorem f118 (a b m:Int):ACall Tryz.prog G 118 [.agg [ei a, ei b], ei m] (.v (.bool (zB5 a b m))):=by
 refine zO Tryz.func118 rfl (by kernel_rfl) rfl ?_
 refine zn (jy rfl rfl (ql rfl (zQ rfl)) (jy rfl rfl (zg rfl rfl) (zo (zn (jy rfl rfl (zi rfl rfl zqK) (jy rfl rfl (zl rfl rfl rfl ty3) (jy rfl rfl (kG rfl rfl rfl) (jy rfl rfl (zh rfl rfl) ?_))))))))
 refine zjW rfl rfl rfl (fun hg=>zi rfl rfl zqK) (zjW rfl rfl rfl (fun hg=>zl rfl (if_pos hg) rfl ty3) (zjW rfl rfl rfl (fun hg=>zi rfl rfl zqc) (zjW rfl rfl rfl (fun hg=>zl rfl (if_pos hg) rfl ty3) (zjW rfl rfl rfl (fun hg=>zbt rfl (if_pos hg) (if_pos hg)) (jy rfl rfl (jg rfl rfl rfl rfl) (jy rfl rfl (zh rfl rfl) (zjW rfl rfl rfl (fun hg=>zi rfl rfl zqc) (zjW rfl rfl rfl (fun hg=>zl rfl (if_pos hg) rfl ty3) (zjW rfl rfl rfl (fun hg=>zh rfl rfl) (zjW rfl rfl rfl (fun hg=>zbt rfl (if_pos hg) (if_pos hg)) (jy rfl rfl (jg rfl rfl rfl rfl) ?_)))))))))))
 refine jy rfl rfl (zg rfl rfl) (zo (zN ?_))
 exact ⟨.inr rfl, AVle.of (by simp [zB5, Bool.and_assoc])⟩
theorem f217 {p:Rep -> Bool} (c:FuncId) (cs:List AV) (xs:List Rep) (hx:xs.length <= 1000000) (hp:∀ x ∈ xs, ACall Tryz.prog G c ([.agg (eRep x)] ++ cs) (.v (.bool (p x)))):ACall Tryz.prog G 217 [.sl (xs.map eRep), .fn c [] cs] (ei (ixF p xs)):=by
 have hlm:(xs.map eRep).length = xs.length:=by simp
 refine zO Tryz.func217 rfl (by kernel_rfl) rfl ?_
 refine zn (jy rfl rfl (zg rfl rfl) (zo (zt (zn (jy rfl rfl (zI rfl rfl) (jy rfl rfl (qA rfl rfl rfl Tryz.underlying29) (jy rfl rfl (zh rfl rfl) (zM ?_))))))))
 refine zk (zF ?_)
 refine qm (ι:={ k:Nat // k <= xs.length /\ ∀ j (hj:j < xs.length), j < k -> p xs[j] = false }) (fun k=>⟨Tryz.f217.ntmps, frL [(0, .pub (.sl (xs.map eRep))), (1, .pub (.fn c [] cs)), (7, I (((xs.map eRep).length:Nat):Int)), (8, I (k.1:Int))], []⟩) (fun k=>xs.length - k.1) (⟨0, by omega, fun j _ h=>absurd h (by omega)⟩) ?_ ?_
 ·exact zy _ ⟨rfl, rfl, rfl, rfl, trivial⟩ (rfl)
 ·rintro ⟨k, hk⟩
  dsimp only
  refine zn (jy rfl rfl (qx rfl rfl rfl) (zo (zt (zA rfl (fun h0=>?_) (fun h0=>?_)))))
  ·have hlt:k < xs.length:=by simpa using h0
   refine zH (zk (zt (zF (zn (jy rfl rfl (zh rfl rfl) (jy rfl rfl (zg rfl rfl) (zo (zn ?_))))))))
   refine jy rfl rfl (zI rfl rfl) (jy rfl rfl (zI rfl rfl) (jy rfl rfl (zh rfl rfl) ?_))
   refine jy rfl rfl (zD rfl rfl rfl zA1 (by omega) (by exact zBh hlt) (zz7 fun _=>rfl)) ?_
   refine jy rfl rfl (zK rfl rfl zAs (by exact zLb rfl)) (jy rfl rfl (vH (av:=[_]) rfl rfl ⟨rfl, trivial⟩ (hp xs[k] (List.getElem_mem hlt))) (zo (zA rfl (fun h1=>?_) (fun h1=>?_))))
   ·refine zn (jy rfl rfl (zh rfl rfl) (jy rfl rfl (zg rfl rfl) (zo (zN (zZ (zP (zP (zZ (zP ?_)))))))))
    exact ⟨.inr rfl, AVle.of (by rw [zE1 hlt h1 hk.2])⟩
   ·refine zH (zJ (zk (zx (jy rfl rfl (zW rfl rfl rfl ⟨by omega, by omega⟩) (jy rfl rfl (zh rfl rfl) (zM ?_))))))
    exact ⟨⟨k + 1, by omega, fun j hj h=>(Nat.lt_succ_iff_lt_or_eq.1 h).elim (hk.2 j hj) (fun e=>by subst e; exact h1)⟩, by dsimp only; omega, zy _ ⟨rfl, rfl, rfl, rfl, trivial⟩ (rfl)⟩
  ·have hge:k = xs.length:=by simp at h0; omega
   refine zAj (zS (zS (zAi (zk (zn (jy rfl rfl (zg rfl rfl) (zo (zN ?_))))))))
   exact ⟨.inr rfl, AVle.of (by rw [zE3 (fun j hj=>hk.2 j hj (by omega))])⟩
theorem f149 {p:Rep -> Bool} (c:FuncId) (cs:List AV) (xs:List Rep) (hx:xs.length <= 1000000) (hp:∀ x ∈ xs, ACall Tryz.prog G c ([.agg (eRep x)] ++ cs) (.v (.bool (p x)))):ACall Tryz.prog G 149 [.sl (xs.map eRep), .fn c [] cs] (.v (.bool (xs.any p))):=by
 refine zO Tryz.func149 rfl (by kernel_rfl) rfl ?_
 refine zn (jy rfl rfl (zg rfl rfl) (zo (zn (jy rfl rfl (zI rfl rfl) (jy rfl rfl (zI rfl rfl) (jy rfl rfl (zB (av:=[_, _]) rfl ⟨rfl, rfl, trivial⟩ (f217 c cs xs hx hp)) (jy rfl rfl (kG rfl rfl rfl) (jy rfl rfl (zg rfl rfl) ?_))))))))
 refine zo (zN ?_)
 exact ⟨.inr rfl, AVle.of (by rw [zEk])⟩
theorem f219 {p:Lnk -> Bool} (c:FuncId) (cs:List AV) (xs:List Lnk) (hx:xs.length <= 1000000) (hp:∀ x ∈ xs, ACall Tryz.prog G c ([.agg (eLnk x)] ++ cs) (.v (.bool (p x)))):ACall Tryz.prog G 219 [.sl (xs.map eLnk), .fn c [] cs] (ei (ixF p xs)):=by
 have hlm:(xs.map eLnk).length = xs.length:=by simp
 refine zO Tryz.func219 rfl (by kernel_rfl) rfl ?_
 refine zn (jy rfl rfl (zg rfl rfl) (zo (zt (zn (jy rfl rfl (zI rfl rfl) (jy rfl rfl (qA rfl rfl rfl Tryz.underlying30) (jy rfl rfl (zh rfl rfl) (zM ?_))))))))
 refine zk (zF ?_)
 refine qm (ι:={ k:Nat // k <= xs.length /\ ∀ j (hj:j < xs.length), j < k -> p xs[j] = false }) (fun k=>⟨Tryz.f219.ntmps, frL [(0, .pub (.sl (xs.map eLnk))), (1, .pub (.fn c [] cs)), (7, I (((xs.map eLnk).length:Nat):Int)), (8, I (k.1:Int))], []⟩) (fun k=>xs.length - k.1) (⟨0, by omega, fun j _ h=>absurd h (by omega)⟩) ?_ ?_
 ·exact zy _ ⟨rfl, rfl, rfl, rfl, trivial⟩ (rfl)
 ·rintro ⟨k, hk⟩
  dsimp only
  refine zn (jy rfl rfl (qx rfl rfl rfl) (zo (zt (zA rfl (fun h0=>?_) (fun h0=>?_)))))
  ·have hlt:k < xs.length:=by simpa using h0
   refine zH (zk (zt (zF (zn (jy rfl rfl (zh rfl rfl) (jy rfl rfl (zg rfl rfl) (zo (zn ?_))))))))
   refine jy rfl rfl (zI rfl rfl) (jy rfl rfl (zI rfl rfl) (jy rfl rfl (zh rfl rfl) ?_))
   refine jy rfl rfl (zD rfl rfl rfl zFM (by omega) (by exact zBh hlt) (zz7 fun _=>rfl)) ?_
   refine jy rfl rfl (zK rfl rfl zES (by exact zLb rfl)) (jy rfl rfl (vH (av:=[_]) rfl rfl ⟨rfl, trivial⟩ (hp xs[k] (List.getElem_mem hlt))) (zo (zA rfl (fun h1=>?_) (fun h1=>?_))))
   ·refine zn (jy rfl rfl (zh rfl rfl) (jy rfl rfl (zg rfl rfl) (zo (zN (zZ (zP (zP (zZ (zP ?_)))))))))
    exact ⟨.inr rfl, AVle.of (by rw [zE1 hlt h1 hk.2])⟩
   ·refine zH (zJ (zk (zx (jy rfl rfl (zW rfl rfl rfl ⟨by omega, by omega⟩) (jy rfl rfl (zh rfl rfl) (zM ?_))))))
    exact ⟨⟨k + 1, by omega, fun j hj h=>(Nat.lt_succ_iff_lt_or_eq.1 h).elim (hk.2 j hj) (fun e=>by subst e; exact h1)⟩, by dsimp only; omega, zy _ ⟨rfl, rfl, rfl, rfl, trivial⟩ (rfl)⟩
  ·have hge:k = xs.length:=by simp at h0; omega
   refine zAj (zS (zS (zAi (zk (zn (jy rfl rfl (zg rfl rfl) (zo (zN ?_))))))))
   exact ⟨.inr rfl, AVle.of (by rw [zE3 (fun j hj=>hk.2 j hj (by omega))])⟩
theorem f152 {p:Lnk -> Bool} (c:FuncId) (cs:List AV) (xs:List Lnk) (hx:xs.length <= 1000000) (hp:∀ x ∈ xs, ACall Tryz.prog G c ([.agg (eLnk x)] ++ cs) (.v (.bool (p x)))):ACall Tryz.prog G 152 [.sl (xs.map eLnk), .fn c [] cs] (.v (.bool (xs.any p))):=by
 refine zO Tryz.func152 rfl (by kernel_rfl) rfl ?_
 refine zn (jy rfl rfl (zg rfl rfl) (zo (zn (jy rfl rfl (zI rfl rfl) (jy rfl rfl (zI rfl rfl) (jy rfl rfl (zB (av:=[_, _]) rfl ⟨rfl, rfl, trivial⟩ (f219 c cs xs hx hp)) (jy rfl rfl (kG rfl rfl rfl) (jy rfl rfl (zg rfl rfl) ?_))))))))
 refine zo (zN ?_)
 exact ⟨.inr rfl, AVle.of (by rw [zEk])⟩
theorem f220 {p:Prt -> Bool} (c:FuncId) (cs:List AV) (xs:List Prt) (hx:xs.length <= 1000000) (hp:∀ x ∈ xs, ACall Tryz.prog G c ([.agg (ePrt x)] ++ cs) (.v (.bool (p x)))):ACall Tryz.prog G 220 [.sl (xs.map ePrt), .fn c [] cs] (ei (ixF p xs)):=by
 have hlm:(xs.map ePrt).length = xs.length:=by simp
 refine zO Tryz.func220 rfl (by kernel_rfl) rfl ?_
 refine zn (jy rfl rfl (zg rfl rfl) (zo (zt (zn (jy rfl rfl (zI rfl rfl) (jy rfl rfl (qA rfl rfl rfl Tryz.underlying31) (jy rfl rfl (zh rfl rfl) (zM ?_))))))))
 refine zk (zF ?_)
 refine qm (ι:={ k:Nat // k <= xs.length /\ ∀ j (hj:j < xs.length), j < k -> p xs[j] = false }) (fun k=>⟨Tryz.f220.ntmps, frL [(0, .pub (.sl (xs.map ePrt))), (1, .pub (.fn c [] cs)), (7, I (((xs.map ePrt).length:Nat):Int)), (8, I (k.1:Int))], []⟩) (fun k=>xs.length - k.1) (⟨0, by omega, fun j _ h=>absurd h (by omega)⟩) ?_ ?_
 ·exact zy _ ⟨rfl, rfl, rfl, rfl, trivial⟩ (rfl)
 ·rintro ⟨k, hk⟩
  dsimp only
  refine zn (jy rfl rfl (qx rfl rfl rfl) (zo (zt (zA rfl (fun h0=>?_) (fun h0=>?_)))))
  ·have hlt:k < xs.length:=by simpa using h0
   refine zH (zk (zt (zF (zn (jy rfl rfl (zh rfl rfl) (jy rfl rfl (zg rfl rfl) (zo (zn ?_))))))))
   refine jy rfl rfl (zI rfl rfl) (jy rfl rfl (zI rfl rfl) (jy rfl rfl (zh rfl rfl) ?_))
   refine jy rfl rfl (zD rfl rfl rfl zCn (by omega) (by exact zBh hlt) (zz7 fun _=>rfl)) ?_
   refine jy rfl rfl (zK rfl rfl zFB (by exact zLb rfl)) (jy rfl rfl (vH (av:=[_]) rfl rfl ⟨rfl, trivial⟩ (hp xs[k] (List.getElem_mem hlt))) (zo (zA rfl (fun h1=>?_) (fun h1=>?_))))
   ·refine zn (jy rfl rfl (zh rfl rfl) (jy rfl rfl (zg rfl rfl) (zo (zN (zZ (zP (zP (zZ (zP ?_)))))))))
    exact ⟨.inr rfl, AVle.of (by rw [zE1 hlt h1 hk.2])⟩
   ·refine zH (zJ (zk (zx (jy rfl rfl (zW rfl rfl rfl ⟨by omega, by omega⟩) (jy rfl rfl (zh rfl rfl) (zM ?_))))))
    exact ⟨⟨k + 1, by omega, fun j hj h=>(Nat.lt_succ_iff_lt_or_eq.1 h).elim (hk.2 j hj) (fun e=>by subst e; exact h1)⟩, by dsimp only; omega, zy _ ⟨rfl, rfl, rfl, rfl, trivial⟩ (rfl)⟩
  ·have hge:k = xs.length:=by simp at h0; omega
   refine zAj (zS (zS (zAi (zk (zn (jy rfl rfl (zg rfl rfl) (zo (zN ?_))))))))
   exact ⟨.inr rfl, AVle.of (by rw [zE3 (fun j hj=>hk.2 j hj (by omega))])⟩
theorem f155 {p:Prt -> Bool} (c:FuncId) (cs:List AV) (xs:List Prt) (hx:xs.length <= 1000000) (hp:∀ x ∈ xs, ACall Tryz.prog G c ([.agg (ePrt x)] ++ cs) (.v (.bool (p x)))):ACall Tryz.prog G 155 [.sl (xs.map ePrt), .fn c [] cs] (.v (.bool (xs.any p))):=by
 refine zO Tryz.func155 rfl (by kernel_rfl) rfl ?_
 refine zn (jy rfl rfl (zg rfl rfl) (zo (zn (jy rfl rfl (zI rfl rfl) (jy rfl rfl (zI rfl rfl) (jy rfl rfl (zB (av:=[_, _]) rfl ⟨rfl, rfl, trivial⟩ (f220 c cs xs hx hp)) (jy rfl rfl (kG rfl rfl rfl) (jy rfl rfl (zg rfl rfl) ?_))))))))
 refine zo (zN ?_)
 exact ⟨.inr rfl, AVle.of (by rw [zEk])⟩
theorem f151 (w:Wt) (r:Rep):ACall Tryz.prog G 151 [.agg (eWt w), .agg (eRep r)] (.v (.bool (zz9 w.n r))):=by
 refine zO Tryz.func151 rfl (by kernel_rfl) rfl ?_
 refine zn (jy rfl rfl (ql rfl (zQ rfl)) (jy rfl rfl (ql rfl (zQ rfl)) (jy rfl rfl (zg rfl rfl) (zo (zn (jy rfl rfl (zi rfl rfl zDB) (jy rfl rfl (zl rfl rfl rfl ty3) (jy rfl rfl (zi rfl rfl zDR) ?_))))))))
 refine jy rfl rfl (zl rfl rfl rfl ty3) (jy rfl rfl (zEg rfl rfl) (jy rfl rfl (zB (av:=[_, _, _]) rfl ⟨rfl, rfl, rfl, trivial⟩ (f148 _ _ _)) (jy rfl rfl (zh rfl rfl) (zjW rfl rfl rfl (fun hg=>zi rfl rfl zDx) (zjW rfl rfl rfl (fun hg=>zl rfl (if_pos hg) rfl ty3) (zjW rfl rfl rfl (fun hg=>zB (av:=[_, _, _]) rfl ⟨((if_pos hg)), rfl, rfl, trivial⟩ (f148 _ _ _)) (jy rfl rfl (jg rfl rfl rfl rfl) (jy rfl rfl (zh rfl rfl) (zjW rfl rfl rfl (fun hg=>zi rfl rfl zDS) (zjW rfl rfl rfl (fun hg=>zl rfl (if_pos hg) rfl ty3) (zjW rfl rfl rfl (fun hg=>zB (av:=[_, _, _]) rfl ⟨((if_pos hg)), rfl, rfl, trivial⟩ (f148 _ _ _)) ?_)))))))))))
 refine jy rfl rfl (jg rfl rfl rfl rfl) (jy rfl rfl (zh rfl rfl) (zjW rfl rfl rfl (fun hg=>zi rfl rfl zB7) (zjW rfl rfl rfl (fun hg=>zK rfl (if_pos hg) zuz (by exact zLb rfl)) (zjW rfl rfl rfl (fun hg=>zB (av:=[_, _]) rfl ⟨((if_pos hg)), rfl, trivial⟩ (f218 _ _ _)) (jy rfl rfl (jg rfl rfl rfl rfl) (jy rfl rfl (zh rfl rfl) (zjW rfl rfl rfl (fun hg=>zi rfl rfl zE0) (zjW rfl rfl rfl (fun hg=>zl rfl (if_pos hg) rfl ty3) (zjW rfl rfl rfl (fun hg=>zB (av:=[_, _, _]) rfl ⟨((if_pos hg)), rfl, rfl, trivial⟩ (f148 _ _ _)) (jy rfl rfl (jg rfl rfl rfl rfl) (jy rfl rfl (zh rfl rfl) ?_)))))))))))
 refine zjW rfl rfl rfl (fun hg=>zi rfl rfl zE2) (zjW rfl rfl rfl (fun hg=>zl rfl (if_pos hg) rfl ty3) (zjW rfl rfl rfl (fun hg=>zB (av:=[_, _, _]) rfl ⟨((if_pos hg)), rfl, rfl, trivial⟩ (f148 _ _ _)) (jy rfl rfl (jg rfl rfl rfl rfl) (jy rfl rfl (zg rfl rfl) (zo (zN ?_))))))
 exact ⟨.inr rfl, AVle.refl _⟩
theorem f154 (w:Wt) (r:Lnk):ACall Tryz.prog G 154 [.agg (eWt w), .agg (eLnk r)] (.v (.bool (zAK w.n r))):=by
 refine zO Tryz.func154 rfl (by kernel_rfl) rfl ?_
 refine zn (jy rfl rfl (ql rfl (zQ rfl)) (jy rfl rfl (ql rfl (zQ rfl)) (jy rfl rfl (zg rfl rfl) (zo (zn (jy rfl rfl (zi rfl rfl zDC) (jy rfl rfl (zl rfl rfl rfl ty3) (jy rfl rfl (zi rfl rfl zDR) ?_))))))))
 refine jy rfl rfl (zl rfl rfl rfl ty3) (jy rfl rfl (zEg rfl rfl) (jy rfl rfl (zB (av:=[_, _, _]) rfl ⟨rfl, rfl, rfl, trivial⟩ (f148 _ _ _)) (jy rfl rfl (zh rfl rfl) (zjW rfl rfl rfl (fun hg=>zi rfl rfl zDE) (zjW rfl rfl rfl (fun hg=>zl rfl (if_pos hg) rfl ty3) (zjW rfl rfl rfl (fun hg=>zi rfl rfl zDR) (zjW rfl rfl rfl (fun hg=>zl rfl (if_pos hg) rfl ty3) (zjW rfl rfl rfl (fun hg=>zEg rfl (if_pos hg)) (zjW rfl rfl rfl (fun hg=>zB (av:=[_, _, _]) rfl ⟨((if_pos hg)), rfl, ((if_pos hg)), trivial⟩ (f148 _ _ _)) (jy rfl rfl (jg rfl rfl rfl rfl) (jy rfl rfl (zh rfl rfl) ?_)))))))))))
 refine zjW rfl rfl rfl (fun hg=>zi rfl rfl zDC) (zjW rfl rfl rfl (fun hg=>zl rfl (if_pos hg) rfl ty3) (zjW rfl rfl rfl (fun hg=>zi rfl rfl zDE) (zjW rfl rfl rfl (fun hg=>zl rfl (if_pos hg) rfl ty3) (zjW rfl rfl rfl (fun hg=>wE rfl (if_pos hg) (if_pos hg)) (jy rfl rfl (jg rfl rfl rfl rfl) (jy rfl rfl (zh rfl rfl) (zjW rfl rfl rfl (fun hg=>zi rfl rfl zD6) (zjW rfl rfl rfl (fun hg=>zl rfl (if_pos hg) rfl ty3) (zjW rfl rfl rfl (fun hg=>zB (av:=[_, _, _]) rfl ⟨((if_pos hg)), rfl, rfl, trivial⟩ (f148 _ _ _)) (jy rfl rfl (jg rfl rfl rfl rfl) (jy rfl rfl (zg rfl rfl) ?_)))))))))))
 refine zo (zN ?_)
 exact ⟨.inr rfl, AVle.refl _⟩
theorem f157 (r:Prt):ACall Tryz.prog G 157 [.agg (ePrt r)] (.v (.bool (zAk r))):=by
 refine zO Tryz.func157 rfl (by kernel_rfl) rfl ?_
 refine zn (jy rfl rfl (ql rfl (zQ rfl)) (jy rfl rfl (zg rfl rfl) (zo (zn (jy rfl rfl (zi rfl rfl zBf) (jy rfl rfl (zK rfl rfl zuz (by exact zLb rfl)) (jy rfl rfl (zB (av:=[_, _]) rfl ⟨rfl, rfl, trivial⟩ (f218 _ _ _)) (jy rfl rfl (zh rfl rfl) ?_))))))))
 refine zjW rfl rfl rfl (fun hg=>zi rfl rfl zBf) (zjW rfl rfl rfl (fun hg=>zi rfl (if_pos hg) zqc) (zjW rfl rfl rfl (fun hg=>zl rfl (if_pos hg) rfl ty3) (zjW rfl rfl rfl (fun hg=>zi rfl rfl zBf) (zjW rfl rfl rfl (fun hg=>zi rfl (if_pos hg) zqK) (zjW rfl rfl rfl (fun hg=>zl rfl (if_pos hg) rfl ty3) ?_)))))
 refine zjW rfl rfl rfl (fun hg=>vN rfl (if_pos hg) (if_pos hg) ⟨by simp [zB5] at hg; omega, by simp [zB5] at hg; omega⟩) ?_
 refine zjW rfl rfl rfl (fun hg=>zbt rfl (if_pos hg) rfl) (jy rfl rfl (jg rfl rfl rfl rfl) (jy rfl rfl (zh rfl rfl) (zjW rfl rfl rfl (fun hg=>zi rfl rfl zEZ) (zjW rfl rfl rfl (fun hg=>zl rfl (if_pos hg) rfl ty3) (zjW rfl rfl rfl (fun hg=>zB (av:=[_, _, _]) rfl ⟨((if_pos hg)), rfl, rfl, trivial⟩ (f148 _ _ _)) (jy rfl rfl (jg rfl rfl rfl rfl) (jy rfl rfl (zh rfl rfl) (zjW rfl rfl rfl (fun hg=>zi rfl rfl zE4) (zjW rfl rfl rfl (fun hg=>zl rfl (if_pos hg) rfl ty3) (zjW rfl rfl rfl (fun hg=>zB (av:=[_, _, _]) rfl ⟨((if_pos hg)), rfl, rfl, trivial⟩ (f148 _ _ _)) (jy rfl rfl (jg rfl rfl rfl rfl) ?_)))))))))))
 refine jy rfl rfl (zg rfl rfl) (zo (zN ?_))
 exact ⟨.inr rfl, AVle.refl _⟩
theorem f150 (w:Wt) (r:Rep):ACall Tryz.prog G 150 [.agg (eRep r), .ptr (eWt w)] (.v (.bool (!zz9 w.n r))):=by
 refine zO Tryz.func150 rfl (by kernel_rfl) rfl ?_
 refine zn (jy rfl rfl (ql rfl (zQ rfl)) (jy rfl rfl (zg rfl rfl) (zo (zn (jy rfl rfl (zK rfl rfl zz8 (by exact zLb rfl)) (jy rfl rfl (zK rfl rfl zAs (by exact zLb rfl)) (jy rfl rfl (zB (av:=[_, _]) rfl ⟨rfl, rfl, trivial⟩ (f151 w r)) (jy rfl rfl (qJ rfl rfl) ?_))))))))
 refine jy rfl rfl (zg rfl rfl) (zo (zN ?_))
 exact ⟨.inr rfl, AVle.refl _⟩
theorem f153 (w:Wt) (r:Lnk):ACall Tryz.prog G 153 [.agg (eLnk r), .ptr (eWt w)] (.v (.bool (!zAK w.n r))):=by
 refine zO Tryz.func153 rfl (by kernel_rfl) rfl ?_
 refine zn (jy rfl rfl (ql rfl (zQ rfl)) (jy rfl rfl (zg rfl rfl) (zo (zn (jy rfl rfl (zK rfl rfl zz8 (by exact zLb rfl)) (jy rfl rfl (zK rfl rfl zES (by exact zLb rfl)) (jy rfl rfl (zB (av:=[_, _]) rfl ⟨rfl, rfl, trivial⟩ (f154 w r)) (jy rfl rfl (qJ rfl rfl) ?_))))))))
 refine jy rfl rfl (zg rfl rfl) (zo (zN ?_))
 exact ⟨.inr rfl, AVle.refl _⟩
theorem f156 (r:Prt):ACall Tryz.prog G 156 [.agg (ePrt r)] (.v (.bool (!zAk r))):=by
 refine zO Tryz.func156 rfl (by kernel_rfl) rfl ?_
 refine zn (jy rfl rfl (ql rfl (zQ rfl)) (jy rfl rfl (zg rfl rfl) (zo (zn (jy rfl rfl (zK rfl rfl zFB (by exact zLb rfl)) (jy rfl rfl (zB (av:=[_]) rfl ⟨rfl, trivial⟩ (f157 r)) (jy rfl rfl (qJ rfl rfl) (jy rfl rfl (zg rfl rfl) ?_))))))))
 refine zo (zN ?_)
 exact ⟨.inr rfl, AVle.refl _⟩
theorem f58 (w:Wt):ACall Tryz.prog G 58 [.agg (eWt w)] (.v (.bool (zDr w))):=by
 refine zO Tryz.func58 rfl (by kernel_rfl) rfl ?_
 refine zn (jy rfl rfl (ql rfl (zQ rfl)) (jy rfl rfl (zg rfl rfl) (zo (zn (jy rfl rfl (zi rfl rfl zDR) (jy rfl rfl (zl rfl rfl rfl ty3) (jy rfl rfl (zB (av:=[_, _, _]) rfl ⟨rfl, rfl, rfl, trivial⟩ (f148 _ _ _)) (jy rfl rfl (zh rfl rfl) ?_))))))))
 refine zjW rfl rfl rfl (fun hg=>zi rfl rfl zzR) (zjW rfl rfl rfl (fun hg=>zl rfl (if_pos hg) rfl zq0) (zjW rfl rfl rfl (fun hg=>qA rfl rfl (if_pos hg) Tryz.underlying29) (zjW rfl rfl rfl (fun hg=>zbt rfl (if_pos hg) rfl) (jy rfl rfl (jg rfl rfl rfl rfl) (jy rfl rfl (zh rfl rfl) (zjW rfl rfl rfl (fun hg=>zi rfl rfl zBn) (zjW rfl rfl rfl (fun hg=>zl rfl (if_pos hg) rfl zei) (zjW rfl rfl rfl (fun hg=>qA rfl rfl (if_pos hg) Tryz.underlying30) (zjW rfl rfl rfl (fun hg=>zbt rfl (if_pos hg) rfl) (jy rfl rfl (jg rfl rfl rfl rfl) (jy rfl rfl (zh rfl rfl) ?_)))))))))))
 refine zjW rfl rfl rfl (fun hg=>zi rfl rfl zAa) (zjW rfl rfl rfl (fun hg=>zl rfl (if_pos hg) rfl zBt) (zjW rfl rfl rfl (fun hg=>qA rfl rfl (if_pos hg) Tryz.underlying31) (zjW rfl rfl rfl (fun hg=>zbt rfl (if_pos hg) rfl) (jy rfl rfl (jg rfl rfl rfl rfl) (jy rfl rfl (zh rfl rfl) (zjW rfl rfl rfl (fun hg=>zi rfl rfl zEc) (zjW rfl rfl rfl (fun hg=>zl rfl (if_pos hg) rfl ty3) (zjW rfl rfl rfl (fun hg=>zB (av:=[_, _, _]) rfl ⟨((if_pos hg)), rfl, rfl, trivial⟩ (f148 _ _ _)) (jy rfl rfl (jg rfl rfl rfl rfl) (jy rfl rfl (zh rfl rfl) (zjW rfl rfl rfl (fun hg=>zi rfl rfl zEe) ?_)))))))))))
 refine zjW rfl rfl rfl (fun hg=>zl rfl (if_pos hg) rfl ty3) (zjW rfl rfl rfl (fun hg=>zB (av:=[_, _, _]) rfl ⟨((if_pos hg)), rfl, rfl, trivial⟩ (f148 _ _ _)) (jy rfl rfl (jg rfl rfl rfl rfl) (jy rfl rfl (zh rfl rfl) (zjW rfl rfl rfl (fun hg=>zi rfl rfl zEl) (zjW rfl rfl rfl (fun hg=>zl rfl (if_pos hg) rfl ty3) (zjW rfl rfl rfl (fun hg=>zB (av:=[_, _, _]) rfl ⟨((if_pos hg)), rfl, rfl, trivial⟩ (f148 _ _ _)) (jy rfl rfl (jg rfl rfl rfl rfl) (jy rfl rfl (zh rfl rfl) (zjW rfl rfl rfl (fun hg=>zi rfl rfl zD2) (zjW rfl rfl rfl (fun hg=>zl rfl (if_pos hg) rfl ty3) (zjW rfl rfl rfl (fun hg=>kG rfl (if_pos hg) rfl) ?_)))))))))))
 refine jy rfl rfl (jg rfl rfl rfl rfl) (jy rfl rfl (zh rfl rfl) (zjW rfl rfl rfl (fun hg=>zi rfl rfl zD2) (zjW rfl rfl rfl (fun hg=>zl rfl (if_pos hg) rfl ty3) (zjW rfl rfl rfl (fun hg=>zi rfl rfl zD3) (zjW rfl rfl rfl (fun hg=>zl rfl (if_pos hg) rfl ty3) (zjW rfl rfl rfl (fun hg=>zbt rfl (if_pos hg) (if_pos hg)) (jy rfl rfl (jg rfl rfl rfl rfl) (jy rfl rfl (zh rfl rfl) (zjW rfl rfl rfl (fun hg=>zi rfl rfl zD3) (zjW rfl rfl rfl (fun hg=>zl rfl (if_pos hg) rfl ty3) (zjW rfl rfl rfl (fun hg=>zbt rfl (if_pos hg) rfl) ?_)))))))))))
 refine jy rfl rfl (jg rfl rfl rfl rfl) (jy rfl rfl (zh rfl rfl) (zjW rfl rfl rfl (fun hg=>zi rfl rfl zzR) (zjW rfl rfl rfl (fun hg=>zl rfl (if_pos hg) rfl zq0) (zjW rfl rfl rfl (fun hg=>wC (fs:=[]) (cs:=[_]) rfl rfl rfl) ?_))))
 refine zjW rfl rfl rfl (fun hg=>zB (av:=[_, _]) rfl ⟨((if_pos hg)), ((if_pos hg)), trivial⟩ (f149 150 [.ptr (eWt w)] w.reps (by simp at hg; omega) (fun x _=>f150 w x))) ?_
 refine zjW rfl rfl rfl (fun hg=>qJ rfl (if_pos hg)) (jy rfl rfl (jg rfl rfl rfl rfl) (jy rfl rfl (zh rfl rfl) (zjW rfl rfl rfl (fun hg=>zi rfl rfl zBn) (zjW rfl rfl rfl (fun hg=>zl rfl (if_pos hg) rfl zei) (zjW rfl rfl rfl (fun hg=>wC (fs:=[]) (cs:=[_]) rfl rfl rfl) ?_)))))
 refine zjW rfl rfl rfl (fun hg=>zB (av:=[_, _]) rfl ⟨((if_pos hg)), ((if_pos hg)), trivial⟩ (f152 153 [.ptr (eWt w)] w.lnks (by simp at hg; omega) (fun x _=>f153 w x))) ?_
 refine zjW rfl rfl rfl (fun hg=>qJ rfl (if_pos hg)) (jy rfl rfl (jg rfl rfl rfl rfl) (jy rfl rfl (zh rfl rfl) (zjW rfl rfl rfl (fun hg=>zi rfl rfl zAa) (zjW rfl rfl rfl (fun hg=>zl rfl (if_pos hg) rfl zBt) ?_))))
 refine zjW rfl rfl rfl (fun hg=>zB (av:=[_, _]) rfl ⟨((if_pos hg)), rfl, trivial⟩ (f155 156 [] w.prts (by simp at hg; omega) (fun x _=>f156 x))) ?_
 refine zjW rfl rfl rfl (fun hg=>qJ rfl (if_pos hg)) (jy rfl rfl (jg rfl rfl rfl rfl) (jy rfl rfl (zg rfl rfl) (zo (zN ?_))))
 exact ⟨.inr rfl, AVle.of (by simp [zDr])⟩
theorem f11 (w:Wt):ACall Tryz.prog G 11 [.agg (eWt w)] (ei (if zDr w then 0 else 2)):=by
 refine zO Tryz.func11 rfl (by kernel_rfl) rfl ?_
 refine zn (jy rfl rfl (ql rfl (zQ rfl)) (jy rfl rfl (zg rfl rfl) (zo (zt (zn (jy rfl rfl (zK rfl rfl zz8 (by exact zLb rfl)) (jy rfl rfl (zB (av:=[_]) rfl ⟨rfl, trivial⟩ (f58 w)) (jy rfl rfl (qJ rfl rfl) ?_))))))))
 refine zo (zA rfl (fun h0=>?_) (fun h0=>?_))
 ·refine zn (jy rfl rfl (zg rfl rfl) (zo (zN (zP ?_))))
  exact ⟨.inr rfl, AVle.of (by simp at h0; rw [h0]; rfl)⟩
 ·refine zH (zk (zn (jy rfl rfl (zg rfl rfl) (zo (zN ?_)))))
  exact ⟨.inr rfl, AVle.of (by simp at h0; rw [h0]; rfl)⟩
end Hs
end Go.Av
end
section
namespace Go.Av
namespace Hs
open Go.Proofs
set_option maxRecDepth 100000
set_option maxHeartbeats 1000000
variable {G:Glob}
theorem zz4 {n:Int} {r:Rep} (h:zz9 n r = true):(0 <= r.tk /\ r.tk <= 10080) /\ (0 <= r.pr /\ r.pr <= 99999) /\ (0 <= r.dl /\ r.dl <= r.dh /\ r.dh <= 2880) /\ (0 <= r.ug /\ r.ug <= 2880) /\ (0 <= r.co /\ r.co <= 10000):=by
 simp only[zz9, zLa, zz6, zB5, decide_eq_true_eq] at h
 omega
theorem zGa (a b:Int):(a == b) = decide (a = b):=by rw [Bool.eq_iff_iff]; simp
def far (a b:Int):Int:=max (a - b) (b - a)
def flB (w:Wt) (r s:Rep):Bool:=r.st == s.st && decide (r.tk < s.tk) && decide (r.pr - s.pr ≥ w.fall)
def lkB (r s:Rep) (l:Lnk):Bool:=((l.a == r.st && l.b == s.st) || (l.a == s.st && l.b == r.st)) && decide (far r.pr s.pr ≥ l.df)
def dfB (w:Wt) (r s:Rep):Bool:=w.lnks.any (lkB r s)
def alB (w:Wt) (r s:Rep):Bool:=decide (far r.tk s.tk <= w.win) && (flB w r s || flB w s r || dfB w r s)
structure WtP (w:Wt):Prop where
 reps:∀ r ∈ w.reps, zz9 w.n r = true
 lr:w.reps.length <= 9
 ll:w.lnks.length <= 8
 lp:w.prts.length <= 4
 pts:∀ p ∈ w.prts, zAk p = true
 hold:1 <= w.hold /\ w.hold <= 2880
 win:1 <= w.win /\ w.win <= 2880
theorem wtP {w:Wt} (h:zDr w = true):WtP w:=by
 simp only[zDr, zLa, decide_eq_true_eq, zz6, Bool.not_eq_true'] at h
 refine ⟨fun r hr=>?_, by omega, by omega, by omega, fun p hp=>?_, by omega, by omega⟩
 ·have:=h.1.1.2
  rw [List.any_eq_false] at this
  simpa using this r hr
 ·have:=h.2
  rw [List.any_eq_false] at this
  simpa using this p hp
theorem f221 (a b:Int) (h:(0 <= a /\ a <= 100000) /\ (0 <= b /\ b <= 100000)):ACall Tryz.prog G 221 [ei a, ei b] (ei (far a b)):=by
 refine zO Tryz.func221 rfl (by kernel_rfl) rfl ?_
 refine zn (jy rfl rfl (zg rfl rfl) (zo (zn (jy rfl rfl (zh rfl rfl) (jy rfl rfl (zh rfl rfl) ?_)))))
 refine jy rfl rfl (vN rfl rfl rfl ⟨by omega, by omega⟩) ?_
 refine jy rfl rfl (zh rfl rfl) (jy rfl rfl (zh rfl rfl) ?_)
 refine jy rfl rfl (vN rfl rfl rfl ⟨by omega, by omega⟩) ?_
 refine jy rfl rfl (zrp rfl rfl rfl) (jy rfl rfl (zg rfl rfl) (zo (zN ?_)))
 exact ⟨.inr rfl, AVle.refl _⟩
theorem f222 (w:Wt) (r s:Rep) (hr:zz9 w.n r = true) (hs:zz9 w.n s = true):ACall Tryz.prog G 222 [.agg (eWt w), .agg (eRep r), .agg (eRep s)] (.v (.bool (flB w r s))):=by
 have hr1:=zz4 hr
 have hs1:=zz4 hs
 refine zO Tryz.func222 rfl (by kernel_rfl) rfl ?_
 refine zn (jy rfl rfl (ql rfl (zQ rfl)) (jy rfl rfl (ql rfl (zQ rfl)) (jy rfl rfl (ql rfl (zQ rfl)) (jy rfl rfl (zg rfl rfl) (zo (zn (jy rfl rfl (zi rfl rfl zDB) (jy rfl rfl (zl rfl rfl rfl ty3) ?_))))))))
 refine jy rfl rfl (zi rfl rfl zDB) (jy rfl rfl (zl rfl rfl rfl ty3) (jy rfl rfl (qR rfl rfl rfl) (jy rfl rfl (zh rfl rfl) (zjW rfl rfl rfl (fun hg=>zi rfl rfl zDx) (zjW rfl rfl rfl (fun hg=>zl rfl (if_pos hg) rfl ty3) (zjW rfl rfl rfl (fun hg=>zi rfl rfl zDx) (zjW rfl rfl rfl (fun hg=>zl rfl (if_pos hg) rfl ty3) (zjW rfl rfl rfl (fun hg=>qx rfl (if_pos hg) (if_pos hg)) (jy rfl rfl (jg rfl rfl rfl rfl) (jy rfl rfl (zh rfl rfl) (zjW rfl rfl rfl (fun hg=>zi rfl rfl zDS) ?_)))))))))))
 refine zjW rfl rfl rfl (fun hg=>zl rfl (if_pos hg) rfl ty3) (zjW rfl rfl rfl (fun hg=>zi rfl rfl zDS) (zjW rfl rfl rfl (fun hg=>zl rfl (if_pos hg) rfl ty3) ?_))
 refine zjW rfl rfl rfl (fun hg=>vN rfl (if_pos hg) (if_pos hg) ⟨by omega, by omega⟩) ?_
 refine zjW rfl rfl rfl (fun hg=>zi rfl rfl zEc) (zjW rfl rfl rfl (fun hg=>zl rfl (if_pos hg) rfl ty3) (zjW rfl rfl rfl (fun hg=>kG rfl (if_pos hg) (if_pos hg)) (jy rfl rfl (jg rfl rfl rfl rfl) (jy rfl rfl (zg rfl rfl) (zo (zN ?_))))))
 exact ⟨.inr rfl, AVle.of (by simp [flB, Bool.and_assoc, zGa])⟩
theorem f273 (n:Int) (r s:Rep) (hr:zz9 n r = true) (hs:zz9 n s = true) (l:Lnk):ACall Tryz.prog G 273 [.agg (eLnk l), .ptr (eRep r), .ptr (eRep s)] (.v (.bool (lkB r s l))):=by
 have hr1:=zz4 hr
 have hs1:=zz4 hs
 refine zO Tryz.func273 rfl (by kernel_rfl) rfl ?_
 refine zn (jy rfl rfl (ql rfl (zQ rfl)) (jy rfl rfl (zg rfl rfl) (zo (zn (jy rfl rfl (zi rfl rfl zDC) (jy rfl rfl (zl rfl rfl rfl ty3) (jy rfl rfl (zi rfl rfl zDB) (jy rfl rfl (zl rfl rfl rfl ty3) ?_))))))))
 refine jy rfl rfl (qR rfl rfl rfl) (jy rfl rfl (zh rfl rfl) (zjW rfl rfl rfl (fun hg=>zi rfl rfl zDE) (zjW rfl rfl rfl (fun hg=>zl rfl (if_pos hg) rfl ty3) (zjW rfl rfl rfl (fun hg=>zi rfl rfl zDB) (zjW rfl rfl rfl (fun hg=>zl rfl (if_pos hg) rfl ty3) (zjW rfl rfl rfl (fun hg=>qR rfl (if_pos hg) (if_pos hg)) (jy rfl rfl (jg rfl rfl rfl rfl) (jy rfl rfl (zh rfl rfl) (zjW rfl rfl rfl (fun hg=>zi rfl rfl zDC) (zjW rfl rfl rfl (fun hg=>zl rfl (if_pos hg) rfl ty3) (zjW rfl rfl rfl (fun hg=>zi rfl rfl zDB) ?_)))))))))))
 refine zjW rfl rfl rfl (fun hg=>zl rfl (if_pos hg) rfl ty3) (zjW rfl rfl rfl (fun hg=>qR rfl (if_pos hg) (if_pos hg)) (zjW rfl rfl rfl (fun hg=>zh rfl (if_pos hg)) (zjW rfl (zT rfl rfl rfl) rfl (fun hg=>zi rfl rfl zDE) (zjW rfl (zT rfl rfl rfl) rfl (fun hg=>zl rfl (if_pos hg) rfl ty3) (zjW rfl (zT rfl rfl rfl) rfl (fun hg=>zi rfl rfl zDB) (zjW rfl (zT rfl rfl rfl) rfl (fun hg=>zl rfl (if_pos hg) rfl ty3) (zjW rfl (zT rfl rfl rfl) rfl (fun hg=>qR rfl (if_pos hg) (if_pos hg)) (zjW rfl rfl rfl (fun hg=>jg rfl (if_pos hg) (vG hg) rfl) (jy rfl rfl (jf rfl rfl rfl rfl) (jy rfl rfl (zg rfl rfl) (zM ?_)))))))))))
 refine zk (zt ?_)
 refine qp mixed (by kernel_rfl) rfl ?_
 refine zu rfl (zh rfl rfl) (zu rfl (zh rfl rfl) (zq rfl (fun hg=>zi rfl rfl zDS) (zq rfl (fun hg=>zl rfl (if_pos hg) rfl ty3) (zq rfl (fun hg=>zi rfl rfl zDS) (zq rfl (fun hg=>zl rfl (if_pos hg) rfl ty3) ?_)))))
 refine zq rfl (fun hg=>zB (av:=[_, _]) rfl ⟨((if_pos hg)), ((if_pos hg)), trivial⟩ (f221 _ _ ⟨by omega, by omega⟩)) ?_
 refine zq rfl (fun hg=>zi rfl rfl zD6) (zq rfl (fun hg=>zl rfl (if_pos hg) rfl ty3) (zq rfl (fun hg=>kG rfl (if_pos hg) (if_pos hg)) (zu rfl (jg rfl rfl rfl rfl) (zu rfl (zg rfl rfl) (qF (zk (zN ?_)))))))
 exact ⟨.inr rfl, AVle.of (by simp [lkB, zGa])⟩
theorem f223 {w:Wt} (hP:WtP w) (r s:Rep) (hr:zz9 w.n r = true) (hs:zz9 w.n s = true):ACall Tryz.prog G 223 [.agg (eWt w), .agg (eRep r), .agg (eRep s)] (.v (.bool (dfB w r s))):=by
 refine zO Tryz.func223 rfl (by kernel_rfl) rfl ?_
 refine zn (jy rfl rfl (ql rfl (zQ rfl)) (jy rfl rfl (ql rfl (zQ rfl)) (jy rfl rfl (ql rfl (zQ rfl)) (jy rfl rfl (zg rfl rfl) (zo (zn (jy rfl rfl (zi rfl rfl zBn) (jy rfl rfl (zl rfl rfl rfl zei) ?_))))))))
 refine jy rfl rfl (wC (fs:=[]) (cs:=[_, _]) rfl rfl rfl) ?_
 refine jy rfl rfl (zB (av:=[_, _]) rfl ⟨rfl, rfl, trivial⟩ (f152 273 [.ptr (eRep r), .ptr (eRep s)] w.lnks (by have:=hP.ll; omega) (fun x _=>f273 w.n r s hr hs x))) ?_
 refine jy rfl rfl (zg rfl rfl) (zo (zN ?_))
 exact ⟨.inr rfl, AVle.refl _⟩
theorem f160 {w:Wt} (hP:WtP w) (r s:Rep) (hr:zz9 w.n r = true) (hs:zz9 w.n s = true):ACall Tryz.prog G 160 [.agg (eWt w), .agg (eRep r), .agg (eRep s)] (.v (.bool (alB w r s))):=by
 have hr1:=zz4 hr
 have hs1:=zz4 hs
 refine zO Tryz.func160 rfl (by kernel_rfl) rfl ?_
 refine zn (jy rfl rfl (ql rfl (zQ rfl)) (jy rfl rfl (ql rfl (zQ rfl)) (jy rfl rfl (ql rfl (zQ rfl)) (jy rfl rfl (zg rfl rfl) (zo (zt ?_))))))
 refine qp mixed (by kernel_rfl) rfl ?_
 refine zu rfl (zi rfl rfl zDx) (zu rfl (zl rfl rfl rfl ty3) (zu rfl (zi rfl rfl zDx) (zu rfl (zl rfl rfl rfl ty3) ?_)))
 refine zu rfl (zB (av:=[_, _]) rfl ⟨rfl, rfl, trivial⟩ (f221 _ _ ⟨by omega, by omega⟩)) ?_
 refine zu rfl (zi rfl rfl zEe) (zu rfl (zl rfl rfl rfl ty3) (zu rfl (zbt rfl rfl rfl) (zu rfl (zh rfl rfl) (zq rfl (fun hg=>zK rfl rfl zz8 (by exact zLb rfl)) (zq rfl (fun hg=>zK rfl rfl zAs (by exact zLb rfl)) (zq rfl (fun hg=>zK rfl rfl zAs (by exact zLb rfl)) (zq rfl (fun hg=>zB (av:=[_, _, _]) rfl ⟨((if_pos hg)), ((if_pos hg)), ((if_pos hg)), trivial⟩ (f222 w r s hr hs)) (zq rfl (fun hg=>zh rfl (if_pos hg)) (zq (zT rfl rfl rfl) (fun hg=>zK rfl rfl zz8 (by exact zLb rfl)) (zq (zT rfl rfl rfl) (fun hg=>zK rfl rfl zAs (by exact zLb rfl)) (zq (zT rfl rfl rfl) (fun hg=>zK rfl rfl zAs (by exact zLb rfl)) ?_)))))))))))
 refine zq (zT rfl rfl rfl) (fun hg=>zB (av:=[_, _, _]) rfl ⟨((if_pos hg)), ((if_pos hg)), ((if_pos hg)), trivial⟩ (f222 w s r hs hr)) (zq rfl (fun hg=>jf rfl (if_pos hg) rfl (vG hg)) (zq rfl (fun hg=>zh rfl (if_pos hg)) (zq (zT rfl rfl rfl) (fun hg=>zK rfl rfl zz8 (by exact zLb rfl)) (zq (zT rfl rfl rfl) (fun hg=>zK rfl rfl zAs (by exact zLb rfl)) (zq (zT rfl rfl rfl) (fun hg=>zK rfl rfl zAs (by exact zLb rfl)) (zq (zT rfl rfl rfl) (fun hg=>zB (av:=[_, _, _]) rfl ⟨((if_pos hg)), ((if_pos hg)), ((if_pos hg)), trivial⟩ (f223 hP r s hr hs)) (zq rfl (fun hg=>jf rfl (if_pos hg) rfl (vG hg)) (zu rfl (jg rfl rfl rfl rfl) (zu rfl (zg rfl rfl) (qF (zk ?_)))))))))))
 refine zN ?_
 exact ⟨.inr rfl, AVle.of (by simp [alB, Bool.or_assoc])⟩
end Hs
end Go.Av
end
section
namespace Go.Av
namespace Hs
open Go.Proofs
set_option maxRecDepth 100000
def zBz (a:Nat × Nat):Value:=.agg #[.int .i64 (a.1:Int), .int .i64 (a.2:Int)]
theorem zBy:Tryz.prog.underlying 276 = some (.struct (Tryz.prog.fieldsOf 276)):=by kernel_rfl
theorem zB9:Tryz.prog.stoodInHeld 276 = false:=by kernel_rfl
def fO:Field:=⟨"One", 3, 0, false, "", "", 0⟩
def fT:Field:=⟨"Other", 3, 1, false, "", "", 8⟩
theorem zA8:(Tryz.prog.fieldsOf 276).toList = [fO, fT]:=by kernel_rfl
theorem pk3:Tryz.prog.plainKey 3 = true:=by kernel_rfl
theorem pt3 {xs:Array Value} {off:Nat} {v:Value} (w:World) (hx:xs[off]? = some v):(part 3 xs off).run Tryz.prog w = .ok v w:=run_part_plain w pk3 hx
theorem eqA (a b:Nat × Nat) (w:World):(Op.equal 276 (zBz a) (zBz b)).run Tryz.prog w = .ok (decide (b = a)) w:=by
 show (Op.equalIn 10000 276 (zBz a) (zBz b)).run Tryz.prog w = _
 unfold zBz
 rw [run_equalIn_struct w 9999 276 _ _ zBy zB9, zA8]
 have h1:∀ p q:Int, (Op.equalIn 9999 3 (.int .i64 p) (.int .i64 q)).run Tryz.prog w = .ok (p == q) w:=fun p q=>run_equalIn_int w 9998 3 .i64 .i64 p q Tryz.underlying3
 have p0:∀ x y:Value, (part 3 #[x, y] 0).run Tryz.prog w = .ok x w:=fun x y=>pt3 w rfl
 have p1:∀ x y:Value, (part 3 #[x, y] 1).run Tryz.prog w = .ok y w:=fun x y=>pt3 w rfl
 have key:decide (b = a) = (((a.1:Int) == (b.1:Int)) && ((a.2:Int) == (b.2:Int))):=by
  rw [Bool.eq_iff_iff]; simp only[beq_iff_eq, zLa, decide_eq_true_eq, Prod.ext_iff]; omega
 rw [key]
 simp only[Op.eqFields, fO, fT, ne_eq, String.reduceEq, not_false_eq_true, if_true, Sem.run_bind, p0, p1, h1, Result.andThen_ok]
 cases ((a.1:Int) == (b.1:Int)) with
 | false=>rfl
 | true=>
  simp only[Bool.not_true, Bool.false_eq_true, if_false, Sem.run_bind, p1, h1, Result.andThen_ok]
  cases ((a.2:Int) == (b.2:Int)) <;> rfl
theorem ckI (b:Bool) (d:Nat) (x:Int) (w:World):(Instr.checkKey b (d + 1) 3 (.int .i64 x)).run Tryz.prog w = .ok () w:=by
 simp only[Instr.checkKey, Sem.run_bind, run_underlying Tryz.underlying3, Result.andThen_ok, Sem.run_pure]
theorem ckA (b:Bool) (c:Nat × Nat) (w:World):(Instr.checkKey b 10000 276 (zBz c)).run Tryz.prog w = .ok () w:=by
 have p0:∀ (x y:Value) (w:World), (part 3 #[x, y] 0).run Tryz.prog w = .ok x w:=fun x y w=>pt3 w rfl
 have p1:∀ (x y:Value) (w:World), (part 3 #[x, y] 1).run Tryz.prog w = .ok y w:=fun x y w=>pt3 w rfl
 unfold zBz
 rw [show (10000:Nat) = 9998 + 2 from rfl, Instr.checkKey]
 simp only[Sem.run_bind, run_underlying zBy, Result.andThen_ok]
 rw [← Array.forIn_toList, zA8]
 simp only[List.forIn_cons, List.forIn_nil, fO, fT, ne_eq, String.reduceEq, not_false_eq_true, if_true, Sem.run_bind, p0, p1, ckI, Result.andThen_ok, Sem.run_pure]
theorem zGo:KeyT Tryz.prog 276 zBz:=zxc zBy (fun _ _=>rfl) eqA ckA (fun a=>by simp [zBz, Instr.sameBits])
theorem zFP (a b:Nat):zrF (.agg [.v (.int .i64 (a:Int)), .v (.int .i64 (b:Int))]) (zBz (a, b)):=zxq (l:=[.int .i64 (a:Int), .int .i64 (b:Int)]) rfl
theorem zv4:(Tryz.prog.info? 4).bind (·.zero) = some (.bool false):=by kernel_rfl
def rp0:Rep:=⟨0, 0, 0, 0, 0, 0, 0⟩
def rpW (w:Wt) (i:Nat):Rep:=w.reps.getD i rp0
def alP (w:Wt) (p:Nat × Nat):Bool:=decide (p.1 < p.2) && alB w (rpW w p.1) (rpW w p.2)
def rowA (w:Wt) (i m:Nat):List (Nat × Nat):=((List.range m).map fun j=>(i, j)).filter (alP w)
def zBZ (w:Wt) (k:Nat):List (Nat × Nat):=(List.range k).flatMap fun i=>rowA w i w.reps.length
def zzV (w:Wt):List (Nat × Nat):=zBZ w w.reps.length
def esB (l:List (Nat × Nat)):List ((Nat × Nat) × EV):=l.map fun p=>(p, B true)
def esA (l:List (Nat × Nat)):List ((Nat × Nat) × AV):=l.map fun p=>(p, .v (.bool true))
theorem zFD {l:List (Nat × Nat)} {a:Nat × Nat} (h:a ∉ l):zgD a (B true) (esB l) = esB (l ++ [a]):=by
 induction l with
 | nil=>rfl
 | cons b l ih=>
  rw [List.mem_cons, not_or] at h
  show (if b = a then _ else _) = _
  rw [if_neg fun e=>h.1 e.symm]
  show _ :: zgD a (B true) (esB l) = _
  rw [ih h.2]; rfl
theorem zFz {l:List (Nat × Nat)} {a:Nat × Nat}:ziF a (ofV (.bool false)) (esA l) = .v (.bool (decide (a ∈ l))):=by
 induction l with
 | nil=>simp [esA, ziF, ofV]
 | cons b l ih=>
  show (if b = a then _ else _) = _
  by_cases h:b = a
  ·subst h; simp
  ·rw [if_neg h]
   show ziF a (ofV (.bool false)) (esA l) = _
   rw [ih]; congr 2
   rw [decide_eq_decide]
   exact ⟨fun h'=>List.mem_cons_of_mem _ h', fun h'=>(List.mem_cons.1 h').resolve_left fun e=>h e.symm⟩
theorem zAU {w:Wt} {i m:Nat} {p:Nat × Nat}:p ∈ rowA w i m ↔ p.1 = i /\ p.2 < m /\ alP w p = true:=by
 obtain ⟨a, b⟩:=p
 simp only[rowA, List.mem_filter, List.mem_map, List.mem_range, zLp]
 constructor
 ·rintro ⟨⟨j, h1, h2, h3⟩, h4⟩; exact ⟨h2.symm, by omega, h4⟩
 ·rintro ⟨h1, h2, h3⟩; exact ⟨⟨b, h2, h1.symm, rfl⟩, h3⟩
theorem zA5 {w:Wt} {k:Nat} {p:Nat × Nat}:p ∈ zBZ w k ↔ p.1 < k /\ p.2 < w.reps.length /\ alP w p = true:=by
 simp only[zBZ, List.mem_flatMap, List.mem_range, zAU]
 constructor
 ·rintro ⟨i, h1, h2, h3, h4⟩; exact ⟨by omega, h3, h4⟩
 ·rintro ⟨h1, h2, h3⟩; exact ⟨p.1, h1, rfl, h2, h3⟩
theorem zD4 {w:Wt} {i m:Nat}:rowA w i (m + 1) = rowA w i m ++ bif alP w (i, m) then [(i, m)] else []:=by
 simp only[rowA, List.range_succ, List.map_append, List.filter_append, List.map_singleton]
 cases h:alP w (i, m) <;> simp [h]
theorem zEn {w:Wt} {k:Nat}:zBZ w (k + 1) = zBZ w k ++ rowA w k w.reps.length:=by
 simp [zBZ, List.range_succ, List.flatMap_append]
theorem ztf {w:Wt} {k m:Nat}:(k, m) ∉ zBZ w k ++ rowA w k m:=by
 simp [zA5, zAU]
theorem zFT {w:Wt} {k m:Nat} (h:alP w (k, m) = true):zgD (k, m) (B true) (esB (zBZ w k ++ rowA w k m)) = esB (zBZ w k ++ rowA w k (m + 1)):=by
 rw [zFD ztf, zD4, h, cond_true, List.append_assoc]
theorem zEX {w:Wt} {k m:Nat} (h:alP w (k, m) = false):zBZ w k ++ rowA w k (m + 1) = zBZ w k ++ rowA w k m:=by
 rw [zD4, h, cond_false, List.append_nil]
theorem zAI {w:Wt} {k:Nat} (h:k < w.reps.length):w.reps[k] = rpW w k:=by simp [rpW, h]
def eLk (w:Wt):List AV:=eWt w ++ [zFb zBz (esA (zzV w))]
theorem zD0 {w:Wt} {k:Nat} (h:k < w.reps.length):(w.reps.map eRep)[k]? = some (eRep (rpW w k)):=by rw [← zAI h]; exact zBh h
theorem zDU {w:Wt}:∀ q ∈ w.reps.map eRep, q.length = 7:=zz7 fun _=>rfl
theorem zBi {w:Wt} (hP:WtP w) {k:Nat} (h:k < w.reps.length):zz9 w.n (rpW w k) = true:=by rw [← zAI h]; exact hP.reps _ (List.getElem_mem h)
theorem row0 {w:Wt} {k:Nat}:rowA w k 0 = rowA w k (k + 1):=by
 rw [show rowA w k 0 = [] from rfl]
 symm
 rw [List.eq_nil_iff_forall_not_mem]
 intro p hp
 rw [zAU] at hp
 obtain ⟨h1, h2, h3⟩:=hp
 simp only[alP, zLa, decide_eq_true_eq] at h3
 omega
theorem zFm {w:Wt} {k j:Nat} {b:Bool} (h:k < j) (hb:alB w (rpW w k) (rpW w j) = b):alP w (k, j) = b:=by simp [alP, h, hb]
theorem zFS {w:Wt} {k:Nat}:zBZ w k ++ rowA w k w.reps.length = zBZ w (k + 1) ++ rowA w (k + 1) 0:=by rw [zEn]; simp [rowA]
theorem zFV {w:Wt}:zBZ w w.reps.length ++ rowA w w.reps.length 0 = zzV w:=by simp [rowA, zzV]
theorem zFy (l:List (Nat × Nat)):esB l = (esA l).map fun p=>(p.1, EV.pub p.2):=by simp [esA, esB, Function.comp_def]
abbrev ztY:EV:=.pub (.v (.slice none 0 0))
def zLk:List EV:=[I 0, ztY, ztY, ztY, I 0, I 0, I 0, I 0, I 0, .pub (.v (.map none))]
end Hs
end Go.Av
end
section
namespace Go.Av
namespace Hs
open Go.Proofs
set_option maxRecDepth 100000
set_option maxHeartbeats 1000000
variable {G:Glob}
theorem zFI:(Tryz.prog.info? 158).bind (·.zero) = some (.agg #[.int .i64 0, .slice none 0 0, .slice none 0 0, .slice none 0 0, .int .i64 0, .int .i64 0, .int .i64 0, .int .i64 0, .int .i64 0, .map none]):=by kernel_rfl
theorem zFp:(Tryz.prog.info? 48).bind (·.zero) = some (.agg #[.int .i64 0, .int .i64 0, .int .i64 0, .int .i64 0, .int .i64 0, .int .i64 0, .int .i64 0]):=by kernel_rfl
theorem zFL:vM Tryz.prog 276 [(0, 1), (1, 1)] [.int .i64 0, .int .i64 0]:=⟨_, Tryz.underlying276, by kernel_rfl, by kernel_rfl⟩
theorem zGc:vM Tryz.prog 158 [(0, 9), (9, 1)] [.int .i64 0, .slice none 0 0, .slice none 0 0, .slice none 0 0, .int .i64 0, .int .i64 0, .int .i64 0, .int .i64 0, .int .i64 0, .map none]:=⟨_, Tryz.underlying158, by kernel_rfl, by kernel_rfl⟩
theorem zDy:tyIs Tryz.prog 158 true 10 = true:=by kernel_rfl
theorem f60 {w:Wt} (hP:WtP w):ACall Tryz.prog G 60 [.agg (eWt w)] (.agg (eLk w)):=by
 have hlr:=hP.lr
 have hlm:(w.reps.map eRep).length = w.reps.length:=by simp
 refine zO Tryz.func60 rfl (by kernel_rfl) rfl ?_
 refine zn (jy rfl rfl (ql rfl (zQ rfl)) (qL rfl (jr rfl rfl zFI rfl rfl) (zo (zn (qL rfl (zgX rfl rfl) (jy rfl rfl (zvO rfl rfl) (zo ?_)))))))
 refine zt (zn (jy rfl rfl (zi rfl rfl zzR) (jy rfl rfl (zl rfl rfl rfl zq0) (jy rfl rfl (qA rfl rfl rfl Tryz.underlying29) (jy rfl rfl (zh rfl rfl) (zo (zF ?_)))))))
 refine qm (ι:={ k:Nat // k <= w.reps.length }) (fun k=>⟨Tryz.f60.ntmps, frL [(1, .pub (.ptr (eWt w))), (2, .pp 0 1 0 0), (3, .mpv 1), (9, .pub (.sl (w.reps.map eRep))), (10, I (((w.reps.map eRep).length:Nat):Int)), (11, I (k.1:Int))], [.row [zLk], zkO zBz (esB (zBZ w k.1 ++ rowA w k.1 0))]⟩) (fun k=>w.reps.length - k.1) (⟨0, by omega⟩) ?_ ?_
 ·exact zy _ ⟨rfl, rfl, rfl, rfl, rfl, rfl, trivial⟩ (rfl)
 ·rintro ⟨k, hk⟩
  dsimp only
  refine zn (jy rfl rfl (qx rfl rfl rfl) (zo (zt (zA rfl (fun h0=>?_) (fun h0=>?_)))))
  ·have hlt:k < w.reps.length:=by simpa using h0
   refine zH (zk (zt (zF (zn (jy rfl rfl (zh rfl rfl) ?_)))))
   refine jy rfl rfl (zD rfl rfl rfl zA1 (by omega) (by exact zD0 hlt) zDU) ?_
   refine jy rfl rfl (zK rfl rfl zAs (by exact zLb rfl)) ?_
   refine zjZ  rfl rfl rfl rfl rfl rfl rfl rfl (zg rfl rfl) rfl rfl rfl zFp zAs rfl (by rfl) (zQ rfl) rfl ?_
   refine zo (zn (jy rfl rfl (zh rfl rfl) (jy rfl rfl (zW rfl rfl rfl ⟨by omega, by omega⟩) (jy rfl rfl (zg rfl rfl) (zo (zF ?_))))))
   refine qm (ι:={ j:Nat // k + 1 <= j /\ j <= w.reps.length }) (fun j=>⟨Tryz.f60.ntmps, frL [(1, .pub (.ptr (eWt w))), (2, .pp 0 1 0 0), (3, .mpv 1), (9, .pub (.sl (w.reps.map eRep))), (10, I (((w.reps.map eRep).length:Nat):Int)), (11, I (k:Int)), (4, I (k:Int)), (5, .pub (.ptr (eRep (rpW w k)))), (6, I (j.1:Int))], [.row [zLk], zkO zBz (esB (zBZ w k ++ rowA w k j.1))]⟩) (fun j=>w.reps.length - j.1) (⟨k + 1, by omega⟩) ?_ ?_
   ·exact zy _ ⟨rfl, rfl, rfl, rfl, rfl, rfl, rfl, rfl, rfl, trivial⟩ ((by rw [row0]))
   ·rintro ⟨j, hj⟩
    dsimp only
    refine zt (zn (jy rfl rfl (zh rfl rfl) (jy rfl rfl (zi rfl rfl zzR) (jy rfl rfl (zl rfl rfl rfl zq0) (jy rfl rfl (qA rfl rfl rfl Tryz.underlying29) (jy rfl rfl (qx rfl rfl rfl) (zo (zA rfl (fun h1=>?_) (fun h1=>?_)))))))))
    ·have hjl:j < w.reps.length:=by simpa using h1
     refine zH (zk (zt (zF (zt ?_))))
     refine qp mixed (by kernel_rfl) rfl ?_
     refine zu rfl (zK rfl rfl zz8 (by exact zLb rfl)) (zu rfl (zK rfl rfl zAs (by exact zLb rfl)) (zu rfl (zi rfl rfl zzR) (zu rfl (zl rfl rfl rfl zq0) (zu rfl (zh rfl rfl) ?_))))
     refine zu rfl (zD rfl rfl rfl zA1 (by omega) (by exact zD0 hjl) zDU) ?_
     refine zu rfl (zK rfl rfl zAs (by exact zLb rfl)) (zu rfl (zB (av:=[_, _, _]) rfl ⟨rfl, rfl, rfl, trivial⟩ (f160 hP _ _ (zBi hP hlt) (zBi hP hjl))) (qF (zk (zA rfl (fun h2=>?_) (fun h2=>?_)))))
     ·refine zx (jy rfl rfl (zwN rfl rfl) (jy rfl rfl (zh rfl rfl) (jy rfl rfl (zh rfl rfl) ?_)))
      refine jy rfl rfl (yl (cs:=[_, _]) rfl zFL rfl ⟨_, _, rfl, (qU rfl), ⟨_, _, rfl, (qU rfl), rfl⟩⟩ (by rfl) (by simp [ofV])) ?_
      refine qL rfl (zjw (enc:=zBz) (es:=esB (zBZ w k ++ rowA w k j)) (a:=(k, j)) (v:=B true) (.inl rfl) rfl rfl rfl rfl (zFP k j) Tryz.underlying156 zGo rfl) (zM (zJ (zk (zx (jy rfl rfl (zh rfl rfl) (jy rfl rfl (zW rfl rfl rfl ⟨by omega, by omega⟩) (jy rfl rfl (zg rfl rfl) (zM ?_))))))))
      exact ⟨⟨j + 1, by omega⟩, by dsimp only; omega, zy _ ⟨rfl, rfl, rfl, rfl, rfl, rfl, rfl, rfl, rfl, trivial⟩ ((congrArg (fun z=>[PO.row [zLk], zkO zBz z]) (zFT (zFm (by omega) h2))))⟩
     ·refine zH (zJ (zk (zx (jy rfl rfl (zh rfl rfl) (jy rfl rfl (zW rfl rfl rfl ⟨by omega, by omega⟩) (jy rfl rfl (zg rfl rfl) (zM ?_)))))))
      exact ⟨⟨j + 1, by omega⟩, by dsimp only; omega, zy _ ⟨rfl, rfl, rfl, rfl, rfl, rfl, rfl, rfl, rfl, trivial⟩ ((congrArg (fun z=>[PO.row [zLk], zkO zBz (esB z)]) (zEX (zFm (by omega) h2)).symm))⟩
    ·have hje:j = w.reps.length:=by simp at h1; omega
     subst hje
     refine zAj (zS (zS (zAi (zJ (zk (zx (jy rfl rfl (zW rfl rfl rfl ⟨by omega, by omega⟩) (jy rfl rfl (zh rfl rfl) (zM ?_)))))))))
     exact ⟨⟨k + 1, by omega⟩, by dsimp only; omega, zy _ ⟨rfl, rfl, rfl, rfl, rfl, rfl, trivial⟩ ((by rw [zFS]))⟩
  ·have hge:k = w.reps.length:=by simp at h0; omega
   subst hge
   refine zAj (zS (zS (zAi (zk (zt ?_)))))
   refine qY (zED (enc:=zBz) (k:=1) (es:=esA (zzV w)) [3] (by rw [← zFy, zFV]; rfl) (fun d hd=>by rw [List.mem_singleton] at hd; subst hd; rfl)) ?_
   refine zx (jy rfl rfl (zK rfl rfl zz8 (by exact zLb rfl)) (jy rfl rfl (zI rfl rfl) ?_))
   refine jy rfl rfl (yl (cs:=[_, _, _, _, _, _, _, _, _, _]) rfl zGc rfl ⟨_, _, rfl, (zQ rfl), ⟨_, _, rfl, (zAW rfl), rfl⟩⟩ (by rfl) (by simp [ofV])) ?_
   refine qL rfl (qw rfl rfl rfl rfl rfl rfl (zQ rfl) zDy (by rfl) (by exact zLb rfl)) ?_
   refine zo (zN ?_)
   exact ⟨.inr rfl, zcp rfl (jd rfl rfl rfl rfl zDy rfl ⟨_, _, rfl, AVle.refl _, ⟨_, _, rfl, AVle.refl _, ⟨_, _, rfl, AVle.refl _, ⟨_, _, rfl, AVle.refl _, ⟨_, _, rfl, AVle.refl _, ⟨_, _, rfl, AVle.refl _, ⟨_, _, rfl, AVle.refl _, ⟨_, _, rfl, AVle.refl _, ⟨_, _, rfl, AVle.refl _, ⟨_, _, rfl, AVle.refl _, rfl⟩⟩⟩⟩⟩⟩⟩⟩⟩⟩)⟩
end Hs
end Go.Av
end
