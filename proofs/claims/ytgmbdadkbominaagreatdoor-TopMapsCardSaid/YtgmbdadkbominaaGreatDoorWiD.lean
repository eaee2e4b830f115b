import Derived.Test.YtgmbdadkbominaaGreatDoorWiC
set_option linter.unusedVariables false
set_option linter.unusedSimpArgs false
section
namespace Go.Av
namespace Wr
open Go.Proofs
set_option maxRecDepth 100000
set_option maxHeartbeats 1000000
variable {G:Glob}
theorem zjA:(Tryz.prog.info? 340).bind (·.zero) = some (.agg #[.int .i64 0, .int .i64 0, .int .i64 0]):=by kernel_rfl
theorem zjg:fldIs Tryz.prog 289 1 3 = true:=by kernel_rfl
theorem zjk:tyIs Tryz.prog 74 false 1 = true:=by kernel_rfl
theorem zer:kw Tryz.prog 74 1 = true:=by kernel_rfl
theorem zi6:tyIs Tryz.prog 81 false 1 = true:=by kernel_rfl
theorem jk:fldIs Tryz.prog 289 0 0 = true:=by kernel_rfl
theorem jT:zeE Tryz.prog 340 3 1 = true:=by kernel_rfl
theorem qZ:tyIs Tryz.prog 340 true 3 = true:=by kernel_rfl
def vK (c:Cod) (l:List (List (List UInt8))):List AV:=[.sl (c.fields.map eSpn), eInts c.turns, .v (.int .i64 c.most), eCps l]
def chF (g:List (List UInt8)) (at' pz:Nat):Int:=(((g.getD at' []).getD pz 0).toNat:Int)
theorem zb3 {l:List (List (List UInt8))} {k:Nat} (h:k < l.length):(l.map fun g=>[eStrs g])[k]? = some [eStrs l[k]]:=by simp [h]
theorem zaa {l:List (List (List UInt8))}:∀ q ∈ l.map (fun g=>[eStrs g]), q.length = 1:=by simp
theorem zcz {c:Cod} {g:List (List UInt8)} {at' pz:Nat} (h:vI c g = true) (h1:at' <= c.fields.length) (h2:pz < 5):∃ (x:at' < g.length) (y:pz < g[at'].length), chF g at' pz = (g[at'][pz].toNat:Int) /\ 48 <= chF g at' pz /\ chF g at' pz <= 63:=by
 simp only[vI, zLa, List.all_eq_true, beq_iff_eq] at h
 have x:at' < g.length:=by omega
 have h3:=h.1 _ (List.getElem_mem x)
 have h5:=zco h3
 have y:pz < g[at'].length:=by omega
 have e:chF g at' pz = (g[at'][pz].toNat:Int):=by
  unfold chF
  have e1:g.getD at' [] = g[at']:=by rw [List.getD_eq_getElem?_getD, List.getElem?_eq_getElem x, Option.getD_some]
  rw [e1, List.getD_eq_getElem?_getD, List.getElem?_eq_getElem y, Option.getD_some]
 have h6:=zkr h3 y
 refine ⟨x, y, e, ?_⟩
 rw [e]
 simp only[kW, zks, zfC, Bool.or_eq_true, zLa, decide_eq_true_eq] at h6
 omega
def wP (l:List (List (List UInt8))) (at' pz:Nat) (f:Int) (i:Nat):Int:=if h:i < l.length then wrN (chF l[i] at' pz, f) else 0
def okQ (c:Cod) (l:List (List (List UInt8))) (at' pz:Nat) (f:Int) (i:Nat) (n:Int):Bool:=if h:i < l.length then okP c (chF l[i] at' pz, f) && decide (n + wrN (chF l[i] at' pz, f) <= c.most) else true
def ve (c:Cod) (l:List (List (List UInt8))) (at' pz:Nat) (f:Int) (n:Int × Int × Int):Bool:=okQ c l at' pz f 0 n.1 && (okQ c l at' pz f 1 n.2.1 && okQ c l at' pz f 2 n.2.2)
def plN (l:List (List (List UInt8))) (at' pz:Nat) (f:Int) (n:Int × Int × Int):Int × Int × Int:=(n.1 + wP l at' pz f 0, n.2.1 + wP l at' pz f 1, n.2.2 + wP l at' pz f 2)
def eCn (n:Int × Int × Int):List AV:=[ei n.1, ei n.2.1, ei n.2.2]
theorem zew (l:List (List (List UInt8))) (at' pz:Nat) (f:Int) (i:Nat):0 <= wP l at' pz f i /\ wP l at' pz f i <= 1:=by
 unfold wP wrN; split
 ·split <;> omega
 ·omega
theorem zdb {l:List (List (List UInt8))} {at' pz:Nat} {f:Int} {i:Nat} (h:l.length <= i):wP l at' pz f i = 0:=by unfold wP; rw [dif_neg (by omega)]
theorem zbo {c:Cod} {l:List (List (List UInt8))} {at' pz:Nat} {f:Int} {i:Nat} {n:Int} (h:l.length <= i):okQ c l at' pz f i n = true:=by unfold okQ; rw [dif_neg (by omega)]
theorem zec (c:Cod) (ch f:Int):(zbG c ch f = 1 /\ rgt ch f = true) ∨ (zbG c ch f = 2 /\ rgt ch f = false /\ wrg c ch f = true) ∨ (zbG c ch f = 0 /\ rgt ch f = false /\ wrg c ch f = false):=by
 unfold zbG
 cases h1:rgt ch f with
 | true=>simp
 | false=>cases h2:wrg c ch f <;> simp
theorem zd6 {c:Cod} {l:List (List (List UInt8))} {at' pz:Nat} {f n:Int} {i:Nat} (h:i < l.length) (hh:zbG c (chF l[i] at' pz) f = 0):okQ c l at' pz f i n = false:=by
 rcases zec c (chF l[i] at' pz) f with ⟨h1, _⟩ | ⟨h1, _⟩ | ⟨_, h1, h2⟩
 ·omega
 ·omega
 ·unfold okQ; rw [dif_pos h]; simp [okP, h1, h2]
theorem xu {c:Cod} {l:List (List (List UInt8))} {at' pz:Nat} {f n:Int} {i:Nat} (h:i < l.length) (hh:zbG c (chF l[i] at' pz) f = 2):wP l at' pz f i = 1 /\ okQ c l at' pz f i n = decide (n + 1 <= c.most):=by
 rcases zec c (chF l[i] at' pz) f with ⟨h1, _⟩ | ⟨_, h1, h2⟩ | ⟨h1, _⟩
 ·omega
 ·unfold wP okQ; rw [dif_pos h, dif_pos h]; simp [okP, wrN, h1, h2]
 ·omega
theorem xw {c:Cod} {l:List (List (List UInt8))} {at' pz:Nat} {f n:Int} {i:Nat} (h:i < l.length) (h0:zbG c (chF l[i] at' pz) f ≠ 0) (h2:zbG c (chF l[i] at' pz) f ≠ 2):wP l at' pz f i = 0 /\ okQ c l at' pz f i n = decide (n <= c.most):=by
 rcases zec c (chF l[i] at' pz) f with ⟨_, h1⟩ | ⟨h1, _⟩ | ⟨h1, _⟩
 ·unfold wP okQ; rw [dif_pos h, dif_pos h]; simp [okP, wrN, h1]
 ·omega
 ·omega
def zdP (n:Int × Int × Int) (c:Cod) (l:List (List (List UInt8))) (at' pz:Nat) (f:Int):Nat -> Bool
 | 0=>okQ c l at' pz f 0 n.1
 | 1=>okQ c l at' pz f 1 n.2.1
 | _=>okQ c l at' pz f 2 n.2.2
theorem zoP {n:Int × Int × Int} {c:Cod} {l:List (List (List UInt8))} {at' pz:Nat} {f:Int} (h:ve c l at' pz f n = true):∀ i, i < 3 -> zdP n c l at' pz f i = true:=fun i hi=>by
 simp only[ve, zLa] at h
 match i, hi with
 | 0, _=>exact h.1
 | 1, _=>exact h.2.1
 | 2, _=>exact h.2.2
theorem zsP {l:List (List (List UInt8))} {at' pz:Nat} {f:Int} {n:Int × Int × Int} (_h:l.length <= 0) (_:0 <= 1):ei (n.1) = ei ((plN l at' pz f n).1):=by
 unfold plN; simp only; rw [zdb (by omega), Int.add_zero]
theorem zsN {l:List (List (List UInt8))} {at' pz:Nat} {f:Int} {n:Int × Int × Int} (_h:l.length <= 0) (_:0 <= 1):ei (n.2.1) = ei ((plN l at' pz f n).2.1):=by
 unfold plN; simp only; rw [zdb (by omega), Int.add_zero]
theorem zs4 {l:List (List (List UInt8))} {at' pz:Nat} {f:Int} {n:Int × Int × Int} (_h:l.length <= 0) (_:0 <= 1):ei (n.2.2) = ei ((plN l at' pz f n).2.2):=by
 unfold plN; simp only; rw [zdb (by omega), Int.add_zero]
theorem ztz {l:List (List (List UInt8))} {at' pz:Nat} {f:Int} {n:Int × Int × Int} (_h:l.length <= 1) (_:0 <= 1):ei (n.1 + wP l at' pz f 0) = ei ((plN l at' pz f n).1):=by
 rfl
theorem zsZ {l:List (List (List UInt8))} {at' pz:Nat} {f:Int} {n:Int × Int × Int} (_h:l.length <= 1) (_:0 <= 1):ei (n.2.1) = ei ((plN l at' pz f n).2.1):=by
 unfold plN; simp only; rw [zdb (by omega), Int.add_zero]
theorem ztl {l:List (List (List UInt8))} {at' pz:Nat} {f:Int} {n:Int × Int × Int} (_h:l.length <= 1) (_:0 <= 1):ei (n.2.2) = ei ((plN l at' pz f n).2.2):=by
 unfold plN; simp only; rw [zdb (by omega), Int.add_zero]
theorem ztv {l:List (List (List UInt8))} {at' pz:Nat} {f:Int} {n:Int × Int × Int} (_h:l.length <= 2) (_:0 <= 1):ei (n.1 + wP l at' pz f 0) = ei ((plN l at' pz f n).1):=by
 rfl
theorem zsO {l:List (List (List UInt8))} {at' pz:Nat} {f:Int} {n:Int × Int × Int} (_h:l.length <= 2) (_:0 <= 1):ei (n.2.1 + wP l at' pz f 1) = ei ((plN l at' pz f n).2.1):=by
 rfl
theorem zsL {l:List (List (List UInt8))} {at' pz:Nat} {f:Int} {n:Int × Int × Int} (_h:l.length <= 2) (_:0 <= 1):ei (n.2.2) = ei ((plN l at' pz f n).2.2):=by
 unfold plN; simp only; rw [zdb (by omega), Int.add_zero]
theorem zs9 {l:List (List (List UInt8))} {at' pz:Nat} {f:Int} {n:Int × Int × Int} (_h:l.length <= 3) (_:0 <= 1):ei (n.1 + wP l at' pz f 0) = ei ((plN l at' pz f n).1):=by
 rfl
theorem ztq {l:List (List (List UInt8))} {at' pz:Nat} {f:Int} {n:Int × Int × Int} (_h:l.length <= 3) (_:0 <= 1):ei (n.2.1 + wP l at' pz f 1) = ei ((plN l at' pz f n).2.1):=by
 rfl
theorem zsV {l:List (List (List UInt8))} {at' pz:Nat} {f:Int} {n:Int × Int × Int} (_h:l.length <= 3) (_:0 <= 1):ei (n.2.2 + wP l at' pz f 2) = ei ((plN l at' pz f n).2.2):=by
 rfl
theorem zqB (c:Cod) (l:List (List (List UInt8))) (n:Int × Int × Int) (at' pz:Nat) (f:Int) (hc:wL c = true) (hl:l.length <= 3) (hcp:∀ g ∈ l, vI c g = true) (hat:at' <= c.fields.length) (hpl:pz < 5) (hf:0 <= f /\ f <= 9) (hn:0 <= n.1 /\ n.1 <= 1000 /\ 0 <= n.2.1 /\ n.2.1 <= 1000 /\ 0 <= n.2.2 /\ n.2.2 <= 1000) (hyes:ve c l at' pz f n = true):ACall Tryz.prog G 235 [.agg (vK c l), .agg (eCn n), ei (at':Int), ei (pz:Int), ei f] (.tup [.agg (eCn (plN l at' pz f n)), .v (.bool true)]):=by
 have hb0:=zew l at' pz f 0
 have hb1:=zew l at' pz f 1
 have hb2:=zew l at' pz f 2
 have hall:=zoP hyes
 refine zO Tryz.func235 Y (by kernel_rfl) Y ?_
 refine zn (zf (ql Y (zQ Y)) (qL Y (zru Y Y (zQ Y)) (qL Y (jr Y Y zjA Y Y) (zf (zg Y Y) (zo (zt (zn (zf (zi Y Y zjg) ?_))))))))
 refine zf (zl Y Y Y zjk) (zf (qA Y Y Y Tryz.underlying74) (zf (zh Y Y) (zo (zF ?_))))
 refine qm (ι:={ k:Nat // k < 4 }) (fun k=>match k.1 with | 0=>⟨Tryz.f235.ntmps, frL [(2, I (at':Int)), (3, I (pz:Int)), (4, I f), (5, .pub (.ptr (vK c l))), (6, .pp 0 1 0 0), (10, .pp 1 1 0 0), (15, .pub (eCps l)), (16, I (l.length:Int)), (17, I 0)], [.row [[I n.1, I n.2.1, I n.2.2]], .row [[I 0, I 0, I 0]]]⟩ | 1=>⟨Tryz.f235.ntmps, frL [(2, I (at':Int)), (3, I (pz:Int)), (4, I f), (5, .pub (.ptr (vK c l))), (6, .pp 0 1 0 0), (10, .pp 1 1 0 0), (15, .pub (eCps l)), (16, I (l.length:Int)), (17, I 1)], [.row [[I (n.1 + wP l at' pz f 0), I n.2.1, I n.2.2]], .row [[I 0, I 0, I 0]]]⟩ | 2=>⟨Tryz.f235.ntmps, frL [(2, I (at':Int)), (3, I (pz:Int)), (4, I f), (5, .pub (.ptr (vK c l))), (6, .pp 0 1 0 0), (10, .pp 1 1 0 0), (15, .pub (eCps l)), (16, I (l.length:Int)), (17, I 2)], [.row [[I (n.1 + wP l at' pz f 0), I (n.2.1 + wP l at' pz f 1), I n.2.2]], .row [[I 0, I 0, I 0]]]⟩ | _=>⟨Tryz.f235.ntmps, frL [(2, I (at':Int)), (3, I (pz:Int)), (4, I f), (5, .pub (.ptr (vK c l))), (6, .pp 0 1 0 0), (10, .pp 1 1 0 0), (15, .pub (eCps l)), (16, I (l.length:Int)), (17, I 3)], [.row [[I (n.1 + wP l at' pz f 0), I (n.2.1 + wP l at' pz f 1), I (n.2.2 + wP l at' pz f 2)]], .row [[I 0, I 0, I 0]]]⟩) (fun k=>4 - k.1) (⟨0, by omega⟩) ?_ ?_
 ·exact zy _ ⟨Y, Y, Y, Y, Y, Y, Y, (congrArg (fun x:Nat=>I (x:Int)) (List.length_map _)), Y, trivial⟩ (Y)
 ·rintro ⟨k, hk⟩
  have hk3:k = 0 ∨ k = 1 ∨ k = 2 ∨ k = 3:=by omega
  rcases hk3 with rfl | rfl | rfl | rfl
  ·dsimp only
   refine zn (zf (qx Y Y Y) (zo (zt (zA Y (fun h0=>?_) (fun h0=>?_)))))
   ·have hlt:0 < l.length:=by simp at h0; omega
    obtain ⟨hx, hy, hch, hc1, hc2⟩:=zcz (hcp _ (List.getElem_mem hlt)) hat hpl
    refine zH (zk (zt (zF (zn (zf (zh Y Y) (zf (zD Y Y Y zer (by omega) (zb3 hlt) zaa) (zf (zl Y Y Y zi6) (zf (zg Y Y) (zf (qG Y Y) (zM ?_))))))))))
    refine zk (zt (zt ?_))
    refine qp mixed (by kernel_rfl) Y ?_
    refine zu Y (zi Y Y jk) (zu Y (zK Y Y zbD (by exact zLb Y)) (zu Y (zI Y Y) (zu Y (zh Y Y) (zu Y (zD Y Y Y zbs (by omega) (kU hx) yj) (zu Y (zl Y Y Y ty9) (zu Y (zh Y Y) ?_))))))
    refine zu Y (wB Y Y Y Tryz.underlying9 (by omega) (by rw [Int.toNat_natCast]; exact List.getElem?_eq_getElem hy)) ?_
    refine zu Y (zh Y Y) (zu Y (zB (av:=[_, _, _]) Y ⟨Y, Y, Y, trivial⟩ (hch ▸ f119 c _ f hc ⟨hc1, hc2⟩ hf)) (qF (zk (zF (zn (zf (qR Y Y Y) (zf (zg Y Y) (zo (zA Y (fun h1=>?_) (fun h1=>?_))))))))))
    ·exfalso; have hq:=zd6 (c:=c) (at':=at') (pz:=pz) (f:=f) (n:=n.1) hlt (by rw [hch]; simpa using h1); have:=(hall 0 (by omega)).symm.trans hq; cases this
    ·have hn0:zbG c (chF l[0] at' pz) f ≠ 0:=by rw [hch]; simpa using h1
     refine zn (zf (qR Y Y Y) (zf (zg Y Y) (zo (zA Y (fun h2=>?_) (fun h2=>?_)))))
     ·have hwq:=xu (c:=c) (at':=at') (pz:=pz) (f:=f) (n:=n.1) hlt (by rw [hch]; simpa using h2)
      have hW:=hwq.1
      have hq:=hwq.2
      refine zx (zf (zh Y Y) (zf (zV Y Y Y Y Y jT (by omega) (by omega)) (zf (zX Y Y Y Y Y Y ty3) (zf (zW Y Y Y ⟨by omega, by omega⟩) (zf (zV Y Y Y Y Y jT (by omega) (by omega)) ?_)))))
      refine qL Y (qw Y Y Y Y Y Y (qU Y) ty3 (by rfl) (by exact zLb Y)) ?_
      refine zM (zJ (zk (zt ?_)))
      refine qp mixed (by kernel_rfl) Y ?_
      refine zu Y (zh Y Y) (zu Y (zV Y Y Y Y Y jT (by omega) (by omega)) (zu Y (zX Y Y Y Y Y Y ty3) (zu Y (zi Y Y jk) (zu Y (zi Y Y wQ) (zu Y (zl Y Y Y ty3) (zu Y (jB Y Y Y) (qF (zk (zA Y (fun h3=>?_) (fun h3=>?_))))))))))
      ·exfalso; have:=hq.symm.trans (hall 0 (by omega)); simp at this h3; omega
      ·have hok:True:=trivial
       refine zH (zJ (zk (zx (zf (zW Y Y Y ⟨by omega, by omega⟩) (zf (zh Y Y) (zM ?_))))))
       exact ⟨⟨1, by omega⟩, by dsimp only; omega, (by refine zy (mem':=[.row [[I (n.1 + wP l at' pz f 0), I n.2.1, I n.2.2]], .row [[I 0, I 0, I 0]]]) [(2, I (at':Int)), (3, I (pz:Int)), (4, I f), (5, .pub (.ptr (vK c l))), (6, .pp 0 1 0 0), (10, .pp 1 1 0 0), (15, .pub (eCps l)), (16, I (l.length:Int)), (17, I 1)] ?_ ?_; exact ⟨Y, Y, Y, Y, Y, Y, Y, Y, Y, trivial⟩; exact (congrArg (fun z=>[PO.row [z], .row [[I 0, I 0, I 0]]]) (by first | rw [hW, Int.add_zero] | rw [hW]; rfl | rw [hW])))⟩
     ·have hwq:=xw (c:=c) (at':=at') (pz:=pz) (f:=f) (n:=n.1) hlt hn0 (by rw [hch]; simpa using h2)
      have hW:=hwq.1
      have hq:=hwq.2
      refine zH (zJ (zk (zt ?_)))
      refine qp mixed (by kernel_rfl) Y ?_
      refine zu Y (zh Y Y) (zu Y (zV Y Y Y Y Y jT (by omega) (by omega)) (zu Y (zX Y Y Y Y Y Y ty3) (zu Y (zi Y Y jk) (zu Y (zi Y Y wQ) (zu Y (zl Y Y Y ty3) (zu Y (jB Y Y Y) (qF (zk (zA Y (fun h3=>?_) (fun h3=>?_))))))))))
      ·exfalso; have:=hq.symm.trans (hall 0 (by omega)); simp at this h3; omega
      ·have hok:True:=trivial
       refine zH (zJ (zk (zx (zf (zW Y Y Y ⟨by omega, by omega⟩) (zf (zh Y Y) (zM ?_))))))
       exact ⟨⟨1, by omega⟩, by dsimp only; omega, (by refine zy (mem':=[.row [[I (n.1 + wP l at' pz f 0), I n.2.1, I n.2.2]], .row [[I 0, I 0, I 0]]]) [(2, I (at':Int)), (3, I (pz:Int)), (4, I f), (5, .pub (.ptr (vK c l))), (6, .pp 0 1 0 0), (10, .pp 1 1 0 0), (15, .pub (eCps l)), (16, I (l.length:Int)), (17, I 1)] ?_ ?_; exact ⟨Y, Y, Y, Y, Y, Y, Y, Y, Y, trivial⟩; exact (congrArg (fun z=>[PO.row [z], .row [[I 0, I 0, I 0]]]) (by first | rw [hW, Int.add_zero] | rw [hW]; rfl | rw [hW])))⟩
   ·have hge:l.length <= 0:=by simp at h0; first | omega | simp [h0]
    refine qg (zS (zS (qh (zk (zn (zf (qV (cs:=[_, _, _]) Y Y Y Y Y (by exact zLb Y) Y qZ) ?_))))))
    refine qL Y (qw Y Y Y Y Y Y (zQ Y) qZ (by rfl) (by exact zLb Y)) ?_
    refine zf (zg Y Y) (zo (zN ?_))
    exact ⟨.inr Y, ⟨_, Y, ⟨_, _, Y, (jd Y Y Y Y qZ Y ⟨_, _, Y, AVle.of (zsP hge (by omega)), ⟨_, _, Y, AVle.of (zsN hge (by omega)), ⟨_, _, Y, AVle.of (zs4 hge (by omega)), Y⟩⟩⟩), ⟨_, _, Y, AVle.refl _, Y⟩⟩⟩⟩
  ·dsimp only
   refine zn (zf (qx Y Y Y) (zo (zt (zA Y (fun h0=>?_) (fun h0=>?_)))))
   ·have hlt:1 < l.length:=by simp at h0; omega
    obtain ⟨hx, hy, hch, hc1, hc2⟩:=zcz (hcp _ (List.getElem_mem hlt)) hat hpl
    refine zH (zk (zt (zF (zn (zf (zh Y Y) (zf (zD Y Y Y zer (by omega) (zb3 hlt) zaa) (zf (zl Y Y Y zi6) (zf (zg Y Y) (zf (qG Y Y) (zM ?_))))))))))
    refine zk (zt (zt ?_))
    refine qp mixed (by kernel_rfl) Y ?_
    refine zu Y (zi Y Y jk) (zu Y (zK Y Y zbD (by exact zLb Y)) (zu Y (zI Y Y) (zu Y (zh Y Y) (zu Y (zD Y Y Y zbs (by omega) (kU hx) yj) (zu Y (zl Y Y Y ty9) (zu Y (zh Y Y) ?_))))))
    refine zu Y (wB Y Y Y Tryz.underlying9 (by omega) (by rw [Int.toNat_natCast]; exact List.getElem?_eq_getElem hy)) ?_
    refine zu Y (zh Y Y) (zu Y (zB (av:=[_, _, _]) Y ⟨Y, Y, Y, trivial⟩ (hch ▸ f119 c _ f hc ⟨hc1, hc2⟩ hf)) (qF (zk (zF (zn (zf (qR Y Y Y) (zf (zg Y Y) (zo (zA Y (fun h1=>?_) (fun h1=>?_))))))))))
    ·exfalso; have hq:=zd6 (c:=c) (at':=at') (pz:=pz) (f:=f) (n:=n.2.1) hlt (by rw [hch]; simpa using h1); have:=(hall 1 (by omega)).symm.trans hq; cases this
    ·have hn0:zbG c (chF l[1] at' pz) f ≠ 0:=by rw [hch]; simpa using h1
     refine zn (zf (qR Y Y Y) (zf (zg Y Y) (zo (zA Y (fun h2=>?_) (fun h2=>?_)))))
     ·have hwq:=xu (c:=c) (at':=at') (pz:=pz) (f:=f) (n:=n.2.1) hlt (by rw [hch]; simpa using h2)
      have hW:=hwq.1
      have hq:=hwq.2
      refine zx (zf (zh Y Y) (zf (zV Y Y Y Y Y jT (by omega) (by omega)) (zf (zX Y Y Y Y Y Y ty3) (zf (zW Y Y Y ⟨by omega, by omega⟩) (zf (zV Y Y Y Y Y jT (by omega) (by omega)) ?_)))))
      refine qL Y (qw Y Y Y Y Y Y (qU Y) ty3 (by rfl) (by exact zLb Y)) ?_
      refine zM (zJ (zk (zt ?_)))
      refine qp mixed (by kernel_rfl) Y ?_
      refine zu Y (zh Y Y) (zu Y (zV Y Y Y Y Y jT (by omega) (by omega)) (zu Y (zX Y Y Y Y Y Y ty3) (zu Y (zi Y Y jk) (zu Y (zi Y Y wQ) (zu Y (zl Y Y Y ty3) (zu Y (jB Y Y Y) (qF (zk (zA Y (fun h3=>?_) (fun h3=>?_))))))))))
      ·exfalso; have:=hq.symm.trans (hall 1 (by omega)); simp at this h3; omega
      ·have hok:True:=trivial
       refine zH (zJ (zk (zx (zf (zW Y Y Y ⟨by omega, by omega⟩) (zf (zh Y Y) (zM ?_))))))
       exact ⟨⟨2, by omega⟩, by dsimp only; omega, (by refine zy (mem':=[.row [[I (n.1 + wP l at' pz f 0), I (n.2.1 + wP l at' pz f 1), I n.2.2]], .row [[I 0, I 0, I 0]]]) [(2, I (at':Int)), (3, I (pz:Int)), (4, I f), (5, .pub (.ptr (vK c l))), (6, .pp 0 1 0 0), (10, .pp 1 1 0 0), (15, .pub (eCps l)), (16, I (l.length:Int)), (17, I 2)] ?_ ?_; exact ⟨Y, Y, Y, Y, Y, Y, Y, Y, Y, trivial⟩; exact (congrArg (fun z=>[PO.row [z], .row [[I 0, I 0, I 0]]]) (by first | rw [hW, Int.add_zero] | rw [hW]; rfl | rw [hW])))⟩
     ·have hwq:=xw (c:=c) (at':=at') (pz:=pz) (f:=f) (n:=n.2.1) hlt hn0 (by rw [hch]; simpa using h2)
      have hW:=hwq.1
      have hq:=hwq.2
      refine zH (zJ (zk (zt ?_)))
      refine qp mixed (by kernel_rfl) Y ?_
      refine zu Y (zh Y Y) (zu Y (zV Y Y Y Y Y jT (by omega) (by omega)) (zu Y (zX Y Y Y Y Y Y ty3) (zu Y (zi Y Y jk) (zu Y (zi Y Y wQ) (zu Y (zl Y Y Y ty3) (zu Y (jB Y Y Y) (qF (zk (zA Y (fun h3=>?_) (fun h3=>?_))))))))))
      ·exfalso; have:=hq.symm.trans (hall 1 (by omega)); simp at this h3; omega
      ·have hok:True:=trivial
       refine zH (zJ (zk (zx (zf (zW Y Y Y ⟨by omega, by omega⟩) (zf (zh Y Y) (zM ?_))))))
       exact ⟨⟨2, by omega⟩, by dsimp only; omega, (by refine zy (mem':=[.row [[I (n.1 + wP l at' pz f 0), I (n.2.1 + wP l at' pz f 1), I n.2.2]], .row [[I 0, I 0, I 0]]]) [(2, I (at':Int)), (3, I (pz:Int)), (4, I f), (5, .pub (.ptr (vK c l))), (6, .pp 0 1 0 0), (10, .pp 1 1 0 0), (15, .pub (eCps l)), (16, I (l.length:Int)), (17, I 2)] ?_ ?_; exact ⟨Y, Y, Y, Y, Y, Y, Y, Y, Y, trivial⟩; exact (congrArg (fun z=>[PO.row [z], .row [[I 0, I 0, I 0]]]) (by first | rw [hW, Int.add_zero] | rw [hW]; rfl | rw [hW])))⟩
   ·have hge:l.length <= 1:=by simp at h0; first | omega | simp [h0]
    refine qg (zS (zS (qh (zk (zn (zf (qV (cs:=[_, _, _]) Y Y Y Y Y (by exact zLb Y) Y qZ) ?_))))))
    refine qL Y (qw Y Y Y Y Y Y (zQ Y) qZ (by rfl) (by exact zLb Y)) ?_
    refine zf (zg Y Y) (zo (zN ?_))
    exact ⟨.inr Y, ⟨_, Y, ⟨_, _, Y, (jd Y Y Y Y qZ Y ⟨_, _, Y, AVle.of (ztz hge (by omega)), ⟨_, _, Y, AVle.of (zsZ hge (by omega)), ⟨_, _, Y, AVle.of (ztl hge (by omega)), Y⟩⟩⟩), ⟨_, _, Y, AVle.refl _, Y⟩⟩⟩⟩
  ·dsimp only
   refine zn (zf (qx Y Y Y) (zo (zt (zA Y (fun h0=>?_) (fun h0=>?_)))))
   ·have hlt:2 < l.length:=by simp at h0; omega
    obtain ⟨hx, hy, hch, hc1, hc2⟩:=zcz (hcp _ (List.getElem_mem hlt)) hat hpl
    refine zH (zk (zt (zF (zn (zf (zh Y Y) (zf (zD Y Y Y zer (by omega) (zb3 hlt) zaa) (zf (zl Y Y Y zi6) (zf (zg Y Y) (zf (qG Y Y) (zM ?_))))))))))
    refine zk (zt (zt ?_))
    refine qp mixed (by kernel_rfl) Y ?_
    refine zu Y (zi Y Y jk) (zu Y (zK Y Y zbD (by exact zLb Y)) (zu Y (zI Y Y) (zu Y (zh Y Y) (zu Y (zD Y Y Y zbs (by omega) (kU hx) yj) (zu Y (zl Y Y Y ty9) (zu Y (zh Y Y) ?_))))))
    refine zu Y (wB Y Y Y Tryz.underlying9 (by omega) (by rw [Int.toNat_natCast]; exact List.getElem?_eq_getElem hy)) ?_
    refine zu Y (zh Y Y) (zu Y (zB (av:=[_, _, _]) Y ⟨Y, Y, Y, trivial⟩ (hch ▸ f119 c _ f hc ⟨hc1, hc2⟩ hf)) (qF (zk (zF (zn (zf (qR Y Y Y) (zf (zg Y Y) (zo (zA Y (fun h1=>?_) (fun h1=>?_))))))))))
    ·exfalso; have hq:=zd6 (c:=c) (at':=at') (pz:=pz) (f:=f) (n:=n.2.2) hlt (by rw [hch]; simpa using h1); have:=(hall 2 (by omega)).symm.trans hq; cases this
    ·have hn0:zbG c (chF l[2] at' pz) f ≠ 0:=by rw [hch]; simpa using h1
     refine zn (zf (qR Y Y Y) (zf (zg Y Y) (zo (zA Y (fun h2=>?_) (fun h2=>?_)))))
     ·have hwq:=xu (c:=c) (at':=at') (pz:=pz) (f:=f) (n:=n.2.2) hlt (by rw [hch]; simpa using h2)
      have hW:=hwq.1
      have hq:=hwq.2
      refine zx (zf (zh Y Y) (zf (zV Y Y Y Y Y jT (by omega) (by omega)) (zf (zX Y Y Y Y Y Y ty3) (zf (zW Y Y Y ⟨by omega, by omega⟩) (zf (zV Y Y Y Y Y jT (by omega) (by omega)) ?_)))))
      refine qL Y (qw Y Y Y Y Y Y (qU Y) ty3 (by rfl) (by exact zLb Y)) ?_
      refine zM (zJ (zk (zt ?_)))
      refine qp mixed (by kernel_rfl) Y ?_
      refine zu Y (zh Y Y) (zu Y (zV Y Y Y Y Y jT (by omega) (by omega)) (zu Y (zX Y Y Y Y Y Y ty3) (zu Y (zi Y Y jk) (zu Y (zi Y Y wQ) (zu Y (zl Y Y Y ty3) (zu Y (jB Y Y Y) (qF (zk (zA Y (fun h3=>?_) (fun h3=>?_))))))))))
      ·exfalso; have:=hq.symm.trans (hall 2 (by omega)); simp at this h3; omega
      ·have hok:True:=trivial
       refine zH (zJ (zk (zx (zf (zW Y Y Y ⟨by omega, by omega⟩) (zf (zh Y Y) (zM ?_))))))
       exact ⟨⟨3, by omega⟩, by dsimp only; omega, (by refine zy (mem':=[.row [[I (n.1 + wP l at' pz f 0), I (n.2.1 + wP l at' pz f 1), I (n.2.2 + wP l at' pz f 2)]], .row [[I 0, I 0, I 0]]]) [(2, I (at':Int)), (3, I (pz:Int)), (4, I f), (5, .pub (.ptr (vK c l))), (6, .pp 0 1 0 0), (10, .pp 1 1 0 0), (15, .pub (eCps l)), (16, I (l.length:Int)), (17, I 3)] ?_ ?_; exact ⟨Y, Y, Y, Y, Y, Y, Y, Y, Y, trivial⟩; exact (congrArg (fun z=>[PO.row [z], .row [[I 0, I 0, I 0]]]) (by first | rw [hW, Int.add_zero] | rw [hW]; rfl | rw [hW])))⟩
     ·have hwq:=xw (c:=c) (at':=at') (pz:=pz) (f:=f) (n:=n.2.2) hlt hn0 (by rw [hch]; simpa using h2)
      have hW:=hwq.1
      have hq:=hwq.2
      refine zH (zJ (zk (zt ?_)))
      refine qp mixed (by kernel_rfl) Y ?_
      refine zu Y (zh Y Y) (zu Y (zV Y Y Y Y Y jT (by omega) (by omega)) (zu Y (zX Y Y Y Y Y Y ty3) (zu Y (zi Y Y jk) (zu Y (zi Y Y wQ) (zu Y (zl Y Y Y ty3) (zu Y (jB Y Y Y) (qF (zk (zA Y (fun h3=>?_) (fun h3=>?_))))))))))
      ·exfalso; have:=hq.symm.trans (hall 2 (by omega)); simp at this h3; omega
      ·have hok:True:=trivial
       refine zH (zJ (zk (zx (zf (zW Y Y Y ⟨by omega, by omega⟩) (zf (zh Y Y) (zM ?_))))))
       exact ⟨⟨3, by omega⟩, by dsimp only; omega, (by refine zy (mem':=[.row [[I (n.1 + wP l at' pz f 0), I (n.2.1 + wP l at' pz f 1), I (n.2.2 + wP l at' pz f 2)]], .row [[I 0, I 0, I 0]]]) [(2, I (at':Int)), (3, I (pz:Int)), (4, I f), (5, .pub (.ptr (vK c l))), (6, .pp 0 1 0 0), (10, .pp 1 1 0 0), (15, .pub (eCps l)), (16, I (l.length:Int)), (17, I 3)] ?_ ?_; exact ⟨Y, Y, Y, Y, Y, Y, Y, Y, Y, trivial⟩; exact (congrArg (fun z=>[PO.row [z], .row [[I 0, I 0, I 0]]]) (by first | rw [hW, Int.add_zero] | rw [hW]; rfl | rw [hW])))⟩
   ·have hge:l.length <= 2:=by simp at h0; first | omega | simp [h0]
    refine qg (zS (zS (qh (zk (zn (zf (qV (cs:=[_, _, _]) Y Y Y Y Y (by exact zLb Y) Y qZ) ?_))))))
    refine qL Y (qw Y Y Y Y Y Y (zQ Y) qZ (by rfl) (by exact zLb Y)) ?_
    refine zf (zg Y Y) (zo (zN ?_))
    exact ⟨.inr Y, ⟨_, Y, ⟨_, _, Y, (jd Y Y Y Y qZ Y ⟨_, _, Y, AVle.of (ztv hge (by omega)), ⟨_, _, Y, AVle.of (zsO hge (by omega)), ⟨_, _, Y, AVle.of (zsL hge (by omega)), Y⟩⟩⟩), ⟨_, _, Y, AVle.refl _, Y⟩⟩⟩⟩
  ·dsimp only
   refine zn (zf (qx Y Y Y) (zo (zt (zA Y (fun h0=>?_) (fun h0=>?_)))))
   ·exfalso; simp at h0; omega
   ·have hge:l.length <= 3:=by simp at h0; first | omega | simp [h0]
    refine qg (zS (zS (qh (zk (zn (zf (qV (cs:=[_, _, _]) Y Y Y Y Y (by exact zLb Y) Y qZ) ?_))))))
    refine qL Y (qw Y Y Y Y Y Y (zQ Y) qZ (by rfl) (by exact zLb Y)) ?_
    refine zf (zg Y Y) (zo (zN ?_))
    exact ⟨.inr Y, ⟨_, Y, ⟨_, _, Y, (jd Y Y Y Y qZ Y ⟨_, _, Y, AVle.of (zs9 hge (by omega)), ⟨_, _, Y, AVle.of (ztq hge (by omega)), ⟨_, _, Y, AVle.of (zsV hge (by omega)), Y⟩⟩⟩), ⟨_, _, Y, AVle.refl _, Y⟩⟩⟩⟩
theorem zpU (c:Cod) (l:List (List (List UInt8))) (n:Int × Int × Int) (at' pz:Nat) (f:Int) (hc:wL c = true) (hl:l.length <= 3) (hcp:∀ g ∈ l, vI c g = true) (hat:at' <= c.fields.length) (hpl:pz < 5) (hf:0 <= f /\ f <= 9) (hn:0 <= n.1 /\ n.1 <= 1000 /\ 0 <= n.2.1 /\ n.2.1 <= 1000 /\ 0 <= n.2.2 /\ n.2.2 <= 1000) (hno:ve c l at' pz f n = false):ACall Tryz.prog G 235 [.agg (vK c l), .agg (eCn n), ei (at':Int), ei (pz:Int), ei f] (.tup [.agg [.top, .top, .top], .v (.bool false)]):=by
 have hb0:=zew l at' pz f 0
 have hb1:=zew l at' pz f 1
 have hb2:=zew l at' pz f 2
 refine zO Tryz.func235 Y (by kernel_rfl) Y ?_
 refine zn (zf (ql Y (zQ Y)) (qL Y (zru Y Y (zQ Y)) (qL Y (jr Y Y zjA Y Y) (zf (zg Y Y) (zo (zt (zn (zf (zi Y Y zjg) ?_))))))))
 refine zf (zl Y Y Y zjk) (zf (qA Y Y Y Tryz.underlying74) (zf (zh Y Y) (zo (zF ?_))))
 refine qm (ι:={ k:Nat // k < 4 /\ (∀ i, i < k -> zdP n c l at' pz f i = true) }) (fun k=>match k.1 with | 0=>⟨Tryz.f235.ntmps, frL [(2, I (at':Int)), (3, I (pz:Int)), (4, I f), (5, .pub (.ptr (vK c l))), (6, .pp 0 1 0 0), (10, .pp 1 1 0 0), (15, .pub (eCps l)), (16, I (l.length:Int)), (17, I 0)], [.row [[I n.1, I n.2.1, I n.2.2]], .row [[I 0, I 0, I 0]]]⟩ | 1=>⟨Tryz.f235.ntmps, frL [(2, I (at':Int)), (3, I (pz:Int)), (4, I f), (5, .pub (.ptr (vK c l))), (6, .pp 0 1 0 0), (10, .pp 1 1 0 0), (15, .pub (eCps l)), (16, I (l.length:Int)), (17, I 1)], [.row [[I (n.1 + wP l at' pz f 0), I n.2.1, I n.2.2]], .row [[I 0, I 0, I 0]]]⟩ | 2=>⟨Tryz.f235.ntmps, frL [(2, I (at':Int)), (3, I (pz:Int)), (4, I f), (5, .pub (.ptr (vK c l))), (6, .pp 0 1 0 0), (10, .pp 1 1 0 0), (15, .pub (eCps l)), (16, I (l.length:Int)), (17, I 2)], [.row [[I (n.1 + wP l at' pz f 0), I (n.2.1 + wP l at' pz f 1), I n.2.2]], .row [[I 0, I 0, I 0]]]⟩ | _=>⟨Tryz.f235.ntmps, frL [(2, I (at':Int)), (3, I (pz:Int)), (4, I f), (5, .pub (.ptr (vK c l))), (6, .pp 0 1 0 0), (10, .pp 1 1 0 0), (15, .pub (eCps l)), (16, I (l.length:Int)), (17, I 3)], [.row [[I (n.1 + wP l at' pz f 0), I (n.2.1 + wP l at' pz f 1), I (n.2.2 + wP l at' pz f 2)]], .row [[I 0, I 0, I 0]]]⟩) (fun k=>4 - k.1) (⟨0, by omega, fun i hi=>absurd hi (by omega)⟩) ?_ ?_
 ·exact zy _ ⟨Y, Y, Y, Y, Y, Y, Y, (congrArg (fun x:Nat=>I (x:Int)) (List.length_map _)), Y, trivial⟩ (Y)
 ·rintro ⟨k, hk, hinv⟩
  have hk3:k = 0 ∨ k = 1 ∨ k = 2 ∨ k = 3:=by omega
  rcases hk3 with rfl | rfl | rfl | rfl
  ·dsimp only
   refine zn (zf (qx Y Y Y) (zo (zt (zA Y (fun h0=>?_) (fun h0=>?_)))))
   ·have hlt:0 < l.length:=by simp at h0; omega
    obtain ⟨hx, hy, hch, hc1, hc2⟩:=zcz (hcp _ (List.getElem_mem hlt)) hat hpl
    refine zH (zk (zt (zF (zn (zf (zh Y Y) (zf (zD Y Y Y zer (by omega) (zb3 hlt) zaa) (zf (zl Y Y Y zi6) (zf (zg Y Y) (zf (qG Y Y) (zM ?_))))))))))
    refine zk (zt (zt ?_))
    refine qp mixed (by kernel_rfl) Y ?_
    refine zu Y (zi Y Y jk) (zu Y (zK Y Y zbD (by exact zLb Y)) (zu Y (zI Y Y) (zu Y (zh Y Y) (zu Y (zD Y Y Y zbs (by omega) (kU hx) yj) (zu Y (zl Y Y Y ty9) (zu Y (zh Y Y) ?_))))))
    refine zu Y (wB Y Y Y Tryz.underlying9 (by omega) (by rw [Int.toNat_natCast]; exact List.getElem?_eq_getElem hy)) ?_
    refine zu Y (zh Y Y) (zu Y (zB (av:=[_, _, _]) Y ⟨Y, Y, Y, trivial⟩ (hch ▸ f119 c _ f hc ⟨hc1, hc2⟩ hf)) (qF (zk (zF (zn (zf (qR Y Y Y) (zf (zg Y Y) (zo (zA Y (fun h1=>?_) (fun h1=>?_))))))))))
    ·refine zn (zf (qV (cs:=[_, _, _]) Y Y Y Y Y (by exact zLb Y) Y qZ) ?_)
     refine qL Y (qw Y Y Y Y Y Y (zQ Y) qZ (by rfl) (by exact zLb Y)) ?_
     refine zf (zg Y Y) (zo (zN (zZ (zP (zZ (zP (zP (zZ (zP ?_)))))))))
     exact ⟨.inr Y, ⟨_, Y, ⟨_, _, Y, (jd Y Y Y Y qZ Y ⟨_, _, Y, AVle.top _, ⟨_, _, Y, AVle.top _, ⟨_, _, Y, AVle.top _, Y⟩⟩⟩), ⟨_, _, Y, AVle.refl _, Y⟩⟩⟩⟩
    ·have hn0:zbG c (chF l[0] at' pz) f ≠ 0:=by rw [hch]; simpa using h1
     refine zn (zf (qR Y Y Y) (zf (zg Y Y) (zo (zA Y (fun h2=>?_) (fun h2=>?_)))))
     ·have hwq:=xu (c:=c) (at':=at') (pz:=pz) (f:=f) (n:=n.1) hlt (by rw [hch]; simpa using h2)
      have hW:=hwq.1
      have hq:=hwq.2
      refine zx (zf (zh Y Y) (zf (zV Y Y Y Y Y jT (by omega) (by omega)) (zf (zX Y Y Y Y Y Y ty3) (zf (zW Y Y Y ⟨by omega, by omega⟩) (zf (zV Y Y Y Y Y jT (by omega) (by omega)) ?_)))))
      refine qL Y (qw Y Y Y Y Y Y (qU Y) ty3 (by rfl) (by exact zLb Y)) ?_
      refine zM (zJ (zk (zt ?_)))
      refine qp mixed (by kernel_rfl) Y ?_
      refine zu Y (zh Y Y) (zu Y (zV Y Y Y Y Y jT (by omega) (by omega)) (zu Y (zX Y Y Y Y Y Y ty3) (zu Y (zi Y Y jk) (zu Y (zi Y Y wQ) (zu Y (zl Y Y Y ty3) (zu Y (jB Y Y Y) (qF (zk (zA Y (fun h3=>?_) (fun h3=>?_))))))))))
      ·refine zn (zf (qV (cs:=[_, _, _]) Y Y Y Y Y (by exact zLb Y) Y qZ) ?_)
       refine qL Y (qw Y Y Y Y Y Y (zQ Y) qZ (by rfl) (by exact zLb Y)) ?_
       refine zf (zg Y Y) (zo (zN (zZ (zP (zP (zZ (zP ?_)))))))
       exact ⟨.inr Y, ⟨_, Y, ⟨_, _, Y, (jd Y Y Y Y qZ Y ⟨_, _, Y, AVle.top _, ⟨_, _, Y, AVle.top _, ⟨_, _, Y, AVle.top _, Y⟩⟩⟩), ⟨_, _, Y, AVle.refl _, Y⟩⟩⟩⟩
      ·have hok:zdP n c l at' pz f 0 = true:=by simp only[zdP]; rw [hq]; simpa using h3
       refine zH (zJ (zk (zx (zf (zW Y Y Y ⟨by omega, by omega⟩) (zf (zh Y Y) (zM ?_))))))
       exact ⟨⟨1, by omega, (fun i hi=>by rcases (show i = 0 by omega) with rfl <;> first | exact hok | exact hinv _ (by omega))⟩, by dsimp only; omega, (by refine zy (mem':=[.row [[I (n.1 + wP l at' pz f 0), I n.2.1, I n.2.2]], .row [[I 0, I 0, I 0]]]) [(2, I (at':Int)), (3, I (pz:Int)), (4, I f), (5, .pub (.ptr (vK c l))), (6, .pp 0 1 0 0), (10, .pp 1 1 0 0), (15, .pub (eCps l)), (16, I (l.length:Int)), (17, I 1)] ?_ ?_; exact ⟨rfl, rfl, rfl, rfl, rfl, rfl, rfl, rfl, rfl, trivial⟩; exact (congrArg (fun z=>[PO.row [z], .row [[I 0, I 0, I 0]]]) (by first | rw [hW, Int.add_zero] | rw [hW]; rfl | rw [hW])))⟩
     ·have hwq:=xw (c:=c) (at':=at') (pz:=pz) (f:=f) (n:=n.1) hlt hn0 (by rw [hch]; simpa using h2)
      have hW:=hwq.1
      have hq:=hwq.2
      refine zH (zJ (zk (zt ?_)))
      refine qp mixed (by kernel_rfl) Y ?_
      refine zu Y (zh Y Y) (zu Y (zV Y Y Y Y Y jT (by omega) (by omega)) (zu Y (zX Y Y Y Y Y Y ty3) (zu Y (zi Y Y jk) (zu Y (zi Y Y wQ) (zu Y (zl Y Y Y ty3) (zu Y (jB Y Y Y) (qF (zk (zA Y (fun h3=>?_) (fun h3=>?_))))))))))
      ·refine zn (zf (qV (cs:=[_, _, _]) Y Y Y Y Y (by exact zLb Y) Y qZ) ?_)
       refine qL Y (qw Y Y Y Y Y Y (zQ Y) qZ (by rfl) (by exact zLb Y)) ?_
       refine zf (zg Y Y) (zo (zN (zZ (zP (zP (zZ (zP ?_)))))))
       exact ⟨.inr Y, ⟨_, Y, ⟨_, _, Y, (jd Y Y Y Y qZ Y ⟨_, _, Y, AVle.top _, ⟨_, _, Y, AVle.top _, ⟨_, _, Y, AVle.top _, Y⟩⟩⟩), ⟨_, _, Y, AVle.refl _, Y⟩⟩⟩⟩
      ·have hok:zdP n c l at' pz f 0 = true:=by simp only[zdP]; rw [hq]; simpa using h3
       refine zH (zJ (zk (zx (zf (zW Y Y Y ⟨by omega, by omega⟩) (zf (zh Y Y) (zM ?_))))))
       exact ⟨⟨1, by omega, (fun i hi=>by rcases (show i = 0 by omega) with rfl <;> first | exact hok | exact hinv _ (by omega))⟩, by dsimp only; omega, (by refine zy (mem':=[.row [[I (n.1 + wP l at' pz f 0), I n.2.1, I n.2.2]], .row [[I 0, I 0, I 0]]]) [(2, I (at':Int)), (3, I (pz:Int)), (4, I f), (5, .pub (.ptr (vK c l))), (6, .pp 0 1 0 0), (10, .pp 1 1 0 0), (15, .pub (eCps l)), (16, I (l.length:Int)), (17, I 1)] ?_ ?_; exact ⟨rfl, rfl, rfl, rfl, rfl, rfl, rfl, rfl, rfl, trivial⟩; exact (congrArg (fun z=>[PO.row [z], .row [[I 0, I 0, I 0]]]) (by first | rw [hW, Int.add_zero] | rw [hW]; rfl | rw [hW])))⟩
   ·exfalso; have hge:l.length <= 0:=by simp at h0; first | omega | simp [h0]
    have:ve c l at' pz f n = true:=by
     have:=hinv
     simp only[ve, zLa]
     exact ⟨zbo (by omega), zbo (by omega), zbo (by omega)⟩
    rw [this] at hno; cases hno
  ·dsimp only
   refine zn (zf (qx Y Y Y) (zo (zt (zA Y (fun h0=>?_) (fun h0=>?_)))))
   ·have hlt:1 < l.length:=by simp at h0; omega
    obtain ⟨hx, hy, hch, hc1, hc2⟩:=zcz (hcp _ (List.getElem_mem hlt)) hat hpl
    refine zH (zk (zt (zF (zn (zf (zh Y Y) (zf (zD Y Y Y zer (by omega) (zb3 hlt) zaa) (zf (zl Y Y Y zi6) (zf (zg Y Y) (zf (qG Y Y) (zM ?_))))))))))
    refine zk (zt (zt ?_))
    refine qp mixed (by kernel_rfl) Y ?_
    refine zu Y (zi Y Y jk) (zu Y (zK Y Y zbD (by exact zLb Y)) (zu Y (zI Y Y) (zu Y (zh Y Y) (zu Y (zD Y Y Y zbs (by omega) (kU hx) yj) (zu Y (zl Y Y Y ty9) (zu Y (zh Y Y) ?_))))))
    refine zu Y (wB Y Y Y Tryz.underlying9 (by omega) (by rw [Int.toNat_natCast]; exact List.getElem?_eq_getElem hy)) ?_
    refine zu Y (zh Y Y) (zu Y (zB (av:=[_, _, _]) Y ⟨Y, Y, Y, trivial⟩ (hch ▸ f119 c _ f hc ⟨hc1, hc2⟩ hf)) (qF (zk (zF (zn (zf (qR Y Y Y) (zf (zg Y Y) (zo (zA Y (fun h1=>?_) (fun h1=>?_))))))))))
    ·refine zn (zf (qV (cs:=[_, _, _]) Y Y Y Y Y (by exact zLb Y) Y qZ) ?_)
     refine qL Y (qw Y Y Y Y Y Y (zQ Y) qZ (by rfl) (by exact zLb Y)) ?_
     refine zf (zg Y Y) (zo (zN (zZ (zP (zZ (zP (zP (zZ (zP ?_)))))))))
     exact ⟨.inr Y, ⟨_, Y, ⟨_, _, Y, (jd Y Y Y Y qZ Y ⟨_, _, Y, AVle.top _, ⟨_, _, Y, AVle.top _, ⟨_, _, Y, AVle.top _, Y⟩⟩⟩), ⟨_, _, Y, AVle.refl _, Y⟩⟩⟩⟩
    ·have hn0:zbG c (chF l[1] at' pz) f ≠ 0:=by rw [hch]; simpa using h1
     refine zn (zf (qR Y Y Y) (zf (zg Y Y) (zo (zA Y (fun h2=>?_) (fun h2=>?_)))))
     ·have hwq:=xu (c:=c) (at':=at') (pz:=pz) (f:=f) (n:=n.2.1) hlt (by rw [hch]; simpa using h2)
      have hW:=hwq.1
      have hq:=hwq.2
      refine zx (zf (zh Y Y) (zf (zV Y Y Y Y Y jT (by omega) (by omega)) (zf (zX Y Y Y Y Y Y ty3) (zf (zW Y Y Y ⟨by omega, by omega⟩) (zf (zV Y Y Y Y Y jT (by omega) (by omega)) ?_)))))
      refine qL Y (qw Y Y Y Y Y Y (qU Y) ty3 (by rfl) (by exact zLb Y)) ?_
      refine zM (zJ (zk (zt ?_)))
      refine qp mixed (by kernel_rfl) Y ?_
      refine zu Y (zh Y Y) (zu Y (zV Y Y Y Y Y jT (by omega) (by omega)) (zu Y (zX Y Y Y Y Y Y ty3) (zu Y (zi Y Y jk) (zu Y (zi Y Y wQ) (zu Y (zl Y Y Y ty3) (zu Y (jB Y Y Y) (qF (zk (zA Y (fun h3=>?_) (fun h3=>?_))))))))))
      ·refine zn (zf (qV (cs:=[_, _, _]) Y Y Y Y Y (by exact zLb Y) Y qZ) ?_)
       refine qL Y (qw Y Y Y Y Y Y (zQ Y) qZ (by rfl) (by exact zLb Y)) ?_
       refine zf (zg Y Y) (zo (zN (zZ (zP (zP (zZ (zP ?_)))))))
       exact ⟨.inr Y, ⟨_, Y, ⟨_, _, Y, (jd Y Y Y Y qZ Y ⟨_, _, Y, AVle.top _, ⟨_, _, Y, AVle.top _, ⟨_, _, Y, AVle.top _, Y⟩⟩⟩), ⟨_, _, Y, AVle.refl _, Y⟩⟩⟩⟩
      ·have hok:zdP n c l at' pz f 1 = true:=by simp only[zdP]; rw [hq]; simpa using h3
       refine zH (zJ (zk (zx (zf (zW Y Y Y ⟨by omega, by omega⟩) (zf (zh Y Y) (zM ?_))))))
       exact ⟨⟨2, by omega, (fun i hi=>by rcases (show i = 0 ∨ i = 1 by omega) with rfl | rfl <;> first | exact hok | exact hinv _ (by omega))⟩, by dsimp only; omega, (by refine zy (mem':=[.row [[I (n.1 + wP l at' pz f 0), I (n.2.1 + wP l at' pz f 1), I n.2.2]], .row [[I 0, I 0, I 0]]]) [(2, I (at':Int)), (3, I (pz:Int)), (4, I f), (5, .pub (.ptr (vK c l))), (6, .pp 0 1 0 0), (10, .pp 1 1 0 0), (15, .pub (eCps l)), (16, I (l.length:Int)), (17, I 2)] ?_ ?_; exact ⟨rfl, rfl, rfl, rfl, rfl, rfl, rfl, rfl, rfl, trivial⟩; exact (congrArg (fun z=>[PO.row [z], .row [[I 0, I 0, I 0]]]) (by first | rw [hW, Int.add_zero] | rw [hW]; rfl | rw [hW])))⟩
     ·have hwq:=xw (c:=c) (at':=at') (pz:=pz) (f:=f) (n:=n.2.1) hlt hn0 (by rw [hch]; simpa using h2)
      have hW:=hwq.1
      have hq:=hwq.2
      refine zH (zJ (zk (zt ?_)))
      refine qp mixed (by kernel_rfl) Y ?_
      refine zu Y (zh Y Y) (zu Y (zV Y Y Y Y Y jT (by omega) (by omega)) (zu Y (zX Y Y Y Y Y Y ty3) (zu Y (zi Y Y jk) (zu Y (zi Y Y wQ) (zu Y (zl Y Y Y ty3) (zu Y (jB Y Y Y) (qF (zk (zA Y (fun h3=>?_) (fun h3=>?_))))))))))
      ·refine zn (zf (qV (cs:=[_, _, _]) Y Y Y Y Y (by exact zLb Y) Y qZ) ?_)
       refine qL Y (qw Y Y Y Y Y Y (zQ Y) qZ (by rfl) (by exact zLb Y)) ?_
       refine zf (zg Y Y) (zo (zN (zZ (zP (zP (zZ (zP ?_)))))))
       exact ⟨.inr Y, ⟨_, Y, ⟨_, _, Y, (jd Y Y Y Y qZ Y ⟨_, _, Y, AVle.top _, ⟨_, _, Y, AVle.top _, ⟨_, _, Y, AVle.top _, Y⟩⟩⟩), ⟨_, _, Y, AVle.refl _, Y⟩⟩⟩⟩
      ·have hok:zdP n c l at' pz f 1 = true:=by simp only[zdP]; rw [hq]; simpa using h3
       refine zH (zJ (zk (zx (zf (zW Y Y Y ⟨by omega, by omega⟩) (zf (zh Y Y) (zM ?_))))))
       exact ⟨⟨2, by omega, (fun i hi=>by rcases (show i = 0 ∨ i = 1 by omega) with rfl | rfl <;> first | exact hok | exact hinv _ (by omega))⟩, by dsimp only; omega, (by refine zy (mem':=[.row [[I (n.1 + wP l at' pz f 0), I (n.2.1 + wP l at' pz f 1), I n.2.2]], .row [[I 0, I 0, I 0]]]) [(2, I (at':Int)), (3, I (pz:Int)), (4, I f), (5, .pub (.ptr (vK c l))), (6, .pp 0 1 0 0), (10, .pp 1 1 0 0), (15, .pub (eCps l)), (16, I (l.length:Int)), (17, I 2)] ?_ ?_; exact ⟨rfl, rfl, rfl, rfl, rfl, rfl, rfl, rfl, rfl, trivial⟩; exact (congrArg (fun z=>[PO.row [z], .row [[I 0, I 0, I 0]]]) (by first | rw [hW, Int.add_zero] | rw [hW]; rfl | rw [hW])))⟩
   ·exfalso; have hge:l.length <= 1:=by simp at h0; first | omega | simp [h0]
    have:ve c l at' pz f n = true:=by
     have:=hinv
     simp only[ve, zLa]
     exact ⟨hinv 0 (by omega), zbo (by omega), zbo (by omega)⟩
    rw [this] at hno; cases hno
  ·dsimp only
   refine zn (zf (qx Y Y Y) (zo (zt (zA Y (fun h0=>?_) (fun h0=>?_)))))
   ·have hlt:2 < l.length:=by simp at h0; omega
    obtain ⟨hx, hy, hch, hc1, hc2⟩:=zcz (hcp _ (List.getElem_mem hlt)) hat hpl
    refine zH (zk (zt (zF (zn (zf (zh Y Y) (zf (zD Y Y Y zer (by omega) (zb3 hlt) zaa) (zf (zl Y Y Y zi6) (zf (zg Y Y) (zf (qG Y Y) (zM ?_))))))))))
    refine zk (zt (zt ?_))
    refine qp mixed (by kernel_rfl) Y ?_
    refine zu Y (zi Y Y jk) (zu Y (zK Y Y zbD (by exact zLb Y)) (zu Y (zI Y Y) (zu Y (zh Y Y) (zu Y (zD Y Y Y zbs (by omega) (kU hx) yj) (zu Y (zl Y Y Y ty9) (zu Y (zh Y Y) ?_))))))
    refine zu Y (wB Y Y Y Tryz.underlying9 (by omega) (by rw [Int.toNat_natCast]; exact List.getElem?_eq_getElem hy)) ?_
    refine zu Y (zh Y Y) (zu Y (zB (av:=[_, _, _]) Y ⟨Y, Y, Y, trivial⟩ (hch ▸ f119 c _ f hc ⟨hc1, hc2⟩ hf)) (qF (zk (zF (zn (zf (qR Y Y Y) (zf (zg Y Y) (zo (zA Y (fun h1=>?_) (fun h1=>?_))))))))))
    ·refine zn (zf (qV (cs:=[_, _, _]) Y Y Y Y Y (by exact zLb Y) Y qZ) ?_)
     refine qL Y (qw Y Y Y Y Y Y (zQ Y) qZ (by rfl) (by exact zLb Y)) ?_
     refine zf (zg Y Y) (zo (zN (zZ (zP (zZ (zP (zP (zZ (zP ?_)))))))))
     exact ⟨.inr Y, ⟨_, Y, ⟨_, _, Y, (jd Y Y Y Y qZ Y ⟨_, _, Y, AVle.top _, ⟨_, _, Y, AVle.top _, ⟨_, _, Y, AVle.top _, Y⟩⟩⟩), ⟨_, _, Y, AVle.refl _, Y⟩⟩⟩⟩
    ·have hn0:zbG c (chF l[2] at' pz) f ≠ 0:=by rw [hch]; simpa using h1
     refine zn (zf (qR Y Y Y) (zf (zg Y Y) (zo (zA Y (fun h2=>?_) (fun h2=>?_)))))
     ·have hwq:=xu (c:=c) (at':=at') (pz:=pz) (f:=f) (n:=n.2.2) hlt (by rw [hch]; simpa using h2)
      have hW:=hwq.1
      have hq:=hwq.2
      refine zx (zf (zh Y Y) (zf (zV Y Y Y Y Y jT (by omega) (by omega)) (zf (zX Y Y Y Y Y Y ty3) (zf (zW Y Y Y ⟨by omega, by omega⟩) (zf (zV Y Y Y Y Y jT (by omega) (by omega)) ?_)))))
      refine qL Y (qw Y Y Y Y Y Y (qU Y) ty3 (by rfl) (by exact zLb Y)) ?_
      refine zM (zJ (zk (zt ?_)))
      refine qp mixed (by kernel_rfl) Y ?_
      refine zu Y (zh Y Y) (zu Y (zV Y Y Y Y Y jT (by omega) (by omega)) (zu Y (zX Y Y Y Y Y Y ty3) (zu Y (zi Y Y jk) (zu Y (zi Y Y wQ) (zu Y (zl Y Y Y ty3) (zu Y (jB Y Y Y) (qF (zk (zA Y (fun h3=>?_) (fun h3=>?_))))))))))
      ·refine zn (zf (qV (cs:=[_, _, _]) Y Y Y Y Y (by exact zLb Y) Y qZ) ?_)
       refine qL Y (qw Y Y Y Y Y Y (zQ Y) qZ (by rfl) (by exact zLb Y)) ?_
       refine zf (zg Y Y) (zo (zN (zZ (zP (zP (zZ (zP ?_)))))))
       exact ⟨.inr Y, ⟨_, Y, ⟨_, _, Y, (jd Y Y Y Y qZ Y ⟨_, _, Y, AVle.top _, ⟨_, _, Y, AVle.top _, ⟨_, _, Y, AVle.top _, Y⟩⟩⟩), ⟨_, _, Y, AVle.refl _, Y⟩⟩⟩⟩
      ·have hok:zdP n c l at' pz f 2 = true:=by simp only[zdP]; rw [hq]; simpa using h3
       refine zH (zJ (zk (zx (zf (zW Y Y Y ⟨by omega, by omega⟩) (zf (zh Y Y) (zM ?_))))))
       exact ⟨⟨3, by omega, (fun i hi=>by rcases (show i = 0 ∨ i = 1 ∨ i = 2 by omega) with rfl | rfl | rfl <;> first | exact hok | exact hinv _ (by omega))⟩, by dsimp only; omega, (by refine zy (mem':=[.row [[I (n.1 + wP l at' pz f 0), I (n.2.1 + wP l at' pz f 1), I (n.2.2 + wP l at' pz f 2)]], .row [[I 0, I 0, I 0]]]) [(2, I (at':Int)), (3, I (pz:Int)), (4, I f), (5, .pub (.ptr (vK c l))), (6, .pp 0 1 0 0), (10, .pp 1 1 0 0), (15, .pub (eCps l)), (16, I (l.length:Int)), (17, I 3)] ?_ ?_; exact ⟨rfl, rfl, rfl, rfl, rfl, rfl, rfl, rfl, rfl, trivial⟩; exact (congrArg (fun z=>[PO.row [z], .row [[I 0, I 0, I 0]]]) (by first | rw [hW, Int.add_zero] | rw [hW]; rfl | rw [hW])))⟩
     ·have hwq:=xw (c:=c) (at':=at') (pz:=pz) (f:=f) (n:=n.2.2) hlt hn0 (by rw [hch]; simpa using h2)
      have hW:=hwq.1
      have hq:=hwq.2
      refine zH (zJ (zk (zt ?_)))
      refine qp mixed (by kernel_rfl) Y ?_
      refine zu Y (zh Y Y) (zu Y (zV Y Y Y Y Y jT (by omega) (by omega)) (zu Y (zX Y Y Y Y Y Y ty3) (zu Y (zi Y Y jk) (zu Y (zi Y Y wQ) (zu Y (zl Y Y Y ty3) (zu Y (jB Y Y Y) (qF (zk (zA Y (fun h3=>?_) (fun h3=>?_))))))))))
      ·refine zn (zf (qV (cs:=[_, _, _]) Y Y Y Y Y (by exact zLb Y) Y qZ) ?_)
       refine qL Y (qw Y Y Y Y Y Y (zQ Y) qZ (by rfl) (by exact zLb Y)) ?_
       refine zf (zg Y Y) (zo (zN (zZ (zP (zP (zZ (zP ?_)))))))
       exact ⟨.inr Y, ⟨_, Y, ⟨_, _, Y, (jd Y Y Y Y qZ Y ⟨_, _, Y, AVle.top _, ⟨_, _, Y, AVle.top _, ⟨_, _, Y, AVle.top _, Y⟩⟩⟩), ⟨_, _, Y, AVle.refl _, Y⟩⟩⟩⟩
      ·have hok:zdP n c l at' pz f 2 = true:=by simp only[zdP]; rw [hq]; simpa using h3
       refine zH (zJ (zk (zx (zf (zW Y Y Y ⟨by omega, by omega⟩) (zf (zh Y Y) (zM ?_))))))
       exact ⟨⟨3, by omega, (fun i hi=>by rcases (show i = 0 ∨ i = 1 ∨ i = 2 by omega) with rfl | rfl | rfl <;> first | exact hok | exact hinv _ (by omega))⟩, by dsimp only; omega, (by refine zy (mem':=[.row [[I (n.1 + wP l at' pz f 0), I (n.2.1 + wP l at' pz f 1), I (n.2.2 + wP l at' pz f 2)]], .row [[I 0, I 0, I 0]]]) [(2, I (at':Int)), (3, I (pz:Int)), (4, I f), (5, .pub (.ptr (vK c l))), (6, .pp 0 1 0 0), (10, .pp 1 1 0 0), (15, .pub (eCps l)), (16, I (l.length:Int)), (17, I 3)] ?_ ?_; exact ⟨rfl, rfl, rfl, rfl, rfl, rfl, rfl, rfl, rfl, trivial⟩; exact (congrArg (fun z=>[PO.row [z], .row [[I 0, I 0, I 0]]]) (by first | rw [hW, Int.add_zero] | rw [hW]; rfl | rw [hW])))⟩
   ·exfalso; have hge:l.length <= 2:=by simp at h0; first | omega | simp [h0]
    have:ve c l at' pz f n = true:=by
     have:=hinv
     simp only[ve, zLa]
     exact ⟨hinv 0 (by omega), hinv 1 (by omega), zbo (by omega)⟩
    rw [this] at hno; cases hno
  ·dsimp only
   refine zn (zf (qx Y Y Y) (zo (zt (zA Y (fun h0=>?_) (fun h0=>?_)))))
   ·exfalso; simp at h0; omega
   ·exfalso; have hge:l.length <= 3:=by simp at h0; first | omega | simp [h0]
    have:ve c l at' pz f n = true:=by
     have:=hinv
     simp only[ve, zLa]
     exact ⟨hinv 0 (by omega), hinv 1 (by omega), hinv 2 (by omega)⟩
    rw [this] at hno; cases hno
end Wr
end Go.Av
end
