import Derived.Test.YtaphehlgijlfeaaGreatDoorWiJ
import Derived.Test.YtaphehlgijlfeaaGreatDoorPlatE
set_option linter.unusedVariables false
set_option linter.unusedSimpArgs false
section
namespace Go.Av
open Go.Proofs
set_option maxRecDepth 100000
set_option maxHeartbeats 1000000
variable {G:Glob}
theorem zi7:(Tryz.prog.info? 185).bind (·.zero) = some (.agg #[.int .i64 0, .int .i64 0, .int .i64 0]):=by kernel_rfl
theorem zjF:fldIs Tryz.prog 134 1 3 = true:=by kernel_rfl
theorem zr5:tyIs Tryz.prog 26 false 1 = true:=by kernel_rfl
theorem zbo:zau Tryz.prog 26 1 = true:=by kernel_rfl
theorem zfC:tyIs Tryz.prog 34 false 1 = true:=by kernel_rfl
theorem jJ:fldIs Tryz.prog 134 0 0 = true:=by kernel_rfl
theorem jY:zgU Tryz.prog 185 3 1 = true:=by kernel_rfl
theorem ji:tyIs Tryz.prog 185 true 3 = true:=by kernel_rfl
def yc (c:Cod) (l:List (List (List UInt8))):List AV:=[.sl (c.fields.map ye), zO c.turns, .v (.int .i64 c.most), qO l]
def chF (g:List (List UInt8)) (at' pz:Nat):Int:=(((g.getD at' []).getD pz 0).toNat:Int)
theorem zaL {l:List (List (List UInt8))} {k:Nat} (h:k < l.length):(l.map fun g=>[jD g])[k]? = some [jD l[k]]:=by simp [h]
theorem yS {l:List (List (List UInt8))}:∀ q ∈ l.map (fun g=>[jD g]), q.length = 1:=by simp
theorem za3 {c:Cod} {g:List (List UInt8)} {at' pz:Nat} (h:jX c g = true) (h1:at' <= c.fields.length) (h2:pz < 5):∃ (x:at' < g.length) (y:pz < g[at'].length), chF g at' pz = (g[at'][pz].toNat:Int) /\ 48 <= chF g at' pz /\ chF g at' pz <= 63:=by
 simp only[jX, zLa, List.all_eq_true, beq_iff_eq] at h
 have x:at' < g.length:=by omega
 have h3:=h.1 _ (List.getElem_mem x)
 have h5:=zcf h3
 have y:pz < g[at'].length:=by omega
 have e:chF g at' pz = (g[at'][pz].toNat:Int):=by
  unfold chF
  have e1:g.getD at' [] = g[at']:=by rw [List.getD_eq_getElem?_getD, List.getElem?_eq_getElem x, Option.getD_some]
  rw [e1, List.getD_eq_getElem?_getD, List.getElem?_eq_getElem y, Option.getD_some]
 have h6:=znv h3 y
 refine ⟨x, y, e, ?_⟩
 rw [e]
 simp only[xq, zl8, zf4, Bool.or_eq_true, zLa, decide_eq_true_eq] at h6
 omega
def wP (l:List (List (List UInt8))) (at' pz:Nat) (f:Int) (i:Nat):Int:=if h:i < l.length then wrN (chF l[i] at' pz, f) else 0
def okQ (c:Cod) (l:List (List (List UInt8))) (at' pz:Nat) (f:Int) (i:Nat) (n:Int):Bool:=if h:i < l.length then okP c (chF l[i] at' pz, f) && decide (n + wrN (chF l[i] at' pz, f) <= c.most) else true
def vN (c:Cod) (l:List (List (List UInt8))) (at' pz:Nat) (f:Int) (n:Int × Int × Int):Bool:=okQ c l at' pz f 0 n.1 && (okQ c l at' pz f 1 n.2.1 && okQ c l at' pz f 2 n.2.2)
def plN (l:List (List (List UInt8))) (at' pz:Nat) (f:Int) (n:Int × Int × Int):Int × Int × Int:=(n.1 + wP l at' pz f 0, n.2.1 + wP l at' pz f 1, n.2.2 + wP l at' pz f 2)
def eCn (n:Int × Int × Int):List AV:=[ei n.1, ei n.2.1, ei n.2.2]
theorem zef (l:List (List (List UInt8))) (at' pz:Nat) (f:Int) (i:Nat):0 <= wP l at' pz f i /\ wP l at' pz f i <= 1:=by
 unfold wP wrN; split
 ·
  split <;> omega
 ·
  omega
theorem zcx {l:List (List (List UInt8))} {at' pz:Nat} {f:Int} {i:Nat} (h:l.length <= i):wP l at' pz f i = 0:=by unfold wP; rw [dif_neg (by omega)]
theorem zaR {c:Cod} {l:List (List (List UInt8))} {at' pz:Nat} {f:Int} {i:Nat} {n:Int} (h:l.length <= i):okQ c l at' pz f i n = true:=by unfold okQ; rw [dif_neg (by omega)]
theorem zdL (c:Cod) (ch f:Int):(zbk c ch f = 1 /\ rgt ch f = true) ∨ (zbk c ch f = 2 /\ rgt ch f = false /\ wrg c ch f = true) ∨ (zbk c ch f = 0 /\ rgt ch f = false /\ wrg c ch f = false):=by
 unfold zbk
 cases h1:rgt ch f with
 | true=>simp
 | false=>cases h2:wrg c ch f <;> simp
theorem zdt {c:Cod} {l:List (List (List UInt8))} {at' pz:Nat} {f n:Int} {i:Nat} (h:i < l.length) (hh:zbk c (chF l[i] at' pz) f = 0):okQ c l at' pz f i n = false:=by
 rcases zdL c (chF l[i] at' pz) f with ⟨h1, _⟩ | ⟨h1, _⟩ | ⟨_, h1, h2⟩
 ·
  omega
 ·
  omega
 ·
  unfold okQ; rw [dif_pos h]; simp [okP, h1, h2]
theorem kZ {c:Cod} {l:List (List (List UInt8))} {at' pz:Nat} {f n:Int} {i:Nat} (h:i < l.length) (hh:zbk c (chF l[i] at' pz) f = 2):wP l at' pz f i = 1 /\ okQ c l at' pz f i n = decide (n + 1 <= c.most):=by
 rcases zdL c (chF l[i] at' pz) f with ⟨h1, _⟩ | ⟨_, h1, h2⟩ | ⟨h1, _⟩
 ·
  omega
 ·
  unfold wP okQ; rw [dif_pos h, dif_pos h]; simp [okP, wrN, h1, h2]
 ·
  omega
theorem xe {c:Cod} {l:List (List (List UInt8))} {at' pz:Nat} {f n:Int} {i:Nat} (h:i < l.length) (h0:zbk c (chF l[i] at' pz) f ≠ 0) (h2:zbk c (chF l[i] at' pz) f ≠ 2):wP l at' pz f i = 0 /\ okQ c l at' pz f i n = decide (n <= c.most):=by
 rcases zdL c (chF l[i] at' pz) f with ⟨_, h1⟩ | ⟨h1, _⟩ | ⟨h1, _⟩
 ·
  unfold wP okQ; rw [dif_pos h, dif_pos h]; simp [okP, wrN, h1]
 ·
  omega
 ·
  omega
def zdj (n:Int × Int × Int) (c:Cod) (l:List (List (List UInt8))) (at' pz:Nat) (f:Int):Nat -> Bool
 | 0=>okQ c l at' pz f 0 n.1
 | 1=>okQ c l at' pz f 1 n.2.1
 | _=>okQ c l at' pz f 2 n.2.2
theorem zoD {n:Int × Int × Int} {c:Cod} {l:List (List (List UInt8))} {at' pz:Nat} {f:Int} (h:vN c l at' pz f n = true):∀ i, i < 3 -> zdj n c l at' pz f i = true:=fun i hi=>by
 simp only[vN, zLa] at h
 match i, hi with
 | 0, _=>exact h.1
 | 1, _=>exact h.2.1
 | 2, _=>exact h.2.2
theorem zsu {l:List (List (List UInt8))} {at' pz:Nat} {f:Int} {n:Int × Int × Int} (_h:l.length <= 0) (_:0 <= 1):ei (n.1) = ei ((plN l at' pz f n).1):=by
 unfold plN; simp only; rw [zcx (by omega), Int.add_zero]
theorem zsr {l:List (List (List UInt8))} {at' pz:Nat} {f:Int} {n:Int × Int × Int} (_h:l.length <= 0) (_:0 <= 1):ei (n.2.1) = ei ((plN l at' pz f n).2.1):=by
 unfold plN; simp only; rw [zcx (by omega), Int.add_zero]
theorem zr6 {l:List (List (List UInt8))} {at' pz:Nat} {f:Int} {n:Int × Int × Int} (_h:l.length <= 0) (_:0 <= 1):ei (n.2.2) = ei ((plN l at' pz f n).2.2):=by
 unfold plN; simp only; rw [zcx (by omega), Int.add_zero]
theorem zsG {l:List (List (List UInt8))} {at' pz:Nat} {f:Int} {n:Int × Int × Int} (_h:l.length <= 1) (_:0 <= 1):ei (n.1 + wP l at' pz f 0) = ei ((plN l at' pz f n).1):=by
 rfl
theorem zsa {l:List (List (List UInt8))} {at' pz:Nat} {f:Int} {n:Int × Int × Int} (_h:l.length <= 1) (_:0 <= 1):ei (n.2.1) = ei ((plN l at' pz f n).2.1):=by
 unfold plN; simp only; rw [zcx (by omega), Int.add_zero]
theorem zsg {l:List (List (List UInt8))} {at' pz:Nat} {f:Int} {n:Int × Int × Int} (_h:l.length <= 1) (_:0 <= 1):ei (n.2.2) = ei ((plN l at' pz f n).2.2):=by
 unfold plN; simp only; rw [zcx (by omega), Int.add_zero]
theorem zr8 {l:List (List (List UInt8))} {at' pz:Nat} {f:Int} {n:Int × Int × Int} (_h:l.length <= 2) (_:0 <= 1):ei (n.1 + wP l at' pz f 0) = ei ((plN l at' pz f n).1):=by
 rfl
theorem zsK {l:List (List (List UInt8))} {at' pz:Nat} {f:Int} {n:Int × Int × Int} (_h:l.length <= 2) (_:0 <= 1):ei (n.2.1 + wP l at' pz f 1) = ei ((plN l at' pz f n).2.1):=by
 rfl
theorem zsB {l:List (List (List UInt8))} {at' pz:Nat} {f:Int} {n:Int × Int × Int} (_h:l.length <= 2) (_:0 <= 1):ei (n.2.2) = ei ((plN l at' pz f n).2.2):=by
 unfold plN; simp only; rw [zcx (by omega), Int.add_zero]
theorem zr9 {l:List (List (List UInt8))} {at' pz:Nat} {f:Int} {n:Int × Int × Int} (_h:l.length <= 3) (_:0 <= 1):ei (n.1 + wP l at' pz f 0) = ei ((plN l at' pz f n).1):=by
 rfl
theorem zsn {l:List (List (List UInt8))} {at' pz:Nat} {f:Int} {n:Int × Int × Int} (_h:l.length <= 3) (_:0 <= 1):ei (n.2.1 + wP l at' pz f 1) = ei ((plN l at' pz f n).2.1):=by
 rfl
theorem zsS {l:List (List (List UInt8))} {at' pz:Nat} {f:Int} {n:Int × Int × Int} (_h:l.length <= 3) (_:0 <= 1):ei (n.2.2 + wP l at' pz f 2) = ei ((plN l at' pz f n).2.2):=by
 rfl
theorem zpR (c:Cod) (l:List (List (List UInt8))) (n:Int × Int × Int) (at' pz:Nat) (f:Int) (hc:jA c = true) (hl:l.length <= 3) (hcp:∀ g ∈ l, jX c g = true) (hat:at' <= c.fields.length) (hpl:pz < 5) (hf:0 <= f /\ f <= 9) (hn:0 <= n.1 /\ n.1 <= 1000 /\ 0 <= n.2.1 /\ n.2.1 <= 1000 /\ 0 <= n.2.2 /\ n.2.2 <= 1000) (hyes:vN c l at' pz f n = true):ACall Tryz.prog G 137 [.agg (yc c l), .agg (eCn n), ei (at':Int), ei (pz:Int), ei f] (.tup [.agg (eCn (plN l at' pz f n)), .v (.bool true)]):=by
 have hb0:=zef l at' pz f 0
 have hb1:=zef l at' pz f 1
 have hb2:=zef l at' pz f 2
 have hall:=zoD hyes
 refine zS Tryz.func137 Y (by kernel_rfl) Y ?_
 refine zuy (zh (zE8 (jf Y (zY Y)) (jb Y (zqW Y Y (zY Y)) (jb Y (wJ Y Y zi7 Y Y) (zE8 (zn Y Y) (zo (zf (zuy (zuy (zh (zE8 (zu Y Y zjF) ?_)))))))))))
 refine zE8 (zA Y Y Y zr5) (zE8 (qh Y Y Y Tryz.underlying26) (zE8 (zi Y Y) (zo (zf (zB ?_)))))
 refine qy (ι:={ k:Nat // k < 4 }) (fun k=>match k.1 with | 0=>⟨Tryz.f137.ntmps, frL [(2, I (at':Int)), (3, I (pz:Int)), (4, I f), (5, .pub (.ptr (yc c l))), (6, .pp 0 1 0 0), (10, .pp 1 1 0 0), (15, .pub (qO l)), (16, I (l.length:Int)), (17, I 0)], [.row [[I n.1, I n.2.1, I n.2.2]], .row [[I 0, I 0, I 0]]]⟩ | 1=>⟨Tryz.f137.ntmps, frL [(2, I (at':Int)), (3, I (pz:Int)), (4, I f), (5, .pub (.ptr (yc c l))), (6, .pp 0 1 0 0), (10, .pp 1 1 0 0), (15, .pub (qO l)), (16, I (l.length:Int)), (17, I 1)], [.row [[I (n.1 + wP l at' pz f 0), I n.2.1, I n.2.2]], .row [[I 0, I 0, I 0]]]⟩ | 2=>⟨Tryz.f137.ntmps, frL [(2, I (at':Int)), (3, I (pz:Int)), (4, I f), (5, .pub (.ptr (yc c l))), (6, .pp 0 1 0 0), (10, .pp 1 1 0 0), (15, .pub (qO l)), (16, I (l.length:Int)), (17, I 2)], [.row [[I (n.1 + wP l at' pz f 0), I (n.2.1 + wP l at' pz f 1), I n.2.2]], .row [[I 0, I 0, I 0]]]⟩ | _=>⟨Tryz.f137.ntmps, frL [(2, I (at':Int)), (3, I (pz:Int)), (4, I f), (5, .pub (.ptr (yc c l))), (6, .pp 0 1 0 0), (10, .pp 1 1 0 0), (15, .pub (qO l)), (16, I (l.length:Int)), (17, I 3)], [.row [[I (n.1 + wP l at' pz f 0), I (n.2.1 + wP l at' pz f 1), I (n.2.2 + wP l at' pz f 2)]], .row [[I 0, I 0, I 0]]]⟩) (fun k=>4 - k.1) (⟨0, by omega⟩) ?_ ?_
 ·
  exact zt _ ⟨Y, Y, Y, Y, Y, Y, Y, (congrArg (fun x:Nat=>I (x:Int)) (List.length_map _)), Y, trivial⟩ (Y)
 ·
  rintro ⟨k, hk⟩
  have hk3:k = 0 ∨ k = 1 ∨ k = 2 ∨ k = 3:=by omega
  rcases hk3 with rfl | rfl | rfl | rfl
  ·
   dsimp only
   refine zuy (zh (zE8 (qi Y Y Y) (zo (zf (zuy (zx Y (fun h0=>?_) (fun h0=>?_)))))))
   ·
    have hlt:0 < l.length:=by simp at h0; omega
    obtain ⟨hx, hy, hch, hc1, hc2⟩:=za3 (hcp _ (List.getElem_mem hlt)) hat hpl
    refine zC (zf (zuy (zB (zuy (zh (zE8 (zi Y Y) (zE8 (zG Y Y Y zbo (by omega) (zaL hlt) yS) (zE8 (zA Y Y Y zfC) (zE8 (zn Y Y) (zE8 (zW Y Y) (zo ?_)))))))))))
    refine zf (zuy (zuy ?_))
    refine qY mixed (by kernel_rfl) Y ?_
    refine zH Y (zu Y Y jJ) (zH Y (zZ Y Y wH (by exact zLb Y)) (zH Y (zq Y Y) (zH Y (zi Y Y) (zH Y (zG Y Y Y yJ (by omega) (xI hx) vZ) (zH Y (zA Y Y Y ty9) (zH Y (zi Y Y) ?_))))))
    refine zH Y (wC Y Y Y Tryz.underlying9 (by omega) (by rw [Int.toNat_natCast]; exact List.getElem?_eq_getElem hy)) ?_
    refine zH Y (zi Y Y) (zH Y (zy (av:=[_, _, _]) Y ⟨Y, Y, Y, trivial⟩ (hch ▸ f119 c _ f hc ⟨hc1, hc2⟩ hf)) (jw (zf (zB (zuy (zh (zE8 (qJ Y Y Y) (zE8 (zn Y Y) (zo (zf (zx Y (fun h1=>?_) (fun h1=>?_))))))))))))
    ·
     exfalso; have hq:=zdt (c:=c) (at':=at') (pz:=pz) (f:=f) (n:=n.1) hlt (by rw [hch]; simpa using h1); have:=(hall 0 (by omega)).symm.trans hq; cases this
    ·
     have hn0:zbk c (chF l[0] at' pz) f ≠ 0:=by rw [hch]; simpa using h1
     refine zuy (zh (zE8 (qJ Y Y Y) (zE8 (zn Y Y) (zo (zf (zx Y (fun h2=>?_) (fun h2=>?_)))))))
     ·
      have hwq:=kZ (c:=c) (at':=at') (pz:=pz) (f:=f) (n:=n.1) hlt (by rw [hch]; simpa using h2)
      have hW:=hwq.1
      have hq:=hwq.2
      refine zh (zE8 (zi Y Y) (zE8 (zJ Y Y Y Y Y jY (by omega) (by omega)) (zE8 (zK Y Y Y Y Y Y ty3) (zE8 (zV Y Y Y ⟨(by omega), (by omega)⟩) (zE8 (zJ Y Y Y Y Y jY (by omega) (by omega)) ?_)))))
      refine jb Y (qG Y Y Y Y Y Y (jF Y) ty3 (by rfl) (by exact zLb Y)) ?_
      refine zo (zD (zf (zuy ?_)))
      refine qY mixed (by kernel_rfl) Y ?_
      refine zH Y (zi Y Y) (zH Y (zJ Y Y Y Y Y jY (by omega) (by omega)) (zH Y (zK Y Y Y Y Y Y ty3) (zH Y (zu Y Y jJ) (zH Y (zu Y Y jZ) (zH Y (zA Y Y Y ty3) (zH Y (qR Y Y Y) (jw (zf (zx Y (fun h3=>?_) (fun h3=>?_))))))))))
      ·
       exfalso; have:=hq.symm.trans (hall 0 (by omega)); simp at this h3; omega
      ·
       have hok:True:=trivial
       refine zC (zD (zf (zh (zE8 (zV Y Y Y ⟨(by omega), (by omega)⟩) (zE8 (zi Y Y) (zo ?_))))))
       exact ⟨⟨1, by omega⟩, by dsimp only; omega, (by refine zt (mem':=[.row [[I (n.1 + wP l at' pz f 0), I n.2.1, I n.2.2]], .row [[I 0, I 0, I 0]]]) [(2, I (at':Int)), (3, I (pz:Int)), (4, I f), (5, .pub (.ptr (yc c l))), (6, .pp 0 1 0 0), (10, .pp 1 1 0 0), (15, .pub (qO l)), (16, I (l.length:Int)), (17, I 1)] ?_ ?_; exact ⟨Y, Y, Y, Y, Y, Y, Y, Y, Y, trivial⟩; exact (congrArg (fun z=>[PO.row [z], .row [[I 0, I 0, I 0]]]) (by first | rw [hW, Int.add_zero] | rw [hW]; rfl | rw [hW])))⟩
     ·
      have hwq:=xe (c:=c) (at':=at') (pz:=pz) (f:=f) (n:=n.1) hlt hn0 (by rw [hch]; simpa using h2)
      have hW:=hwq.1
      have hq:=hwq.2
      refine zC (zD (zf (zuy ?_)))
      refine qY mixed (by kernel_rfl) Y ?_
      refine zH Y (zi Y Y) (zH Y (zJ Y Y Y Y Y jY (by omega) (by omega)) (zH Y (zK Y Y Y Y Y Y ty3) (zH Y (zu Y Y jJ) (zH Y (zu Y Y jZ) (zH Y (zA Y Y Y ty3) (zH Y (qR Y Y Y) (jw (zf (zx Y (fun h3=>?_) (fun h3=>?_))))))))))
      ·
       exfalso; have:=hq.symm.trans (hall 0 (by omega)); simp at this h3; omega
      ·
       have hok:True:=trivial
       refine zC (zD (zf (zh (zE8 (zV Y Y Y ⟨(by omega), (by omega)⟩) (zE8 (zi Y Y) (zo ?_))))))
       exact ⟨⟨1, by omega⟩, by dsimp only; omega, (by refine zt (mem':=[.row [[I (n.1 + wP l at' pz f 0), I n.2.1, I n.2.2]], .row [[I 0, I 0, I 0]]]) [(2, I (at':Int)), (3, I (pz:Int)), (4, I f), (5, .pub (.ptr (yc c l))), (6, .pp 0 1 0 0), (10, .pp 1 1 0 0), (15, .pub (qO l)), (16, I (l.length:Int)), (17, I 1)] ?_ ?_; exact ⟨Y, Y, Y, Y, Y, Y, Y, Y, Y, trivial⟩; exact (congrArg (fun z=>[PO.row [z], .row [[I 0, I 0, I 0]]]) (by first | rw [hW, Int.add_zero] | rw [hW]; rfl | rw [hW])))⟩
   ·
    have hge:l.length <= 0:=by simp at h0; first | omega | simp [h0]
    refine qp (zL (zL (qw (zf (zuy (zh (zE8 (qN (cs:=[_, _, _]) Y Y Y Y Y (by exact zLb Y) Y ji) ?_)))))))
    refine jb Y (qG Y Y Y Y Y Y (zY Y) ji (by rfl) (by exact zLb Y)) ?_
    refine zE8 (zn Y Y) (zo (zf (zP ?_)))
    exact ⟨.inr Y, ⟨_, Y, ⟨_, _, Y, (jK Y Y Y Y ji Y ⟨_, _, Y, AVle.of (zsu hge (by omega)), ⟨_, _, Y, AVle.of (zsr hge (by omega)), ⟨_, _, Y, AVle.of (zr6 hge (by omega)), Y⟩⟩⟩), ⟨_, _, Y, AVle.refl _, Y⟩⟩⟩⟩
  ·
   dsimp only
   refine zuy (zh (zE8 (qi Y Y Y) (zo (zf (zuy (zx Y (fun h0=>?_) (fun h0=>?_)))))))
   ·
    have hlt:1 < l.length:=by simp at h0; omega
    obtain ⟨hx, hy, hch, hc1, hc2⟩:=za3 (hcp _ (List.getElem_mem hlt)) hat hpl
    refine zC (zf (zuy (zB (zuy (zh (zE8 (zi Y Y) (zE8 (zG Y Y Y zbo (by omega) (zaL hlt) yS) (zE8 (zA Y Y Y zfC) (zE8 (zn Y Y) (zE8 (zW Y Y) (zo ?_)))))))))))
    refine zf (zuy (zuy ?_))
    refine qY mixed (by kernel_rfl) Y ?_
    refine zH Y (zu Y Y jJ) (zH Y (zZ Y Y wH (by exact zLb Y)) (zH Y (zq Y Y) (zH Y (zi Y Y) (zH Y (zG Y Y Y yJ (by omega) (xI hx) vZ) (zH Y (zA Y Y Y ty9) (zH Y (zi Y Y) ?_))))))
    refine zH Y (wC Y Y Y Tryz.underlying9 (by omega) (by rw [Int.toNat_natCast]; exact List.getElem?_eq_getElem hy)) ?_
    refine zH Y (zi Y Y) (zH Y (zy (av:=[_, _, _]) Y ⟨Y, Y, Y, trivial⟩ (hch ▸ f119 c _ f hc ⟨hc1, hc2⟩ hf)) (jw (zf (zB (zuy (zh (zE8 (qJ Y Y Y) (zE8 (zn Y Y) (zo (zf (zx Y (fun h1=>?_) (fun h1=>?_))))))))))))
    ·
     exfalso; have hq:=zdt (c:=c) (at':=at') (pz:=pz) (f:=f) (n:=n.2.1) hlt (by rw [hch]; simpa using h1); have:=(hall 1 (by omega)).symm.trans hq; cases this
    ·
     have hn0:zbk c (chF l[1] at' pz) f ≠ 0:=by rw [hch]; simpa using h1
     refine zuy (zh (zE8 (qJ Y Y Y) (zE8 (zn Y Y) (zo (zf (zx Y (fun h2=>?_) (fun h2=>?_)))))))
     ·
      have hwq:=kZ (c:=c) (at':=at') (pz:=pz) (f:=f) (n:=n.2.1) hlt (by rw [hch]; simpa using h2)
      have hW:=hwq.1
      have hq:=hwq.2
      refine zh (zE8 (zi Y Y) (zE8 (zJ Y Y Y Y Y jY (by omega) (by omega)) (zE8 (zK Y Y Y Y Y Y ty3) (zE8 (zV Y Y Y ⟨(by omega), (by omega)⟩) (zE8 (zJ Y Y Y Y Y jY (by omega) (by omega)) ?_)))))
      refine jb Y (qG Y Y Y Y Y Y (jF Y) ty3 (by rfl) (by exact zLb Y)) ?_
      refine zo (zD (zf (zuy ?_)))
      refine qY mixed (by kernel_rfl) Y ?_
      refine zH Y (zi Y Y) (zH Y (zJ Y Y Y Y Y jY (by omega) (by omega)) (zH Y (zK Y Y Y Y Y Y ty3) (zH Y (zu Y Y jJ) (zH Y (zu Y Y jZ) (zH Y (zA Y Y Y ty3) (zH Y (qR Y Y Y) (jw (zf (zx Y (fun h3=>?_) (fun h3=>?_))))))))))
      ·
       exfalso; have:=hq.symm.trans (hall 1 (by omega)); simp at this h3; omega
      ·
       have hok:True:=trivial
       refine zC (zD (zf (zh (zE8 (zV Y Y Y ⟨(by omega), (by omega)⟩) (zE8 (zi Y Y) (zo ?_))))))
       exact ⟨⟨2, by omega⟩, by dsimp only; omega, (by refine zt (mem':=[.row [[I (n.1 + wP l at' pz f 0), I (n.2.1 + wP l at' pz f 1), I n.2.2]], .row [[I 0, I 0, I 0]]]) [(2, I (at':Int)), (3, I (pz:Int)), (4, I f), (5, .pub (.ptr (yc c l))), (6, .pp 0 1 0 0), (10, .pp 1 1 0 0), (15, .pub (qO l)), (16, I (l.length:Int)), (17, I 2)] ?_ ?_; exact ⟨Y, Y, Y, Y, Y, Y, Y, Y, Y, trivial⟩; exact (congrArg (fun z=>[PO.row [z], .row [[I 0, I 0, I 0]]]) (by first | rw [hW, Int.add_zero] | rw [hW]; rfl | rw [hW])))⟩
     ·
      have hwq:=xe (c:=c) (at':=at') (pz:=pz) (f:=f) (n:=n.2.1) hlt hn0 (by rw [hch]; simpa using h2)
      have hW:=hwq.1
      have hq:=hwq.2
      refine zC (zD (zf (zuy ?_)))
      refine qY mixed (by kernel_rfl) Y ?_
      refine zH Y (zi Y Y) (zH Y (zJ Y Y Y Y Y jY (by omega) (by omega)) (zH Y (zK Y Y Y Y Y Y ty3) (zH Y (zu Y Y jJ) (zH Y (zu Y Y jZ) (zH Y (zA Y Y Y ty3) (zH Y (qR Y Y Y) (jw (zf (zx Y (fun h3=>?_) (fun h3=>?_))))))))))
      ·
       exfalso; have:=hq.symm.trans (hall 1 (by omega)); simp at this h3; omega
      ·
       have hok:True:=trivial
       refine zC (zD (zf (zh (zE8 (zV Y Y Y ⟨(by omega), (by omega)⟩) (zE8 (zi Y Y) (zo ?_))))))
       exact ⟨⟨2, by omega⟩, by dsimp only; omega, (by refine zt (mem':=[.row [[I (n.1 + wP l at' pz f 0), I (n.2.1 + wP l at' pz f 1), I n.2.2]], .row [[I 0, I 0, I 0]]]) [(2, I (at':Int)), (3, I (pz:Int)), (4, I f), (5, .pub (.ptr (yc c l))), (6, .pp 0 1 0 0), (10, .pp 1 1 0 0), (15, .pub (qO l)), (16, I (l.length:Int)), (17, I 2)] ?_ ?_; exact ⟨Y, Y, Y, Y, Y, Y, Y, Y, Y, trivial⟩; exact (congrArg (fun z=>[PO.row [z], .row [[I 0, I 0, I 0]]]) (by first | rw [hW, Int.add_zero] | rw [hW]; rfl | rw [hW])))⟩
   ·
    have hge:l.length <= 1:=by simp at h0; first | omega | simp [h0]
    refine qp (zL (zL (qw (zf (zuy (zh (zE8 (qN (cs:=[_, _, _]) Y Y Y Y Y (by exact zLb Y) Y ji) ?_)))))))
    refine jb Y (qG Y Y Y Y Y Y (zY Y) ji (by rfl) (by exact zLb Y)) ?_
    refine zE8 (zn Y Y) (zo (zf (zP ?_)))
    exact ⟨.inr Y, ⟨_, Y, ⟨_, _, Y, (jK Y Y Y Y ji Y ⟨_, _, Y, AVle.of (zsG hge (by omega)), ⟨_, _, Y, AVle.of (zsa hge (by omega)), ⟨_, _, Y, AVle.of (zsg hge (by omega)), Y⟩⟩⟩), ⟨_, _, Y, AVle.refl _, Y⟩⟩⟩⟩
  ·
   dsimp only
   refine zuy (zh (zE8 (qi Y Y Y) (zo (zf (zuy (zx Y (fun h0=>?_) (fun h0=>?_)))))))
   ·
    have hlt:2 < l.length:=by simp at h0; omega
    obtain ⟨hx, hy, hch, hc1, hc2⟩:=za3 (hcp _ (List.getElem_mem hlt)) hat hpl
    refine zC (zf (zuy (zB (zuy (zh (zE8 (zi Y Y) (zE8 (zG Y Y Y zbo (by omega) (zaL hlt) yS) (zE8 (zA Y Y Y zfC) (zE8 (zn Y Y) (zE8 (zW Y Y) (zo ?_)))))))))))
    refine zf (zuy (zuy ?_))
    refine qY mixed (by kernel_rfl) Y ?_
    refine zH Y (zu Y Y jJ) (zH Y (zZ Y Y wH (by exact zLb Y)) (zH Y (zq Y Y) (zH Y (zi Y Y) (zH Y (zG Y Y Y yJ (by omega) (xI hx) vZ) (zH Y (zA Y Y Y ty9) (zH Y (zi Y Y) ?_))))))
    refine zH Y (wC Y Y Y Tryz.underlying9 (by omega) (by rw [Int.toNat_natCast]; exact List.getElem?_eq_getElem hy)) ?_
    refine zH Y (zi Y Y) (zH Y (zy (av:=[_, _, _]) Y ⟨Y, Y, Y, trivial⟩ (hch ▸ f119 c _ f hc ⟨hc1, hc2⟩ hf)) (jw (zf (zB (zuy (zh (zE8 (qJ Y Y Y) (zE8 (zn Y Y) (zo (zf (zx Y (fun h1=>?_) (fun h1=>?_))))))))))))
    ·
     exfalso; have hq:=zdt (c:=c) (at':=at') (pz:=pz) (f:=f) (n:=n.2.2) hlt (by rw [hch]; simpa using h1); have:=(hall 2 (by omega)).symm.trans hq; cases this
    ·
     have hn0:zbk c (chF l[2] at' pz) f ≠ 0:=by rw [hch]; simpa using h1
     refine zuy (zh (zE8 (qJ Y Y Y) (zE8 (zn Y Y) (zo (zf (zx Y (fun h2=>?_) (fun h2=>?_)))))))
     ·
      have hwq:=kZ (c:=c) (at':=at') (pz:=pz) (f:=f) (n:=n.2.2) hlt (by rw [hch]; simpa using h2)
      have hW:=hwq.1
      have hq:=hwq.2
      refine zh (zE8 (zi Y Y) (zE8 (zJ Y Y Y Y Y jY (by omega) (by omega)) (zE8 (zK Y Y Y Y Y Y ty3) (zE8 (zV Y Y Y ⟨(by omega), (by omega)⟩) (zE8 (zJ Y Y Y Y Y jY (by omega) (by omega)) ?_)))))
      refine jb Y (qG Y Y Y Y Y Y (jF Y) ty3 (by rfl) (by exact zLb Y)) ?_
      refine zo (zD (zf (zuy ?_)))
      refine qY mixed (by kernel_rfl) Y ?_
      refine zH Y (zi Y Y) (zH Y (zJ Y Y Y Y Y jY (by omega) (by omega)) (zH Y (zK Y Y Y Y Y Y ty3) (zH Y (zu Y Y jJ) (zH Y (zu Y Y jZ) (zH Y (zA Y Y Y ty3) (zH Y (qR Y Y Y) (jw (zf (zx Y (fun h3=>?_) (fun h3=>?_))))))))))
      ·
       exfalso; have:=hq.symm.trans (hall 2 (by omega)); simp at this h3; omega
      ·
       have hok:True:=trivial
       refine zC (zD (zf (zh (zE8 (zV Y Y Y ⟨(by omega), (by omega)⟩) (zE8 (zi Y Y) (zo ?_))))))
       exact ⟨⟨3, by omega⟩, by dsimp only; omega, (by refine zt (mem':=[.row [[I (n.1 + wP l at' pz f 0), I (n.2.1 + wP l at' pz f 1), I (n.2.2 + wP l at' pz f 2)]], .row [[I 0, I 0, I 0]]]) [(2, I (at':Int)), (3, I (pz:Int)), (4, I f), (5, .pub (.ptr (yc c l))), (6, .pp 0 1 0 0), (10, .pp 1 1 0 0), (15, .pub (qO l)), (16, I (l.length:Int)), (17, I 3)] ?_ ?_; exact ⟨Y, Y, Y, Y, Y, Y, Y, Y, Y, trivial⟩; exact (congrArg (fun z=>[PO.row [z], .row [[I 0, I 0, I 0]]]) (by first | rw [hW, Int.add_zero] | rw [hW]; rfl | rw [hW])))⟩
     ·
      have hwq:=xe (c:=c) (at':=at') (pz:=pz) (f:=f) (n:=n.2.2) hlt hn0 (by rw [hch]; simpa using h2)
      have hW:=hwq.1
      have hq:=hwq.2
      refine zC (zD (zf (zuy ?_)))
      refine qY mixed (by kernel_rfl) Y ?_
      refine zH Y (zi Y Y) (zH Y (zJ Y Y Y Y Y jY (by omega) (by omega)) (zH Y (zK Y Y Y Y Y Y ty3) (zH Y (zu Y Y jJ) (zH Y (zu Y Y jZ) (zH Y (zA Y Y Y ty3) (zH Y (qR Y Y Y) (jw (zf (zx Y (fun h3=>?_) (fun h3=>?_))))))))))
      ·
       exfalso; have:=hq.symm.trans (hall 2 (by omega)); simp at this h3; omega
      ·
       have hok:True:=trivial
       refine zC (zD (zf (zh (zE8 (zV Y Y Y ⟨(by omega), (by omega)⟩) (zE8 (zi Y Y) (zo ?_))))))
       exact ⟨⟨3, by omega⟩, by dsimp only; omega, (by refine zt (mem':=[.row [[I (n.1 + wP l at' pz f 0), I (n.2.1 + wP l at' pz f 1), I (n.2.2 + wP l at' pz f 2)]], .row [[I 0, I 0, I 0]]]) [(2, I (at':Int)), (3, I (pz:Int)), (4, I f), (5, .pub (.ptr (yc c l))), (6, .pp 0 1 0 0), (10, .pp 1 1 0 0), (15, .pub (qO l)), (16, I (l.length:Int)), (17, I 3)] ?_ ?_; exact ⟨Y, Y, Y, Y, Y, Y, Y, Y, Y, trivial⟩; exact (congrArg (fun z=>[PO.row [z], .row [[I 0, I 0, I 0]]]) (by first | rw [hW, Int.add_zero] | rw [hW]; rfl | rw [hW])))⟩
   ·
    have hge:l.length <= 2:=by simp at h0; first | omega | simp [h0]
    refine qp (zL (zL (qw (zf (zuy (zh (zE8 (qN (cs:=[_, _, _]) Y Y Y Y Y (by exact zLb Y) Y ji) ?_)))))))
    refine jb Y (qG Y Y Y Y Y Y (zY Y) ji (by rfl) (by exact zLb Y)) ?_
    refine zE8 (zn Y Y) (zo (zf (zP ?_)))
    exact ⟨.inr Y, ⟨_, Y, ⟨_, _, Y, (jK Y Y Y Y ji Y ⟨_, _, Y, AVle.of (zr8 hge (by omega)), ⟨_, _, Y, AVle.of (zsK hge (by omega)), ⟨_, _, Y, AVle.of (zsB hge (by omega)), Y⟩⟩⟩), ⟨_, _, Y, AVle.refl _, Y⟩⟩⟩⟩
  ·
   dsimp only
   refine zuy (zh (zE8 (qi Y Y Y) (zo (zf (zuy (zx Y (fun h0=>?_) (fun h0=>?_)))))))
   ·
    exfalso; simp at h0; omega
   ·
    have hge:l.length <= 3:=by simp at h0; first | omega | simp [h0]
    refine qp (zL (zL (qw (zf (zuy (zh (zE8 (qN (cs:=[_, _, _]) Y Y Y Y Y (by exact zLb Y) Y ji) ?_)))))))
    refine jb Y (qG Y Y Y Y Y Y (zY Y) ji (by rfl) (by exact zLb Y)) ?_
    refine zE8 (zn Y Y) (zo (zf (zP ?_)))
    exact ⟨.inr Y, ⟨_, Y, ⟨_, _, Y, (jK Y Y Y Y ji Y ⟨_, _, Y, AVle.of (zr9 hge (by omega)), ⟨_, _, Y, AVle.of (zsn hge (by omega)), ⟨_, _, Y, AVle.of (zsS hge (by omega)), Y⟩⟩⟩), ⟨_, _, Y, AVle.refl _, Y⟩⟩⟩⟩
theorem zqG (c:Cod) (l:List (List (List UInt8))) (n:Int × Int × Int) (at' pz:Nat) (f:Int) (hc:jA c = true) (hl:l.length <= 3) (hcp:∀ g ∈ l, jX c g = true) (hat:at' <= c.fields.length) (hpl:pz < 5) (hf:0 <= f /\ f <= 9) (hn:0 <= n.1 /\ n.1 <= 1000 /\ 0 <= n.2.1 /\ n.2.1 <= 1000 /\ 0 <= n.2.2 /\ n.2.2 <= 1000) (hno:vN c l at' pz f n = false):ACall Tryz.prog G 137 [.agg (yc c l), .agg (eCn n), ei (at':Int), ei (pz:Int), ei f] (.tup [.agg [.top, .top, .top], .v (.bool false)]):=by
 have hb0:=zef l at' pz f 0
 have hb1:=zef l at' pz f 1
 have hb2:=zef l at' pz f 2
 refine zS Tryz.func137 Y (by kernel_rfl) Y ?_
 refine zuy (zh (zE8 (jf Y (zY Y)) (jb Y (zqW Y Y (zY Y)) (jb Y (wJ Y Y zi7 Y Y) (zE8 (zn Y Y) (zo (zf (zuy (zuy (zh (zE8 (zu Y Y zjF) ?_)))))))))))
 refine zE8 (zA Y Y Y zr5) (zE8 (qh Y Y Y Tryz.underlying26) (zE8 (zi Y Y) (zo (zf (zB ?_)))))
 refine qy (ι:={ k:Nat // k < 4 /\ (∀ i, i < k -> zdj n c l at' pz f i = true) }) (fun k=>match k.1 with | 0=>⟨Tryz.f137.ntmps, frL [(2, I (at':Int)), (3, I (pz:Int)), (4, I f), (5, .pub (.ptr (yc c l))), (6, .pp 0 1 0 0), (10, .pp 1 1 0 0), (15, .pub (qO l)), (16, I (l.length:Int)), (17, I 0)], [.row [[I n.1, I n.2.1, I n.2.2]], .row [[I 0, I 0, I 0]]]⟩ | 1=>⟨Tryz.f137.ntmps, frL [(2, I (at':Int)), (3, I (pz:Int)), (4, I f), (5, .pub (.ptr (yc c l))), (6, .pp 0 1 0 0), (10, .pp 1 1 0 0), (15, .pub (qO l)), (16, I (l.length:Int)), (17, I 1)], [.row [[I (n.1 + wP l at' pz f 0), I n.2.1, I n.2.2]], .row [[I 0, I 0, I 0]]]⟩ | 2=>⟨Tryz.f137.ntmps, frL [(2, I (at':Int)), (3, I (pz:Int)), (4, I f), (5, .pub (.ptr (yc c l))), (6, .pp 0 1 0 0), (10, .pp 1 1 0 0), (15, .pub (qO l)), (16, I (l.length:Int)), (17, I 2)], [.row [[I (n.1 + wP l at' pz f 0), I (n.2.1 + wP l at' pz f 1), I n.2.2]], .row [[I 0, I 0, I 0]]]⟩ | _=>⟨Tryz.f137.ntmps, frL [(2, I (at':Int)), (3, I (pz:Int)), (4, I f), (5, .pub (.ptr (yc c l))), (6, .pp 0 1 0 0), (10, .pp 1 1 0 0), (15, .pub (qO l)), (16, I (l.length:Int)), (17, I 3)], [.row [[I (n.1 + wP l at' pz f 0), I (n.2.1 + wP l at' pz f 1), I (n.2.2 + wP l at' pz f 2)]], .row [[I 0, I 0, I 0]]]⟩) (fun k=>4 - k.1) (⟨0, by omega, fun i hi=>absurd hi (by omega)⟩) ?_ ?_
 ·
  exact zt _ ⟨Y, Y, Y, Y, Y, Y, Y, (congrArg (fun x:Nat=>I (x:Int)) (List.length_map _)), Y, trivial⟩ (Y)
 ·
  rintro ⟨k, hk, hinv⟩
  have hk3:k = 0 ∨ k = 1 ∨ k = 2 ∨ k = 3:=by omega
  rcases hk3 with rfl | rfl | rfl | rfl
  ·
   dsimp only
   refine zuy (zh (zE8 (qi Y Y Y) (zo (zf (zuy (zx Y (fun h0=>?_) (fun h0=>?_)))))))
   ·
    have hlt:0 < l.length:=by simp at h0; omega
    obtain ⟨hx, hy, hch, hc1, hc2⟩:=za3 (hcp _ (List.getElem_mem hlt)) hat hpl
    refine zC (zf (zuy (zB (zuy (zh (zE8 (zi Y Y) (zE8 (zG Y Y Y zbo (by omega) (zaL hlt) yS) (zE8 (zA Y Y Y zfC) (zE8 (zn Y Y) (zE8 (zW Y Y) (zo ?_)))))))))))
    refine zf (zuy (zuy ?_))
    refine qY mixed (by kernel_rfl) Y ?_
    refine zH Y (zu Y Y jJ) (zH Y (zZ Y Y wH (by exact zLb Y)) (zH Y (zq Y Y) (zH Y (zi Y Y) (zH Y (zG Y Y Y yJ (by omega) (xI hx) vZ) (zH Y (zA Y Y Y ty9) (zH Y (zi Y Y) ?_))))))
    refine zH Y (wC Y Y Y Tryz.underlying9 (by omega) (by rw [Int.toNat_natCast]; exact List.getElem?_eq_getElem hy)) ?_
    refine zH Y (zi Y Y) (zH Y (zy (av:=[_, _, _]) Y ⟨Y, Y, Y, trivial⟩ (hch ▸ f119 c _ f hc ⟨hc1, hc2⟩ hf)) (jw (zf (zB (zuy (zh (zE8 (qJ Y Y Y) (zE8 (zn Y Y) (zo (zf (zx Y (fun h1=>?_) (fun h1=>?_))))))))))))
    ·
     refine zuy (zh (zE8 (qN (cs:=[_, _, _]) Y Y Y Y Y (by exact zLb Y) Y ji) ?_))
     refine jb Y (qG Y Y Y Y Y Y (zY Y) ji (by rfl) (by exact zLb Y)) ?_
     refine zE8 (zn Y Y) (zo (zf (zP (qF (zQ (qF (zQ (zQ (qF (zQ ?_))))))))))
     exact ⟨.inr Y, ⟨_, Y, ⟨_, _, Y, (jK Y Y Y Y ji Y ⟨_, _, Y, AVle.top _, ⟨_, _, Y, AVle.top _, ⟨_, _, Y, AVle.top _, Y⟩⟩⟩), ⟨_, _, Y, AVle.refl _, Y⟩⟩⟩⟩
    ·
     have hn0:zbk c (chF l[0] at' pz) f ≠ 0:=by rw [hch]; simpa using h1
     refine zuy (zh (zE8 (qJ Y Y Y) (zE8 (zn Y Y) (zo (zf (zx Y (fun h2=>?_) (fun h2=>?_)))))))
     ·
      have hwq:=kZ (c:=c) (at':=at') (pz:=pz) (f:=f) (n:=n.1) hlt (by rw [hch]; simpa using h2)
      have hW:=hwq.1
      have hq:=hwq.2
      refine zh (zE8 (zi Y Y) (zE8 (zJ Y Y Y Y Y jY (by omega) (by omega)) (zE8 (zK Y Y Y Y Y Y ty3) (zE8 (zV Y Y Y ⟨(by omega), (by omega)⟩) (zE8 (zJ Y Y Y Y Y jY (by omega) (by omega)) ?_)))))
      refine jb Y (qG Y Y Y Y Y Y (jF Y) ty3 (by rfl) (by exact zLb Y)) ?_
      refine zo (zD (zf (zuy ?_)))
      refine qY mixed (by kernel_rfl) Y ?_
      refine zH Y (zi Y Y) (zH Y (zJ Y Y Y Y Y jY (by omega) (by omega)) (zH Y (zK Y Y Y Y Y Y ty3) (zH Y (zu Y Y jJ) (zH Y (zu Y Y jZ) (zH Y (zA Y Y Y ty3) (zH Y (qR Y Y Y) (jw (zf (zx Y (fun h3=>?_) (fun h3=>?_))))))))))
      ·
       refine zuy (zh (zE8 (qN (cs:=[_, _, _]) Y Y Y Y Y (by exact zLb Y) Y ji) ?_))
       refine jb Y (qG Y Y Y Y Y Y (zY Y) ji (by rfl) (by exact zLb Y)) ?_
       refine zE8 (zn Y Y) (zo (zf (zP (qF (zQ (zQ (qF (zQ ?_))))))))
       exact ⟨.inr Y, ⟨_, Y, ⟨_, _, Y, (jK Y Y Y Y ji Y ⟨_, _, Y, AVle.top _, ⟨_, _, Y, AVle.top _, ⟨_, _, Y, AVle.top _, Y⟩⟩⟩), ⟨_, _, Y, AVle.refl _, Y⟩⟩⟩⟩
      ·
       have hok:zdj n c l at' pz f 0 = true:=by simp only[zdj]; rw [hq]; simpa using h3
       refine zC (zD (zf (zh (zE8 (zV Y Y Y ⟨(by omega), (by omega)⟩) (zE8 (zi Y Y) (zo ?_))))))
       exact ⟨⟨1, by omega, (fun i hi=>by rcases (show i = 0 by omega) with rfl <;> first | exact hok | exact hinv _ (by omega))⟩, by dsimp only; omega, (by refine zt (mem':=[.row [[I (n.1 + wP l at' pz f 0), I n.2.1, I n.2.2]], .row [[I 0, I 0, I 0]]]) [(2, I (at':Int)), (3, I (pz:Int)), (4, I f), (5, .pub (.ptr (yc c l))), (6, .pp 0 1 0 0), (10, .pp 1 1 0 0), (15, .pub (qO l)), (16, I (l.length:Int)), (17, I 1)] ?_ ?_; exact ⟨rfl, rfl, rfl, rfl, rfl, rfl, rfl, rfl, rfl, trivial⟩; exact (congrArg (fun z=>[PO.row [z], .row [[I 0, I 0, I 0]]]) (by first | rw [hW, Int.add_zero] | rw [hW]; rfl | rw [hW])))⟩
     ·
      have hwq:=xe (c:=c) (at':=at') (pz:=pz) (f:=f) (n:=n.1) hlt hn0 (by rw [hch]; simpa using h2)
      have hW:=hwq.1
      have hq:=hwq.2
      refine zC (zD (zf (zuy ?_)))
      refine qY mixed (by kernel_rfl) Y ?_
      refine zH Y (zi Y Y) (zH Y (zJ Y Y Y Y Y jY (by omega) (by omega)) (zH Y (zK Y Y Y Y Y Y ty3) (zH Y (zu Y Y jJ) (zH Y (zu Y Y jZ) (zH Y (zA Y Y Y ty3) (zH Y (qR Y Y Y) (jw (zf (zx Y (fun h3=>?_) (fun h3=>?_))))))))))
      ·
       refine zuy (zh (zE8 (qN (cs:=[_, _, _]) Y Y Y Y Y (by exact zLb Y) Y ji) ?_))
       refine jb Y (qG Y Y Y Y Y Y (zY Y) ji (by rfl) (by exact zLb Y)) ?_
       refine zE8 (zn Y Y) (zo (zf (zP (qF (zQ (zQ (qF (zQ ?_))))))))
       exact ⟨.inr Y, ⟨_, Y, ⟨_, _, Y, (jK Y Y Y Y ji Y ⟨_, _, Y, AVle.top _, ⟨_, _, Y, AVle.top _, ⟨_, _, Y, AVle.top _, Y⟩⟩⟩), ⟨_, _, Y, AVle.refl _, Y⟩⟩⟩⟩
      ·
       have hok:zdj n c l at' pz f 0 = true:=by simp only[zdj]; rw [hq]; simpa using h3
       refine zC (zD (zf (zh (zE8 (zV Y Y Y ⟨(by omega), (by omega)⟩) (zE8 (zi Y Y) (zo ?_))))))
       exact ⟨⟨1, by omega, (fun i hi=>by rcases (show i = 0 by omega) with rfl <;> first | exact hok | exact hinv _ (by omega))⟩, by dsimp only; omega, (by refine zt (mem':=[.row [[I (n.1 + wP l at' pz f 0), I n.2.1, I n.2.2]], .row [[I 0, I 0, I 0]]]) [(2, I (at':Int)), (3, I (pz:Int)), (4, I f), (5, .pub (.ptr (yc c l))), (6, .pp 0 1 0 0), (10, .pp 1 1 0 0), (15, .pub (qO l)), (16, I (l.length:Int)), (17, I 1)] ?_ ?_; exact ⟨rfl, rfl, rfl, rfl, rfl, rfl, rfl, rfl, rfl, trivial⟩; exact (congrArg (fun z=>[PO.row [z], .row [[I 0, I 0, I 0]]]) (by first | rw [hW, Int.add_zero] | rw [hW]; rfl | rw [hW])))⟩
   ·
    exfalso; have hge:l.length <= 0:=by simp at h0; first | omega | simp [h0]
    have:vN c l at' pz f n = true:=by
     have:=hinv
     simp only[vN, zLa]
     exact ⟨zaR (by omega), zaR (by omega), zaR (by omega)⟩
    rw [this] at hno; cases hno
  ·
   dsimp only
   refine zuy (zh (zE8 (qi Y Y Y) (zo (zf (zuy (zx Y (fun h0=>?_) (fun h0=>?_)))))))
   ·
    have hlt:1 < l.length:=by simp at h0; omega
    obtain ⟨hx, hy, hch, hc1, hc2⟩:=za3 (hcp _ (List.getElem_mem hlt)) hat hpl
    refine zC (zf (zuy (zB (zuy (zh (zE8 (zi Y Y) (zE8 (zG Y Y Y zbo (by omega) (zaL hlt) yS) (zE8 (zA Y Y Y zfC) (zE8 (zn Y Y) (zE8 (zW Y Y) (zo ?_)))))))))))
    refine zf (zuy (zuy ?_))
    refine qY mixed (by kernel_rfl) Y ?_
    refine zH Y (zu Y Y jJ) (zH Y (zZ Y Y wH (by exact zLb Y)) (zH Y (zq Y Y) (zH Y (zi Y Y) (zH Y (zG Y Y Y yJ (by omega) (xI hx) vZ) (zH Y (zA Y Y Y ty9) (zH Y (zi Y Y) ?_))))))
    refine zH Y (wC Y Y Y Tryz.underlying9 (by omega) (by rw [Int.toNat_natCast]; exact List.getElem?_eq_getElem hy)) ?_
    refine zH Y (zi Y Y) (zH Y (zy (av:=[_, _, _]) Y ⟨Y, Y, Y, trivial⟩ (hch ▸ f119 c _ f hc ⟨hc1, hc2⟩ hf)) (jw (zf (zB (zuy (zh (zE8 (qJ Y Y Y) (zE8 (zn Y Y) (zo (zf (zx Y (fun h1=>?_) (fun h1=>?_))))))))))))
    ·
     refine zuy (zh (zE8 (qN (cs:=[_, _, _]) Y Y Y Y Y (by exact zLb Y) Y ji) ?_))
     refine jb Y (qG Y Y Y Y Y Y (zY Y) ji (by rfl) (by exact zLb Y)) ?_
     refine zE8 (zn Y Y) (zo (zf (zP (qF (zQ (qF (zQ (zQ (qF (zQ ?_))))))))))
     exact ⟨.inr Y, ⟨_, Y, ⟨_, _, Y, (jK Y Y Y Y ji Y ⟨_, _, Y, AVle.top _, ⟨_, _, Y, AVle.top _, ⟨_, _, Y, AVle.top _, Y⟩⟩⟩), ⟨_, _, Y, AVle.refl _, Y⟩⟩⟩⟩
    ·
     have hn0:zbk c (chF l[1] at' pz) f ≠ 0:=by rw [hch]; simpa using h1
     refine zuy (zh (zE8 (qJ Y Y Y) (zE8 (zn Y Y) (zo (zf (zx Y (fun h2=>?_) (fun h2=>?_)))))))
     ·
      have hwq:=kZ (c:=c) (at':=at') (pz:=pz) (f:=f) (n:=n.2.1) hlt (by rw [hch]; simpa using h2)
      have hW:=hwq.1
      have hq:=hwq.2
      refine zh (zE8 (zi Y Y) (zE8 (zJ Y Y Y Y Y jY (by omega) (by omega)) (zE8 (zK Y Y Y Y Y Y ty3) (zE8 (zV Y Y Y ⟨(by omega), (by omega)⟩) (zE8 (zJ Y Y Y Y Y jY (by omega) (by omega)) ?_)))))
      refine jb Y (qG Y Y Y Y Y Y (jF Y) ty3 (by rfl) (by exact zLb Y)) ?_
      refine zo (zD (zf (zuy ?_)))
      refine qY mixed (by kernel_rfl) Y ?_
      refine zH Y (zi Y Y) (zH Y (zJ Y Y Y Y Y jY (by omega) (by omega)) (zH Y (zK Y Y Y Y Y Y ty3) (zH Y (zu Y Y jJ) (zH Y (zu Y Y jZ) (zH Y (zA Y Y Y ty3) (zH Y (qR Y Y Y) (jw (zf (zx Y (fun h3=>?_) (fun h3=>?_))))))))))
      ·
       refine zuy (zh (zE8 (qN (cs:=[_, _, _]) Y Y Y Y Y (by exact zLb Y) Y ji) ?_))
       refine jb Y (qG Y Y Y Y Y Y (zY Y) ji (by rfl) (by exact zLb Y)) ?_
       refine zE8 (zn Y Y) (zo (zf (zP (qF (zQ (zQ (qF (zQ ?_))))))))
       exact ⟨.inr Y, ⟨_, Y, ⟨_, _, Y, (jK Y Y Y Y ji Y ⟨_, _, Y, AVle.top _, ⟨_, _, Y, AVle.top _, ⟨_, _, Y, AVle.top _, Y⟩⟩⟩), ⟨_, _, Y, AVle.refl _, Y⟩⟩⟩⟩
      ·
       have hok:zdj n c l at' pz f 1 = true:=by simp only[zdj]; rw [hq]; simpa using h3
       refine zC (zD (zf (zh (zE8 (zV Y Y Y ⟨(by omega), (by omega)⟩) (zE8 (zi Y Y) (zo ?_))))))
       exact ⟨⟨2, by omega, (fun i hi=>by rcases (show i = 0 ∨ i = 1 by omega) with rfl | rfl <;> first | exact hok | exact hinv _ (by omega))⟩, by dsimp only; omega, (by refine zt (mem':=[.row [[I (n.1 + wP l at' pz f 0), I (n.2.1 + wP l at' pz f 1), I n.2.2]], .row [[I 0, I 0, I 0]]]) [(2, I (at':Int)), (3, I (pz:Int)), (4, I f), (5, .pub (.ptr (yc c l))), (6, .pp 0 1 0 0), (10, .pp 1 1 0 0), (15, .pub (qO l)), (16, I (l.length:Int)), (17, I 2)] ?_ ?_; exact ⟨rfl, rfl, rfl, rfl, rfl, rfl, rfl, rfl, rfl, trivial⟩; exact (congrArg (fun z=>[PO.row [z], .row [[I 0, I 0, I 0]]]) (by first | rw [hW, Int.add_zero] | rw [hW]; rfl | rw [hW])))⟩
     ·
      have hwq:=xe (c:=c) (at':=at') (pz:=pz) (f:=f) (n:=n.2.1) hlt hn0 (by rw [hch]; simpa using h2)
      have hW:=hwq.1
      have hq:=hwq.2
      refine zC (zD (zf (zuy ?_)))
      refine qY mixed (by kernel_rfl) Y ?_
      refine zH Y (zi Y Y) (zH Y (zJ Y Y Y Y Y jY (by omega) (by omega)) (zH Y (zK Y Y Y Y Y Y ty3) (zH Y (zu Y Y jJ) (zH Y (zu Y Y jZ) (zH Y (zA Y Y Y ty3) (zH Y (qR Y Y Y) (jw (zf (zx Y (fun h3=>?_) (fun h3=>?_))))))))))
      ·
       refine zuy (zh (zE8 (qN (cs:=[_, _, _]) Y Y Y Y Y (by exact zLb Y) Y ji) ?_))
       refine jb Y (qG Y Y Y Y Y Y (zY Y) ji (by rfl) (by exact zLb Y)) ?_
       refine zE8 (zn Y Y) (zo (zf (zP (qF (zQ (zQ (qF (zQ ?_))))))))
       exact ⟨.inr Y, ⟨_, Y, ⟨_, _, Y, (jK Y Y Y Y ji Y ⟨_, _, Y, AVle.top _, ⟨_, _, Y, AVle.top _, ⟨_, _, Y, AVle.top _, Y⟩⟩⟩), ⟨_, _, Y, AVle.refl _, Y⟩⟩⟩⟩
      ·
       have hok:zdj n c l at' pz f 1 = true:=by simp only[zdj]; rw [hq]; simpa using h3
       refine zC (zD (zf (zh (zE8 (zV Y Y Y ⟨(by omega), (by omega)⟩) (zE8 (zi Y Y) (zo ?_))))))
       exact ⟨⟨2, by omega, (fun i hi=>by rcases (show i = 0 ∨ i = 1 by omega) with rfl | rfl <;> first | exact hok | exact hinv _ (by omega))⟩, by dsimp only; omega, (by refine zt (mem':=[.row [[I (n.1 + wP l at' pz f 0), I (n.2.1 + wP l at' pz f 1), I n.2.2]], .row [[I 0, I 0, I 0]]]) [(2, I (at':Int)), (3, I (pz:Int)), (4, I f), (5, .pub (.ptr (yc c l))), (6, .pp 0 1 0 0), (10, .pp 1 1 0 0), (15, .pub (qO l)), (16, I (l.length:Int)), (17, I 2)] ?_ ?_; exact ⟨rfl, rfl, rfl, rfl, rfl, rfl, rfl, rfl, rfl, trivial⟩; exact (congrArg (fun z=>[PO.row [z], .row [[I 0, I 0, I 0]]]) (by first | rw [hW, Int.add_zero] | rw [hW]; rfl | rw [hW])))⟩
   ·
    exfalso; have hge:l.length <= 1:=by simp at h0; first | omega | simp [h0]
    have:vN c l at' pz f n = true:=by
     have:=hinv
     simp only[vN, zLa]
     exact ⟨hinv 0 (by omega), zaR (by omega), zaR (by omega)⟩
    rw [this] at hno; cases hno
  ·
   dsimp only
   refine zuy (zh (zE8 (qi Y Y Y) (zo (zf (zuy (zx Y (fun h0=>?_) (fun h0=>?_)))))))
   ·
    have hlt:2 < l.length:=by simp at h0; omega
    obtain ⟨hx, hy, hch, hc1, hc2⟩:=za3 (hcp _ (List.getElem_mem hlt)) hat hpl
    refine zC (zf (zuy (zB (zuy (zh (zE8 (zi Y Y) (zE8 (zG Y Y Y zbo (by omega) (zaL hlt) yS) (zE8 (zA Y Y Y zfC) (zE8 (zn Y Y) (zE8 (zW Y Y) (zo ?_)))))))))))
    refine zf (zuy (zuy ?_))
    refine qY mixed (by kernel_rfl) Y ?_
    refine zH Y (zu Y Y jJ) (zH Y (zZ Y Y wH (by exact zLb Y)) (zH Y (zq Y Y) (zH Y (zi Y Y) (zH Y (zG Y Y Y yJ (by omega) (xI hx) vZ) (zH Y (zA Y Y Y ty9) (zH Y (zi Y Y) ?_))))))
    refine zH Y (wC Y Y Y Tryz.underlying9 (by omega) (by rw [Int.toNat_natCast]; exact List.getElem?_eq_getElem hy)) ?_
    refine zH Y (zi Y Y) (zH Y (zy (av:=[_, _, _]) Y ⟨Y, Y, Y, trivial⟩ (hch ▸ f119 c _ f hc ⟨hc1, hc2⟩ hf)) (jw (zf (zB (zuy (zh (zE8 (qJ Y Y Y) (zE8 (zn Y Y) (zo (zf (zx Y (fun h1=>?_) (fun h1=>?_))))))))))))
    ·
     refine zuy (zh (zE8 (qN (cs:=[_, _, _]) Y Y Y Y Y (by exact zLb Y) Y ji) ?_))
     refine jb Y (qG Y Y Y Y Y Y (zY Y) ji (by rfl) (by exact zLb Y)) ?_
     refine zE8 (zn Y Y) (zo (zf (zP (qF (zQ (qF (zQ (zQ (qF (zQ ?_))))))))))
     exact ⟨.inr Y, ⟨_, Y, ⟨_, _, Y, (jK Y Y Y Y ji Y ⟨_, _, Y, AVle.top _, ⟨_, _, Y, AVle.top _, ⟨_, _, Y, AVle.top _, Y⟩⟩⟩), ⟨_, _, Y, AVle.refl _, Y⟩⟩⟩⟩
    ·
     have hn0:zbk c (chF l[2] at' pz) f ≠ 0:=by rw [hch]; simpa using h1
     refine zuy (zh (zE8 (qJ Y Y Y) (zE8 (zn Y Y) (zo (zf (zx Y (fun h2=>?_) (fun h2=>?_)))))))
     ·
      have hwq:=kZ (c:=c) (at':=at') (pz:=pz) (f:=f) (n:=n.2.2) hlt (by rw [hch]; simpa using h2)
      have hW:=hwq.1
      have hq:=hwq.2
      refine zh (zE8 (zi Y Y) (zE8 (zJ Y Y Y Y Y jY (by omega) (by omega)) (zE8 (zK Y Y Y Y Y Y ty3) (zE8 (zV Y Y Y ⟨(by omega), (by omega)⟩) (zE8 (zJ Y Y Y Y Y jY (by omega) (by omega)) ?_)))))
      refine jb Y (qG Y Y Y Y Y Y (jF Y) ty3 (by rfl) (by exact zLb Y)) ?_
      refine zo (zD (zf (zuy ?_)))
      refine qY mixed (by kernel_rfl) Y ?_
      refine zH Y (zi Y Y) (zH Y (zJ Y Y Y Y Y jY (by omega) (by omega)) (zH Y (zK Y Y Y Y Y Y ty3) (zH Y (zu Y Y jJ) (zH Y (zu Y Y jZ) (zH Y (zA Y Y Y ty3) (zH Y (qR Y Y Y) (jw (zf (zx Y (fun h3=>?_) (fun h3=>?_))))))))))
      ·
       refine zuy (zh (zE8 (qN (cs:=[_, _, _]) Y Y Y Y Y (by exact zLb Y) Y ji) ?_))
       refine jb Y (qG Y Y Y Y Y Y (zY Y) ji (by rfl) (by exact zLb Y)) ?_
       refine zE8 (zn Y Y) (zo (zf (zP (qF (zQ (zQ (qF (zQ ?_))))))))
       exact ⟨.inr Y, ⟨_, Y, ⟨_, _, Y, (jK Y Y Y Y ji Y ⟨_, _, Y, AVle.top _, ⟨_, _, Y, AVle.top _, ⟨_, _, Y, AVle.top _, Y⟩⟩⟩), ⟨_, _, Y, AVle.refl _, Y⟩⟩⟩⟩
      ·
       have hok:zdj n c l at' pz f 2 = true:=by simp only[zdj]; rw [hq]; simpa using h3
       refine zC (zD (zf (zh (zE8 (zV Y Y Y ⟨(by omega), (by omega)⟩) (zE8 (zi Y Y) (zo ?_))))))
       exact ⟨⟨3, by omega, (fun i hi=>by rcases (show i = 0 ∨ i = 1 ∨ i = 2 by omega) with rfl | rfl | rfl <;> first | exact hok | exact hinv _ (by omega))⟩, by dsimp only; omega, (by refine zt (mem':=[.row [[I (n.1 + wP l at' pz f 0), I (n.2.1 + wP l at' pz f 1), I (n.2.2 + wP l at' pz f 2)]], .row [[I 0, I 0, I 0]]]) [(2, I (at':Int)), (3, I (pz:Int)), (4, I f), (5, .pub (.ptr (yc c l))), (6, .pp 0 1 0 0), (10, .pp 1 1 0 0), (15, .pub (qO l)), (16, I (l.length:Int)), (17, I 3)] ?_ ?_; exact ⟨rfl, rfl, rfl, rfl, rfl, rfl, rfl, rfl, rfl, trivial⟩; exact (congrArg (fun z=>[PO.row [z], .row [[I 0, I 0, I 0]]]) (by first | rw [hW, Int.add_zero] | rw [hW]; rfl | rw [hW])))⟩
     ·
      have hwq:=xe (c:=c) (at':=at') (pz:=pz) (f:=f) (n:=n.2.2) hlt hn0 (by rw [hch]; simpa using h2)
      have hW:=hwq.1
      have hq:=hwq.2
      refine zC (zD (zf (zuy ?_)))
      refine qY mixed (by kernel_rfl) Y ?_
      refine zH Y (zi Y Y) (zH Y (zJ Y Y Y Y Y jY (by omega) (by omega)) (zH Y (zK Y Y Y Y Y Y ty3) (zH Y (zu Y Y jJ) (zH Y (zu Y Y jZ) (zH Y (zA Y Y Y ty3) (zH Y (qR Y Y Y) (jw (zf (zx Y (fun h3=>?_) (fun h3=>?_))))))))))
      ·
       refine zuy (zh (zE8 (qN (cs:=[_, _, _]) Y Y Y Y Y (by exact zLb Y) Y ji) ?_))
       refine jb Y (qG Y Y Y Y Y Y (zY Y) ji (by rfl) (by exact zLb Y)) ?_
       refine zE8 (zn Y Y) (zo (zf (zP (qF (zQ (zQ (qF (zQ ?_))))))))
       exact ⟨.inr Y, ⟨_, Y, ⟨_, _, Y, (jK Y Y Y Y ji Y ⟨_, _, Y, AVle.top _, ⟨_, _, Y, AVle.top _, ⟨_, _, Y, AVle.top _, Y⟩⟩⟩), ⟨_, _, Y, AVle.refl _, Y⟩⟩⟩⟩
      ·
       have hok:zdj n c l at' pz f 2 = true:=by simp only[zdj]; rw [hq]; simpa using h3
       refine zC (zD (zf (zh (zE8 (zV Y Y Y ⟨(by omega), (by omega)⟩) (zE8 (zi Y Y) (zo ?_))))))
       exact ⟨⟨3, by omega, (fun i hi=>by rcases (show i = 0 ∨ i = 1 ∨ i = 2 by omega) with rfl | rfl | rfl <;> first | exact hok | exact hinv _ (by omega))⟩, by dsimp only; omega, (by refine zt (mem':=[.row [[I (n.1 + wP l at' pz f 0), I (n.2.1 + wP l at' pz f 1), I (n.2.2 + wP l at' pz f 2)]], .row [[I 0, I 0, I 0]]]) [(2, I (at':Int)), (3, I (pz:Int)), (4, I f), (5, .pub (.ptr (yc c l))), (6, .pp 0 1 0 0), (10, .pp 1 1 0 0), (15, .pub (qO l)), (16, I (l.length:Int)), (17, I 3)] ?_ ?_; exact ⟨rfl, rfl, rfl, rfl, rfl, rfl, rfl, rfl, rfl, trivial⟩; exact (congrArg (fun z=>[PO.row [z], .row [[I 0, I 0, I 0]]]) (by first | rw [hW, Int.add_zero] | rw [hW]; rfl | rw [hW])))⟩
   ·
    exfalso; have hge:l.length <= 2:=by simp at h0; first | omega | simp [h0]
    have:vN c l at' pz f n = true:=by
     have:=hinv
     simp only[vN, zLa]
     exact ⟨hinv 0 (by omega), hinv 1 (by omega), zaR (by omega)⟩
    rw [this] at hno; cases hno
  ·
   dsimp only
   refine zuy (zh (zE8 (qi Y Y Y) (zo (zf (zuy (zx Y (fun h0=>?_) (fun h0=>?_)))))))
   ·
    exfalso; simp at h0; omega
   ·
    exfalso; have hge:l.length <= 3:=by simp at h0; first | omega | simp [h0]
    have:vN c l at' pz f n = true:=by
     have:=hinv
     simp only[vN, zLa]
     exact ⟨hinv 0 (by omega), hinv 1 (by omega), hinv 2 (by omega)⟩
    rw [this] at hno; cases hno
theorem xJ:tyIs Tryz.prog 134 true 4 = true:=by kernel_rfl
theorem zrJ (b:Bool):b = false ∨ b = true:=by cases b <;> simp
def plX (c:Cod) (l:List (List (List UInt8))) (at' pz:Nat) (f:Int) (n:Int × Int × Int) (x:AV):AV:=if vN c l at' pz f n then x else .top
theorem f137 (c:Cod) (l:List (List (List UInt8))) (n:Int × Int × Int) (at' pz:Nat) (f:Int) (hc:jA c = true) (hl:l.length <= 3) (hcp:∀ g ∈ l, jX c g = true) (hat:at' <= c.fields.length) (hpl:pz < 5) (hf:0 <= f /\ f <= 9) (hn:0 <= n.1 /\ n.1 <= 1000 /\ 0 <= n.2.1 /\ n.2.1 <= 1000 /\ 0 <= n.2.2 /\ n.2.2 <= 1000):ACall Tryz.prog G 137 [.agg (yc c l), .agg (eCn n), ei (at':Int), ei (pz:Int), ei f] (.tup [.agg [plX c l at' pz f n (ei (plN l at' pz f n).1), plX c l at' pz f n (ei (plN l at' pz f n).2.1), plX c l at' pz f n (ei (plN l at' pz f n).2.2)], .v (.bool (vN c l at' pz f n))]):=by
 cases h:vN c l at' pz f n with
 | true=>
  have:=zpR (G:=G) c l n at' pz f hc hl hcp hat hpl hf hn h
  simp only[plX, h, if_true]
  exact this
 | false=>
  have:=zqG (G:=G) c l n at' pz f hc hl hcp hat hpl hf hn h
  simp only[plX, h, Bool.false_eq_true, if_false]
  exact this
def zfo (f:Nat -> Bool) (k:Nat):Nat:=((List.range k).filter f).length
theorem zgP (f:Nat -> Bool) (k:Nat):zfo f (k + 1) = if f k then zfo f k + 1 else zfo f k:=by
 unfold zfo
 rw [List.range_succ, List.filter_append]
 cases h:f k <;> simp [h]
theorem zmZ {f:Nat -> Bool}:∀ {n k:Nat}, k < n -> f k = true -> ((List.range n).filter f)[zfo f k]? = some k:=by
 intro n
 induction n with
 | zero=>intro k h; omega
 | succ n ih=>
  intro k hk hf
  rw [List.range_succ, List.filter_append]
  by_cases h:k < n
  ·
   rw [List.getElem?_append_left]
   ·
    exact ih h hf
   ·
    have:=ih h hf
    exact (zLg this).1
  ·
   have:k = n:=by omega
   subst this
   rw [List.getElem?_append_right (by unfold zfo; omega)]
   simp [zfo, hf]
theorem zla {P:Program} {C:Cx P G} {ph:Ph} {st st':ASt} {Q:Exit -> Ph -> ASt -> Prop} (hw:Weak st st') {c:Code} (h:vY C c ph st' Q):vY C c ph st Q:=fun w0 ok0 a w hc hs=>h w0 ok0 a w hc (hw w0 ok0 a w hs)
def zaA (c:Cod) (l:List (List (List UInt8))) (at' pz:Nat) (n:Int × Int × Int):List Nat:=(List.range 10).filter fun f=>vN c l at' pz (f:Int) n
def zmy (c:Cod) (l:List (List (List UInt8))) (at' pz:Nat) (n:Int × Int × Int):List (List AV):=(zaA c l at' pz n).map fun (f:Nat)=>[ei (f:Int), .agg (eCn (plN l at' pz (f:Int) n))]
theorem zqz {c:Cod} {l:List (List (List UInt8))} {at' pz:Nat} {n:Int × Int × Int} {k:Nat} (hk:k < 10) (hb:vN c l at' pz (k:Int) n = true):(zmy c l at' pz n)[zfo (fun f=>vN c l at' pz (f:Int) n) k]? = some [ei (k:Int), .agg (eCn (plN l at' pz (k:Int) n))]:=by
 unfold zmy zaA
 rw [List.getElem?_map, zmZ (f:=fun f=>vN c l at' pz (f:Int) n) hk hb]
 rfl
theorem znJ {c:Cod} {l:List (List (List UInt8))} {at' pz:Nat} {n:Int × Int × Int}:(zmy c l at' pz n).length = zfo (fun f=>vN c l at' pz (f:Int) n) 10:=by simp [zmy, zaA, zfo]
theorem zn6 {c:Cod} {l:List (List (List UInt8))} {at' pz:Nat} {f:Int} {n:Int × Int × Int} (h:vN c l at' pz f n = true):[plX c l at' pz f n (ei (plN l at' pz f n).1), plX c l at' pz f n (ei (plN l at' pz f n).2.1), plX c l at' pz f n (ei (plN l at' pz f n).2.2)] = eCn (plN l at' pz f n):=by
 simp only[plX, h, if_true]; rfl
theorem zsR (c:Cod) (l:List (List (List UInt8))) (n:Int × Int × Int) (at' pz:Nat) (hc:jA c = true) (hl:l.length <= 3) (hcp:∀ g ∈ l, jX c g = true) (hat:at' <= c.fields.length) (hpl:pz < 5) (hn:0 <= n.1 /\ n.1 <= 1000 /\ 0 <= n.2.1 /\ n.2.1 <= 1000 /\ 0 <= n.2.2 /\ n.2.2 <= 1000):zlr Tryz.prog G 166 [] [.ptr (yc c l), .ptr (eCn n), .ptr [ei (at':Int)], .ptr [ei (pz:Int)]] (zmy c l at' pz n):=by
 refine zp5 (qs:=(zmy c l at' pz n)) Tryz.func166 Y (by kernel_rfl) Y Y (fun C hC=>?_)
 refine zcv ?_
 refine zgy ?_
 refine zh ?_
 first | refine zg rfl rfl (zi rfl rfl) ?_ | refine zg rfl rfl (zq rfl rfl) ?_ | refine zg rfl rfl (zI rfl rfl) ?_ | refine zg rfl rfl (zM rfl rfl) ?_
 refine zo ?_
 refine vT ?_
 refine ziI ?_
 refine zp1 (ι:={ k:Nat // k <= 10 }) (fun k=>⟨Tryz.f166.ntmps, frL [(0, .pub (.v (.func (.yield C.l) #[] #[]))), (1, .pub (.ptr (yc c l))), (2, .pub (.ptr (eCn n))), (3, .pub (.ptr [ei (at':Int)])), (4, .pub (.ptr [ei (pz:Int)])), (9, I (k.1:Int))], []⟩) (fun k=>.on (zfo (fun f=>vN c l at' pz (f:Int) n) k.1)) (fun k=>10 - k.1) (⟨0, by omega⟩) Y ?_ ?_
 ·
  exact zt _ ⟨Y, Y, Y, Y, Y, Y, trivial⟩ (Y)
 ·
  rintro ⟨k, hk⟩
  dsimp only
  refine zcv ?_
  refine zgy ?_
  refine zh (zE8 (qi Y Y Y) (zo ?_))
  refine vT ?_
  refine zcv ?_
  refine zes Y (fun h0=>?_) (fun h0=>?_)
  ·
   have hlt:k < 10:=by simp at h0; omega
   refine zhp ?_
   refine vT ?_
   refine zcv ?_
   refine ziI ?_
   refine zcv ?_
   refine zgy ?_
   refine zh ?_
   first | refine zg rfl rfl (zi rfl rfl) ?_ | refine zg rfl rfl (zq rfl rfl) ?_ | refine zg rfl rfl (zI rfl rfl) ?_ | refine zg rfl rfl (zM rfl rfl) ?_
   first | refine zg rfl rfl (zn rfl rfl) ?_ | refine zg rfl rfl (zW rfl rfl) ?_ | refine zg rfl rfl (qo rfl rfl) ?_ | refine zg rfl rfl (qV rfl rfl) ?_
   refine zo ?_
   refine vT ?_
   refine zcv ?_
   refine zgy ?_
   refine zh ?_
   first | refine zg rfl rfl (zZ rfl rfl xJ (by exact zLb rfl)) ?_ | refine zg rfl rfl (qN (cs:=[_, _, _, _]) rfl rfl rfl rfl rfl (by exact zLb rfl) rfl xJ) ?_ | refine zg rfl rfl (zuz rfl rfl rfl rfl rfl (by exact zLb rfl) rfl xJ) ?_
   first | refine zg rfl rfl (zZ rfl rfl ji (by exact zLb rfl)) ?_ | refine zg rfl rfl (qN (cs:=[_, _, _]) rfl rfl rfl rfl rfl (by exact zLb rfl) rfl ji) ?_ | refine zg rfl rfl (zuz rfl rfl rfl rfl rfl (by exact zLb rfl) rfl ji) ?_
   first | refine zg rfl rfl (zA rfl rfl rfl ty3) ?_ | refine zg rfl rfl (zK rfl rfl rfl rfl rfl rfl ty3) ?_
   first | refine zg rfl rfl (zA rfl rfl rfl ty3) ?_ | refine zg rfl rfl (zK rfl rfl rfl rfl rfl rfl ty3) ?_
   first | refine zg rfl rfl (zi rfl rfl) ?_ | refine zg rfl rfl (zq rfl rfl) ?_ | refine zg rfl rfl (zI rfl rfl) ?_ | refine zg rfl rfl (zM rfl rfl) ?_
   refine zE8 (zy (av:=[_, _, _, _, _]) Y ⟨Y, Y, Y, Y, Y, trivial⟩ (f137 c l n at' pz (k:Int) hc hl hcp hat hpl (by omega) hn)) ?_
   first | refine zg rfl rfl (zi rfl rfl) ?_ | refine zg rfl rfl (zq rfl rfl) ?_ | refine zg rfl rfl (zI rfl rfl) ?_ | refine zg rfl rfl (zM rfl rfl) ?_
   refine zE8 (zN Y Y Y) (zE8 (zN Y Y Y) ?_)
   refine vI  Y Y Y Y Y Y Y zi7 ji Y (by rfl) (zY Y) Y ?_
   first | refine zg rfl rfl (zn rfl rfl) ?_ | refine zg rfl rfl (zW rfl rfl) ?_ | refine zg rfl rfl (qo rfl rfl) ?_ | refine zg rfl rfl (qV rfl rfl) ?_
   refine zo ?_
   refine vT ?_
   refine zcv ?_
   refine Or.elim (zrJ (vN c l at' pz (k:Int) n)) (fun hb=>?_) (fun hb=>?_)
   ·
    refine zla (zt (mem':=[]) [(0, .pub (.v (.func (.yield C.l) #[] #[]))), (1, .pub (.ptr (yc c l))), (2, .pub (.ptr (eCn n))), (3, .pub (.ptr [ei (at':Int)])), (4, .pub (.ptr [ei (pz:Int)])), (6, I (k:Int)), (8, B false), (9, I (k:Int))] ⟨Y, Y, Y, Y, Y, Y, congrArg B hb, Y, trivial⟩ Y) ?_
    refine zgf ?_
    first | refine zjW rfl rfl (zi rfl rfl) ?_ | refine zjW rfl rfl (zq rfl rfl) ?_ | refine zjW rfl rfl (zI rfl rfl) ?_ | refine zjW rfl rfl (zM rfl rfl) ?_
    first | refine zjW rfl rfl (zi rfl rfl) ?_ | refine zjW rfl rfl (zq rfl rfl) ?_ | refine zjW rfl rfl (zI rfl rfl) ?_ | refine zjW rfl rfl (zM rfl rfl) ?_
    refine yR (x:=.pub .top) Y Y Y (fun h=>absurd h (by decide)) ?_
    refine yR (x:=.pub .top) Y Y Y (fun h=>absurd h (by decide)) ?_
    refine yR (x:=.pub .top) Y Y Y (fun h=>absurd h (by decide)) ?_
    refine zi6 (q:=[]) (c:=false) Y Y Y Y (fun h=>absurd h (by decide)) (fun h=>absurd h (by decide)) (fun h=>absurd h (by decide)) Y Y Y Y Y (fun _=>?_) (fun h=>absurd h (by decide)) (fun h=>absurd h (by decide))
    refine yR (x:=.pub .top) Y Y Y (fun h=>absurd h (by decide)) ?_
    refine zjW Y Y (zU Y Y (fun h=>absurd h (by decide)) (fun _=>rfl)) ?_
    refine zkH ?_
    refine vT ?_
    refine zes (b:=false) Y (fun h=>absurd h (by decide)) (fun _=>?_)
    refine zhp ?_
    refine zgg ?_
    refine vT ?_
    refine zgy ?_
    refine zh (zE8 (zV Y Y Y ⟨(by omega), (by omega)⟩) ?_)
    first | refine zg rfl rfl (zi rfl rfl) ?_ | refine zg rfl rfl (zq rfl rfl) ?_ | refine zg rfl rfl (zI rfl rfl) ?_ | refine zg rfl rfl (zM rfl rfl) ?_
    refine zo ?_
    exact ⟨⟨k + 1, by omega⟩, by dsimp only; omega, by simp only[zgP, hb]; rfl, zt _ ⟨Y, Y, Y, Y, Y, Y, trivial⟩ Y⟩
   ·
    refine zla (zt (mem':=[]) [(0, .pub (.v (.func (.yield C.l) #[] #[]))), (1, .pub (.ptr (yc c l))), (2, .pub (.ptr (eCn n))), (3, .pub (.ptr [ei (at':Int)])), (4, .pub (.ptr [ei (pz:Int)])), (6, I (k:Int)), (7, .pub (.ptr (eCn (plN l at' pz (k:Int) n)))), (8, B true), (9, I (k:Int))] ⟨Y, Y, Y, Y, Y, Y, (congrArg (fun z=>EV.pub (.ptr z)) (zn6 hb)), congrArg B hb, Y, trivial⟩ Y) ?_
    refine zgf ?_
    first | refine zjW rfl rfl (zi rfl rfl) ?_ | refine zjW rfl rfl (zq rfl rfl) ?_ | refine zjW rfl rfl (zI rfl rfl) ?_ | refine zjW rfl rfl (zM rfl rfl) ?_
    first | refine zjW rfl rfl (zi rfl rfl) ?_ | refine zjW rfl rfl (zq rfl rfl) ?_ | refine zjW rfl rfl (zI rfl rfl) ?_ | refine zjW rfl rfl (zM rfl rfl) ?_
    first | refine yR rfl rfl rfl (fun _=>zi rfl rfl) ?_ | refine yR rfl rfl rfl (fun _=>zq rfl rfl) ?_ | refine yR rfl rfl rfl (fun _=>zI rfl rfl) ?_ | refine yR rfl rfl rfl (fun _=>zM rfl rfl) ?_
    first | refine yR rfl rfl rfl (fun _=>zi rfl rfl) ?_ | refine yR rfl rfl rfl (fun _=>zq rfl rfl) ?_ | refine yR rfl rfl rfl (fun _=>zI rfl rfl) ?_ | refine yR rfl rfl rfl (fun _=>zM rfl rfl) ?_
    refine yR Y Y Y (fun _=>zZ Y Y ji (by exact zLb Y)) ?_
    refine zi6 (q:=[ei (k:Int), .agg (eCn (plN l at' pz (k:Int) n))]) (c:=true) Y Y Y Y (fun _=>rfl) (fun _=>rfl) (fun _=>by rw [hC]; exact zqz (by omega) hb) Y Y Y Y Y (fun h=>absurd h (by decide)) (fun _=>?_) (fun _=>?_)
    ·
     refine yR Y Y Y (fun _=>je Y Y) ?_
     refine zjW Y Y (zU Y Y (fun _=>rfl) (fun h=>absurd h (by decide))) ?_
     refine zkH ?_
     refine vT ?_
     refine zes (b:=false) Y (fun h=>absurd h (by decide)) (fun _=>?_)
     refine zhp ?_
     refine zgg ?_
     refine vT ?_
     refine zgy ?_
     refine zh (zE8 (zV Y Y Y ⟨(by omega), (by omega)⟩) ?_)
     first | refine zg rfl rfl (zi rfl rfl) ?_ | refine zg rfl rfl (zq rfl rfl) ?_ | refine zg rfl rfl (zI rfl rfl) ?_ | refine zg rfl rfl (zM rfl rfl) ?_
     refine zo ?_
     exact ⟨⟨k + 1, by omega⟩, by dsimp only; omega, by simp only[zgP, hb]; rfl, zt _ ⟨Y, Y, Y, Y, Y, Y, trivial⟩ Y⟩
    ·
     refine yR Y Y Y (fun _=>je Y Y) ?_
     refine zjW Y Y (zU Y Y (fun _=>rfl) (fun h=>absurd h (by decide))) ?_
     refine zkH ?_
     refine vT ?_
     refine zes (b:=true) Y (fun _=>?_) (fun h=>absurd h (by decide))
     refine zrT ?_
     refine zo1 ?_
     refine zoe ?_
     refine zoe ?_
     refine zo1 ?_
     exact ⟨.inr Y, Y, .inr ⟨_, Y⟩⟩
  ·
   have hge:10 <= k:=by simp at h0; omega
   refine zpr ?_
   refine zlv ?_
   refine zlv ?_
   refine zqj ?_
   exact ⟨.inl Y, Y, .inl (by rw [znJ, show 10 = k from by omega])⟩
theorem f138 (c:Cod) (l:List (List (List UInt8))) (n:Int × Int × Int) (at' pz:Int):ACall Tryz.prog G 138 [.agg (yc c l), .agg (eCn n), ei at', ei pz] (.fn 166 [] [.ptr (yc c l), .ptr (eCn n), .ptr [ei at'], .ptr [ei pz]]):=by
 refine zS Tryz.func138 Y (by kernel_rfl) Y ?_
 refine zuy (zh (zE8 (jf Y (zY Y)) (zE8 (jf Y (zY Y)) ?_)))
 refine zE8 (jf (cs:=[_]) Y (by first | exact jF Y | exact kQ Y | exact zuw Y | exact zY Y | exact zbO Y Y (by simp) | exact zkN Y | exact zux Y | exact zuv Y)) ?_
 refine zE8 (jf (cs:=[_]) Y (by first | exact jF Y | exact kQ Y | exact zuw Y | exact zY Y | exact zbO Y Y (by simp) | exact zkN Y | exact zux Y | exact zuv Y)) ?_
 first | refine zg rfl rfl (zn rfl rfl) ?_ | refine zg rfl rfl (zW rfl rfl) ?_ | refine zg rfl rfl (qo rfl rfl) ?_ | refine zg rfl rfl (qV rfl rfl) ?_
 refine zo (zf (zuy (zh ?_)))
 first | refine zg rfl rfl (zcA (fs:=[]) (cs:=[_, _, _, _]) rfl rfl rfl) ?_ | refine zg rfl rfl (zjz rfl) ?_
 first | refine zg rfl rfl (zn rfl rfl) ?_ | refine zg rfl rfl (zW rfl rfl) ?_ | refine zg rfl rfl (qo rfl rfl) ?_ | refine zg rfl rfl (qV rfl rfl) ?_
 refine zo (zf (zP ?_))
 exact ⟨.inr Y, AVle.refl _⟩
end Go.Av
end
