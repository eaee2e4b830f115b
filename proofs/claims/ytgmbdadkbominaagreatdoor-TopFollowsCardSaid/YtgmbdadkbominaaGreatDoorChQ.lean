import Derived.Test.YtgmbdadkbominaaGreatDoorChP
import Derived.Test.YtgmbdadkbominaaGreatDoorChB
import Derived.Test.YtgmbdadkbominaaGreatDoorChA
import Derived.Test.YtgmbdadkbominaaGreatDoorChF
import Derived.Test.YtgmbdadkbominaaGreatDoorChD
import Derived.Test.YtgmbdadkbominaaGreatDoorChE
import Derived.Test.YtgmbdadkbominaaGreatDoorChC
import Derived.Test.YtgmbdadkbominaaGreatDoorPlatV
set_option linter.unusedVariables false
set_option linter.unusedSimpArgs false
section
namespace Go.Av
namespace Tp
open Go.Proofs
set_option maxRecDepth 100000
set_option maxHeartbeats 1000000
variable {G:Glob}
theorem zsX:tyIs Tryz.prog 67 false 1 = true:=by kernel_rfl
theorem zf2:tyIs Tryz.prog 69 true 4 = true:=by kernel_rfl
theorem znL:tyIs Tryz.prog 63 true 2 = true:=by kernel_rfl
theorem zym:tyIs Tryz.prog 103 true 8 = true:=by kernel_rfl
theorem jF:tyIs Tryz.prog 101 true 4 = true:=by kernel_rfl
theorem zxo:kw Tryz.prog 96 8 = true:=by kernel_rfl
theorem yR:kw Tryz.prog 23 2 = true:=by kernel_rfl
theorem zzO:elemIs Tryz.prog 97 108 2 32:=⟨Tryz.underlying97, Tryz.t108, _, by kernel_rfl, rfl, rfl, rfl, rfl, by decide⟩
theorem zt6:vM Tryz.prog 99 [(0, 1), (1, 1), (2, 1), (3, 1), (4, 1)] [.slice none 0 0, .int .i64 0, .int .i64 0, .int .i64 0, .int .i64 0]:=⟨_, Tryz.underlying99, by kernel_rfl, by kernel_rfl⟩
theorem zex:(Tryz.prog.info? 101).bind (·.zero) = some (.agg #[.slice none 0 0, .slice none 0 0, .slice none 0 0, .slice none 0 0]):=by kernel_rfl
theorem zzd:(Tryz.prog.info? 103).bind (·.zero) = some (.agg #[.int .i64 0, .int .i64 0, .int .i64 0, .int .i64 0, .slice none 0 0, .int .i64 0, .slice none 0 0, .int .i64 0]):=by kernel_rfl
theorem zuP:fldIs Tryz.prog 103 1 1 = true:=by kernel_rfl
theorem zlc:fldIs Tryz.prog 69 3 3 = true:=by kernel_rfl
theorem zuV:fldIs Tryz.prog 103 2 5 = true:=by kernel_rfl
theorem zcr:fldIs Tryz.prog 63 1 1 = true:=by kernel_rfl
theorem zuY:fldIs Tryz.prog 103 3 7 = true:=by kernel_rfl
theorem zvv:fldIs Tryz.prog 103 0 0 = true:=by kernel_rfl
theorem zy2:Tryz.prog.info? 105 = some Tryz.t105:=by kernel_rfl
theorem zzi:vM Tryz.prog 108 [(0, 1), (1, 1)] [.int .i64 0, .slice none 0 0]:=⟨_, Tryz.underlying108, by kernel_rfl, by kernel_rfl⟩
theorem zzA:Tryz.prog.info? 108 = some Tryz.t108:=by kernel_rfl
structure Tc where
 h:Int
 m:Ct.Mp
 f:Ct.Fld
 pt:Int
def eTc (t:Tc):List AV:=[.v (.int .i64 t.h), .v (.int .i64 t.m.wide), .v (.int .i64 t.m.rows), .v (.int .i64 t.m.slope), .sl (t.m.st.map Ct.eStn), .v (.int .i64 t.f.wide), Ct.eInts t.f.vals, .v (.int .i64 t.pt)]
theorem zyt {l:List Tc} {k:Nat} (h:k < l.length):(l.map eTc)[k]? = some (eTc l[k]):=by simp [h]
theorem zwt {l:List Tc}:∀ q ∈ l.map eTc, q.length = 8:=fun q hq=>by
 obtain ⟨t, _, rfl⟩:=List.mem_map.1 hq; rfl
def loC (t:Tc):Int:=Ct.loOf t.m.wide t.m.slope ((t.pt.toNat:Nat):Int) t.m.st
def hiC (t:Tc):Int:=Ct.hiOf t.m.wide t.m.slope ((t.pt.toNat:Nat):Int) t.m.st
def spC (t:Tc):Sp:=⟨t.h, t.pt % t.m.wide, t.pt / t.m.wide, loC t, hiC t⟩
def dpC (t:Tc):Int:=Ct.vAt t.f t.pt.toNat
structure OkC (t:Tc):Prop where
 m:Ct.okM t.m
 f:Ct.fieldB t.f = true
 fit:Ct.FitsM t.m t.f
 pt:0 <= t.pt /\ t.pt <= t.m.wide * t.m.rows - 1
 n:t.f.vals.length <= 40
theorem OkC.lt {t:Tc} (h:OkC t):t.pt.toNat < t.f.vals.length:=by
 have h1:=h.fit.len
 have h2:=h.pt
 omega
theorem zye (w s p:Int):∀ (l:List Ct.Stn) (a:Int), 0 <= a -> 0 <= l.foldl (fun a t=>max a (t.lo - s * Ct.dist w p t.pt)) a
 | [], a, h=>h
 | t :: l, a, h=>zye w s p l _ (by show 0 <= max a _; omega)
theorem zyy (w s p:Int):∀ (l:List Ct.Stn) (a:Int), a <= 99999 -> l.foldl (fun a t=>min a (t.hi + s * Ct.dist w p t.pt)) a <= 99999
 | [], a, h=>h
 | t :: l, a, h=>zyy w s p l _ (by show min a _ <= 99999; omega)
theorem OkC.dep {t:Tc} (h:OkC t):0 <= loC t /\ loC t <= dpC t /\ dpC t <= hiC t /\ hiC t <= 99999:=by
 have hl:=h.lt
 have hv:=(Ct.fld_bd h.f).2.2 _ (List.getElem_mem hl)
 have e:Ct.vAt t.f t.pt.toNat = t.f.vals[t.pt.toNat]:=by simp [Ct.vAt, List.getD, hl]
 exact ⟨zye _ _ _ _ _ (Int.le_refl _), h.fit.lo h.m hl (by omega), h.fit.hi h.m hl (by omega), zyy _ _ _ _ _ (Int.le_refl _)⟩
theorem OkC.bd {t:Tc} (h:OkC t):(Ct.bds t.m).length = t.f.vals.length:=by
 have h1:=h.fit.len
 have h2:=(Ct.npt_bd h.m).1
 simp only[Ct.bds, List.length_map, List.length_range]; omega
theorem zy6 {t:Tc} (h:OkC t):((Ct.bds t.m).map fun s=>[AV.v (.int .i64 s.1), AV.v (.int .i64 s.2)])[t.pt.toNat]? = some [.v (.int .i64 (loC t)), .v (.int .i64 (hiC t))]:=by
 have h1:=h.lt
 have h2:=h.fit.len
 have h3:=(Ct.npt_bd h.m).1
 rw [List.getElem?_map, Ct.bds, List.getElem?_map, List.getElem?_range (by omega)]; rfl
theorem zyH {l:List (Int × Int)}:∀ q ∈ l.map (fun s=>[AV.v (.int .i64 s.1), AV.v (.int .i64 s.2)]), q.length = 2:=fun q hq=>by
 obtain ⟨t, _, rfl⟩:=List.mem_map.1 hq; rfl
theorem zwL {t:Tc} (h:OkC t):(t.f.vals.map fun n=>[AV.v (.int .i64 n)])[t.pt.toNat]? = some [.v (.int .i64 (dpC t))]:=by
 have:=h.lt
 simp [dpC, Ct.vAt, List.getD, this]
theorem zvN {l:List Int}:∀ q ∈ l.map (fun n=>[AV.v (.int .i64 n)]), q.length = 1:=fun q hq=>by
 obtain ⟨t, _, rfl⟩:=List.mem_map.1 hq; rfl
def mpR (l:List Tc) (k:Nat):List (List EV):=(((l.take k).map spC).map eLm).map (·.map .pub)
def onR (xs:List Int):List (List EV):=(zuu xs).map (·.map .pub)
def mB (l:List Tc) (r q:Int) (k:Nat):List PO:=[.row [[.psl 2 k, I r, I q, I 0, I 0]], .row [[.psl 3 k, .psl 4 k, .psl 5 k, .psl 6 k]], .row (mpR l k), .row (onR (lkL k)), .row (onR (xL ((l.take k).map spC))), .row (onR (yL ((l.take k).map spC))), .row (onR ((l.take k).map dpC))]
theorem zyi {l:List Tc} {k:Nat} (h:k <= l.length):(mpR l k).length = k:=by simp [mpR]; omega
theorem zwE (xs:List Int):(onR xs).length = xs.length:=by simp [onR, zu0]
theorem zwH {l:List Tc} {k:Nat} (h:k <= l.length):(onR (xL ((l.take k).map spC))).length = k:=by rw [zwE, zxL]; simp; omega
theorem zwG {l:List Tc} {k:Nat} (h:k <= l.length):(onR (yL ((l.take k).map spC))).length = k:=by rw [zwE, zxN]; simp; omega
theorem zwI {l:List Tc} {k:Nat} (h:k <= l.length):(onR ((l.take k).map dpC)).length = k:=by rw [zwE]; simp; omega
theorem zwz (k:Nat):(onR (lkL k)).length = k:=by rw [zwE, zu1]
theorem zxG {l:List Tc} {k:Nat}:∀ q ∈ mpR l k, q.length = 2:=fun q hq=>by
 obtain ⟨t, ht, rfl⟩:=List.mem_map.1 hq
 obtain ⟨s, _, rfl⟩:=List.mem_map.1 ht; rfl
theorem zuQ {xs:List Int}:∀ q ∈ onR xs, q.length = 1:=fun q hq=>by
 obtain ⟨t, ht, rfl⟩:=List.mem_map.1 hq
 rw [List.length_map]; exact zus t ht
theorem zyA {l:List Tc} {k:Nat} (h:k < l.length):mpR l k ++ [(eLm (spC l[k])).map .pub] = mpR l (k + 1):=by
 unfold mpR; rw [List.take_succ_eq_append_getElem h]; simp only[List.map_append, List.map_cons, List.map_nil]
theorem zwa {xs:List Int} {v:Int}:onR xs ++ [[.pub (.sl [[Ct.ei v]])]] = onR (xs ++ [v]):=by simp [onR, zuu]
theorem zyK (k:Nat):lkL k ++ [lk k] = lkL (k + 1):=by unfold lkL; rw [List.range_succ, List.map_append]; rfl
theorem zzJ {l:List Tc} {k:Nat} (h:k < l.length):xL ((l.take k).map spC) ++ [l[k].pt % l[k].m.wide] = xL ((l.take (k + 1)).map spC):=by rw [List.take_succ_eq_append_getElem h]; simp only[xL, List.map_append, List.map_cons, List.map_nil]; rfl
theorem zzI {l:List Tc} {k:Nat} (h:k < l.length):yL ((l.take k).map spC) ++ [l[k].pt / l[k].m.wide] = yL ((l.take (k + 1)).map spC):=by rw [List.take_succ_eq_append_getElem h]; simp only[yL, List.map_append, List.map_cons, List.map_nil]; rfl
theorem zzG {l:List Tc} {k:Nat} (h:k < l.length):(l.take k).map dpC ++ [dpC l[k]] = (l.take (k + 1)).map dpC:=by rw [List.take_succ_eq_append_getElem h]; simp only[List.map_append, List.map_cons, List.map_nil]
theorem zwi {l:List Tc} {k:Nat} (h:∀ t ∈ l.take k, OkC t) (hk:k < l.length) (hp:OkC l[k]):∀ t ∈ l.take (k + 1), OkC t:=fun t ht=>by
 rw [List.take_succ_eq_append_getElem hk, List.mem_append] at ht
 rcases ht with ht | ht
 ·exact h t ht
 ·rw [List.mem_singleton.1 ht]; exact hp
theorem zxn {l:List Tc} (h:∀ t ∈ l, OkC t):DpB (l.map spC) (l.map dpC):=by
 refine ⟨by simp, fun i hi=>?_⟩
 rw [List.length_map] at hi
 have:=(h _ (List.getElem_mem hi)).dep
 rw [show (l.map spC).getD i sp0 = spC l[i] by simp [hi], show (l.map dpC).getD i 0 = dpC l[i] by simp [hi]]
 exact ⟨this.2.1, this.2.2.1⟩
theorem zvC {l:List Tc} {i:Nat} (h:i < l.length):(l.map spC).getD i sp0 = spC l[i]:=by simp [h]
theorem zu5 {d n:Int}:decide (max d (-d) <= n) = Ct.inB d (-n) n:=by
 rw [Bool.eq_iff_iff]; simp only[Ct.inB, zLa, decide_eq_true_eq]; omega
theorem zzw {L:List Sp} {r q:Int} {D:List Int} {j:Nat} (h:1 <= j) {x y d n m:Int} (hx:x = dX L j) (hy:y = dY L j) (hd:d = dD D j) (hn:n = r * hrL L j) (hm:m = q * hrL L j):
  ((((List.range j).all (rtB L r q D) && decide (max x (-x) <= n)) && decide (max y (-y) <= n)) && decide (max d (-d) <= m)) = (List.range (j + 1)).all (rtB L r q D):=by
 subst hx hy hd hn hm
 rw [List.range_succ, List.all_append, zu5, zu5, zu5]
 simp only[List.all_cons, List.all_nil, Bool.and_true]
 have e:rtB L r q D j = (Ct.inB (dX L j) (-(r * hrL L j)) (r * hrL L j) && Ct.inB (dY L j) (-(r * hrL L j)) (r * hrL L j) && Ct.inB (dD D j) (-(q * hrL L j)) (q * hrL L j)):=by unfold rtB; rw [decide_eq_false (show ¬ j = 0 by omega), Bool.false_or]
 rw [e]
 simp only[Bool.and_assoc]
theorem zzr {L:List Sp} {r q:Int} {D:List Int} (hd:DpB L D) (h:ftB L r q D = true):TrB L r q D:=by
 have e:∀ i, i + 1 < L.length -> Ct.inB (dX L (i + 1)) (-(r * hrL L (i + 1))) (r * hrL L (i + 1)) = true /\ Ct.inB (dY L (i + 1)) (-(r * hrL L (i + 1))) (r * hrL L (i + 1)) = true /\ Ct.inB (dD D (i + 1)) (-(q * hrL L (i + 1))) (q * hrL L (i + 1)) = true:=fun i hi=>by
  have:=List.all_eq_true.1 h (i + 1) (List.mem_range.2 hi)
  unfold rtB at this
  rw [decide_eq_false (by omega), Bool.false_or, zLa, zLa] at this
  exact ⟨this.1.1, this.1.2, this.2⟩
 refine ⟨hd.len, hd.dep, fun i hi=>?_, fun i hi=>?_, fun i hi=>?_⟩
 ·have:=(e i hi).1; rw [← zu5, decide_eq_true_eq] at this; exact this
 ·have:=(e i hi).2.1; rw [← zu5, decide_eq_true_eq] at this; exact this
 ·have:=(e i hi).2.2; rw [← zu5, decide_eq_true_eq] at this; exact this
theorem zzM {l:List Tc} {r q:Int}:(mB l r q l.length)[2]? = some (.row (((l.map spC).map eLm).map (·.map .pub))):=by show some (PO.row (mpR l l.length)) = _; rw [mpR, List.take_length]
theorem zzL {l:List Tc} {x y z:PO} {A:List PO}:([x, y, z, .dead, .row (onR (xL ((l.take l.length).map spC)))] ++ A)[4]? = some (.row ((zuu (xL (l.map spC))).map (·.map .pub))):=by rw [List.take_length]; rfl
theorem zzN {l:List Tc} {x y z u:PO} {A:List PO}:([x, y, z, u, .dead, .row (onR (yL ((l.take l.length).map spC)))] ++ A)[5]? = some (.row ((zuu (yL (l.map spC))).map (·.map .pub))):=by rw [List.take_length]; rfl
theorem zzE {l:List Tc} {x y z u v:PO} {A:List PO}:([x, y, z, u, v, .dead, .row (onR ((l.take l.length).map dpC))] ++ A)[6]? = some (.row ((zuu (l.map dpC)).map (·.map .pub))):=by rw [List.take_length]; rfl
theorem zyJ {l:List Tc} {r q:Int} {k:Nat} (h:k < l.length):[PO.row [[.psl 2 (k + 1), I r, I q, I 0, I 0]], .row [[.psl 3 k, .psl 4 k, .psl 5 k, .psl 6 k]], .row (mpR l k ++ [(eLm (spC l[k])).map .pub]), .row (onR (lkL k)), .row (onR (xL ((l.take k).map spC))), .row (onR (yL ((l.take k).map spC))), .row (onR ((l.take k).map dpC))] = [PO.row [[.psl 2 (k + 1), I r, I q, I 0, I 0]], .row [[.psl 3 k, .psl 4 k, .psl 5 k, .psl 6 k]], .row (mpR l (k + 1)), .row (onR (lkL k)), .row (onR (xL ((l.take k).map spC))), .row (onR (yL ((l.take k).map spC))), .row (onR ((l.take k).map dpC))]:=by rw [zyA h]
theorem zw3 {l:List Tc} {r q:Int} {k:Nat} (h:k < l.length):[PO.row [[.psl 2 (k + 1), I r, I q, I 0, I 0]], .row [[.psl 3 (k + 1), .psl 4 (k + 1), .psl 5 (k + 1), .psl 6 (k + 1)]], .row (mpR l (k + 1)), .row (onR (lkL k) ++ [[.pub (.sl [[Ct.ei (lk k)]])]]), .row (onR (xL ((l.take k).map spC)) ++ [[.pub (.sl [[Ct.ei (l[k].pt % l[k].m.wide)]])]]), .row (onR (yL ((l.take k).map spC)) ++ [[.pub (.sl [[Ct.ei (l[k].pt / l[k].m.wide)]])]]), .row (onR ((l.take k).map dpC) ++ [[.pub (.sl [[Ct.ei (dpC l[k])]])]])] = mB l r q (k + 1):=by
 rw [zwa, zwa, zwa, zwa, zyK, zzJ h, zzI h, zzG h]; rfl
theorem zyT {l:List Tc} {i:Nat} {z:Int} (h:i < l.length) (hz:z = (i:Int)):(l.map eTc)[z.toNat]? = some (eTc l[i]):=by subst hz; simp [h]
theorem zyu {l:List Tc} {r q:Int} (ha:∀ t ∈ l, OkC t) (hs:SuP (l.map spC) r q) {j:Nat} (h:j < l.length):(0 <= l[j].h /\ l[j].h <= 200) /\ (0 <= ((l.map spC).getD j sp0).x /\ ((l.map spC).getD j sp0).x <= 100) /\ (0 <= ((l.map spC).getD j sp0).y /\ ((l.map spC).getD j sp0).y <= 100) /\ 0 <= (l.map dpC).getD j 0 /\ (l.map dpC).getD j 0 <= 99999:=by
 have h1:=zyB hs (zxn ha) (u:=j) (by simpa using h)
 have h2:=hs.hr j (by simpa using h)
 have h3:=hs.h200 j (by simpa using h)
 have e:((l.map spC).getD j sp0).h = l[j].h:=by rw [zvC h]; rfl
 rw [e] at h2 h3
 exact ⟨⟨h2.1, h3⟩, h1⟩
theorem zyY {l:List Tc} {j:Nat} (h:j < l.length):l[j].h - (l[j - 1]'(by omega)).h = hrL (l.map spC) j:=by
 unfold hrL; rw [zvC h, zvC (show j - 1 < l.length by omega)]; rfl
theorem zzk {l:List Tc} {r q:Int} (hs:SuP (l.map spC) r q) {j:Nat} (h0:1 <= j) (h:j < l.length):(l[j - 1]'(by omega)).h < l[j].h:=by
 have:=hs.up (j - 1) (by rw [List.length_map]; omega)
 rw [show j - 1 + 1 = j by omega, zvC h, zvC (show j - 1 < l.length by omega)] at this
 exact this
theorem zzy {k:Nat} (h:0 < k):I 0 = I (lk k):=congrArg I (zu9 h).symm
theorem zyW {k:Nat} (h:k = 0):I (-1) = I (lk k):=by subst h; rfl
theorem f5 (hkn:ACall Tryz.prog G 8 [] (.v (.bool true))) (l:List Tc) (r q:Int):ACall Tryz.prog G 5 [.sl (l.map eTc), Ct.ei r, Ct.ei q] (.v (.bool true)):=by
 have hlm:(l.map eTc).length = l.length:=by simp
 refine zO Tryz.func5 Y (by kernel_rfl) Y ?_
 refine zn (zf (zg Y Y) (zo (zt (zn (zf (zI Y Y) (zf (qA Y Y Y Tryz.underlying96) (zf (qR Y Y Y) (zf (zh Y Y) ?_))))))))
 refine zC Y (fun hg=>zI Y Y) (zC Y (fun hg=>qA Y Y ((if_pos hg)) Tryz.underlying96) (zC Y (fun hg=>jB Y ((if_pos hg)) Y) (zf (jf Y Y Y Y) (zo (zA Y (fun h0=>?_) (fun h0=>?_))))))
 ·refine zn (zf (zB (av:=[]) Y trivial hkn) (zf (zg Y Y) (zo (zN (zP ?_)))))
  exact ⟨.inr Y, AVle.refl _⟩
 ·have hn14:1 <= l.length /\ l.length <= 4:=by rw [hlm] at h0; generalize l.length = n at h0 ⊢; simp at h0; omega
  refine zH (zk (zn (zf (zh Y Y) (zf (zh Y Y) ?_))))
  refine zf (yl (cs:=[_, _, _, _, _]) Y zt6 Y ⟨_, _, Y, (qU Y), ⟨_, _, Y, (qU Y), Y⟩⟩ (by rfl) (by simp [ofV])) ?_
  refine qL Y (jr Y Y zy1 Y Y) ?_
  refine qL Y (qw Y Y Y Y Y Y (zQ Y) yw (by rfl) (by exact zLb Y)) ?_
  refine zo (zn (qL Y (jr Y Y zex Y Y) (zo (zt (zt ?_)))))
  refine qY (zgZ (k:=0) (i:=0) (j:=0) Y Y Y) ?_
  refine qY (zgZ (k:=1) (i:=0) (j:=0) Y Y Y) ?_
  refine qY (zgZ (k:=1) (i:=0) (j:=1) Y Y Y) ?_
  refine qY (zgZ (k:=1) (i:=0) (j:=2) Y Y Y) ?_
  refine qY (zgZ (k:=1) (i:=0) (j:=3) Y Y Y) ?_
  refine qY (zy (mem':=mB l r q 0) [(0, .pub (.sl (l.map eTc))), (1, I r), (2, I q), (7, .pp 0 1 0 0), (8, .pp 1 1 0 0)] ?_ ?_) ?_
  ·exact ⟨Y, Y, Y, Y, Y, trivial⟩
  ·exact Y
  refine zx (zf (zg Y Y) (zo (zF ?_)))
  refine qm (ι:={ k:Nat // k <= l.length /\ ∀ t ∈ l.take k, OkC t }) (fun k=>⟨Tryz.f5.ntmps, frL [(0, .pub (.sl (l.map eTc))), (1, I r), (2, I q), (7, .pp 0 1 0 0), (8, .pp 1 1 0 0), (9, I (k.1:Int))], mB l r q k.1⟩) (fun k=>l.length - k.1) (⟨0, by simp⟩) ?_ ?_
  ·exact zy _ ⟨Y, Y, Y, Y, Y, Y, trivial⟩ (Y)
  ·rintro ⟨k, hk⟩
   dsimp only
   refine zt (zn (zf (zh Y Y) (zf (zI Y Y) (zf (qA Y Y Y Tryz.underlying96) (zf (qx Y Y Y) (zo (zA Y (fun h1=>?_) (fun h1=>?_))))))))
   ·have hlt:k < l.length:=by simp at h1; omega
    refine zH (zk (zt (zF (zn (zf (zI Y Y) (zf (zh Y Y) (zf (zD Y Y Y zxo (by omega) (zyt hlt) zwt) (zf (zK Y Y zym (by exact zLb Y)) ?_))))))))
    refine qP  Y Y Y Y Y Y Y zzd zym Y (by rfl) (zQ Y) Y ?_
    refine zo (zt (zn (zf (zi Y Y zuP) (zf (zi Y Y zlc) (zf (zl Y Y Y zsX) (zf (qA Y Y Y Tryz.underlying67) (zf (jB Y Y Y) (zf (zh Y Y) (zC Y (fun hg=>zi Y Y zuV) ?_)))))))))
    refine zC Y (fun hg=>zi Y ((if_pos hg)) zcr) (zC Y (fun hg=>zl Y ((if_pos hg)) Y kN) (zC Y (fun hg=>qA Y Y ((if_pos hg)) Tryz.underlying24) (zC Y (fun hg=>jB Y ((if_pos hg)) Y) (zf (jf Y Y Y Y) (zf (zh Y Y) (zC Y (fun hg=>zi Y Y zuP) (zC Y (fun hg=>zK Y ((if_pos hg)) zf2 (by exact zLb Y)) ?_)))))))
    refine zC Y (fun hg=>zB (av:=[_]) Y ⟨((by first | exact Y | exact (if_pos hg))), trivial⟩ (Ct.f40 l[k].m)) ?_
    refine zC Y (fun hg=>qJ Y ((if_pos hg))) (zf (jf Y Y Y Y) (zf (zh Y Y) (zC Y (fun hg=>zi Y Y zuV) (zC Y (fun hg=>zK Y ((if_pos hg)) znL (by exact zLb Y)) ?_))))
    refine zC Y (fun hg=>zB (av:=[_]) Y ⟨((by first | exact Y | exact (if_pos hg))), trivial⟩ (Ct.f28 l[k].f (by simp at hg; omega))) ?_
    refine zC Y (fun hg=>qJ Y ((if_pos hg))) (zf (jf Y Y Y Y) (zf (zh Y Y) (zC Y (fun hg=>zi Y Y zuP) (zC Y (fun hg=>zK Y ((if_pos hg)) zf2 (by exact zLb Y)) (zC Y (fun hg=>zi Y Y zuV) (zC Y (fun hg=>zK Y ((if_pos hg)) znL (by exact zLb Y)) ?_))))))
    refine zC Y (fun hg=>zB (av:=[_, _]) Y ⟨((by first | exact Y | exact (if_pos hg))), ((by first | exact Y | exact (if_pos hg))), trivial⟩ (Ct.f45 l[k].m l[k].f ((Ct.okM_iff _).1 (by simp at hg; exact hg.1.2)) (by simp at hg; exact hg.2) (by simp at hg; omega))) ?_
    refine zC Y (fun hg=>qJ Y ((if_pos hg))) (zf (jf Y Y Y Y) (zf (zh Y Y) (zC Y (fun hg=>zi Y Y zuP) (zC Y (fun hg=>zK Y ((if_pos hg)) zf2 (by exact zLb Y)) (zC Y (fun hg=>zi Y Y zuY) (zC Y (fun hg=>zl Y ((if_pos hg)) Y ty3) ?_))))))
    refine zC Y (fun hg=>zB (av:=[_, _]) Y ⟨((by first | exact Y | exact (if_pos hg))), ((by first | exact Y | exact (if_pos hg))), trivial⟩ (Ct.f41 l[k].m l[k].pt (by simp at hg; have:=(Ct.okM_iff _).1 hg.1.1.2; exact ⟨this.1, this.2.1⟩) (by simp at hg; have:=(Ct.okM_iff _).1 hg.1.1.2; exact ⟨this.2.2.1, this.2.2.2.1⟩))) ?_
    refine zC Y (fun hg=>qJ Y ((if_pos hg))) (zf (jf Y Y Y Y) (zo (zA Y (fun h2=>?_) (fun h2=>?_))))
    ·refine zn (zf (zB (av:=[]) Y trivial hkn) (zf (zg Y Y) (zo (zN (zP (zZ (zP (zP (zZ ?_)))))))))
     refine zP ?_
     exact ⟨.inr Y, AVle.refl _⟩
    ·simp at h2
     have hok:OkC l[k]:=⟨(Ct.okM_iff _).1 h2.1.1.1.2, h2.1.1.2, Ct.fitsB_iff.1 h2.1.2, Ct.inB_iff.1 h2.2, by omega⟩
     have hbl:=hok.bd
     have hpt0:=hok.pt.1
     refine zH (zk (zn (zf (zi Y Y zuP) (zf (zK Y Y zf2 (by exact zLb Y)) (zf (zB (av:=[_]) Y ⟨Y, trivial⟩ (Ct.f50_ok l[k].m hok.m (hok.fit.clash hok.m))) (zf (zI Y Y) (zf (zU Y Y Y) (zf (zU Y Y Y) (zf (qG Y Y) (zf (zg Y Y) ?_))))))))))
     refine zo (zt (zn (zf (zh Y Y) (zf (wE Y Y Y) (zf (zh Y Y) (zC Y (fun hg=>zI Y Y) (zC Y (fun hg=>qA Y Y (Y) Tryz.underlying23) (zC Y (fun hg=>zi Y Y zuV) (zC Y (fun hg=>zi Y (Y) zcr) ?_)))))))))
     refine zC Y (fun hg=>zl Y (Y) Y kN) (zC Y (fun hg=>qA Y Y (Y) Tryz.underlying24) (zC Y (fun hg=>wE Y (Y) (Y)) (zf (jf Y Y Y Y) (zo (zA Y (fun h3=>?_) (fun h3=>?_))))))
     ·exfalso; simp [Ct.eSpans, Ct.eInts, hbl] at h3
     ·refine zH (zk (zt ?_))
      refine qp mixed (by kernel_rfl) Y ?_
      refine zu Y (zi Y Y zuY) (zu Y (zl Y Y Y ty3) (zu Y (zi Y Y zuP) (zu Y (zi Y Y zpN) (zu Y (zl Y Y Y ty3) ?_))))
      refine zu Y (ku Y Y Y ⟨hok.pt.1, by have:=hok.m.1; omega⟩) ?_
      refine zu Y (zi Y Y zuY) (zu Y (zl Y Y Y ty3) (zu Y (zi Y Y zuP) (zu Y (zi Y Y zpN) (zu Y (zl Y Y Y ty3) ?_))))
      refine zu Y (x9 Y Y Y ⟨hok.pt.1, by have:=hok.pt.2; have:=hok.fit.len; have:=hok.n; omega, by have:=hok.m.1; omega⟩) ?_
      refine zu Y (zg Y Y) (zu Y (zg Y Y) (qF (zk (zt ?_))))
      refine zfD (fun mm=>∃ rows, mm[0]? = some (.row rows) /\ rows.length = 1) (fun k=>match k with | 0=>.stable | 2=>.stable | 3=>.stable | 4=>.stable | 5=>.stable | 6=>.stable | 7=>.stable | 8=>.stable | 9=>.stable | 10=>.stable | 11=>.stable | 12=>.stable | 13=>.stable | 14=>.stable | 15=>.stable | 16=>.stable | 17=>.stable | 19=>.writes | 20=>.stable | 21=>.writes | _=>.here) mixed (by kernel_rfl) rfl (by kernel_rfl) ⟨_, rfl, rfl⟩ ?_
      refine jv Y Y (fun m hm=>jJ Y Y hm.choose_spec.1 hm.choose_spec.2 zdQ) (znG Y Y (zX Y Y Y Y Y Y zuq) (jv Y Y (fun m hm=>zi Y Y zvv) (jv Y Y (fun m hm=>zl Y Y Y ty3) (jv Y Y (fun m hm=>zh Y Y) (jv Y Y (fun m hm=>zh Y Y) ?_)))))
      refine jv Y Y (fun m hm=>yl (cs:=[_, _]) Y ztP Y ⟨_, _, Y, (qU Y), ⟨_, _, Y, (qU Y), Y⟩⟩ (by rfl) (by simp [ofV])) ?_
      refine jv Y Y (fun m hm=>zh Y Y) (jv Y Y (fun m hm=>zh Y Y) ?_)
      refine jv Y Y (fun m hm=>yl (cs:=[_, _]) Y ztP Y ⟨_, _, Y, (qU Y), ⟨_, _, Y, (qU Y), Y⟩⟩ (by rfl) (by simp [ofV])) ?_
      refine jv Y Y (fun m hm=>zI Y Y) (jv Y Y (fun m hm=>zi Y Y zuY) (jv Y Y (fun m hm=>zl Y Y Y ty3) (jv Y Y (fun m hm=>zD Y Y Y yR (by omega) (zy6 hok) zyH) (jv Y Y (fun m hm=>zK Y Y zuz (by exact zLb Y)) ?_))))
      refine jv Y Y (fun m hm=>yl (cs:=[_, _, _, _, _, _]) Y zys Y ⟨_, _, Y, (zQ Y), ⟨_, _, Y, (zQ Y), ⟨_, _, Y, (zQ Y), Y⟩⟩⟩ (by rfl) (by simp [ofV])) ?_
      refine jv Y Y (fun m hm=>qy (size:=6) (rows:=[[_, _, _, _, _, _]]) Y Tryz.underlying106 zy2 Y (by decide) Y (by decide) ⟨_, _, Y, (zQ Y), Y⟩ (by rfl) (by simp [ofV]) Y (by simp)) ?_
      refine jv Y Y (fun m hm=>yl (cs:=[_, _]) Y zzi Y ⟨_, _, Y, (qU Y), ⟨_, _, Y, (zjo Y), Y⟩⟩ (by rfl) (by simp [ofV])) ?_
      refine znG Y Y (qy (size:=2) (rows:=[[_, _]]) Y Tryz.underlying97 zzA Y (by decide) Y (by decide) ⟨_, _, Y, (zQ Y), Y⟩ (by rfl) (by simp [ofV]) Y (by simp)) ?_
      refine zpt Y Y (zbg Y Y Y (zyi hk.1) Y zzO zxG (fun r hr=>by simp at hr; subst hr; rfl) (by simp; omega) (by unfold maxLen; simp; omega)) ⟨_, Y, Y⟩ ?_
      refine jv Y Y (fun m hm=>jJ Y Y hm.choose_spec.1 hm.choose_spec.2 zdQ) ?_
      refine zpt Y Y (zd0 Y Y Y Y Y Y (zc7 Y Y (by simp [zyi hk.1])) zuq (by rfl) (by rfl)) ⟨_, Y, Y⟩ ?_
      refine zfa (zk (zt ?_))
      refine qY (zy (mem':=[.row [[.psl 2 (k + 1), I r, I q, I 0, I 0]], .row [[.psl 3 k, .psl 4 k, .psl 5 k, .psl 6 k]], .row (mpR l (k + 1)), .row (onR (lkL k)), .row (onR (xL ((l.take k).map spC))), .row (onR (yL ((l.take k).map spC))), .row (onR ((l.take k).map dpC))]) [(0, .pub (.sl (l.map eTc))), (1, I r), (2, I q), (7, .pp 0 1 0 0), (8, .pp 1 1 0 0), (9, I (k:Int)), (10, .pub (.ptr (eTc l[k]))), (13, I (l[k].pt % l[k].m.wide)), (14, I (l[k].pt / l[k].m.wide))] ?_ ?_) ?_
      ·exact ⟨Y, Y, Y, Y, Y, Y, Y, Y, Y, trivial⟩
      ·exact (zyJ (r:=r) (q:=q) hlt)
      refine zx (zf (zg Y Y) (zo (zt (zn (zf (zh Y Y) (zf (jB Y Y Y) (zo (zA Y (fun h4=>?_) (fun h4=>?_)))))))))
      ·have hkz:0 < k:=by simp at h4; omega
       refine qY (zy (mem':=[.row [[.psl 2 (k + 1), I r, I q, I 0, I 0]], .row [[.psl 3 k, .psl 4 k, .psl 5 k, .psl 6 k]], .row (mpR l (k + 1)), .row (onR (lkL k)), .row (onR (xL ((l.take k).map spC))), .row (onR (yL ((l.take k).map spC))), .row (onR ((l.take k).map dpC))]) [(0, .pub (.sl (l.map eTc))), (1, I r), (2, I q), (7, .pp 0 1 0 0), (8, .pp 1 1 0 0), (9, I (k:Int)), (10, .pub (.ptr (eTc l[k]))), (13, I (l[k].pt % l[k].m.wide)), (14, I (l[k].pt / l[k].m.wide))] ?_ ?_) ?_
       ·exact ⟨Y, Y, Y, Y, Y, Y, Y, Y, Y, trivial⟩
       ·exact (Y)
       refine zx (zf (zg Y Y) (zo ?_))
       refine qY (zy (mem':=[.row [[.psl 2 (k + 1), I r, I q, I 0, I 0]], .row [[.psl 3 k, .psl 4 k, .psl 5 k, .psl 6 k]], .row (mpR l (k + 1)), .row (onR (lkL k)), .row (onR (xL ((l.take k).map spC))), .row (onR (yL ((l.take k).map spC))), .row (onR ((l.take k).map dpC))]) [(0, .pub (.sl (l.map eTc))), (1, I r), (2, I q), (7, .pp 0 1 0 0), (8, .pp 1 1 0 0), (9, I (k:Int)), (10, .pub (.ptr (eTc l[k]))), (13, I (l[k].pt % l[k].m.wide)), (14, I (l[k].pt / l[k].m.wide)), (15, I (lk k))] ?_ ?_) ?_
       ·exact ⟨Y, Y, Y, Y, Y, Y, Y, Y, Y, (zzy hkz), trivial⟩
       ·exact Y
       refine zfD (fun _=>True) (fun k=>match k with | 0=>.rd [1] | 1=>.rd [1] | 2=>.stable | 3=>.stable | 4=>.stable | 5=>.rw [] (3) | 6=>.rd [1] | 7=>.rd [1] | 8=>.stable | 9=>.stable | 10=>.stable | 11=>.rw [] (4) | 12=>.rd [1] | 13=>.rd [1] | 14=>.stable | 15=>.stable | 16=>.stable | 17=>.rw [] (5) | 18=>.rd [1] | 19=>.rd [1] | 20=>.stable | 21=>.stable | 22=>.stable | 23=>.stable | 24=>.stable | 25=>.stable | 26=>.stable | 27=>.stable | 28=>.stable | 29=>.rw [] (6) | 30=>.rd [1] | 31=>.rw [3] (1) | 32=>.rd [1] | 33=>.rw [4] (1) | 34=>.rd [1] | 35=>.rw [5] (1) | 36=>.rd [1] | 37=>.rw [6] (1) | _=>.here) mixed (by kernel_rfl) rfl (by kernel_rfl) trivial ?_
       refine zsH [1] Y Y (fun m hm hC=>jJ Y Y ((hm.one 1 (by simp)).trans Y) Y jQ) ?_
       refine zsH [1] Y Y (fun m hm hC=>zX Y Y ((hm.one 1 (by simp)).trans Y) Y Y Y zum) ?_
       refine jv Y Y (fun m hm=>zh Y Y) ?_
       refine jv Y Y (fun m hm=>qy (size:=1) (rows:=[[_]]) Y Tryz.underlying24 ti3 Y (by decide) Y (by decide) ⟨_, _, Y, (qU Y), Y⟩ (by rfl) (by simp [ofV]) Y (by simp)) ?_
       refine jv Y Y (fun m hm=>qy (size:=1) (rows:=[[_]]) Y Tryz.underlying82 zvg Y (by decide) Y (by decide) ⟨_, _, Y, (zjo Y), Y⟩ (by rfl) (by simp [ofV]) Y (by simp)) ?_
       refine zsW [] (3) Y Y (fun _=>trivial) (fun m hm=>zbg Y Y ((hm.one 3 (by simp)).trans Y) (zwz k) Y zwb zuQ (fun r hr=>by simp at hr; subst hr; rfl) (by simp <;> omega) (by unfold maxLen; simp <;> omega)) ?_
       refine zsH [1] Y Y (fun m hm hC=>jJ Y Y ((hm.one 1 (by simp)).trans Y) Y yI) ?_
       refine zsH [1] Y Y (fun m hm hC=>zX Y Y ((hm.one 1 (by simp)).trans Y) Y Y Y zum) ?_
       refine jv Y Y (fun m hm=>zh Y Y) ?_
       refine jv Y Y (fun m hm=>qy (size:=1) (rows:=[[_]]) Y Tryz.underlying24 ti3 Y (by decide) Y (by decide) ⟨_, _, Y, (qU Y), Y⟩ (by rfl) (by simp [ofV]) Y (by simp)) ?_
       refine jv Y Y (fun m hm=>qy (size:=1) (rows:=[[_]]) Y Tryz.underlying82 zvg Y (by decide) Y (by decide) ⟨_, _, Y, (zjo Y), Y⟩ (by rfl) (by simp [ofV]) Y (by simp)) ?_
       refine zsW [] (4) Y Y (fun _=>trivial) (fun m hm=>zbg Y Y ((hm.one 4 (by simp)).trans Y) (zwH hk.1) Y zwb zuQ (fun r hr=>by simp at hr; subst hr; rfl) (by simp <;> omega) (by unfold maxLen; simp <;> omega)) ?_
       refine zsH [1] Y Y (fun m hm hC=>jJ Y Y ((hm.one 1 (by simp)).trans Y) Y zuH) ?_
       refine zsH [1] Y Y (fun m hm hC=>zX Y Y ((hm.one 1 (by simp)).trans Y) Y Y Y zum) ?_
       refine jv Y Y (fun m hm=>zh Y Y) ?_
       refine jv Y Y (fun m hm=>qy (size:=1) (rows:=[[_]]) Y Tryz.underlying24 ti3 Y (by decide) Y (by decide) ⟨_, _, Y, (qU Y), Y⟩ (by rfl) (by simp [ofV]) Y (by simp)) ?_
       refine jv Y Y (fun m hm=>qy (size:=1) (rows:=[[_]]) Y Tryz.underlying82 zvg Y (by decide) Y (by decide) ⟨_, _, Y, (zjo Y), Y⟩ (by rfl) (by simp [ofV]) Y (by simp)) ?_
       refine zsW [] (5) Y Y (fun _=>trivial) (fun m hm=>zbg Y Y ((hm.one 5 (by simp)).trans Y) (zwG hk.1) Y zwb zuQ (fun r hr=>by simp at hr; subst hr; rfl) (by simp <;> omega) (by unfold maxLen; simp <;> omega)) ?_
       refine zsH [1] Y Y (fun m hm hC=>jJ Y Y ((hm.one 1 (by simp)).trans Y) Y zuA) ?_
       refine zsH [1] Y Y (fun m hm hC=>zX Y Y ((hm.one 1 (by simp)).trans Y) Y Y Y zum) ?_
       refine jv Y Y (fun m hm=>zi Y Y zuV) (jv Y Y (fun m hm=>zi Y Y zcr) (jv Y Y (fun m hm=>zl Y Y Y kN) (jv Y Y (fun m hm=>zi Y Y zuY) (jv Y Y (fun m hm=>zl Y Y Y ty3) (jv Y Y (fun m hm=>zD Y Y Y zjc (by omega) (zwL hok) zvN) (jv Y Y (fun m hm=>zl Y Y Y ty3) ?_))))))
       refine jv Y Y (fun m hm=>qy (size:=1) (rows:=[[_]]) Y Tryz.underlying24 ti3 Y (by decide) Y (by decide) ⟨_, _, Y, (qU Y), Y⟩ (by rfl) (by simp [ofV]) Y (by simp)) ?_
       refine jv Y Y (fun m hm=>qy (size:=1) (rows:=[[_]]) Y Tryz.underlying82 zvg Y (by decide) Y (by decide) ⟨_, _, Y, (zjo Y), Y⟩ (by rfl) (by simp [ofV]) Y (by simp)) ?_
       refine zsW [] (6) Y Y (fun _=>trivial) (fun m hm=>zbg Y Y ((hm.one 6 (by simp)).trans Y) (zwI hk.1) Y zwb zuQ (fun r hr=>by simp at hr; subst hr; rfl) (by simp <;> omega) (by unfold maxLen; simp <;> omega)) ?_
       refine zsH [1] Y Y (fun m hm hC=>jJ Y Y ((hm.one 1 (by simp)).trans Y) Y jQ) ?_
       refine zsW [3] (1) Y Y (fun _=>trivial) (fun m hm=>zd0 Y Y Y ((hm.one 1 (by simp)).trans Y) Y Y (zc7 Y ((hm.one 3 (by simp)).trans Y) (by rw [List.length_append, zwz k])) zum (by rfl) (by rfl)) ?_
       refine zsH [1] Y Y (fun m hm hC=>jJ Y Y ((hm.one 1 (by simp)).trans Y) Y yI) ?_
       refine zsW [4] (1) Y Y (fun _=>trivial) (fun m hm=>zd0 Y Y Y ((hm.one 1 (by simp)).trans Y) Y Y (zc7 Y ((hm.one 4 (by simp)).trans Y) (by rw [List.length_append, zwH hk.1])) zum (by rfl) (by rfl)) ?_
       refine zsH [1] Y Y (fun m hm hC=>jJ Y Y ((hm.one 1 (by simp)).trans Y) Y zuH) ?_
       refine zsW [5] (1) Y Y (fun _=>trivial) (fun m hm=>zd0 Y Y Y ((hm.one 1 (by simp)).trans Y) Y Y (zc7 Y ((hm.one 5 (by simp)).trans Y) (by rw [List.length_append, zwG hk.1])) zum (by rfl) (by rfl)) ?_
       refine zsH [1] Y Y (fun m hm hC=>jJ Y Y ((hm.one 1 (by simp)).trans Y) Y zuA) ?_
       refine zsW [6] (1) Y Y (fun _=>trivial) (fun m hm=>zd0 Y Y Y ((hm.one 1 (by simp)).trans Y) Y Y (zc7 Y ((hm.one 6 (by simp)).trans Y) (by rw [List.length_append, zwI hk.1])) zum (by rfl) (by rfl)) ?_
       refine zfa (zJ (zk (zx (zf (zh Y Y) (zf (zW Y Y Y ⟨by omega, by omega⟩) (zf (zg Y Y) (zM ?_)))))))
       exact ⟨⟨k + 1, by omega, zwi hk.2 hlt hok⟩, by dsimp only; omega, zy _ ⟨Y, Y, Y, Y, Y, Y, trivial⟩ ((zw3 hlt))⟩
      ·have hkz:k = 0:=by simp at h4; omega
       refine zH (zk ?_)
       refine qY (zy (mem':=[.row [[.psl 2 (k + 1), I r, I q, I 0, I 0]], .row [[.psl 3 k, .psl 4 k, .psl 5 k, .psl 6 k]], .row (mpR l (k + 1)), .row (onR (lkL k)), .row (onR (xL ((l.take k).map spC))), .row (onR (yL ((l.take k).map spC))), .row (onR ((l.take k).map dpC))]) [(0, .pub (.sl (l.map eTc))), (1, I r), (2, I q), (7, .pp 0 1 0 0), (8, .pp 1 1 0 0), (9, I (k:Int)), (10, .pub (.ptr (eTc l[k]))), (13, I (l[k].pt % l[k].m.wide)), (14, I (l[k].pt / l[k].m.wide)), (15, I (lk k))] ?_ ?_) ?_
       ·exact ⟨Y, Y, Y, Y, Y, Y, Y, Y, Y, (zyW hkz), trivial⟩
       ·exact Y
       refine zfD (fun _=>True) (fun k=>match k with | 0=>.rd [1] | 1=>.rd [1] | 2=>.stable | 3=>.stable | 4=>.stable | 5=>.rw [] (3) | 6=>.rd [1] | 7=>.rd [1] | 8=>.stable | 9=>.stable | 10=>.stable | 11=>.rw [] (4) | 12=>.rd [1] | 13=>.rd [1] | 14=>.stable | 15=>.stable | 16=>.stable | 17=>.rw [] (5) | 18=>.rd [1] | 19=>.rd [1] | 20=>.stable | 21=>.stable | 22=>.stable | 23=>.stable | 24=>.stable | 25=>.stable | 26=>.stable | 27=>.stable | 28=>.stable | 29=>.rw [] (6) | 30=>.rd [1] | 31=>.rw [3] (1) | 32=>.rd [1] | 33=>.rw [4] (1) | 34=>.rd [1] | 35=>.rw [5] (1) | 36=>.rd [1] | 37=>.rw [6] (1) | _=>.here) mixed (by kernel_rfl) rfl (by kernel_rfl) trivial ?_
       refine zsH [1] Y Y (fun m hm hC=>jJ Y Y ((hm.one 1 (by simp)).trans Y) Y jQ) ?_
       refine zsH [1] Y Y (fun m hm hC=>zX Y Y ((hm.one 1 (by simp)).trans Y) Y Y Y zum) ?_
       refine jv Y Y (fun m hm=>zh Y Y) ?_
       refine jv Y Y (fun m hm=>qy (size:=1) (rows:=[[_]]) Y Tryz.underlying24 ti3 Y (by decide) Y (by decide) ⟨_, _, Y, (qU Y), Y⟩ (by rfl) (by simp [ofV]) Y (by simp)) ?_
       refine jv Y Y (fun m hm=>qy (size:=1) (rows:=[[_]]) Y Tryz.underlying82 zvg Y (by decide) Y (by decide) ⟨_, _, Y, (zjo Y), Y⟩ (by rfl) (by simp [ofV]) Y (by simp)) ?_
       refine zsW [] (3) Y Y (fun _=>trivial) (fun m hm=>zbg Y Y ((hm.one 3 (by simp)).trans Y) (zwz k) Y zwb zuQ (fun r hr=>by simp at hr; subst hr; rfl) (by simp <;> omega) (by unfold maxLen; simp <;> omega)) ?_
       refine zsH [1] Y Y (fun m hm hC=>jJ Y Y ((hm.one 1 (by simp)).trans Y) Y yI) ?_
       refine zsH [1] Y Y (fun m hm hC=>zX Y Y ((hm.one 1 (by simp)).trans Y) Y Y Y zum) ?_
       refine jv Y Y (fun m hm=>zh Y Y) ?_
       refine jv Y Y (fun m hm=>qy (size:=1) (rows:=[[_]]) Y Tryz.underlying24 ti3 Y (by decide) Y (by decide) ⟨_, _, Y, (qU Y), Y⟩ (by rfl) (by simp [ofV]) Y (by simp)) ?_
       refine jv Y Y (fun m hm=>qy (size:=1) (rows:=[[_]]) Y Tryz.underlying82 zvg Y (by decide) Y (by decide) ⟨_, _, Y, (zjo Y), Y⟩ (by rfl) (by simp [ofV]) Y (by simp)) ?_
       refine zsW [] (4) Y Y (fun _=>trivial) (fun m hm=>zbg Y Y ((hm.one 4 (by simp)).trans Y) (zwH hk.1) Y zwb zuQ (fun r hr=>by simp at hr; subst hr; rfl) (by simp <;> omega) (by unfold maxLen; simp <;> omega)) ?_
       refine zsH [1] Y Y (fun m hm hC=>jJ Y Y ((hm.one 1 (by simp)).trans Y) Y zuH) ?_
       refine zsH [1] Y Y (fun m hm hC=>zX Y Y ((hm.one 1 (by simp)).trans Y) Y Y Y zum) ?_
       refine jv Y Y (fun m hm=>zh Y Y) ?_
       refine jv Y Y (fun m hm=>qy (size:=1) (rows:=[[_]]) Y Tryz.underlying24 ti3 Y (by decide) Y (by decide) ⟨_, _, Y, (qU Y), Y⟩ (by rfl) (by simp [ofV]) Y (by simp)) ?_
       refine jv Y Y (fun m hm=>qy (size:=1) (rows:=[[_]]) Y Tryz.underlying82 zvg Y (by decide) Y (by decide) ⟨_, _, Y, (zjo Y), Y⟩ (by rfl) (by simp [ofV]) Y (by simp)) ?_
       refine zsW [] (5) Y Y (fun _=>trivial) (fun m hm=>zbg Y Y ((hm.one 5 (by simp)).trans Y) (zwG hk.1) Y zwb zuQ (fun r hr=>by simp at hr; subst hr; rfl) (by simp <;> omega) (by unfold maxLen; simp <;> omega)) ?_
       refine zsH [1] Y Y (fun m hm hC=>jJ Y Y ((hm.one 1 (by simp)).trans Y) Y zuA) ?_
       refine zsH [1] Y Y (fun m hm hC=>zX Y Y ((hm.one 1 (by simp)).trans Y) Y Y Y zum) ?_
       refine jv Y Y (fun m hm=>zi Y Y zuV) (jv Y Y (fun m hm=>zi Y Y zcr) (jv Y Y (fun m hm=>zl Y Y Y kN) (jv Y Y (fun m hm=>zi Y Y zuY) (jv Y Y (fun m hm=>zl Y Y Y ty3) (jv Y Y (fun m hm=>zD Y Y Y zjc (by omega) (zwL hok) zvN) (jv Y Y (fun m hm=>zl Y Y Y ty3) ?_))))))
       refine jv Y Y (fun m hm=>qy (size:=1) (rows:=[[_]]) Y Tryz.underlying24 ti3 Y (by decide) Y (by decide) ⟨_, _, Y, (qU Y), Y⟩ (by rfl) (by simp [ofV]) Y (by simp)) ?_
       refine jv Y Y (fun m hm=>qy (size:=1) (rows:=[[_]]) Y Tryz.underlying82 zvg Y (by decide) Y (by decide) ⟨_, _, Y, (zjo Y), Y⟩ (by rfl) (by simp [ofV]) Y (by simp)) ?_
       refine zsW [] (6) Y Y (fun _=>trivial) (fun m hm=>zbg Y Y ((hm.one 6 (by simp)).trans Y) (zwI hk.1) Y zwb zuQ (fun r hr=>by simp at hr; subst hr; rfl) (by simp <;> omega) (by unfold maxLen; simp <;> omega)) ?_
       refine zsH [1] Y Y (fun m hm hC=>jJ Y Y ((hm.one 1 (by simp)).trans Y) Y jQ) ?_
       refine zsW [3] (1) Y Y (fun _=>trivial) (fun m hm=>zd0 Y Y Y ((hm.one 1 (by simp)).trans Y) Y Y (zc7 Y ((hm.one 3 (by simp)).trans Y) (by rw [List.length_append, zwz k])) zum (by rfl) (by rfl)) ?_
       refine zsH [1] Y Y (fun m hm hC=>jJ Y Y ((hm.one 1 (by simp)).trans Y) Y yI) ?_
       refine zsW [4] (1) Y Y (fun _=>trivial) (fun m hm=>zd0 Y Y Y ((hm.one 1 (by simp)).trans Y) Y Y (zc7 Y ((hm.one 4 (by simp)).trans Y) (by rw [List.length_append, zwH hk.1])) zum (by rfl) (by rfl)) ?_
       refine zsH [1] Y Y (fun m hm hC=>jJ Y Y ((hm.one 1 (by simp)).trans Y) Y zuH) ?_
       refine zsW [5] (1) Y Y (fun _=>trivial) (fun m hm=>zd0 Y Y Y ((hm.one 1 (by simp)).trans Y) Y Y (zc7 Y ((hm.one 5 (by simp)).trans Y) (by rw [List.length_append, zwG hk.1])) zum (by rfl) (by rfl)) ?_
       refine zsH [1] Y Y (fun m hm hC=>jJ Y Y ((hm.one 1 (by simp)).trans Y) Y zuA) ?_
       refine zsW [6] (1) Y Y (fun _=>trivial) (fun m hm=>zd0 Y Y Y ((hm.one 1 (by simp)).trans Y) Y Y (zc7 Y ((hm.one 6 (by simp)).trans Y) (by rw [List.length_append, zwI hk.1])) zum (by rfl) (by rfl)) ?_
       refine zfa (zJ (zk (zx (zf (zh Y Y) (zf (zW Y Y Y ⟨by omega, by omega⟩) (zf (zg Y Y) (zM ?_)))))))
       exact ⟨⟨k + 1, by omega, zwi hk.2 hlt hok⟩, by dsimp only; omega, zy _ ⟨Y, Y, Y, Y, Y, Y, trivial⟩ ((zw3 hlt))⟩
   ·have hge:k = l.length:=by simp at h1; omega
    refine qY (zy (mem':=mB l r q l.length) [(0, .pub (.sl (l.map eTc))), (1, I r), (2, I q), (7, .pp 0 1 0 0), (8, .pp 1 1 0 0)] ?_ ?_) ?_
    ·exact ⟨Y, Y, Y, Y, Y, trivial⟩
    ·exact (by rw [hge])
    refine qY (zmE (k:=2) (c:=0) (i:=0) (j:=0) (rows:=(l.map spC).map eLm) (zzM) (by simp) Y Y Y Y) ?_
    refine qY (zmE (k:=3) (c:=1) (i:=0) (j:=0) (rows:=zuu (lkL l.length)) Y (by rw [zu0, zu1]) Y Y Y Y) ?_
    refine qY (zmE (k:=4) (c:=1) (i:=0) (j:=1) (rows:=zuu (xL (l.map spC))) zzL (by rw [zu0, zxL]; simp) Y Y Y Y) ?_
    refine qY (zmE (k:=5) (c:=1) (i:=0) (j:=2) (rows:=zuu (yL (l.map spC))) zzN (by rw [zu0, zxN]; simp) Y Y Y Y) ?_
    refine qY (zmE (k:=6) (c:=1) (i:=0) (j:=3) (rows:=zuu (l.map dpC)) zzE (by rw [zu0]; simp) Y Y Y Y) ?_
    refine qY (zmJ (k:=0) (cs:=eSu (l.map spC) r q) 7 Y Y) ?_
    refine qY (zmJ (k:=1) (cs:=[.sl (zuu (lkL l.length)), .sl (zuu (xL (l.map spC))), .sl (zuu (yL (l.map spC))), .sl (zuu (l.map dpC))]) 8 Y Y) ?_
    refine qY (zy (mem':=[.dead, .dead, .dead, .dead, .dead, .dead, .dead]) [(0, .pub (.sl (l.map eTc))), (1, I r), (2, I q), (7, .pub (.ptr (eSu (l.map spC) r q))), (8, .pub (.ptr (eTr (l.map spC) (l.map dpC))))] ?_ ?_) ?_
    ·exact ⟨Y, Y, Y, Y, (by show EV.pub _ = _; rw [eTr, List.length_map]; rfl), trivial⟩
    ·exact Y
    refine qY (zoR 0 ?_ ?_) ?_
    ·exact ⟨trivial, trivial, trivial, trivial, trivial, trivial⟩
    ·exact trivial
    have hall:∀ t ∈ l, OkC t:=fun t ht=>hk.2 t (by rw [hge, List.take_length]; exact ht)
    have hdp:=zxn hall
    have hLn:(l.map spC).length = l.length:=by simp
    refine qg (zS (zS (qh (zk (zt (zn (zf (zK Y Y yw (by exact zLb Y)) ?_)))))))
    refine zf (zB (av:=[_]) Y ⟨Y, trivial⟩ (f33 (l.map spC) r q (by rw [List.length_map]; omega))) ?_
    refine zf (qJ Y Y) (zo (zA Y (fun h5=>?_) (fun h5=>?_)))
    ·refine zt (zn (zf (zg Y Y) (zo (zF ?_))))
     refine qm (ι:={ j:Nat // True }) (fun j=>⟨Tryz.f5.ntmps, frL [(0, .pub (.sl (l.map eTc))), (1, I r), (2, I q), (7, .pub (.ptr (eSu (l.map spC) r q))), (8, .pub (.ptr (eTr (l.map spC) (l.map dpC)))), (16, I (j.1:Int))], []⟩) (fun j=>l.length - j.1) (⟨0, trivial⟩) ?_ ?_
     ·exact zy _ ⟨Y, Y, Y, Y, Y, Y, trivial⟩ (Y)
     ·rintro ⟨j, hj⟩
      dsimp only
      refine zt (zn (zf (zh Y Y) (zf (zi Y Y zdQ) (zf (zl Y Y Y zuq) (zf (qA Y Y Y Tryz.underlying97) (zf (qx Y Y Y) (zo (zA Y (fun h6=>?_) (fun h6=>?_)))))))))
      ·have hlt:j < l.length:=by simp at h6; omega
       refine zH (zk (zt (zF (zn (zf (zi Y Y zdQ) (zf (zl Y Y Y zuq) (zf (zh Y Y) ?_)))))))
       refine zf (zD Y Y Y zur (by omega) (zvb (show j < (l.map spC).length by omega) Y) zun) ?_
       refine zf (zi Y Y zG) (zf (zl Y Y Y zuo) ?_)
       refine zf (zD Y Y Y zv7 (by omega) (by exact zvW (k:=0) (by omega)) zvr) ?_
       refine zf (zi Y Y zuW) (zf (zK Y Y zuz (by exact zLb Y)) ?_)
       refine qP  Y Y Y Y Y Y Y zwq zuz Y (by rfl) (zQ Y) Y ?_
       refine zo (zn (zf (zi Y Y zqK) (zf (zl Y Y Y ty3) (zf (qx Y Y Y) (zf (zh Y Y) (zC Y (fun hg=>zi Y Y zqK) (zC Y (fun hg=>zl Y ((if_pos hg)) Y ty3) (zC Y (fun hg=>zi Y Y zqc) (zC Y (fun hg=>zl Y ((if_pos hg)) Y ty3) ?_)))))))))
       refine zC Y (fun hg=>jB Y ((if_pos hg)) ((if_pos hg))) (zf (jf Y Y Y Y) (zf (zh Y Y) (zC Y (fun hg=>zi Y Y zqc) (zC Y (fun hg=>zl Y ((if_pos hg)) Y ty3) (zC Y (fun hg=>jB Y ((if_pos hg)) Y) (zf (jf Y Y Y Y) (zo (zA Y (fun h7=>?_) (fun h7=>?_)))))))))
       ·exfalso
        have e0:=(hall _ (List.getElem_mem hlt)).dep
        have e1:((l.map spC)[j]'(by omega)) = spC l[j]:=by simp
        simp only[e1, Bool.or_eq_true, decide_eq_true_eq] at h7
        have f1:(spC l[j]).lo = loC l[j]:=rfl
        have f2:(spC l[j]).hi = hiC l[j]:=rfl
        omega
       ·refine zH (zJ (zk (zx (zf (zh Y Y) (zf (zW Y Y Y ⟨by omega, by omega⟩) (zf (zg Y Y) (zM ?_)))))))
        exact ⟨⟨j + 1, trivial⟩, by dsimp only; omega, zy _ ⟨Y, Y, Y, Y, Y, Y, trivial⟩ (Y)⟩
      ·refine qg (zS (zS (qh (zk (zn (zf (zB (av:=[]) Y trivial hkn) (zf (zg Y Y) (zo (zN ?_)))))))))
       refine zP ?_
       exact ⟨.inr Y, AVle.refl _⟩
    ·have hs:SuP (l.map spC) r q:=zx3 (by simpa using h5)
     have hr0:=hs.r0
     have hr5:=hs.r50
     have hq0:=hs.q0
     refine zH (zk (zn (zf (zK Y Y yw (by exact zLb Y)) (zf (zK Y Y jF (by exact zLb Y)) (zf (zB (av:=[_, _]) Y ⟨Y, Y, trivial⟩ (f34 hs hdp)) (zf (zI Y Y) (zf (zU Y Y Y) (zf (zU Y Y Y) (zf (zg Y Y) (zf (zg Y Y) ?_))))))))))
     refine zo (zt (zn (zf (zh Y Y) (zf (wE Y Y Y) (zo (zA Y (fun h8=>?_) (fun h8=>?_)))))))
     ·exfalso; simp at h8
     ·refine zH (zk (zn (zf (zg Y Y) (zo (zt (zn (zf (zg Y Y) (zM ?_))))))))
      refine zk (zF ?_)
      refine qm (ι:={ j:Nat // 1 <= j /\ j <= l.length }) (fun j=>⟨Tryz.f5.ntmps, frL [(0, .pub (.sl (l.map eTc))), (1, I r), (2, I q), (7, .pub (.ptr (eSu (l.map spC) r q))), (8, .pub (.ptr (eTr (l.map spC) (l.map dpC)))), (18, B (ftB (l.map spC) r q (l.map dpC))), (20, B ((List.range j.1).all (rtB (l.map spC) r q (l.map dpC)))), (21, I (j.1:Int))], []⟩) (fun j=>l.length - j.1) (⟨1, ⟨by omega, by omega⟩⟩) ?_ ?_
      ·exact zy _ ⟨Y, Y, Y, Y, Y, Y, Y, Y, trivial⟩ (Y)
      ·rintro ⟨j, hj⟩
       dsimp only
       refine zt (zn (zf (zh Y Y) (zf (zI Y Y) (zf (qA Y Y Y Tryz.underlying96) (zf (qx Y Y Y) (zo (zA Y (fun h9=>?_) (fun h9=>?_))))))))
       ·have hlt:j < l.length:=by simp at h9; omega
        have hj1:=hj.1
        have hfa:=zyu hall hs (j:=j) hlt
        have hfb:=zyu hall hs (j:=j - 1) (by omega)
        have hdx:(((l.map spC).getD j sp0).x - ((l.map spC).getD (j - 1) sp0).x) = dX (l.map spC) j:=rfl
        have hdy:(((l.map spC).getD j sp0).y - ((l.map spC).getD (j - 1) sp0).y) = dY (l.map spC) j:=rfl
        have hdd:(((l.map dpC).getD j 0) - ((l.map dpC).getD (j - 1) 0)) = dD (l.map dpC) j:=rfl
        have hhr:l[j].h - l[j - 1].h = hrL (l.map spC) j:=zyY hlt
        have hdn:r * (l[j].h - l[j - 1].h) = r * hrL (l.map spC) j:=by rw [hhr]
        have hdm:q * (l[j].h - l[j - 1].h) = q * hrL (l.map spC) j:=by rw [hhr]
        have hup:=zzk hs hj1 hlt
        have hM1:r * (l[j].h - l[j - 1].h) <= 50 * 200:=Int.mul_le_mul hr5 (by omega) (by omega) (by omega)
        have hM2:q * (l[j].h - l[j - 1].h) <= 1000 * 200:=Int.mul_le_mul hq0.2 (by omega) (by omega) (by omega)
        have hM3:=Int.mul_nonneg hr0.1 (show 0 <= l[j].h - l[j - 1].h by omega)
        have hM4:=Int.mul_nonneg hq0.1 (show 0 <= l[j].h - l[j - 1].h by omega)
        refine zH (zk (zt (zF (zt ?_))))
        refine qp mixed (by kernel_rfl) Y ?_
        refine zu Y (zI Y Y) (zu Y (zh Y Y) (zu Y (zD Y Y Y zxo (by omega) (zyt hlt) zwt) (zu Y (zi Y Y zvv) (zu Y (zl Y Y Y ty3) (zu Y (zI Y Y) (zu Y (zh Y Y) (zu Y (vN Y Y Y ⟨by omega, by omega⟩) ?_)))))))
        refine zu Y (zD Y Y Y zxo (by omega) (zyT (show j - 1 < l.length by omega) (by omega)) zwt) ?_
        refine zu Y (zi Y Y zvv) (zu Y (zl Y Y Y ty3) ?_)
        refine zu Y (vN Y Y Y ⟨by omega, by omega⟩) ?_
        refine zu Y (zg Y Y) (qF (zk (zn (zf (zh Y Y) (zf (zh Y Y) (zf (ya Y Y Y ⟨by omega, by omega⟩) (zf (zh Y Y) (zf (zh Y Y) (zf (ya Y Y Y ⟨by omega, by omega⟩) (zf (zg Y Y) ?_))))))))))
        refine zf (zg Y Y) (zo (zt ?_))
        refine qp mixed (by kernel_rfl) Y ?_
        refine zu Y (zi Y Y yI) (zu Y (zl Y Y Y zum) (zu Y (zh Y Y) (zu Y (zD Y Y Y zla (by omega) (zxH (i:=j) (by omega) Y) zus) (zu Y (zl Y Y Y kN) ?_))))
        refine zu Y (zD Y Y Y zjc (by omega) (by exact zuD (k:=0) (by omega)) zut) ?_
        refine zu Y (zl Y Y Y ty3) (zu Y (zi Y Y yI) (zu Y (zl Y Y Y zum) (zu Y (zh Y Y) (zu Y (vN Y Y Y ⟨by omega, by omega⟩) (zu Y (zD Y Y Y zla (by omega) (zxH (i:=j - 1) (by omega) (by omega)) zus) (zu Y (zl Y Y Y kN) ?_))))))
        refine zu Y (zD Y Y Y zjc (by omega) (by exact zuD (k:=0) (by omega)) zut) ?_
        refine zu Y (zl Y Y Y ty3) (zu Y (vN Y Y Y ⟨by omega, by omega⟩) (zu Y (zi Y Y zuH) (zu Y (zl Y Y Y zum) (zu Y (zh Y Y) (zu Y (zD Y Y Y zla (by omega) (zx2 (i:=j) (by omega) Y) zus) (zu Y (zl Y Y Y kN) ?_))))))
        refine zu Y (zD Y Y Y zjc (by omega) (by exact zuD (k:=0) (by omega)) zut) ?_
        refine zu Y (zl Y Y Y ty3) (zu Y (zi Y Y zuH) (zu Y (zl Y Y Y zum) (zu Y (zh Y Y) (zu Y (vN Y Y Y ⟨by omega, by omega⟩) (zu Y (zD Y Y Y zla (by omega) (zx2 (i:=j - 1) (by omega) (by omega)) zus) (zu Y (zl Y Y Y kN) ?_))))))
        refine zu Y (zD Y Y Y zjc (by omega) (by exact zuD (k:=0) (by omega)) zut) ?_
        refine zu Y (zl Y Y Y ty3) (zu Y (vN Y Y Y ⟨by omega, by omega⟩) (zu Y (zi Y Y zuA) (zu Y (zl Y Y Y zum) (zu Y (zh Y Y) ?_))))
        refine zu Y (zD Y Y Y zla (by omega) (zuM (i:=j) (by rw [List.length_map]; omega) Y) zus) ?_
        refine zu Y (zl Y Y Y kN) ?_
        refine zu Y (zD Y Y Y zjc (by omega) (by exact zuD (k:=0) (by omega)) zut) ?_
        refine zu Y (zl Y Y Y ty3) (zu Y (zi Y Y zuA) (zu Y (zl Y Y Y zum) (zu Y (zh Y Y) (zu Y (vN Y Y Y ⟨by omega, by omega⟩) ?_))))
        refine zu Y (zD Y Y Y zla (by omega) (zuM (i:=j - 1) (by rw [List.length_map]; omega) (by omega)) zus) ?_
        refine zu Y (zl Y Y Y kN) ?_
        refine zu Y (zD Y Y Y zjc (by omega) (by exact zuD (k:=0) (by omega)) zut) ?_
        refine zu Y (zl Y Y Y ty3) (zu Y (vN Y Y Y ⟨by omega, by omega⟩) (zu Y (zg Y Y) (zu Y (zg Y Y) (zu Y (zg Y Y) (qF (zk (zx (zf (zh Y Y) (zf (zh Y Y) (zC Y (fun hg=>zh Y Y) (zC Y (fun hg=>zh Y Y) ?_)))))))))))
        refine zC Y (fun hg=>zvJ Y (if_pos hg) ⟨by omega, by omega⟩) ?_
        refine zC Y (fun hg=>zrp Y ((if_pos hg)) ((if_pos hg))) (zC Y (fun hg=>zh Y Y) (zC Y (fun hg=>zbt Y ((if_pos hg)) ((if_pos hg))) (zf (jg Y Y Y Y) (zf (zh Y Y) (zC Y (fun hg=>zh Y Y) (zC Y (fun hg=>zh Y Y) ?_))))))
        refine zC Y (fun hg=>zvJ Y (if_pos hg) ⟨by omega, by omega⟩) ?_
        refine zC Y (fun hg=>zrp Y ((if_pos hg)) ((if_pos hg))) (zC Y (fun hg=>zh Y Y) (zC Y (fun hg=>zbt Y ((if_pos hg)) ((if_pos hg))) (zf (jg Y Y Y Y) (zf (zh Y Y) (zC Y (fun hg=>zh Y Y) (zC Y (fun hg=>zh Y Y) ?_))))))
        refine zC Y (fun hg=>zvJ Y (if_pos hg) ⟨by omega, by omega⟩) ?_
        refine zC Y (fun hg=>zrp Y ((if_pos hg)) ((if_pos hg))) (zC Y (fun hg=>zh Y Y) (zC Y (fun hg=>zbt Y ((if_pos hg)) ((if_pos hg))) (zf (jg Y Y Y Y) (zf (zg Y Y) (zM (zJ (zk (zx (zf (zh Y Y) (zf (zW Y Y Y ⟨by omega, by omega⟩) (zf (zg Y Y) ?_)))))))))))
        refine zM ?_
        exact ⟨⟨j + 1, ⟨by omega, by omega⟩⟩, by dsimp only; omega, zy _ ⟨Y, Y, Y, Y, Y, Y, (congrArg B (zzw hj.1 hdx hdy hdd hdn hdm)), Y, trivial⟩ (Y)⟩
       ·have hge:j = l.length:=by simp at h9; omega
        have hft:(List.range j).all (rtB (l.map spC) r q (l.map dpC)) = ftB (l.map spC) r q (l.map dpC):=by unfold ftB; rw [hLn, hge]
        refine qg (zS (zS (qh (zk (zt (zn (zf (zh Y Y) (zf (zh Y Y) (zf (zrQ Y Y Y Tryz.underlying4) (zM ?_))))))))))
        refine zk (zA Y (fun h10=>?_) (fun h10=>?_))
        ·exfalso; simp [hft] at h10
        ·refine zH (zk (zt (zn (zf (zh Y Y) (zf (qJ Y Y) (zo (zA Y (fun h11=>?_) (fun h11=>?_))))))))
         ·refine zn (zf (zB (av:=[]) Y trivial hkn) (zf (zg Y Y) (zo (zN (zP ?_)))))
          exact ⟨.inr Y, AVle.refl _⟩
         ·have ht:=zzr hdp (by rw [← hft]; simpa using h11)
          refine zH (zk (zn (zf (zK Y Y yw (by exact zLb Y)) (zf (zB (av:=[_]) Y ⟨Y, trivial⟩ (f35 hs ht)) (zf (zI Y Y) (zf (zU Y Y Y) (zf (zU Y Y Y) (zf (zg Y Y) (zf (zg Y Y) (zM ?_))))))))))
          refine zk (zt (zn (zf (zh Y Y) (zf (wE Y Y Y) (zo (zA Y (fun h12=>?_) (fun h12=>?_)))))))
          ·exfalso; simp at h12
          ·refine zH (zk (zt (zn (zf (zg Y Y) (zo (zF ?_))))))
           refine qm (ι:={ j:Nat // j <= l.length }) (fun j=>⟨Tryz.f5.ntmps, frL [(0, .pub (.sl (l.map eTc))), (1, I r), (2, I q), (7, .pub (.ptr (eSu (l.map spC) r q))), (8, .pub (.ptr (eTr (l.map spC) (l.map dpC)))), (30, I (j.1:Int))], []⟩) (fun j=>l.length - j.1) (⟨0, by omega⟩) ?_ ?_
           ·exact zy _ ⟨Y, Y, Y, Y, Y, Y, trivial⟩ (Y)
           ·rintro ⟨j, hj⟩
            dsimp only
            refine zt (zn (zf (zh Y Y) (zf (zI Y Y) (zf (qA Y Y Y Tryz.underlying96) (zf (qx Y Y Y) (zo (zA Y (fun h13=>?_) (fun h13=>?_))))))))
            ·have hlt:j < l.length:=by simp at h13; omega
             refine zH (zk (zt (zF (zn (zf (zK Y Y yw (by exact zLb Y)) (zf (zh Y Y) (zf (zB (av:=[_, _, _]) Y ⟨Y, Y, Y, trivial⟩ (f36 hs ht j (by omega))) (zf (zI Y Y) (zf (zU Y Y Y) (zf (zU Y Y Y) ?_))))))))))
             refine qP  Y Y Y Y Y Y Y zbX zby Y (by rfl) (zQ Y) Y ?_
             refine zf (zg Y Y) (zo (zt (zt ?_)))
             refine qp mixed (by kernel_rfl) Y ?_
             refine zu Y (zh Y Y) (zu Y (wE Y Y Y) (zu Y (zh Y Y) (zq Y (fun hg=>zi Y Y zuA) (zq Y (fun hg=>zl Y (Y) Y zum) (zq Y (fun hg=>zh Y Y) ?_)))))
             refine zq Y (fun hg=>zD Y (Y) (Y) zla (by omega) (zuM (i:=j) (by rw [List.length_map]; omega) Y) zus) ?_
             refine zq Y (fun hg=>zl Y (Y) Y kN) ?_
             refine zq Y (fun hg=>zD Y (Y) Y zjc (by omega) (by exact zuD (k:=0) (by omega)) zut) ?_
             refine zq Y (fun hg=>zl Y (Y) Y ty3) (zq Y (fun hg=>zi Y Y zuW) (zq Y (fun hg=>zi Y (Y) zqK) (zq Y (fun hg=>zl Y (Y) Y ty3) (zq Y (fun hg=>qx Y (Y) (Y)) (zu Y (jf Y Y Y Y) (zu Y (zh Y Y) (zq Y (fun hg=>zi Y Y zuA) (zq Y (fun hg=>zl Y ((if_pos hg)) Y zum) (zq Y (fun hg=>zh Y Y) ?_)))))))))
             refine zq Y (fun hg=>zD Y ((if_pos hg)) ((if_pos hg)) zla (by omega) (zuM (i:=j) (by rw [List.length_map]; omega) Y) zus) ?_
             refine zq Y (fun hg=>zl Y ((if_pos hg)) Y kN) ?_
             refine zq Y (fun hg=>zD Y ((if_pos hg)) Y zjc (by omega) (by exact zuD (k:=0) (by omega)) zut) ?_
             refine zq Y (fun hg=>zl Y ((if_pos hg)) Y ty3) (zq Y (fun hg=>zi Y Y zuW) (zq Y (fun hg=>zi Y ((if_pos hg)) zqc) (zq Y (fun hg=>zl Y ((if_pos hg)) Y ty3) (zq Y (fun hg=>jB Y ((if_pos hg)) ((if_pos hg))) (zu Y (jf Y Y Y Y) (qF (zk (zA Y (fun h14=>?_) (fun h14=>?_)))))))))
             ·exfalso
              have e0:=zw2 ht (i:=j) (by omega)
              obtain ⟨_, _, e1, e2⟩:=e0
              simp only[bne_self_eq_false, Bool.false_or, Bool.or_eq_true, decide_eq_true_eq] at h14
              omega
             ·refine zH (zk (zt (zn (zf (zh Y Y) (zf (qR Y Y Y) (zo (zA Y (fun h15=>?_) (fun h15=>?_))))))))
              ·have hjz:j = 0:=by simp at h15; omega
               refine qg (zS (qh (zk (zx (zf (zh Y Y) (zf (zW Y Y Y ⟨by omega, by omega⟩) (zf (zg Y Y) (zM ?_))))))))
               exact ⟨⟨j + 1, by omega⟩, by dsimp only; omega, zy _ ⟨Y, Y, Y, Y, Y, Y, trivial⟩ (Y)⟩
              ·have hjz:0 < j:=by simp at h15; omega
               refine zH (zk (zn (zf (zK Y Y yw (by exact zLb Y)) (zf (zh Y Y) (zf (zB (av:=[_, _]) Y ⟨Y, Y, trivial⟩ (f37 hs ht j (by omega) (by omega))) (zf (zI Y Y) (zf (zU Y Y Y) (zf (zU Y Y Y) (zf (qG Y Y) (zf (zg Y Y) ?_))))))))))
               refine zo (zn (zf (zh Y Y) (zf (wE Y Y Y) (zf (zh Y Y) (zC Y (fun hg=>zI Y Y) ?_)))))
               refine zC Y (fun hg=>qy (size:=1) (rows:=[[_]]) Y Tryz.underlying119 zyd Y (by decide) Y (by decide) ⟨_, _, Y, (qU Y), Y⟩ (by rfl) (by simp [ofV]) Y (by simp)) ?_
               refine zC Y (fun hg=>qy (size:=1) (rows:=[[_]]) Y Tryz.underlying114 zyl Y (by decide) Y (by decide) ⟨_, _, Y, (zjo Y), Y⟩ (by rfl) (by simp [ofV]) Y (by simp)) ?_
               refine zC Y (fun hg=>zB (av:=[_, _]) Y ⟨((by first | exact Y | exact (if_pos hg))), ((by first | exact Y | exact (if_pos hg))), trivial⟩ f38) ?_
               refine zC Y (fun hg=>qJ Y (Y)) (zf (jf Y Y Y Y) (zo (zA Y (fun h16=>?_) (fun h16=>?_))))
               ·exfalso; simp at h16
               ·refine zH (zJ (zk (zx (zf (zh Y Y) (zf (zW Y Y Y ⟨by omega, by omega⟩) (zf (zg Y Y) (zM ?_)))))))
                exact ⟨⟨j + 1, by omega⟩, by dsimp only; omega, zy _ ⟨Y, Y, Y, Y, Y, Y, trivial⟩ (Y)⟩
            ·refine qg (zS (zS (qh (zk (zn (zf (zB (av:=[]) Y trivial hkn) (zf (zg Y Y) (zo (zN ?_)))))))))
             exact ⟨.inr Y, AVle.refl _⟩
end Tp
end Go.Av
end
