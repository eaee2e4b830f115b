import Derived.Test.YtgmbdadkbominaaGreatDoorChY
import Derived.Test.YtgmbdadkbominaaGreatDoorChI
import Derived.Test.YtgmbdadkbominaaGreatDoorChD
import Derived.Test.YtgmbdadkbominaaGreatDoorChE
import Derived.Test.YtgmbdadkbominaaGreatDoorChC
import Derived.Test.YtgmbdadkbominaaGreatDoorWiG
import Derived.Test.YtgmbdadkbominaaGreatDoorWiC
import Derived.Test.YtgmbdadkbominaaGreatDoorPlatV
set_option linter.unusedVariables false
set_option linter.unusedSimpArgs false
section
namespace Go.Av
namespace Tp
open Go.Proofs
set_option maxRecDepth 100000
set_option maxHeartbeats 1000000
variable {G:Glob}
theorem ti3:Tryz.prog.info? 3 = some Tryz.t3:=by kernel_rfl
theorem zt0:elemIs Tryz.prog 67 86 3 24:=⟨Tryz.underlying67, Tryz.t86, _, by kernel_rfl, rfl, rfl, rfl, rfl, by decide⟩
theorem zqf:fldIs Tryz.prog 26 0 0 = true:=by kernel_rfl
theorem zcX:tyIs Tryz.prog 23 false 1 = true:=by kernel_rfl
theorem zqo:fldIs Tryz.prog 26 1 1 = true:=by kernel_rfl
theorem kN:tyIs Tryz.prog 24 false 1 = true:=by kernel_rfl
theorem zcr:fldIs Tryz.prog 63 1 1 = true:=by kernel_rfl
theorem zjk:tyIs Tryz.prog 26 true 3 = true:=by kernel_rfl
theorem znL:tyIs Tryz.prog 63 true 2 = true:=by kernel_rfl
theorem zl5:fldIs Tryz.prog 63 0 0 = true:=by kernel_rfl
theorem zuj:vM Tryz.prog 69 [(0, 1), (1, 1), (2, 1), (3, 1)] [.int .i64 0, .int .i64 0, .int .i64 0, .slice none 0 0]:=⟨_, Tryz.underlying69, by kernel_rfl, by kernel_rfl⟩
theorem ztQ:(Tryz.prog.info? 69).bind (·.zero) = some (.agg #[.int .i64 0, .int .i64 0, .int .i64 0, .slice none 0 0]):=by kernel_rfl
theorem zf2:tyIs Tryz.prog 69 true 4 = true:=by kernel_rfl
theorem zcJ:kw Tryz.prog 64 3 = true:=by kernel_rfl
theorem vF:fldIs Tryz.prog 76 0 0 = true:=by kernel_rfl
theorem vV:fldIs Tryz.prog 76 1 1 = true:=by kernel_rfl
theorem zdS:fldIs Tryz.prog 76 2 2 = true:=by kernel_rfl
theorem znv:tyIs Tryz.prog 74 false 1 = true:=by kernel_rfl
theorem zjc:kw Tryz.prog 24 1 = true:=by kernel_rfl
theorem zt2:elemIs Tryz.prog 24 3 1 8:=⟨Tryz.underlying24, Tryz.t3, _, by kernel_rfl, rfl, rfl, rfl, rfl, by decide⟩
theorem zla:kw Tryz.prog 82 1 = true:=by kernel_rfl
theorem zlc:fldIs Tryz.prog 69 3 3 = true:=by kernel_rfl
theorem zsX:tyIs Tryz.prog 67 false 1 = true:=by kernel_rfl
theorem ztP:vM Tryz.prog 46 [(0, 1), (1, 1)] [.int .i64 0, .int .i64 0]:=⟨_, Tryz.underlying46, by kernel_rfl, by kernel_rfl⟩
theorem zug:vM Tryz.prog 86 [(0, 1), (1, 2)] [.int .i64 0, .int .i64 0, .int .i64 0]:=⟨_, Tryz.underlying86, by kernel_rfl, by kernel_rfl⟩
theorem ztU:Tryz.prog.info? 86 = some Tryz.t86:=by kernel_rfl
theorem yR:kw Tryz.prog 23 2 = true:=by kernel_rfl
theorem zqK:fldIs Tryz.prog 46 0 0 = true:=by kernel_rfl
theorem zqc:fldIs Tryz.prog 46 1 1 = true:=by kernel_rfl
def stw (c:Wr.Cod) (t:Tw):Ct.Stn:=⟨t.pt, Wr.loW c t.cps, Wr.hiW c t.cps⟩
def mpK (f:Ct.Fld) (slope:Int) (S:List Ct.Stn):Ct.Mp:=⟨f.wide, (f.vals.length:Int) / f.wide, slope, S⟩
def ms (f:Ct.Fld) (t:Tw):List Int:=Ct.vAt f t.pt.toNat :: t.rest
theorem znV {f:Ct.Fld} {slope:Int} {S:List Ct.Stn} (hm:Ct.okM (mpK f slope [])) (hF:Ct.FitsM (mpK f slope []) f) (hl:S.length <= 12)
  (h:∀ s ∈ S, 0 <= s.pt /\ s.pt <= f.wide * ((f.vals.length:Int) / f.wide) - 1 /\ 0 <= s.lo /\ s.lo <= Ct.vAt f s.pt.toNat /\ Ct.vAt f s.pt.toNat <= s.hi /\ s.hi <= 99999):Ct.okM (mpK f slope S) /\ Ct.FitsM (mpK f slope S) f:=by
 obtain ⟨m1, m2, m3, m4, m5, m6, m7, m8⟩:=hm
 exact ⟨⟨m1, m2, m3, m4, m5, m6, hl, fun s hs=>⟨(h s hs).1, (h s hs).2.1, (h s hs).2.2.1, by have:=h s hs; omega, (h s hs).2.2.2.2.2⟩⟩, ⟨hF.wide, hF.len, hF.near, fun s hs=>⟨(h s hs).2.2.2.1, (h s hs).2.2.2.2.1⟩⟩⟩
def ztA (c:Wr.Cod) (f:Ct.Fld) (t:Tw):Prop:=0 <= t.pt /\ t.pt <= f.wide * ((f.vals.length:Int) / f.wide) - 1 /\ 0 <= Wr.loW c t.cps /\ Wr.loW c t.cps <= Ct.vAt f t.pt.toNat /\ Ct.vAt f t.pt.toNat <= Wr.hiW c t.cps /\ Wr.hiW c t.cps <= 99999
theorem zhp {α:Type} {p:α -> Prop} {l:List α} {k:Nat} (h:∀ t ∈ l.take k, p t) (hk:k < l.length) (hp:p l[k]):∀ t ∈ l.take (k + 1), p t:=fun t ht=>by
 rw [List.take_succ_eq_append_getElem hk, List.mem_append] at ht
 rcases ht with ht | ht
 ·exact h t ht
 ·rw [List.mem_singleton.1 ht]; exact hp
def SE (c:Wr.Cod) (t:Tw):List EV:=[I t.pt, I (Wr.loW c t.cps), I (Wr.hiW c t.cps)]
theorem zrS {c:Wr.Cod} {l:List Tw}:∀ r ∈ l.map (SE c), r.length = 3:=fun r hr=>by
 obtain ⟨t, _, rfl⟩:=List.mem_map.1 hr; rfl
theorem zsE {f:Ct.Fld} {slope:Int}:AVle (.agg [.v (.int .i64 f.wide), .v (.int .i64 ((f.vals.length:Int) / f.wide)), .v (.int .i64 slope), .v (.slice none 0 0)]) (.agg (Ct.eMp (mpK f slope []))):=
 AVle.agg ⟨_, _, rfl, AVle.refl _, _, _, rfl, AVle.refl _, _, _, rfl, AVle.refl _, _, _, rfl, AVle.nil, rfl⟩
theorem zeZ {e e':EV} {x:AV} (h:e = e') (h':zq4 e' x):zq4 e x:=h ▸ h'
theorem zsd {f:Ct.Fld} {p:Int} (h:p.toNat < f.vals.length):(f.vals.map fun n=>[AV.v (.int .i64 n)])[p.toNat]? = some [.v (.int .i64 (Ct.vAt f p.toNat))]:=by simp [Ct.vAt, List.getD, h]
theorem zlF {f:Ct.Fld} {p:Nat} (h:p < f.vals.length):(f.vals.map fun n=>[AV.v (.int .i64 n)])[p]? = some [.v (.int .i64 (Ct.vAt f p))]:=by simp [Ct.vAt, List.getD, h]
theorem zbY {l:List Int}:∀ q ∈ l.map (fun n=>[AV.v (.int .i64 n)]), q.length = 1:=fun q hq=>by
 obtain ⟨t, _, rfl⟩:=List.mem_map.1 hq; rfl
theorem zeS {l:List (List Int)}:∀ q ∈ l.map (fun m=>[Wr.eInts m]), q.length = 1:=fun q hq=>by
 obtain ⟨t, _, rfl⟩:=List.mem_map.1 hq; rfl
theorem iF {L:List (List Int)} (h:0 < L.length):(L.map fun m=>[Wr.eInts m])[(0:Int).toNat]? = some [Wr.eInts (L.getD 0 [])]:=by
 show (L.map fun m=>[Wr.eInts m])[0]? = _
 simp [List.getD, h]
theorem iL {L:List (List Int)} (h:0 < L.length):(L.map fun m=>[Wr.eInts m])[(((L.map fun m=>[Wr.eInts m]).length:Int) - 1).toNat]? = some [Wr.eInts (L.getD (L.length - 1) [])]:=by
 rw [show (((L.map fun m=>[Wr.eInts m]).length:Int) - 1).toNat = L.length - 1 by rw [List.length_map]; omega]
 have h1:L.length - 1 < L.length:=by omega
 rw [List.getElem?_map, List.getElem?_eq_getElem h1, List.getD_eq_getElem?_getD, List.getElem?_eq_getElem h1]; rfl
theorem zq6 {m:List Int} (h:0 < m.length):(m.map fun n=>[AV.v (.int .i64 n)])[(0:Int).toNat]? = some [.v (.int .i64 (Wr.hd0 m))]:=by
 cases m with
 | nil=>simp at h
 | cons x m=>rfl
theorem mq {w r s:EV} {A B:List (List EV)} {n n':Nat} (hn:n = n') (h:A = B):[PO.row [[w, r, s, .psl 1 n]], PO.row A] = [PO.row [[w, r, s, .psl 1 n']], PO.row B]:=by subst h; subst hn; rfl
abbrev ztY:EV:=.pub (.v (.slice none 0 0))
theorem mq0 {w s x:EV} {a b:Int} (h:a = b):[PO.row [[w, I a, s, x]]] = [PO.row [[w, I b, s, x]]]:=by rw [h]
theorem zp7 {c:Wr.Cod} {l:List Tw} {k:Nat} (hk:k < l.length):(l.take k).map (SE c) ++ [SE c l[k]] = (l.take (k + 1)).map (SE c):=by
 rw [List.take_succ_eq_append_getElem hk, List.map_append]; rfl
theorem b24 {fr:Nat -> EV} {mem:List PO} {o:Oper} {x:Operand} {v:Int} {l:Nat} (ho:o.op = .buildSlice 24 1 #[(0, x)]) (hx:evO fr x = I v) (hml:mem[l]? = some (.row [])):
  ∀ m:List PO, m[l]? = mem[l]? -> True -> OpB Tryz.prog G fr m o (.psl l 1) (m.set l (.row [[I v]])) /\ True:=fun m hmm _=>
 ⟨fun N fr2 he hd=>zkN (P:=Tryz.prog) (G:=G) (st:=⟨N, fr2, m⟩) (rows:=[[I v]]) (qs:=[(0, [I v])]) (size:=1) ho hd Tryz.underlying24 ti3 rfl (by decide) rfl (by decide) ⟨_, _, rfl, qU ((he x (by simp [ho, Op.operands])).trans hx), rfl⟩ rfl (by simp [I]) rfl (by decide) (by simp) (hmm.trans hml), trivial⟩
theorem ztT {w r s:Int} {k:Nat}:PO.okL 2 (.row [[I w, I r, I s, .psl 1 k]]):=fun q hq x hx=>by
 rw [List.mem_singleton.1 hq] at hx
 simp only[List.mem_cons, List.not_mem_nil, or_false] at hx
 rcases hx with rfl | rfl | rfl | rfl <;> simp [EV.lt, I]
theorem ztR {c:Wr.Cod} {l:List Tw}:PO.okL 2 (.row (l.map (SE c))):=fun q hq x hx=>by
 obtain ⟨t, _, rfl⟩:=List.mem_map.1 hq
 simp only[SE, List.mem_cons, List.not_mem_nil, or_false] at hx
 rcases hx with rfl | rfl | rfl <;> simp [EV.lt, I]
theorem znt {c:Wr.Cod} {l:List Tw}:(l.take l.length).map (SE c) = ((l.map (stw c)).map Ct.eStn).map (·.map .pub):=by
 rw [List.take_length, List.map_map, List.map_map]; rfl
theorem zlm {l:List (Int × Int)} {k:Nat} (h:k < l.length):(l.map fun s=>[AV.v (.int .i64 s.1), AV.v (.int .i64 s.2)])[k]? = some [.v (.int .i64 l[k].1), .v (.int .i64 l[k].2)]:=by simp [h]
theorem zjI {l:List (Int × Int)}:∀ q ∈ l.map (fun s=>[AV.v (.int .i64 s.1), AV.v (.int .i64 s.2)]), q.length = 2:=fun q hq=>by
 obtain ⟨t, _, rfl⟩:=List.mem_map.1 hq; rfl
theorem f4 (hkn:ACall Tryz.prog G 8 [] (.v (.bool true))) (c:Wr.Cod) (f:Ct.Fld) (slope:Int) (l:List Tw) (point level:Int):ACall Tryz.prog G 4 [.agg (Wr.eCod c), .agg (Ct.eFld f), Ct.ei slope, .sl (l.map eTw), Ct.ei point, Ct.ei level] (.v (.bool true)):=by
 refine zO Tryz.func4 Y (by kernel_rfl) Y ?_
 refine zn (zf (ql Y (zQ Y)) (zf (ql Y (zQ Y)) (zf (zg Y Y) (zo (zt (zn (zf (zi Y Y zqf) (zf (zl Y Y Y zcX) ?_))))))))
 refine zf (qA Y Y Y Tryz.underlying23) (zf (jB Y Y Y) (zf (zh Y Y) (zC Y (fun hg=>zi Y Y zqo) (zC Y (fun hg=>zl Y (if_pos hg) Y kN) (zC Y (fun hg=>qA Y Y (if_pos hg) Tryz.underlying24) (zC Y (fun hg=>jB Y (if_pos hg) Y) (zf (jf Y Y Y Y) (zf (zh Y Y) (zC Y (fun hg=>zi Y Y zcr) (zC Y (fun hg=>zl Y (if_pos hg) Y kN) (zC Y (fun hg=>qA Y Y (if_pos hg) Tryz.underlying24) ?_)))))))))))
 refine zC Y (fun hg=>jB Y (if_pos hg) Y) (zf (jf Y Y Y Y) (zf (zh Y Y) (zC Y (fun hg=>zI Y Y) (zC Y (fun hg=>qA Y Y (if_pos hg) Tryz.underlying64) (zC Y (fun hg=>jB Y (if_pos hg) Y) (zf (jf Y Y Y Y) (zf (zh Y Y) (zC Y (fun hg=>zK Y Y zjk (by exact zLb Y)) ?_))))))))
 refine zC Y (fun hg=>zB (av:=[_]) Y ⟨((if_pos hg)), trivial⟩ (Wr.f31 c (by simp at hg; omega))) ?_
 refine zC Y (fun hg=>qJ Y (if_pos hg)) (zf (jf Y Y Y Y) (zf (zh Y Y) (zC Y (fun hg=>zK Y Y znL (by exact zLb Y)) ?_)))
 refine zC Y (fun hg=>zB (av:=[_]) Y ⟨((if_pos hg)), trivial⟩ (Ct.f28 f (by simp at hg; omega))) ?_
 refine zC Y (fun hg=>qJ Y (if_pos hg)) (zf (jf Y Y Y Y) (zo (zA Y (fun h0=>?_) (fun h0=>?_))))
 ·refine zn (zf (zB (av:=[]) Y trivial hkn) (zf (zg Y Y) (zo (zN (zP ?_)))))
  exact ⟨.inr Y, AVle.refl _⟩
 ·simp at h0
  obtain ⟨⟨⟨⟨⟨a1, a2⟩, a3⟩, a4⟩, hcod⟩, hfld⟩:=h0
  have hfw:=Ct.fld_bd hfld
  refine zH (zk (zt ?_))
  refine qY zgO ?_
  refine zfD (fun _=>True) (fun k=>match k with | 0=>.stable | 1=>.stable | 2=>.stable | 3=>.stable | 4=>.stable | 5=>.stable | 6=>.stable | 7=>.stable | 8=>.stable | 9=>.stable | 10=>.own 0 | 11=>.writes | _=>.here) mixed (by kernel_rfl) rfl (by kernel_rfl) trivial ?_
  refine jv Y Y (fun m hm=>zi Y Y zl5) (jv Y Y (fun m hm=>zl Y Y Y ty3) (jv Y Y (fun m hm=>zi Y Y zcr) (jv Y Y (fun m hm=>zl Y Y Y kN) (jv Y Y (fun m hm=>qA Y Y Y Tryz.underlying24) (jv Y Y (fun m hm=>zi Y Y zl5) (jv Y Y (fun m hm=>zl Y Y Y ty3) ?_))))))
  refine jv Y Y (fun m hm=>x9 Y Y Y ⟨by rw [List.length_map]; omega, by rw [List.length_map]; omega, by omega⟩) ?_
  refine jv Y Y (fun m hm=>zh Y Y) ?_
  refine jv Y Y (fun m hm=>yl (cs:=[_, _, _, _]) Y zuj Y ⟨_, _, Y, (qU Y), ⟨_, _, Y, (qU Y), ⟨_, _, Y, (qU Y), Y⟩⟩⟩ (by rfl) (by simp [ofV])) ?_
  refine ztC Y Y (zmH Y ztQ Y Y Y) ?_
  refine zpt Y Y (zd0 Y Y Y Y Y Y (zQ Y) zf2 (by rfl) (by rfl)) trivial ?_
  refine zfa (zk (zt (zt ?_)))
  refine qY (zy (mem':=[.row [[I f.wide, I ((f.vals.length:Int) / f.wide), I slope, ztY]]]) [(3, .pub (.sl (l.map eTw))), (4, I point), (5, I level), (6, .pub (.ptr (Wr.eCod c))), (7, .pub (.ptr (Ct.eFld f))), (13, .pp 0 1 0 0)] ?_ ?_) ?_
  ·exact ⟨Y, Y, Y, Y, Y, Y, trivial⟩
  ·exact (mq0 (by rw [List.length_map]))
  refine zx (zf (qV (cs:=[_, _, _, _]) Y Y Y Y Y (by exact zLb Y) Y zf2) (zf (zeO (av:=[.agg (Ct.eMp (mpK f slope []))]) Y ⟨_, _, Y, zsE (f:=f) (slope:=slope), Y⟩ (Ct.f40 _)) (zf (qJ Y Y) (zf (zh Y Y) (zC Y (fun hg=>qV (cs:=[_, _, _, _]) Y Y Y Y Y (by exact zLb Y) Y zf2) (zC Y (fun hg=>zK Y Y znL (by exact zLb Y)) ?_))))))
  refine zC Y (fun hg=>zeO (av:=[.agg (Ct.eMp (mpK f slope [])), .agg (Ct.eFld f)]) Y ⟨_, _, Y, zeZ (if_pos hg) (zsE (f:=f) (slope:=slope)), _, _, Y, zeZ (if_pos hg) (AVle.refl _), Y⟩ (Ct.f45 _ f ((Ct.okM_iff _).1 (by simpa using hg)) hfld (by omega))) ?_
  refine zC Y (fun hg=>qJ Y (if_pos hg)) (zf (jf Y Y Y Y) (zf (zh Y Y) (zC Y (fun hg=>qV (cs:=[_, _, _, _]) Y Y Y Y Y (by exact zLb Y) Y zf2) (zC Y (fun hg=>zh Y Y) ?_))))
  refine zC Y (fun hg=>zeO (av:=[.agg (Ct.eMp (mpK f slope [])), Ct.ei point]) Y ⟨_, _, Y, zeZ (if_pos hg) (zsE (f:=f) (slope:=slope)), _, _, Y, zeZ (if_pos hg) (AVle.refl _), Y⟩ (Ct.f41 _ point (by simp at hg; have:=(Ct.okM_iff _).1 hg.1; exact ⟨this.1, this.2.1⟩) (by simp at hg; have:=(Ct.okM_iff _).1 hg.1; exact ⟨this.2.2.1, this.2.2.2.1⟩))) ?_
  refine zC Y (fun hg=>qJ Y (if_pos hg)) (zf (jf Y Y Y Y) (zf (zh Y Y) (zC Y (fun hg=>zh Y Y) (zC Y (fun hg=>zB (av:=[_]) Y ⟨((if_pos hg)), trivial⟩ (Ct.f29 level)) (zC Y (fun hg=>qJ Y (if_pos hg)) (zf (jf Y Y Y Y) (zo (zA Y (fun h1=>?_) (fun h1=>?_)))))))))
  ·refine zn (zf (zB (av:=[]) Y trivial hkn) (zf (zg Y Y) (zo (zN (zP ?_)))))
   exact ⟨.inr Y, AVle.refl _⟩
  ·simp at h1
   obtain ⟨⟨⟨hmap, hfit⟩, hpo⟩, hv⟩:=h1
   have hM0:=(Ct.okM_iff _).1 hmap
   have hF0:=Ct.fitsB_iff.1 hfit
   have hpo:=Ct.inB_iff.1 hpo
   have hv:=Ct.inB_iff.1 hv
   have hlen:=hF0.len
   refine zH (zk (zt (zn (zf (zg Y Y) (zo (zF ?_))))))
   refine qY (zgZ (k:=0) (i:=0) (j:=3) Y Y Y) ?_
   refine qm (ι:={ k:Nat // k <= l.length /\ ∀ t ∈ l.take k, ztA c f t }) (fun k=>⟨Tryz.f4.ntmps, frL [(3, .pub (.sl (l.map eTw))), (4, I point), (5, I level), (6, .pub (.ptr (Wr.eCod c))), (7, .pub (.ptr (Ct.eFld f))), (13, .pp 0 1 0 0), (14, I (k.1:Int))], [.row [[I f.wide, I ((f.vals.length:Int) / f.wide), I slope, .psl 1 k.1]], .row ((l.take k.1).map (SE c))]⟩) (fun k=>l.length - k.1) (⟨0, by simp⟩) ?_ ?_
   ·exact zy _ ⟨Y, Y, Y, Y, Y, Y, Y, trivial⟩ (Y)
   ·rintro ⟨k, hk⟩
    dsimp only
    refine zt (zn (zf (zh Y Y) (zf (zI Y Y) (zf (qA Y Y Y Tryz.underlying64) (zf (qx Y Y Y) (zo (zA Y (fun h2=>?_) (fun h2=>?_))))))))
    ·have hlt:k < l.length:=by simpa using h2
     refine zH (zk (zt (zF (zt (zt ?_)))))
     refine qp mixed (by kernel_rfl) Y ?_
     refine zu Y (za9 Y Y Y Y Y (by exact zLb Y) Y zf2) (zu Y (zI Y Y) (zu Y (zh Y Y) (zu Y (zD Y Y Y zcJ (by omega) (zcH hlt) zat) (zu Y (zi Y Y vF) (zu Y (zl Y Y Y ty3) (zu Y (zeO (av:=[.agg [.v (.int .i64 f.wide), .v (.int .i64 ((f.vals.length:Int) / f.wide)), .v (.int .i64 slope), .top], Ct.ei l[k].pt]) Y ⟨_, _, Y, AVle.refl _, _, _, Y, AVle.refl _, Y⟩ (zua _ _ _ _ ⟨hM0.1, hM0.2.1⟩ ⟨hM0.2.2.1, hM0.2.2.2.1⟩)) (zu Y (qJ Y Y) (zu Y (zh Y Y) (zq Y (fun hg=>zI Y Y) (zq Y (fun hg=>zh Y Y) (zq Y (fun hg=>zD Y (if_pos hg) (if_pos hg) zcJ (by omega) (zcH hlt) zat) ?_)))))))))))
     refine zq Y (fun hg=>zi Y (if_pos hg) vV) (zq Y (fun hg=>zl Y (if_pos hg) Y kN) (zq Y (fun hg=>qA Y Y (if_pos hg) Tryz.underlying24) (zq Y (fun hg=>jB Y (if_pos hg) Y) (zu Y (jf Y Y Y Y) (zu Y (zh Y Y) (zq Y (fun hg=>zI Y Y) (zq Y (fun hg=>zh Y Y) (zq Y (fun hg=>zD Y (if_pos hg) (if_pos hg) zcJ (by omega) (zcH hlt) zat) (zq Y (fun hg=>zi Y (if_pos hg) zdS) (zq Y (fun hg=>zl Y (if_pos hg) Y znv) (zq Y (fun hg=>zB (av:=[_]) Y ⟨((if_pos hg)), trivial⟩ (f22 l[k].cps)) ?_)))))))))))
     refine zq Y (fun hg=>qJ Y (if_pos hg)) (zu Y (jf Y Y Y Y) (zu Y (zh Y Y) (zq Y (fun hg=>zK Y Y zjk (by exact zLb Y)) (zq Y (fun hg=>zI Y Y) (zq Y (fun hg=>zh Y Y) (zq Y (fun hg=>zD Y (if_pos hg) (if_pos hg) zcJ (by omega) (zcH hlt) zat) (zq Y (fun hg=>zi Y (if_pos hg) zdS) (zq Y (fun hg=>zl Y (if_pos hg) Y znv) ?_))))))))
     refine zq Y (fun hg=>zB (av:=[_, _]) Y ⟨((if_pos hg)), ((if_pos hg)), trivial⟩ (Wr.f88 c l[k].cps (by omega) (by simp at hg; have:=ziu hg.2; omega) (by simp at hg; have:=ziu hg.2; exact fun g h=>Nat.le_trans (this.2 g h) (by omega)))) ?_
     refine zq Y (fun hg=>qJ Y (if_pos hg)) (zu Y (jf Y Y Y Y) (qF (zk (zA Y (fun h3=>?_) (fun h3=>?_)))))
     ·refine zn (zf (zB (av:=[]) Y trivial hkn) (zf (zg Y Y) (zo (zN (zP (zZ (zP (zP (zZ ?_)))))))))
      refine zP ?_
      exact ⟨.inr Y, AVle.refl _⟩
     ·simp at h3
      obtain ⟨⟨⟨hpk, hrk⟩, hbk⟩, hck⟩:=h3
      have hpk:=Ct.inB_iff.1 hpk
      have hbr:=ziu hbk
      have hcop:=hck.1
      have hc0:=hck.2
      have hptl:l[k].pt.toNat < f.vals.length:=by have h1:=hlen; change ((f.vals.length:Nat):Int) = f.wide * ((f.vals.length:Int) / f.wide) at h1; omega
      refine zH (zk (zt ?_))
      refine qY zgO ?_
      refine zfD (fun _=>True) (fun k=>match k with | 0=>.stable | 1=>.stable | 2=>.stable | 3=>.stable | 4=>.stable | 5=>.stable | 6=>.stable | 7=>.stable | 8=>.stable | 9=>.own 2 | 10=>.stable | 11=>.stable | 12=>.stable | 13=>.stable | 14=>.stable | 15=>.writes | 16=>.stable | _=>.here) mixed (by kernel_rfl) rfl (by kernel_rfl) trivial ?_
      refine jv Y Y (fun m hm=>zi Y Y zcr) (jv Y Y (fun m hm=>zl Y Y Y kN) (jv Y Y (fun m hm=>zI Y Y) (jv Y Y (fun m hm=>zh Y Y) (jv Y Y (fun m hm=>zD Y Y Y zcJ (by omega) (zcH hlt) zat) (jv Y Y (fun m hm=>zi Y Y vF) (jv Y Y (fun m hm=>zl Y Y Y ty3) (jv Y Y (fun m hm=>zD Y Y Y zjc (by omega) (zsd hptl) zbY) (jv Y Y (fun m hm=>zl Y Y Y ty3) ?_))))))))
      refine ztC Y Y (b24 Y Y Y) ?_
      refine jv Y Y (fun m hm=>zI Y Y) (jv Y Y (fun m hm=>zh Y Y) (jv Y Y (fun m hm=>zD Y Y Y zcJ (by omega) (zcH hlt) zat) (jv Y Y (fun m hm=>zi Y Y vV) (jv Y Y (fun m hm=>zl Y Y Y kN) ?_))))
      refine zpt Y Y (zbg Y Y Y (by simp) Y zt2 (by simp) (by simp) (by simp; omega) (by unfold maxLen; simp; omega)) trivial ?_
      refine jv Y Y (fun m hm=>jm Y Y) (zfa (zk (zt (zt ?_))))
      refine qY (zy (mem':=[.row [[I f.wide, I ((f.vals.length:Int) / f.wide), I slope, .psl 1 k]], .row ((l.take k).map (SE c)), .row (((ms f l[k]).map fun n=>[AV.v (.int .i64 n)]).map (·.map .pub))]) [(3, .pub (.sl (l.map eTw))), (4, I point), (5, I level), (6, .pub (.ptr (Wr.eCod c))), (7, .pub (.ptr (Ct.eFld f))), (13, .pp 0 1 0 0), (14, I (k:Int)), (15, .psl 2 (ms f l[k]).length)] ?_ ?_) ?_
      ·exact ⟨Y, Y, Y, Y, Y, Y, Y, (by refine congrArg (EV.psl 2) ?_; simp [ms, Nat.add_comm]), trivial⟩
      ·exact Y
      refine qY (zf4 (k:=2) (m:=(ms f l[k]).length) (rows:=((ms f l[k]).map fun n=>[AV.v (.int .i64 n)])) [15] Y (by simp) (fun d hd=>by simp at hd; subst hd; rfl)) ?_
      refine qY (zy (mem':=[.row [[I f.wide, I ((f.vals.length:Int) / f.wide), I slope, .psl 1 k]], .row ((l.take k).map (SE c)), .dead]) [(3, .pub (.sl (l.map eTw))), (4, I point), (5, I level), (6, .pub (.ptr (Wr.eCod c))), (7, .pub (.ptr (Ct.eFld f))), (13, .pp 0 1 0 0), (14, I (k:Int)), (15, .pub (Wr.eInts (ms f l[k])))] ?_ ?_) ?_
      ·exact ⟨Y, Y, Y, Y, Y, Y, Y, Y, trivial⟩
      ·exact Y
      refine qY (zoR 2 ?_ ?_) ?_
      ·exact ⟨trivial, trivial, trivial, trivial, trivial, (by show 0 < 2; omega), trivial, trivial, trivial⟩
      ·exact ⟨ztT, ztR, trivial⟩
      refine zx (zf (zK Y Y zjk (by exact zLb Y)) (zf (zI Y Y) ?_))
      refine zf (zB (av:=[_, _]) Y ⟨Y, Y, trivial⟩ (Wr.f32 c (ms f l[k]) (by simp [ms]; omega))) ?_
      refine zf (qJ Y Y) (zo (zA Y (fun h4=>?_) (fun h4=>?_)))
      ·refine zn (zf (zB (av:=[]) Y trivial hkn) (zf (zg Y Y) (zo (zN (zP (zZ (zP (zP (zZ ?_)))))))))
       refine zP ?_
       exact ⟨.inr Y, AVle.refl _⟩
      ·have hmsg:Wr.msgB c (ms f l[k]) = true:=by simpa using h4
       refine zH (zk (zt (zn (zf (zg Y Y) (zo (zF ?_))))))
       refine qm (ι:={ j:Nat // j <= l[k].cps.length /\ ∀ g ∈ l[k].cps.take j, Wr.canB c (ms f l[k]) g = true }) (fun j=>⟨Tryz.f4.ntmps, frL [(3, .pub (.sl (l.map eTw))), (4, I point), (5, I level), (6, .pub (.ptr (Wr.eCod c))), (7, .pub (.ptr (Ct.eFld f))), (13, .pp 0 1 0 0), (14, I (k:Int)), (15, .pub (Wr.eInts (ms f l[k]))), (16, I (j.1:Int))], [.row [[I f.wide, I ((f.vals.length:Int) / f.wide), I slope, .psl 1 k]], .row ((l.take k).map (SE c))]⟩) (fun j=>l[k].cps.length - j.1) (⟨0, by simp⟩) ?_ ?_
       ·exact zy _ ⟨Y, Y, Y, Y, Y, Y, Y, Y, Y, trivial⟩ (Y)
       ·rintro ⟨j, hj⟩
        dsimp only
        refine zt (zn (zf (zh Y Y) (zf (zI Y Y) (zf (zh Y Y) (zf (zD Y Y Y zcJ (by omega) (zcH hlt) zat) (zf (zi Y Y zdS) (zf (zl Y Y Y znv) (zf (qA Y Y Y Tryz.underlying74) (zf (qx Y Y Y) (zM ?_))))))))))
        refine zk (zA Y (fun h5=>?_) (fun h5=>?_))
        ·have hjl:j < l[k].cps.length:=by simpa [Wr.eCps] using h5
         refine zH (zk (zt (zF (zt ?_))))
         refine qp mixed (by kernel_rfl) Y ?_
         refine zu Y (zK Y Y zjk (by exact zLb Y)) (zu Y (zI Y Y) (zu Y (zI Y Y) (zu Y (zh Y Y) (zu Y (zD Y Y Y zcJ (by omega) (zcH hlt) zat) (zu Y (zi Y Y zdS) (zu Y (zl Y Y Y znv) (zu Y (zh Y Y) (zu Y (zD Y Y Y zlE (by omega) (zlU hjl) zil) (zu Y (zl Y Y Y zqZ) ?_)))))))))
         refine zu Y (zB (av:=[_, _, _]) Y ⟨Y, Y, Y, trivial⟩ (Wr.f68 c (ms f l[k]) l[k].cps[j] ⟨by omega, by omega⟩ (by simp [ms]; omega) (by have:=hbr.2 _ (List.getElem_mem hjl); omega) hcod hmsg (hcop _ (List.getElem_mem hjl)))) ?_
         refine zu Y (qJ Y Y) (qF (zk (zA Y (fun h6=>?_) (fun h6=>?_))))
         ·refine zn (zf (zB (av:=[]) Y trivial hkn) (zf (zg Y Y) (zo (zN (zZ (zP (zP (zZ (zP ?_)))))))))
          refine zZ (zP (zP (zZ (zP ?_))))
          exact ⟨.inr Y, AVle.refl _⟩
         ·have hcj:Wr.canB c (ms f l[k]) l[k].cps[j] = true:=by simpa using h6
          refine zH (zJ (zk (zx (zf (zh Y Y) (zf (zW Y Y Y ⟨by omega, by omega⟩) (zf (zg Y Y) (zM ?_)))))))
          exact ⟨⟨j + 1, by omega, zhp hj.2 hjl hcj⟩, by dsimp only; omega, zy _ ⟨Y, Y, Y, Y, Y, Y, Y, Y, Y, trivial⟩ (Y)⟩
        ·have hje:l[k].cps.length <= j:=by simpa [Wr.eCps] using h5
         have hcan:∀ g ∈ l[k].cps, Wr.canB c (ms f l[k]) g = true:=fun g hg=>hj.2 g (by rw [List.take_of_length_le (by omega)]; exact hg)
         have hfb:=Wr.fnd_bounds hcod hbr.1 (by omega) hcop hmsg hcan
         have hfst:0 < ((Wr.fndL c l[k].cps).getD 0 []).length:=(hfb.2.2.2.1 _ (by rw [List.getD_eq_getElem?_getD, List.getElem?_eq_getElem hfb.2.1]; exact List.getElem_mem _)).1
         have hlst:0 < ((Wr.fndL c l[k].cps).getD ((Wr.fndL c l[k].cps).length - 1) []).length:=(hfb.2.2.2.1 _ (by rw [List.getD_eq_getElem?_getD, List.getElem?_eq_getElem (by have:=hfb.2.1; omega)]; exact List.getElem_mem _)).1
         refine qg (zS (zS (qh (zk (zt ?_)))))
         refine qp mixed (by kernel_rfl) Y ?_
         refine zu Y (zK Y Y zjk (by exact zLb Y)) (zu Y (zI Y Y) (zu Y (zh Y Y) (zu Y (zD Y Y Y zcJ (by omega) (zcH hlt) zat) (zu Y (zi Y Y zdS) (zu Y (zl Y Y Y znv) ?_)))))
         refine zu Y (zB (av:=[_, _]) Y ⟨Y, Y, trivial⟩ (Wr.f24 c l[k].cps ⟨by omega, by omega⟩ (by omega) (fun g h=>Nat.le_trans (hbr.2 g h) (by omega)))) ?_
         refine zu Y (zI Y Y) (zu Y (zU Y Y Y) (zu Y (zU Y Y Y) (zu Y (qG Y Y) (zu Y (zg Y Y) (qF (zk (zt (zn (zf (zh Y Y) (zf (wE Y Y Y) ?_))))))))))
         refine zf (zh Y Y) (zC Y (fun hg=>zI Y Y) (zC Y (fun hg=>qA Y Y (if_pos hg) Tryz.underlying82) (zC Y (fun hg=>qR Y (if_pos hg) Y) (zf (jf Y Y Y Y) (zf (zh Y Y) (zC Y (fun hg=>zI Y Y) (zC Y (fun hg=>zD Y (if_pos hg) Y zla (by omega) (iF hfb.2.1) zeS) (zC Y (fun hg=>zl Y (if_pos hg) Y kN) (zC Y (fun hg=>qA Y Y (if_pos hg) Tryz.underlying24) (zC Y (fun hg=>qR Y (if_pos hg) Y) (zf (jf Y Y Y Y) ?_)))))))))))
         refine zf (zh Y Y) (zC Y (fun hg=>zI Y Y) (zC Y (fun hg=>zI Y Y) (zC Y (fun hg=>qA Y Y (if_pos hg) Tryz.underlying82) ?_)))
         refine zC Y (fun hg=>vN Y (if_pos hg) Y ⟨by rw [List.length_map]; omega, by rw [List.length_map]; omega⟩) ?_
         refine zC Y (fun hg=>zD Y (if_pos hg) (if_pos hg) zla (by simp; have:=hfb.2.1; omega) (iL hfb.2.1) zeS) ?_
         refine zC Y (fun hg=>zl Y (if_pos hg) Y kN) (zC Y (fun hg=>qA Y Y (if_pos hg) Tryz.underlying24) (zC Y (fun hg=>qR Y (if_pos hg) Y) (zf (jf Y Y Y Y) (zo (zA Y (fun h7=>?_) (fun h7=>?_))))))
         ·exfalso
          have e1:=hfb.2.1
          simp only[hfb.1, List.length_map, Bool.or_eq_true, beq_iff_eq, bne_iff_ne] at h7
          omega
         ·refine zH (zk ?_)
          refine zfD (fun mm=>∃ rows, mm[0]? = some (.row rows) /\ rows.length = 1) (fun k=>match k with | 0=>.stable | 2=>.stable | 3=>.stable | 4=>.stable | 5=>.stable | 6=>.stable | 7=>.stable | 8=>.stable | 9=>.stable | 10=>.stable | 11=>.stable | 12=>.stable | 13=>.stable | 14=>.stable | 15=>.stable | 16=>.stable | 17=>.stable | 18=>.stable | 19=>.stable | 20=>.stable | 21=>.stable | 23=>.writes | 24=>.stable | 25=>.writes | _=>.here) mixed (by kernel_rfl) rfl (by kernel_rfl) ⟨_, rfl, rfl⟩ ?_
          refine jv Y Y (fun m hm=>jJ Y Y hm.choose_spec.1 hm.choose_spec.2 zlc) (znG Y Y (zX Y Y Y Y Y Y zsX) (jv Y Y (fun m hm=>zI Y Y) (jv Y Y (fun m hm=>zh Y Y) (jv Y Y (fun m hm=>zD Y Y Y zcJ (by omega) (zcH hlt) zat) (jv Y Y (fun m hm=>zi Y Y vF) (jv Y Y (fun m hm=>zl Y Y Y ty3) (jv Y Y (fun m hm=>zI Y Y) (jv Y Y (fun m hm=>zD Y Y Y zla (by omega) (iF hfb.2.1) zeS) (jv Y Y (fun m hm=>zl Y Y Y kN) (jv Y Y (fun m hm=>zD Y Y Y zjc (by omega) (zq6 hfst) zbY) (jv Y Y (fun m hm=>zl Y Y Y ty3) ?_)))))))))))
          refine jv Y Y (fun m hm=>zI Y Y) (jv Y Y (fun m hm=>zI Y Y) (jv Y Y (fun m hm=>qA Y Y Y Tryz.underlying82) ?_))
          refine jv Y Y (fun m hm=>vN Y Y Y ⟨by rw [List.length_map]; omega, by rw [List.length_map]; omega⟩) ?_
          refine jv Y Y (fun m hm=>zD Y Y Y zla (by simp; have:=hfb.2.1; omega) (iL hfb.2.1) zeS) ?_
          refine jv Y Y (fun m hm=>zl Y Y Y kN) (jv Y Y (fun m hm=>zD Y Y Y zjc (by omega) (zq6 hlst) zbY) (jv Y Y (fun m hm=>zl Y Y Y ty3) ?_))
          refine jv Y Y (fun m hm=>yl (cs:=[_, _]) Y ztP Y ⟨_, _, Y, (qU Y), ⟨_, _, Y, (qU Y), Y⟩⟩ (by rfl) (by simp [ofV])) ?_
          refine jv Y Y (fun m hm=>yl (cs:=[_, _, _]) Y zug Y ⟨_, _, Y, (qU Y), ⟨_, _, Y, (zQ Y), Y⟩⟩ (by rfl) (by simp [ofV])) ?_
          refine znG Y Y (qy (size:=3) (rows:=[[_, _, _]]) Y Tryz.underlying67 ztU Y (by decide) Y (by decide) ⟨_, _, Y, (zQ Y), Y⟩ (by rfl) (by simp [ofV]) Y (by simp)) ?_
          refine zpt Y Y (zbg Y Y Y (by simp; omega) Y zt0 zrS (fun r hr=>by simp at hr; subst hr; rfl) (by simp; omega) (by unfold maxLen; simp; omega)) ⟨_, Y, Y⟩ ?_
          refine jv Y Y (fun m hm=>jJ Y Y hm.choose_spec.1 hm.choose_spec.2 zlc) ?_
          refine zpt Y Y (zd0 Y Y Y Y Y Y (zc7 Y Y (by simp; omega)) zsX (by rfl) (by rfl)) ⟨_, Y, Y⟩ ?_
          refine zfa (zJ (zk (zx (zf (zh Y Y) (zf (zW Y Y Y ⟨by omega, by omega⟩) (zf (zg Y Y) (zM ?_)))))))
          exact ⟨⟨k + 1, by omega, zhp hk.2 hlt ⟨hpk.1, hpk.2, hfb.2.2.2.2.2.2.1, hfb.2.2.2.2.1, hfb.2.2.2.2.2.1, hfb.2.2.2.2.2.2.2⟩⟩, by dsimp only; omega, zy _ ⟨Y, Y, Y, Y, Y, Y, Y, trivial⟩ ((mq Y (zp7 hlt)))⟩
    ·have hge:k = l.length:=by have:=h2; simp at this; omega
     subst hge
     have hgd:∀ s ∈ l.map (stw c), 0 <= s.pt /\ s.pt <= f.wide * ((f.vals.length:Int) / f.wide) - 1 /\ 0 <= s.lo /\ s.lo <= Ct.vAt f s.pt.toNat /\ Ct.vAt f s.pt.toNat <= s.hi /\ s.hi <= 99999:=fun s hs=>by
      obtain ⟨t, ht, rfl⟩:=List.mem_map.1 hs
      exact hk.2 t (by rw [List.take_length]; exact ht)
     obtain ⟨hM, hFM⟩:=znV hM0 hF0 (S:=l.map (stw c)) (by rw [List.length_map]; omega) hgd
     have hcl:=hFM.clash hM
     have hnp:=Ct.npt_bd hM
     have hnl:Ct.npt (mpK f slope (l.map (stw c))) = f.vals.length:=by have h1:=hFM.len; have h2:=hnp.1; omega
     have hbl:(Ct.bds (mpK f slope (l.map (stw c)))).length = f.vals.length:=by rw [← hnl]; simp [Ct.bds]
     obtain ⟨p, hp⟩:=Int.eq_ofNat_of_zero_le hpo.1
     subst hp
     have hpn:p < Ct.npt (mpK f slope (l.map (stw c))):=by have h1:=hFM.len; have h2:=hnp.1; have h3:=hpo.2; change (p:Int) <= f.wide * ((f.vals.length:Int) / f.wide) - 1 at h3; change ((f.vals.length:Nat):Int) = f.wide * ((f.vals.length:Int) / f.wide) at h1; omega
     refine qg (zS (zS (qh (zk (zt ?_)))))
     refine qY (zy (mem':=[.row [[I f.wide, I ((f.vals.length:Int) / f.wide), I slope, .psl 1 l.length]], .row (((l.map (stw c)).map Ct.eStn).map (·.map .pub))]) [(3, .pub (.sl (l.map eTw))), (4, I (p:Int)), (5, I level), (6, .pub (.ptr (Wr.eCod c))), (7, .pub (.ptr (Ct.eFld f))), (13, .pp 0 1 0 0)] ?_ ?_) ?_
     ·exact ⟨Y, Y, Y, Y, Y, Y, trivial⟩
     ·exact (mq Y znt)
     refine qY (zmE (k:=1) (c:=0) (i:=0) (j:=3) (rows:=(l.map (stw c)).map Ct.eStn) Y (by simp) Y Y Y Y) ?_
     refine qY (zmJ (k:=0) (cs:=Ct.eMp (mpK f slope (l.map (stw c)))) 13 Y Y) ?_
     refine zx (zf (zK Y Y zf2 (by exact zLb Y)) (zf (zK Y Y znL (by exact zLb Y)) (zf (zB (av:=[_, _]) Y ⟨Y, Y, trivial⟩ (Ct.f54_true (mpK f slope (l.map (stw c))) f (by omega) hM hfld hFM)) (zf (zI Y Y) (zf (zU Y Y Y) (zf (zU Y Y Y) (zf (zg Y Y) (zf (zg Y Y) (zo (zt ?_))))))))))
     refine zx (zf (zK Y Y zf2 (by exact zLb Y)) (zf (zB (av:=[_]) Y ⟨Y, trivial⟩ (Ct.f47_none (mpK f slope (l.map (stw c))) hM hcl)) (zf (zI Y Y) (zf (zU Y Y Y) (zf (zU Y Y Y) (zf (zU Y Y Y) (zf (zg Y Y) (zf (zg Y Y) (zf (zg Y Y) (zo ?_))))))))))
     refine zn (zf (zK Y Y zf2 (by exact zLb Y)) (zf (zB (av:=[_]) Y ⟨Y, trivial⟩ (Ct.f50_ok (mpK f slope (l.map (stw c))) hM hcl)) (zf (zI Y Y) (zf (zU Y Y Y) (zf (zU Y Y Y) (zf (qG Y Y) (zf (zg Y Y) (zo (zt ?_)))))))))
     refine zn (zf (zh Y Y) (zf (wE Y Y Y) (zf (zh Y Y) (zC Y (fun hg=>zh Y Y) (zC Y (fun hg=>qJ Y (Y)) (zf (jf Y Y Y Y) (zf (zh Y Y) (zC Y (fun hg=>zh Y Y) (zC Y (fun hg=>wE Y (Y) Y) (zf (jf Y Y Y Y) ?_))))))))))
     refine zf (zh Y Y) (zC Y (fun hg=>zh Y Y) (zC Y (fun hg=>wE Y (Y) Y) (zf (jf Y Y Y Y) (zf (zh Y Y) (zC Y (fun hg=>zI Y Y) (zC Y (fun hg=>qA Y Y (Y) Tryz.underlying23) (zC Y (fun hg=>zi Y Y zcr) (zC Y (fun hg=>zl Y (Y) Y kN) (zC Y (fun hg=>qA Y Y (Y) Tryz.underlying24) (zC Y (fun hg=>wE Y (Y) (Y)) (zf (jf Y Y Y Y) ?_)))))))))))
     refine zo (zA Y (fun h8=>?_) (fun h8=>?_))
     ·exfalso
      simp [Ct.eSpans, Ct.eInts, hbl] at h8
     ·refine zH (zk (zt (zn (zf (zg Y Y) (zo (zF ?_))))))
      refine qm (ι:={ i:Nat // True }) (fun i=>⟨Tryz.f4.ntmps, frL [(3, .pub (.sl (l.map eTw))), (4, I (p:Int)), (5, I level), (7, .pub (.ptr (Ct.eFld f))), (13, .pub (.ptr (Ct.eMp (mpK f slope (l.map (stw c)))))), (24, .pub (Ct.eSpans (Ct.bds (mpK f slope (l.map (stw c)))))), (26, I (i.1:Int))], [.dead, .dead]⟩) (fun i=>f.vals.length - i.1) (⟨0, trivial⟩) ?_ ?_
      ·exact zy _ ⟨Y, Y, Y, Y, Y, Y, Y, trivial⟩ (Y)
      ·rintro ⟨i, hi⟩
       dsimp only
       refine zt (zn (zf (zh Y Y) (zf (zI Y Y) (zf (qA Y Y Y Tryz.underlying23) (zf (qx Y Y Y) (zo (zA Y (fun h9=>?_) (fun h9=>?_))))))))
       ·have hib:i < (Ct.bds (mpK f slope (l.map (stw c)))).length:=by simpa [Ct.eSpans] using h9
        have hil:i < f.vals.length:=by omega
        refine zH (zk (zt (zF (zt ?_))))
        refine qp mixed (by kernel_rfl) Y ?_
        refine zu Y (zi Y Y zcr) (zu Y (zl Y Y Y kN) (zu Y (zh Y Y) (zu Y (zD Y Y Y zjc (by omega) (zlF (by omega)) zbY) (zu Y (zl Y Y Y ty3) (zu Y (zI Y Y) (zu Y (zh Y Y) (zu Y (zD Y Y Y yR (by omega) (zlm hib) zjI) (zu Y (zi Y Y zqK) (zu Y (zl Y Y Y ty3) (zu Y (qx Y Y Y) (zu Y (zh Y Y) ?_)))))))))))
        refine zq Y (fun hg=>zi Y Y zcr) (zq Y (fun hg=>zl Y (if_pos hg) Y kN) (zq Y (fun hg=>zh Y Y) (zq Y (fun hg=>zD Y (if_pos hg) (if_pos hg) zjc (by omega) (zlF (by omega)) zbY) (zq Y (fun hg=>zl Y (if_pos hg) Y ty3) (zq Y (fun hg=>zI Y Y) (zq Y (fun hg=>zh Y Y) (zq Y (fun hg=>zD Y (if_pos hg) (if_pos hg) yR (by omega) (zlm hib) zjI) (zq Y (fun hg=>zi Y (if_pos hg) zqc) (zq Y (fun hg=>zl Y (if_pos hg) Y ty3) (zq Y (fun hg=>jB Y (if_pos hg) (if_pos hg)) (zu Y (jf Y Y Y Y) ?_)))))))))))
        refine qF (zk (zA Y (fun h10=>?_) (fun h10=>?_)))
        ·exfalso
         have e0:=hfw.2.2 _ (List.getElem_mem hil)
         have e3:Ct.vAt f i = f.vals[i]:=by simp [Ct.vAt, List.getD, hil]
         have e1:=hFM.lo hM hil (by omega)
         have e2:=hFM.hi hM hil (by omega)
         rw [show (Ct.bds (mpK f slope (l.map (stw c))))[i] = (Ct.loOf _ _ (i:Int) _, Ct.hiOf _ _ (i:Int) _) by simp [Ct.bds]; exact ⟨rfl, rfl⟩] at h10
         simp at h10
         omega
        ·refine zH (zJ (zk (zx (zf (zh Y Y) (zf (zW Y Y Y ⟨by omega, by omega⟩) (zf (zg Y Y) (zM ?_)))))))
         exact ⟨⟨i + 1, trivial⟩, by dsimp only; omega, zy _ ⟨Y, Y, Y, Y, Y, Y, Y, trivial⟩ (Y)⟩
       ·refine qg (zS (zS (qh (zk (zt (zn (zf (zg Y Y) (zo (zF ?_)))))))))
        refine qm (ι:={ k:Nat // k < 3 }) (fun k=>match k.1 with | 0=>⟨Tryz.f4.ntmps, frL [(4, I (p:Int)), (5, I level), (7, .pub (.ptr (Ct.eFld f))), (13, .pub (.ptr (Ct.eMp (mpK f slope (l.map (stw c)))))), (27, I 0)], [.dead, .dead]⟩ | 1=>⟨Tryz.f4.ntmps, frL [(4, I (p:Int)), (5, I level), (7, .pub (.ptr (Ct.eFld f))), (13, .pub (.ptr (Ct.eMp (mpK f slope (l.map (stw c)))))), (27, I 1)], [.dead, .dead]⟩ | _=>⟨Tryz.f4.ntmps, frL [(4, I (p:Int)), (5, I level), (7, .pub (.ptr (Ct.eFld f))), (13, .pub (.ptr (Ct.eMp (mpK f slope (l.map (stw c)))))), (27, I 2)], [.dead, .dead]⟩) (fun k=>3 - k.1) (⟨0, by omega⟩) ?_ ?_
        ·exact zy _ ⟨Y, Y, Y, Y, Y, trivial⟩ (Y)
        ·rintro ⟨k, hk⟩
         have hk3:k = 0 ∨ k = 1 ∨ k = 2:=by omega
         rcases hk3 with rfl | rfl | rfl
         ·dsimp only
          refine zt (zn (zf (zh Y Y) (zf (qx Y Y Y) (zo (zA Y (fun h11=>?_) (fun h11=>?_))))))
          ·refine zH (zk (zt (zF (zn (zf (zK Y Y zf2 (by exact zLb Y)) (zf (zh Y Y) (zf (zh Y Y) (zf (zB (av:=[_, _, _]) Y ⟨Y, Y, Y, trivial⟩ (Ct.low_ok (mpK f slope (l.map (stw c))) p level hM hcl hpn hv)) (zf (zI Y Y) (zf (zU Y Y Y) ?_))))))))))
           refine zf (zU Y Y Y) (zf (zg Y Y) (zf (zg Y Y) (zo (zt (zn (zf (zh Y Y) (zf (qR Y Y Y) (zo (zA Y (fun h12=>?_) (fun h12=>?_))))))))))
           ·exfalso; simp at h12
           ·refine zH (zk (zn (zf (zK Y Y znL (by exact zLb Y)) (zf (zh Y Y) (zf (zh Y Y) (zf (zh Y Y) (zf (qR Y Y Y) (zf (zB (av:=[_, _, _, _]) Y ⟨Y, Y, Y, Y, trivial⟩ (Ct.f46 f p level _ hfld (by omega) (by omega))) (zf (zg Y Y) (zM ?_))))))))))
            refine zk (zn (zf (zh Y Y) (zf (wE Y Y Y) (zf (zh Y Y) (zC Y (fun hg=>zh Y Y) (zC Y (fun hg=>qR Y (Y) Y) (zC Y (fun hg=>zh Y (Y)) (zC Y (fun hg=>zh Y Y) (zC Y (fun hg=>qJ Y ((if_pos hg))) (zC Y (fun hg=>jg Y (Y) (vG hg) Y) ?_))))))))))
            refine zf (jf Y Y Y Y) (zf (zh Y Y) (zC Y (fun hg=>zh Y Y) (zC Y (fun hg=>qR Y ((if_pos hg)) Y) (zC Y (fun hg=>zh Y ((if_pos hg))) (zC (zT Y Y Y) (fun hg=>zh Y Y) (zC Y (fun hg=>jg Y ((if_pos hg)) (vG hg) Y) (zf (jf Y Y Y Y) (zo (zA Y (fun h13=>?_) (fun h13=>?_))))))))))
            ·exfalso
             simp [Ct.wdP] at h13
             have e1:=@Ct.sure_of _ hM p level false f hFM hfld (by omega) hpn
             have e2:=@Ct.is_of _ hM p level false f hFM hfld (by omega) hpn
             revert h13 e1 e2
             generalize Ct.wX _ _ _ _ = u
             generalize Ct.isP _ _ _ _ = v
             generalize Ct.closedR _ _ _ _ = w
             revert u v w; decide
            ·refine zH (zJ (zk (zx (zf (zh Y Y) (zf (zW Y Y Y ⟨by omega, by omega⟩) (zf (zg Y Y) (zM ?_)))))))
             exact ⟨⟨1, by omega⟩, by dsimp only; omega, (by refine zy (mem':=[.dead, .dead]) [(4, I (p:Int)), (5, I level), (7, .pub (.ptr (Ct.eFld f))), (13, .pub (.ptr (Ct.eMp (mpK f slope (l.map (stw c)))))), (27, I 1)] ?_ ?_; exact ⟨Y, Y, Y, Y, Y, trivial⟩; exact (Y))⟩
          ·exfalso; simp at h11
         ·dsimp only
          refine zt (zn (zf (zh Y Y) (zf (qx Y Y Y) (zo (zA Y (fun h11=>?_) (fun h11=>?_))))))
          ·refine zH (zk (zt (zF (zn (zf (zK Y Y zf2 (by exact zLb Y)) (zf (zh Y Y) (zf (zh Y Y) (zf (zB (av:=[_, _, _]) Y ⟨Y, Y, Y, trivial⟩ (Ct.low_ok (mpK f slope (l.map (stw c))) p level hM hcl hpn hv)) (zf (zI Y Y) (zf (zU Y Y Y) ?_))))))))))
           refine zf (zU Y Y Y) (zf (zg Y Y) (zf (zg Y Y) (zo (zt (zn (zf (zh Y Y) (zf (qR Y Y Y) (zo (zA Y (fun h12=>?_) (fun h12=>?_))))))))))
           ·refine zx (zf (zK Y Y zf2 (by exact zLb Y)) (zf (zh Y Y) (zf (zh Y Y) (zf (zB (av:=[_, _, _]) Y ⟨Y, Y, Y, trivial⟩ (Ct.high_ok (mpK f slope (l.map (stw c))) p level hM hcl hpn hv)) (zf (zI Y Y) (zf (zU Y Y Y) (zf (zU Y Y Y) (zf (zg Y Y) (zf (zg Y Y) (zo ?_))))))))))
            refine zn (zf (zK Y Y znL (by exact zLb Y)) (zf (zh Y Y) (zf (zh Y Y) (zf (zh Y Y) (zf (qR Y Y Y) (zf (zB (av:=[_, _, _, _]) Y ⟨Y, Y, Y, Y, trivial⟩ (Ct.f46 f p level _ hfld (by omega) (by omega))) (zf (zg Y Y) (zo (zt ?_)))))))))
            refine zx (zf (zh Y Y) (zf (wE Y Y Y) (zf (zh Y Y) (zC Y (fun hg=>zh Y Y) (zC Y (fun hg=>qR Y (Y) Y) (zC Y (fun hg=>zh Y (Y)) (zC Y (fun hg=>zh Y Y) (zC Y (fun hg=>qJ Y ((if_pos hg))) (zC Y (fun hg=>jg Y (Y) (vG hg) Y) (zf (jf Y Y Y Y) (zf (zh Y Y) ?_)))))))))))
            refine zC Y (fun hg=>zh Y Y) (zC Y (fun hg=>qR Y ((if_pos hg)) Y) (zC Y (fun hg=>zh Y ((if_pos hg))) (zC (zT Y Y Y) (fun hg=>zh Y Y) (zC Y (fun hg=>jg Y ((if_pos hg)) (vG hg) Y) (zf (jf Y Y Y Y) (zo (zA Y (fun h13=>?_) (fun h13=>?_))))))))
            ·exfalso
             simp [Ct.wdP] at h13
             have e1:=@Ct.sure_of _ hM p level true f hFM hfld (by omega) hpn
             have e2:=@Ct.is_of _ hM p level true f hFM hfld (by omega) hpn
             revert h13 e1 e2
             generalize Ct.wX _ _ _ _ = u
             generalize Ct.isP _ _ _ _ = v
             generalize Ct.closedR _ _ _ _ = w
             revert u v w; decide
            ·refine zH (zJ (zk (zx (zf (zh Y Y) (zf (zW Y Y Y ⟨by omega, by omega⟩) (zf (zg Y Y) (zM ?_)))))))
             exact ⟨⟨2, by omega⟩, by dsimp only; omega, (by refine zy (mem':=[.dead, .dead]) [(4, I (p:Int)), (5, I level), (7, .pub (.ptr (Ct.eFld f))), (13, .pub (.ptr (Ct.eMp (mpK f slope (l.map (stw c)))))), (27, I 2)] ?_ ?_; exact ⟨Y, Y, Y, Y, Y, trivial⟩; exact (Y))⟩
           ·exfalso; simp at h12
          ·exfalso; simp at h11
         ·dsimp only
          refine zt (zn (zf (zh Y Y) (zf (qx Y Y Y) (zo (zA Y (fun h11=>?_) (fun h11=>?_))))))
          ·exfalso; simp at h11
          ·refine qg (zS (zS (qh (zk (zn (zf (zB (av:=[]) Y trivial hkn) (zf (zg Y Y) (zo (zN ?_)))))))))
           exact ⟨.inr Y, AVle.refl _⟩
end Tp
end Go.Av
end
