import Derived.Test.YtgmbdadkbominaaGreatDoorHsA
import Derived.Test.YtgmbdadkbominaaGreatDoorPlatE
set_option linter.unusedVariables false
set_option linter.unusedSimpArgs false
section
namespace Go.Av
namespace Hs
open Go.Proofs
set_option maxRecDepth 100000
set_option maxHeartbeats 1000000
variable {G:Glob}
theorem zDu:fldIs Tryz.prog 158 0 0 = true:=by kernel_rfl
theorem zEF:fldIs Tryz.prog 158 1 9 = true:=by kernel_rfl
theorem zFO:tyIs Tryz.prog 156 false 1 = true:=by kernel_rfl
theorem zD1:tyIs Tryz.prog 276 true 2 = true:=by kernel_rfl
theorem zFf:(Tryz.prog.info? 276).bind (·.zero) = some (.agg #[.int .i64 0, .int .i64 0]):=by kernel_rfl
theorem zF4 (b:Bool):b = false ∨ b = true:=by cases b <;> simp
theorem zAD {w:Wt} {p:Nat × Nat}:p ∈ zzV w ↔ p.1 < w.reps.length /\ p.2 < w.reps.length /\ alP w p = true:=zA5
theorem zFZ {w:Wt} {k j:Nat} (hk:k < w.reps.length) (hj:j < w.reps.length) (hb:decide ((k, j) ∈ zzV w) = false):alP w (k, j) = false:=by
 rw [decide_eq_false_iff_not, zAD] at hb
 cases h:alP w (k, j) with
 | false=>rfl
 | true=>exact absurd ⟨hk, hj, h⟩ hb
theorem zFk {w:Wt} {k j:Nat} (hk:k < w.reps.length) (hj:j < w.reps.length) (hb:decide ((k, j) ∈ zzV w) = true):alP w (k, j) = true:=by
 rw [decide_eq_true_eq, zAD] at hb; exact hb.2.2
theorem zEr {w:Wt} {k:Nat}:∀ d, zBZ w k <+: zBZ w (k + d)
 | 0=>List.prefix_refl _
 | d + 1=>by rw [show k + (d + 1) = (k + d) + 1 by omega, zEn]; exact (zEr d).trans (List.prefix_append ..)
theorem zEs {w:Wt} {i m:Nat}:∀ d, rowA w i m <+: rowA w i (m + d)
 | 0=>List.prefix_refl _
 | d + 1=>by rw [show m + (d + 1) = (m + d) + 1 by omega, zD4]; exact (zEs d).trans (List.prefix_append ..)
def qsA (w:Wt):List (List AV):=(zzV w).map fun p=>[.agg [ei (p.1:Int), ei (p.2:Int)]]
theorem zGz {w:Wt} {k j:Nat} (hk:k < w.reps.length) (hj:j < w.reps.length) (hb:decide ((k, j) ∈ zzV w) = true):(qsA w)[(zBZ w k ++ rowA w k j).length]? = some [.agg [ei (k:Int), ei (j:Int)]]:=by
 have h1:zBZ w (k + 1) <+: zzV w:=by
  have:=zEr (w:=w) (k:=k + 1) (w.reps.length - (k + 1))
  rwa [show k + 1 + (w.reps.length - (k + 1)) = w.reps.length by omega] at this
 have h2:rowA w k (j + 1) <+: rowA w k w.reps.length:=by
  have:=zEs (w:=w) (i:=k) (m:=j + 1) (w.reps.length - (j + 1))
  rwa [show j + 1 + (w.reps.length - (j + 1)) = w.reps.length by omega] at this
 rw [zD4, zFk hk hj hb, cond_true] at h2
 rw [zEn] at h1
 have h3:zBZ w k ++ rowA w k j ++ [(k, j)] <+: zzV w:=by
  rw [List.append_assoc]
  exact ((List.prefix_append_right_inj _).2 h2).trans h1
 obtain ⟨t, ht⟩:=h3
 unfold qsA
 rw [List.getElem?_map, ← ht]
 simp
theorem lookA {fr:Nat -> EV} {mem:List PO} {o:Oper} {x i:Operand} {w:Wt} {k j:Nat} {b:Bool} (hb:decide ((k, j) ∈ zzV w) = b) (ho:o.op = .lookup 156 x i false) (hx:evO fr x = .pub (zFb zBz (esA (zzV w)))) (hi:evO fr i = .pub (.agg [ei (k:Int), ei (j:Int)])):OpY Tryz.prog G fr mem o (B b):=by
 have:=zE8 (P:=Tryz.prog) (G:=G) (fr:=fr) (mem:=mem) (enc:=zBz) ho hx hi (zFP k j) Tryz.underlying156 zGo zv4
 rw [zFz, hb] at this
 exact this
theorem zFF {w:Wt} (hP:WtP w):zcM Tryz.prog G 164 [.agg (eLk w)] [] (qsA w):=by
 have hlr:=hP.lr
 have hlm:(w.reps.map eRep).length = w.reps.length:=by simp
 refine ze2 (qs:=qsA w) Tryz.func164 rfl (by kernel_rfl) rfl rfl (fun C hC=>?_)
 refine jU ?_
 refine yf ?_
 refine zx (jy rfl rfl (ql rfl (zQ rfl)) (zM ?_))
 refine qE ?_
 refine jU ?_
 refine yf ?_
 refine zx (jy rfl rfl (zi rfl rfl zDu) (jy rfl rfl (zi rfl rfl zzR) (jy rfl rfl (zl rfl rfl rfl zq0) (jy rfl rfl (qA rfl rfl rfl Tryz.underlying29) ?_))))
 first | refine jy rfl rfl (zh rfl rfl) ?_ | refine jy rfl rfl (jq rfl rfl) ?_
 refine zM ?_
 refine qE ?_
 refine xG ?_
 refine zeM (ι:={ k:Nat // k <= w.reps.length }) (fun k=>⟨Tryz.f164.ntmps, frL [(1, .pub (.v (.func (.yield C.l) #[] #[]))), (2, .pub (.ptr (eLk w))), (10, I (((w.reps.map eRep).length:Nat):Int)), (11, I (k.1:Int))], []⟩) (fun k=>.on (zBZ w k.1).length) (fun k=>w.reps.length - k.1) (⟨0, by omega⟩) rfl ?_ ?_
 ·exact zy _ ⟨rfl, rfl, rfl, rfl, trivial⟩ rfl
 ·rintro ⟨k, hk⟩
  dsimp only
  refine jU ?_
  refine yf ?_
  refine zx (jy rfl rfl (qx rfl rfl rfl) (zM ?_))
  refine qE ?_
  refine jU ?_
  refine vW rfl (fun h0=>?_) (fun h0=>?_)
  ·have hlt:k < w.reps.length:=by simpa using h0
   refine y5 ?_
   refine qE ?_
   refine jU ?_
   refine xG ?_
   refine jU ?_
   refine yf ?_
   refine zx ?_
   first | refine jy rfl rfl (zh rfl rfl) ?_ | refine jy rfl rfl (jq rfl rfl) ?_
   refine jy rfl rfl (zg rfl rfl) (zM ?_)
   refine qE ?_
   refine jU ?_
   refine yf ?_
   refine zx (jy rfl rfl (zi rfl rfl zDu) (jy rfl rfl (zi rfl rfl zzR) (jy rfl rfl (zl rfl rfl rfl zq0) (jy rfl rfl (qA rfl rfl rfl Tryz.underlying29) ?_))))
   first | refine jy rfl rfl (zh rfl rfl) ?_ | refine jy rfl rfl (jq rfl rfl) ?_
   refine zM ?_
   refine qE ?_
   refine xG ?_
   refine zeM (ι:={ j:Nat // j <= w.reps.length }) (fun j=>⟨Tryz.f164.ntmps, frL [(1, .pub (.v (.func (.yield C.l) #[] #[]))), (2, .pub (.ptr (eLk w))), (10, I (((w.reps.map eRep).length:Nat):Int)), (4, I (k:Int)), (17, I (((w.reps.map eRep).length:Nat):Int)), (11, I (k:Int)), (18, I (j.1:Int))], []⟩) (fun j=>.on (zBZ w k ++ rowA w k j.1).length) (fun j=>w.reps.length - j.1) (⟨0, by omega⟩) (by simp [rowA]) ?_ ?_
   ·exact zy _ ⟨rfl, rfl, rfl, rfl, rfl, rfl, rfl, trivial⟩ rfl
   ·rintro ⟨j, hj⟩
    dsimp only
    refine jU ?_
    refine yf ?_
    refine zx (jy rfl rfl (qx rfl rfl rfl) (zM ?_))
    refine qE ?_
    refine jU ?_
    refine vW rfl (fun h1=>?_) (fun h1=>?_)
    ·have hjl:j < w.reps.length:=by simpa using h1
     refine y5 ?_
     refine qE ?_
     refine jU ?_
     refine xG ?_
     refine jU ?_
     refine yf ?_
     refine zx ?_
     first | refine jy rfl rfl (zh rfl rfl) ?_ | refine jy rfl rfl (jq rfl rfl) ?_
     refine jy rfl rfl (zg rfl rfl) (zM ?_)
     refine qE ?_
     refine jU ?_
     refine yf ?_
     refine zx ?_
     first | refine jy rfl rfl (zh rfl rfl) ?_ | refine jy rfl rfl (jq rfl rfl) ?_
     first | refine jy rfl rfl (zh rfl rfl) ?_ | refine jy rfl rfl (jq rfl rfl) ?_
     refine jy rfl rfl (yl (cs:=[_, _]) rfl zFL rfl ⟨_, _, rfl, qU rfl, ⟨_, _, rfl, qU rfl, rfl⟩⟩ (by rfl) (by simp [ofV])) ?_
     refine qP rfl rfl rfl rfl rfl rfl rfl zFf zD1 rfl (by rfl) (zQ rfl) rfl ?_
     refine zM ?_
     refine qE ?_
     refine jU ?_
     refine Or.elim (zF4 (decide ((k, j) ∈ zzV w))) (fun hb=>?_) (fun hb=>?_)
     ·refine zaj (zy (mem':=[]) [(1, .pub (.v (.func (.yield C.l) #[] #[]))), (2, .pub (.ptr (eLk w))), (10, I (((w.reps.map eRep).length:Nat):Int)), (4, I (k:Int)), (17, I (((w.reps.map eRep).length:Nat):Int)), (6, .pub (.ptr [ei (k:Int), ei (j:Int)])), (11, I (k:Int)), (18, I (j:Int))] ⟨rfl, rfl, rfl, rfl, rfl, rfl, rfl, rfl, trivial⟩ rfl) ?_
      refine yT ?_
      refine vX rfl rfl (zi rfl rfl zEF) ?_
      refine vX rfl rfl (zl rfl rfl rfl zFO) ?_
      refine vX rfl rfl (zK rfl rfl zD1 (by exact zLb rfl)) ?_
      refine vX rfl rfl (lookA hb rfl rfl rfl) ?_
      refine vX rfl rfl (zh rfl rfl) ?_
      refine qN (x:=.pub .top) rfl rfl rfl (fun h=>absurd h (by decide)) ?_
      refine qN (x:=.pub .top) rfl rfl rfl (fun h=>absurd h (by decide)) ?_
      refine xJ (q:=[]) (c:=false) rfl rfl rfl rfl (fun h=>absurd h (by decide)) (fun h=>absurd h (by decide)) (fun h=>absurd h (by decide)) rfl rfl rfl rfl rfl (fun _=>?_) (fun h=>absurd h (by decide)) (fun h=>absurd h (by decide))
      refine qN (x:=.pub .top) rfl rfl rfl (fun h=>absurd h (by decide)) ?_
      refine vX rfl rfl (yZ rfl rfl (fun h=>absurd h (by decide)) (fun _=>rfl)) ?_
      refine zas ?_
      refine qE ?_
      refine vW (b:=false) rfl (fun h=>absurd h (by decide)) (fun _=>?_)
      refine y5 ?_
      refine yS ?_
      refine qE ?_
      refine yf ?_
      refine zx (jy rfl rfl (zW rfl rfl rfl ⟨by omega, by omega⟩) ?_)
      first | refine jy rfl rfl (zh rfl rfl) ?_ | refine jy rfl rfl (jq rfl rfl) ?_
      refine zM ?_
      exact ⟨⟨j + 1, by omega⟩, by dsimp only; omega, (by rw [zEX (zFZ hlt hjl hb)]), zy _ ⟨rfl, rfl, rfl, rfl, rfl, rfl, rfl, trivial⟩ rfl⟩
     ·refine zaj (zy (mem':=[]) [(1, .pub (.v (.func (.yield C.l) #[] #[]))), (2, .pub (.ptr (eLk w))), (10, I (((w.reps.map eRep).length:Nat):Int)), (4, I (k:Int)), (17, I (((w.reps.map eRep).length:Nat):Int)), (6, .pub (.ptr [ei (k:Int), ei (j:Int)])), (11, I (k:Int)), (18, I (j:Int))] ⟨rfl, rfl, rfl, rfl, rfl, rfl, rfl, rfl, trivial⟩ rfl) ?_
      refine yT ?_
      refine vX rfl rfl (zi rfl rfl zEF) ?_
      refine vX rfl rfl (zl rfl rfl rfl zFO) ?_
      refine vX rfl rfl (zK rfl rfl zD1 (by exact zLb rfl)) ?_
      refine vX rfl rfl (lookA hb rfl rfl rfl) ?_
      refine vX rfl rfl (zh rfl rfl) ?_
      refine qN rfl rfl rfl (fun _=>zh rfl rfl) ?_
      refine qN rfl rfl rfl (fun _=>zK rfl rfl zD1 (by exact zLb rfl)) ?_
      refine xJ (q:=[.agg [ei (k:Int), ei (j:Int)]]) (c:=true) rfl rfl rfl rfl (fun _=>rfl) (fun _=>rfl) (fun _=>by rw [hC]; exact zGz hlt hjl hb) rfl rfl rfl rfl rfl (fun h=>absurd h (by decide)) (fun _=>?_) (fun _=>?_)
      ·refine qN rfl rfl rfl (fun _=>qJ rfl rfl) ?_
       refine vX rfl rfl (yZ rfl rfl (fun _=>rfl) (fun h=>absurd h (by decide))) ?_
       refine zas ?_
       refine qE ?_
       refine vW (b:=false) rfl (fun h=>absurd h (by decide)) (fun _=>?_)
       refine y5 ?_
       refine yS ?_
       refine qE ?_
       refine yf ?_
       refine zx (jy rfl rfl (zW rfl rfl rfl ⟨by omega, by omega⟩) ?_)
       first | refine jy rfl rfl (zh rfl rfl) ?_ | refine jy rfl rfl (jq rfl rfl) ?_
       refine zM ?_
       exact ⟨⟨j + 1, by omega⟩, by dsimp only; omega, (by rw [zD4, zFk hlt hjl hb]; simp [Nat.add_assoc]), zy _ ⟨rfl, rfl, rfl, rfl, rfl, rfl, rfl, trivial⟩ rfl⟩
      ·refine qN rfl rfl rfl (fun _=>qJ rfl rfl) ?_
       refine vX rfl rfl (yZ rfl rfl (fun _=>rfl) (fun h=>absurd h (by decide))) ?_
       refine zas ?_
       refine qE ?_
       refine vW (b:=true) rfl (fun _=>?_) (fun h=>absurd h (by decide))
       refine zhR ?_
       refine zc9 ?_
       refine zc1 ?_
       refine zc1 ?_
       refine zc9 ?_
       refine zc9 ?_
       refine zc1 ?_
       refine zc1 ?_
       refine zc9 ?_
       exact ⟨.inr rfl, rfl, .inr ⟨_, rfl⟩⟩
    ·have hje:j = w.reps.length:=by simp at h1; omega
     subst hje
     refine zeV ?_
     refine zbc ?_
     refine zbc ?_
     refine zeP ?_
     refine yS ?_
     refine qE ?_
     refine yf ?_
     refine zx (jy rfl rfl (zW rfl rfl rfl ⟨by omega, by omega⟩) ?_)
     first | refine jy rfl rfl (zh rfl rfl) ?_ | refine jy rfl rfl (jq rfl rfl) ?_
     refine zM ?_
     exact ⟨⟨k + 1, by omega⟩, by dsimp only; omega, (by rw [zEn]), zy _ ⟨rfl, rfl, rfl, rfl, trivial⟩ rfl⟩
  ·have hge:k = w.reps.length:=by simp at h0; omega
   subst hge
   refine zeV ?_
   refine zbc ?_
   refine zbc ?_
   refine zeP ?_
   exact ⟨.inl rfl, rfl, .inl (by simp [qsA, zzV])⟩
end Hs
end Go.Av
end
section
namespace Go.Av
namespace Hs
open Go.Proofs
set_option maxRecDepth 100000
set_option maxHeartbeats 1000000
variable {G:Glob}
theorem zEB:fldIs Tryz.prog 276 0 0 = true:=by kernel_rfl
theorem zEJ:fldIs Tryz.prog 276 1 1 = true:=by kernel_rfl
theorem zjc:kw Tryz.prog 24 1 = true:=by kernel_rfl
theorem kN:tyIs Tryz.prog 24 false 1 = true:=by kernel_rfl
theorem ty4:tyIs Tryz.prog 4 false 1 = true:=by kernel_rfl
abbrev eI (ds:List Int):AV:=.sl (ds.map fun n=>[ei n])
structure DlP (w:Wt) (ds:List Int):Prop where
 len:ds.length = w.reps.length
 bd:∀ d ∈ ds, 0 <= d /\ d <= 2880
theorem zFG {ds:List Int} {i:Nat} (h:i < ds.length):(ds.map fun n=>[ei n])[i]? = some [ei (ds.getD i 0)]:=by simp [h]
theorem zBA {ds:List Int}:∀ q ∈ ds.map fun n=>[ei n], q.length = 1:=zz7 fun _=>rfl
theorem zFE {w:Wt} {ds:List Int} (hd:DlP w ds) {i:Nat} (h:i < w.reps.length):0 <= ds.getD i 0 /\ ds.getD i 0 <= 2880:=by
 have h2:i < ds.length:=by rw [hd.len]; exact h
 rw [List.getD_eq_getElem?_getD, List.getElem?_eq_getElem h2]
 exact hd.bd _ (List.getElem_mem h2)
def seN (w:Wt) (ds:List Int) (p:Nat × Nat):Int:=max ((rpW w p.1).tk + ds.getD p.1 0) ((rpW w p.2).tk + ds.getD p.2 0)
def enN (w:Wt) (p:Nat × Nat):Int:=max (rpW w p.1).tk (rpW w p.2).tk + w.hold
def zAB (w:Wt) (ds:List Int) (at':Int):Bool:=(zzV w).any fun p=>decide (seN w ds p <= at') && decide (at' < enN w p)
theorem zFh {α:Type} {f:α -> Bool} {l:List α} {j:Nat} {x:α} (h:(l.take j).any f = false) (hx:l[j]? = some x) (hf:f x = false):(l.take (j + 1)).any f = false:=by
 have hl:j < l.length:=(zLg hx).1
 have he:l[j] = x:=(zLg hx).2
 rw [List.take_succ_eq_append_getElem hl, List.any_append, h, he]; simp [hf]
def qfA (p:Nat × Nat):List AV:=[.agg [ei (p.1:Int), ei (p.2:Int)]]
theorem zEU {w:Wt} {j:Nat} {x:Nat × Nat} (hx:(zzV w)[j]? = some x):x.1 < w.reps.length /\ x.2 < w.reps.length:=by
 have:=zAD.1 (List.mem_of_getElem? hx); exact ⟨this.1, this.2.1⟩
theorem f165 {w:Wt} (hP:WtP w) {ds:List Int} (hd:DlP w ds) (p:Nat × Nat) (hi:p.1 < w.reps.length) (hj:p.2 < w.reps.length):ACall Tryz.prog G 165 [.agg (eLk w), .agg [ei (p.1:Int), ei (p.2:Int)], eI ds] (.tup [ei (seN w ds p), ei (enN w p)]):=by
 have hlr:=hP.lr
 have hho:=hP.hold
 have hr1:=zz4 (zBi hP hi)
 have hr2:=zz4 (zBi hP hj)
 have hd1:=zFE hd hi
 have hd2:=zFE hd hj
 refine zO Tryz.func165 rfl (by kernel_rfl) rfl ?_
 refine zn (jy rfl rfl (ql rfl (zQ rfl)) (jy rfl rfl (ql rfl (zQ rfl)) (jy rfl rfl (zg rfl rfl) (jy rfl rfl (zg rfl rfl) (zo (zt ?_))))))
 refine qY zgO ?_
 refine qY zgO ?_
 refine zfD (fun _=>True) (fun k=>match k with | 0=>.stable | 1=>.stable | 2=>.stable | 3=>.stable | 4=>.stable | 5=>.stable | 6=>.stable | 7=>.stable | 8=>.stable | 9=>.stable | 10=>.stable | 11=>.stable | 12=>.stable | 13=>.stable | 14=>.own 0 | 15=>.own 1 | 16=>.writes | 17=>.writes | _=>.here) mixed (by kernel_rfl) rfl (by kernel_rfl) trivial ?_
 refine jv rfl rfl (fun m hm=>zi rfl rfl zDu) (jv rfl rfl (fun m hm=>zi rfl rfl zzR) (jv rfl rfl (fun m hm=>zl rfl rfl rfl zq0) (jv rfl rfl (fun m hm=>zi rfl rfl zEB) (jv rfl rfl (fun m hm=>zl rfl rfl rfl ty3) ?_))))
 refine jv rfl rfl (fun m hm=>zD rfl rfl rfl zA1 (by omega) (by exact zD0 (k:=p.1) hi) zDU) ?_
 refine jv rfl rfl (fun m hm=>zK rfl rfl zAs (by exact zLb rfl)) (jv rfl rfl (fun m hm=>zi rfl rfl zDu) (jv rfl rfl (fun m hm=>zi rfl rfl zzR) (jv rfl rfl (fun m hm=>zl rfl rfl rfl zq0) (jv rfl rfl (fun m hm=>zi rfl rfl zEJ) (jv rfl rfl (fun m hm=>zl rfl rfl rfl ty3) ?_)))))
 refine jv rfl rfl (fun m hm=>zD rfl rfl rfl zA1 (by omega) (by exact zD0 (k:=p.2) hj) zDU) ?_
 refine jv rfl rfl (fun m hm=>zK rfl rfl zAs (by exact zLb rfl)) ?_
 refine ztC rfl rfl (zmH rfl zFp rfl rfl rfl) ?_
 refine ztC rfl rfl (zmH rfl zFp rfl rfl rfl) ?_
 refine zpt rfl rfl (zd0 rfl rfl rfl rfl rfl rfl (zQ rfl) zAs (by rfl) (by rfl)) trivial ?_
 refine zpt rfl rfl (zd0 rfl rfl rfl rfl rfl rfl (zQ rfl) zAs (by rfl) (by rfl)) trivial ?_
 refine zfa (zk (zt ?_))
 refine qp mixed (by kernel_rfl) rfl ?_
 refine zu rfl (jJ rfl rfl rfl rfl zDx) (zu rfl (zX rfl rfl rfl rfl rfl rfl ty3) (zu rfl (zI rfl rfl) (zu rfl (zi rfl rfl zEB) (zu rfl (zl rfl rfl rfl ty3) ?_))))
 refine zu rfl (zD rfl rfl rfl zjc (by omega) (by exact zFG (i:=p.1) (by rw [hd.len]; exact hi)) zBA) ?_
 refine zu rfl (zl rfl rfl rfl ty3) (zu rfl (zW rfl rfl rfl ⟨by omega, by omega⟩) (zu rfl (jJ rfl rfl rfl rfl zDx) (zu rfl (zX rfl rfl rfl rfl rfl rfl ty3) (zu rfl (zI rfl rfl) (zu rfl (zi rfl rfl zEJ) (zu rfl (zl rfl rfl rfl ty3) ?_))))))
 refine zu rfl (zD rfl rfl rfl zjc (by omega) (by exact zFG (i:=p.2) (by rw [hd.len]; exact hj)) zBA) ?_
 refine zu rfl (zl rfl rfl rfl ty3) (zu rfl (zW rfl rfl rfl ⟨by omega, by omega⟩) (zu rfl (zrp rfl rfl rfl) (zu rfl (jJ rfl rfl rfl rfl zDx) (zu rfl (zX rfl rfl rfl rfl rfl rfl ty3) (zu rfl (jJ rfl rfl rfl rfl zDx) (zu rfl (zX rfl rfl rfl rfl rfl rfl ty3) (zu rfl (zrp rfl rfl rfl) (zu rfl (zi rfl rfl zDu) (zu rfl (zi rfl rfl zEl) (zu rfl (zl rfl rfl rfl ty3) (zu rfl (zW rfl rfl rfl ⟨by omega, by omega⟩) ?_)))))))))))
 refine zu rfl (zg rfl rfl) (zu rfl (zg rfl rfl) (qF (zk (zN ?_))))
 exact ⟨.inr rfl, ⟨_, rfl, ⟨_, _, rfl, AVle.refl _, ⟨_, _, rfl, AVle.refl _, rfl⟩⟩⟩⟩
theorem f65 {w:Wt} (hP:WtP w) {ds:List Int} (hd:DlP w ds) (t:Int):ACall Tryz.prog G 65 [.agg (eLk w), eI ds, ei t] (.v (.bool (zAB w ds t))):=by
 have hlr:=hP.lr
 have hho:=hP.hold
 refine zO Tryz.func65 rfl (by kernel_rfl) rfl ?_
 refine zn (jy rfl rfl (ql rfl (zQ rfl)) (jy rfl rfl (ql (cs:=[_]) rfl (zjo rfl)) (jy rfl rfl (ql (cs:=[_]) rfl (qU rfl)) (qL rfl (jr rfl rfl zv4 rfl rfl) (zo (zt (zn (jy rfl rfl (zK rfl rfl zDy (by exact zLb rfl)) ?_))))))))
 refine jy rfl rfl (wC (fs:=[_]) (cs:=[]) rfl rfl rfl) (zo (zF ?_))
 refine zgG (zzV w) (qfA) [3, 4, 5, 6] (fun j=>((zzV w).take j).any (fun p=>decide (seN w ds p <= t) && decide (t < enN w p)) = false) (fun j=>[.row [[B false]]]) (by simp) rfl (zFF hP) rfl (fun _=>rfl) rfl rfl ?_ ?_
 ·intro j x gh lp hd1 hd2 hq hV
  have hxi:=zEU hq
  refine zx ?_
  refine qP  rfl rfl rfl rfl rfl rfl rfl zFf zD1 rfl (by rfl) (zQ rfl) rfl ?_
  refine zM ?_
  refine ⟨rfl, rfl, ?_⟩
  refine zF (zn (jy rfl rfl (zK rfl rfl zDy (by exact zLb rfl)) (jy rfl rfl (zK rfl rfl zD1 (by exact zLb rfl)) (jy rfl rfl (zl rfl rfl rfl kN) (jy rfl rfl (zB (av:=[_, _, _]) rfl ⟨rfl, rfl, rfl, trivial⟩ (f165 hP hd x hxi.1 hxi.2)) (jy rfl rfl (zI rfl rfl) (jy rfl rfl (zU rfl rfl rfl) (jy rfl rfl (zU rfl rfl rfl) (jy rfl rfl (zg rfl rfl) (jy rfl rfl (zg rfl rfl) ?_))))))))))
  refine zo (zn (jy rfl rfl (zh rfl rfl) (jy rfl rfl (zl rfl rfl rfl ty3) (jy rfl rfl (zbt rfl rfl rfl) (jy rfl rfl (zh rfl rfl) (zjW rfl rfl rfl (fun hg=>zl rfl rfl rfl ty3) (zjW rfl rfl rfl (fun hg=>zh rfl rfl) (zjW rfl rfl rfl (fun hg=>qx rfl (if_pos hg) (if_pos hg)) (jy rfl rfl (jg rfl rfl rfl rfl) ?_)))))))))
  refine zo (zA rfl (fun h0=>?_) (fun h0=>?_))
  ·have hye:zAB w ds t = true:=List.any_eq_true.2 ⟨x, List.mem_of_getElem? hq, by simpa using h0⟩
   refine zn ?_
   refine qL rfl (qw rfl rfl rfl rfl rfl rfl (qU rfl) ty4 (by rfl) (by exact zLb rfl)) ?_
   refine zo (zN (zZ ?_))
   refine ⟨rfl, ?_⟩
   refine zZ (zP ?_)
   exact ⟨.inr rfl, zcp rfl (wH rfl rfl rfl rfl ty4 rfl (AVle.of (by rw [hye])))⟩
  ·refine zH (zJ ?_)
   exact ⟨rfl, zFh hV hq (by simpa using h0), zy (mem':=[.row [[B false]]]) [] trivial (rfl)⟩
 ·intro hVn
  have hno:zAB w ds t = false:=by have h:=hVn; rwa [List.take_length] at h
  refine zJ (zk (zn ?_))
  refine qL rfl (qw rfl rfl rfl rfl rfl rfl (qU rfl) ty4 (by rfl) (by exact zLb rfl)) ?_
  refine zo (zN ?_)
  exact ⟨.inr rfl, zcp rfl (wH rfl rfl rfl rfl ty4 rfl (AVle.of (by rw [hno])))⟩
end Hs
end Go.Av
end
section
namespace Go.Av
namespace Hs
open Go.Proofs
set_option maxRecDepth 100000
set_option maxHeartbeats 1000000
variable {G:Glob}
theorem zv3:(Tryz.prog.info? 3).bind (·.zero) = some (.int .i64 0):=by kernel_rfl
theorem zGj:vM Tryz.prog 278 [(0, 1)] [.int .i64 0]:=⟨_, Tryz.underlying278, by kernel_rfl, by kernel_rfl⟩
theorem zGe:(Tryz.prog.info? 278).bind (·.zero) = some (.agg #[.int .i64 0]):=by kernel_rfl
theorem zGf:tyIs Tryz.prog 278 true 1 = true:=by kernel_rfl
def bsB (w:Wt) (ds:List Int) (b:Int) (p:Nat × Nat):Bool:=decide (seN w ds p < enN w p) && (decide (b < 0) || decide (seN w ds p < b))
def bsN (w:Wt) (ds:List Int) (b:Int) (p:Nat × Nat):Int:=bif bsB w ds b p then seN w ds p else b
def zBx (w:Wt) (ds:List Int) (l:List (Nat × Nat)):Int:=l.foldl (bsN w ds) (-1)
def zzX (w:Wt) (ds:List Int):Option Int:=if zBx w ds (zzV w) < 0 then none else some (zBx w ds (zzV w))
theorem zEw {w:Wt} {ds:List Int} {l:List (Nat × Nat)} {j:Nat} {x:Nat × Nat} (h:l[j]? = some x):zBx w ds (l.take (j + 1)) = bsN w ds (zBx w ds (l.take j)) x:=by
 have hl:j < l.length:=(zLg h).1
 have he:l[j] = x:=(zLg h).2
 unfold zBx
 rw [List.take_succ_eq_append_getElem hl, List.foldl_append, he]; rfl
theorem zGx {w:Wt} {ds:List Int} {l:List (Nat × Nat)} {j:Nat} {x:Nat × Nat} (hb:bsB w ds (zBx w ds (l.take j)) x = true) (h:l[j]? = some x):[PO.row [[I (seN w ds x)]]] = [PO.row [[I (zBx w ds (l.take (j + 1)))]]]:=by rw [zEw h, bsN, hb]; rfl
theorem zGw {w:Wt} {ds:List Int} {l:List (Nat × Nat)} {j:Nat} {x:Nat × Nat} (hb:bsB w ds (zBx w ds (l.take j)) x = false) (h:l[j]? = some x):[PO.row [[I (zBx w ds (l.take j))]]] = [PO.row [[I (zBx w ds (l.take (j + 1)))]]]:=by rw [zEw h, bsN, hb]; rfl
def pvS:AV:=.ifc 278 (.agg [.top])
theorem zFc {w:Wt} {ds:List Int} (h:zBx w ds (zzV w) < 0):zzX w ds = none:=if_pos h
theorem zBw {w:Wt} {ds:List Int} (h:¬ zBx w ds (zzV w) < 0):zzX w ds = some (zBx w ds (zzV w)):=if_neg h
theorem f162 {w:Wt} (hP:WtP w) {ds:List Int} (hd:DlP w ds):XCall Tryz.prog G 162 [.agg (eLk w), eI ds] (zDa pvS (fun x=>ei x) (zzX w ds)):=by
 have hlr:=hP.lr
 have hho:=hP.hold
 refine zFt Tryz.func162 rfl (by kernel_rfl) rfl ?_
 refine zn (jy rfl rfl (ql rfl (zQ rfl)) (jy rfl rfl (ql (cs:=[_]) rfl (zjo rfl)) (jy rfl rfl (zg rfl rfl) (zo (zn (qL rfl (jr rfl rfl zv3 rfl rfl) ?_))))))
 refine qL rfl (qw rfl rfl rfl rfl rfl rfl (qU rfl) ty3 (by rfl) (by exact zLb rfl)) ?_
 refine zo (zt (zn (jy rfl rfl (zK rfl rfl zDy (by exact zLb rfl)) (jy rfl rfl (wC (fs:=[_]) (cs:=[]) rfl rfl rfl) (zo (zF ?_))))))
 refine zgG (zzV w) (qfA) [2, 3, 5] (fun j=>True) (fun j=>[.row [[I (zBx w ds ((zzV w).take j))]]]) (trivial) rfl (zFF hP) rfl (fun _=>rfl) rfl rfl ?_ ?_
 ·intro j x gh lp hd1 hd2 hq hV
  have hxi:=zEU hq
  refine zx ?_
  refine qP  rfl rfl rfl rfl rfl rfl rfl zFf zD1 rfl (by rfl) (zQ rfl) rfl ?_
  refine zM ?_
  refine ⟨rfl, rfl, ?_⟩
  refine zF (zn (jy rfl rfl (zK rfl rfl zDy (by exact zLb rfl)) (jy rfl rfl (zK rfl rfl zD1 (by exact zLb rfl)) (jy rfl rfl (zl rfl rfl rfl kN) (jy rfl rfl (zB (av:=[_, _, _]) rfl ⟨rfl, rfl, rfl, trivial⟩ (f165 hP hd x hxi.1 hxi.2)) (jy rfl rfl (zI rfl rfl) (jy rfl rfl (zU rfl rfl rfl) (jy rfl rfl (zU rfl rfl rfl) (jy rfl rfl (zg rfl rfl) (jy rfl rfl (zg rfl rfl) ?_))))))))))
  refine zo (zn (jy rfl rfl (zh rfl rfl) (jy rfl rfl (zh rfl rfl) (jy rfl rfl (qx rfl rfl rfl) (jy rfl rfl (zh rfl rfl) (zjW rfl rfl rfl (fun hg=>zX rfl rfl rfl rfl rfl rfl ty3) (zjW rfl rfl rfl (fun hg=>qx rfl (if_pos hg) rfl) (zjW rfl rfl rfl (fun hg=>zh rfl (if_pos hg)) (zjW rfl (zT rfl rfl rfl) rfl (fun hg=>zh rfl rfl) ?_)))))))))
  refine zjW rfl (zT rfl rfl rfl) rfl (fun hg=>zX rfl rfl rfl rfl rfl rfl ty3) (zjW rfl (zT rfl rfl rfl) rfl (fun hg=>qx rfl (if_pos hg) (if_pos hg)) (zjW rfl rfl rfl (fun hg=>jf rfl (if_pos hg) rfl (vG hg)) (jy rfl rfl (jg rfl rfl rfl rfl) (zo (zA rfl (fun h0=>?_) (fun h0=>?_))))))
  ·have hb:bsB w ds (zBx w ds ((zzV w).take j)) x = true:=by simpa [bsB] using h0
   refine zx (jy rfl rfl (zh rfl rfl) ?_)
   refine qL rfl (qw rfl rfl rfl rfl rfl rfl (qU rfl) ty3 (by rfl) (by exact zLb rfl)) ?_
   refine zM (zJ ?_)
   exact ⟨rfl, trivial, zy (mem':=[.row [[I (zBx w ds ((zzV w).take (j + 1)))]]]) [] trivial ((zGx hb hq))⟩
  ·have hb:bsB w ds (zBx w ds ((zzV w).take j)) x = false:=by simpa [bsB] using h0
   refine zH (zJ ?_)
   exact ⟨rfl, trivial, zy (mem':=[.row [[I (zBx w ds ((zzV w).take (j + 1)))]]]) [] trivial ((zGw hb hq))⟩
 ·intro hVn
  rw [List.take_length]
  refine zJ (zk (zt (zn (jy rfl rfl (zX rfl rfl rfl rfl rfl rfl ty3) (jy rfl rfl (qx rfl rfl rfl) (zo (zA rfl (fun h1=>?_) (fun h1=>?_))))))))
  ·have hnone:=zFc (w:=w) (ds:=ds) (by simpa using h1)
   refine zx (jy rfl rfl (zl rfl rfl rfl kN) (jy rfl rfl (qA rfl rfl rfl Tryz.underlying24) ?_))
   refine jy rfl rfl (yl (cs:=[_]) rfl zGj rfl ⟨_, _, rfl, (qU rfl), rfl⟩ (by rfl) (by simp [ofV])) ?_
   refine jy rfl rfl (zeJ rfl rfl Tryz.underlying278 rfl) ?_
   refine zox rfl rfl rfl (fun u=>?_)
   refine zo2 ?_
   exact zFx hnone AVle.ifc1
  ·have hsome:=zBw (w:=w) (ds:=ds) (by simpa using h1)
   refine zH (zk (zn (jy rfl rfl (zX rfl rfl rfl rfl rfl rfl ty3) (jy rfl rfl (zg rfl rfl) (zo (zN ?_))))))
   exact zFq hsome (.inr rfl) (AVle.refl _)
theorem zE7 (mem:List PO):zms Tryz.prog G 161 [.pp 0 1 0 0, .pp 1 1 0 0] none mem mem:=by
 refine zlu Tryz.func161 rfl (by kernel_rfl) rfl rfl rfl rfl rfl rfl (fun gh=>?_)
 refine zF (zn (jy rfl rfl (zsl rfl rfl Tryz.underlying20) (zo (zA rfl (fun h0=>?_) (fun h0=>?_)))))
 ·refine zx (jy rfl rfl (zg rfl rfl) (zM (zJ ?_)))
  exact ⟨.inl rfl, rfl, rfl⟩
 ·exfalso; simp at h0
theorem zE9:zms Tryz.prog G 161 [.pp 0 1 0 0, .pp 1 1 0 0] (some pvS) [.row [[I 0]], .row [[B false]]] [.row [[I 0]], .row [[B false]]]:=by
 refine zlu Tryz.func161 rfl (by kernel_rfl) rfl rfl rfl rfl rfl rfl (fun gh=>?_)
 refine zF (zn (jy rfl rfl (zr5 rfl rfl Tryz.underlying20) (zo (zA rfl (fun h0=>?_) (fun h0=>?_)))))
 ·exfalso; simp at h0
 ·refine zn (jy rfl rfl (zm9 rfl rfl Tryz.underlying278 rfl) (jy rfl rfl (zU rfl rfl rfl) (jy rfl rfl (zU rfl rfl rfl) (zo (zA rfl (fun h1=>?_) (fun h1=>?_))))))
  ·refine zn ?_
   refine qP  rfl rfl rfl rfl rfl rfl rfl zGe zGf rfl (by rfl) (zQ rfl) rfl ?_
   refine zo (zx ?_)
   refine qL rfl (qw rfl rfl rfl rfl rfl rfl (qU rfl) ty3 (by rfl) (by exact zLb rfl)) ?_
   refine qL rfl (qw rfl rfl rfl rfl rfl rfl (qU rfl) ty4 (by rfl) (by exact zLb rfl)) ?_
   refine zM (zJ ?_)
   exact ⟨.inl rfl, rfl, rfl⟩
  ·exfalso; simp at h1
theorem zEC {w:Wt} (hP:WtP w) {ds:List Int} (hd:DlP w ds) (hr:zzX w ds = none):ACall Tryz.prog G 61 [.agg (eLk w), eI ds] (.tup [ei 0, .v (.bool false)]):=by
 refine zdW Tryz.func61 rfl (by kernel_rfl) rfl ?_
 refine zn (jy rfl rfl (ql rfl (zQ rfl)) (qL rfl (jr rfl rfl zv3 rfl rfl) (qL rfl (jr rfl rfl zv4 rfl rfl) (zo (zn (jy rfl rfl (vP rfl) ?_))))))
 refine zfg rfl rfl rfl rfl ?_
 refine zo (zn (jy rfl rfl (zK rfl rfl zDy (by exact zLb rfl)) (jy rfl rfl (zI rfl rfl) ?_)))
 refine zFK (av:=[_, _]) rfl rfl rfl ⟨rfl, rfl, trivial⟩ (f162 hP hd) (fun hx0 u=>?_) (fun y0 hx0=>?_)
 ·refine zo2 ?_
  exact .inr ⟨6, 161, _, _, _, rfl, rfl, ⟨_, rfl, ⟨_, _, rfl, (wH rfl rfl rfl rfl ty3 rfl (by exact AVle.refl _)), ⟨_, _, rfl, (wH rfl rfl rfl rfl ty4 rfl (by exact AVle.refl _)), rfl⟩⟩⟩, .inr ⟨u, _, rfl, List.mem_cons_self .., zE9⟩⟩
 exfalso; rw [hr] at hx0; cases hx0
theorem zEz {w:Wt} (hP:WtP w) {ds:List Int} (hd:DlP w ds) {x:Int} (hr:zzX w ds = some x):ACall Tryz.prog G 61 [.agg (eLk w), eI ds] (.tup [ei x, .v (.bool true)]):=by
 refine zdW Tryz.func61 rfl (by kernel_rfl) rfl ?_
 refine zn (jy rfl rfl (ql rfl (zQ rfl)) (qL rfl (jr rfl rfl zv3 rfl rfl) (qL rfl (jr rfl rfl zv4 rfl rfl) (zo (zn (jy rfl rfl (vP rfl) ?_))))))
 refine zfg rfl rfl rfl rfl ?_
 refine zo (zn (jy rfl rfl (zK rfl rfl zDy (by exact zLb rfl)) (jy rfl rfl (zI rfl rfl) ?_)))
 refine zFK (av:=[_, _]) rfl rfl rfl ⟨rfl, rfl, trivial⟩ (f162 hP hd) (fun hx0 u=>?_) (fun y0 hx0=>?_)
 ·exfalso; rw [hr] at hx0; cases hx0
 have hye:y0 = x:=by rw [hr] at hx0; injection hx0 with hx0; exact hx0.symm
 refine qL rfl (qw rfl rfl rfl rfl rfl rfl (qU rfl) ty3 (by rfl) (by exact zLb rfl)) ?_
 refine qL rfl (qw rfl rfl rfl rfl rfl rfl (qU rfl) ty4 (by rfl) (by exact zLb rfl)) ?_
 refine zo (zN ?_)
 exact .inr ⟨6, 161, _, _, _, rfl, rfl, ⟨_, rfl, ⟨_, _, rfl, (wH rfl rfl rfl rfl ty3 rfl (by rw [hye]; exact AVle.refl _)), ⟨_, _, rfl, (wH rfl rfl rfl rfl ty4 rfl (by exact AVle.refl _)), rfl⟩⟩⟩, .inl ⟨.inr rfl, zE7 _⟩⟩
end Hs
end Go.Av
end
