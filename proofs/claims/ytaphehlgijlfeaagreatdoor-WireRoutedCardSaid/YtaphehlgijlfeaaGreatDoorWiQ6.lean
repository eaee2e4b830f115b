
import Derived.Test.YtaphehlgijlfeaaGreatDoorWiQ5
set_option linter.unusedVariables false
set_option linter.unusedSimpArgs false
section
namespace Go.Av
open Go.Proofs
set_option maxRecDepth 100000
set_option maxHeartbeats 1000000
variable {G : Glob}
theorem zxi {nt : Nt} {a : Int} {l : List Int} {k : Nat} (h : k < l.length) : cok nt a (l.take (k + 1)) = (cok nt a (l.take k) && (inL nt l[k] && touch (lnA nt l[k]) (vl nt a (l.take k)))) := by rw [List.take_succ_eq_append_getElem h, zAc]
theorem zuR {nt : Nt} {a : Int} {l : List Int} {k : Nat} (h : k < l.length) : vs nt a (l.take (k + 1)) = vs nt a (l.take k) ++ [oth (lnA nt l[k]) (vl nt a (l.take k))] := by rw [List.take_succ_eq_append_getElem h, zAe]
theorem zxY {nt : Nt} : ∀ {l : List Int} {a : Int} {k : Nat}, cok nt a l = true -> cok nt a (l.take k) = true
 | [], a, k, h => by simp [cok]
 | i :: l, a, 0, h => rfl
 | i :: l, a, k + 1, h => by
  rw [cok, Bool.and_eq_true] at h
  rw [List.take_succ_cons, cok, h.1, zxY h.2]; rfl
theorem zyw {nt : Nt} : ∀ {l : List Int} {a : Int} {k : Nat}, ∃ t, vs nt a l = vs nt a (l.take k) ++ t
 | [], a, k => ⟨[], by simp⟩
 | i :: l, a, 0 => by
  obtain ⟨t, ht⟩ := zwY nt (i :: l) a
  exact ⟨t, by rw [ht]; rfl⟩
 | i :: l, a, k + 1 => by
  obtain ⟨t, ht⟩ := zyw (nt := nt) (l := l) (a := oth (lnA nt i) a) (k := k)
  exact ⟨t, by rw [List.take_succ_cons, vs, vs, ht]; rfl⟩
theorem zym {nt : Nt} {l : List Int} {a : Int} {k : Nat} (h : (vs nt a l).Nodup) : (vs nt a (l.take k)).Nodup := by
 obtain ⟨t, ht⟩ := zyw (nt := nt) (l := l) (a := a) (k := k)
 rw [ht, List.nodup_append] at h
 exact h.1
theorem zvg {nt : Nt} {a z : Int} {l : List Int} {k : Nat} (h : k < l.length) (hb : (inL nt l[k] && touch (lnA nt l[k]) (vl nt a (l.take k))) = false) : zuC nt a z l = false := by
 cases hc : cok nt a l with
 | false => unfold zuC; rw [hc]; rfl
 | true =>
  have := zxY (k := k + 1) hc
  rw [zxi h, hb, Bool.and_false] at this; cases this
theorem zvs {nt : Nt} {a z : Int} {l : List Int} {k : Nat} (h : k < l.length) (hb : oth (lnA nt l[k]) (vl nt a (l.take k)) ∈ vs nt a (l.take k)) : zuC nt a z l = false := by
 by_cases hd : (vs nt a l).Nodup
 ·
  have := zym (k := k + 1) hd
  rw [zuR h, List.nodup_append] at this
  exact absurd rfl (this.2.2 _ hb _ (List.mem_singleton.2 rfl))
 ·
  unfold zuC; rw [decide_eq_false hd]; simp
theorem zyJ {nt : Nt} {a z : Int} {l : List Int} (h1 : cok nt a l = true) (h2 : (vs nt a l).Nodup) : zuC nt a z l = decide (vl nt a l = z) := by unfold zuC; rw [h1, decide_eq_true h2]; rfl
def gst (nt : Nt) (a : Int) (l : List Int) (k : Nat) : Prop := cok nt a (l.take k) = true /\ (vs nt a (l.take k)).Nodup
theorem zvF {nt : Nt} {a : Int} {l : List Int} {k : Nat} (h : k < l.length) (hg : gst nt a l k) (h1 : inL nt l[k] = true) (h2 : touch (lnA nt l[k]) (vl nt a (l.take k)) = true) (h3 : oth (lnA nt l[k]) (vl nt a (l.take k)) ∉ vs nt a (l.take k)) : gst nt a l (k + 1) := by
 refine ⟨by rw [zxi h, hg.1, h1, h2]; rfl, ?_⟩
 rw [zuR h, List.nodup_append]
 exact ⟨hg.2, by simp, fun x hx y hy e => by rw [List.mem_singleton] at hy; subst hy; exact h3 (e ▸ hx)⟩
theorem zzC {nt : Nt} (hn : zuA nt = true) : ∀ {l : List Int} {a : Int}, (0 <= a /\ a <= nt.offices - 1) -> cok nt a l = true -> 0 <= vl nt a l /\ vl nt a l <= nt.offices - 1
 | [], a, ha, _ => ha
 | i :: l, a, ha, h => by
  rw [cok, Bool.and_eq_true, Bool.and_eq_true] at h
  obtain ⟨k, rfl, hk⟩ := zxd h.1.1
  rw [vl]
  exact zzC hn (zu0 (zvd hn hk) h.1.2).1 h.2
theorem zvA {nt : Nt} {a : Int} {l : List Int} {k : Nat} (h : k <= l.length) : (qA (vs nt a (l.take k)))[((((vs nt a (l.take k)).length : Nat) : Int) - 1).toNat]? = some [I (vl nt a (l.take k))] := by
 have e : ((((vs nt a (l.take k)).length : Nat) : Int) - 1).toNat = (l.take k).length := by rw [zvX]; omega
 rw [e]
 unfold qA
 rw [List.getElem?_map, zwF]; rfl
theorem zxJ {x : Lin} {o : Int} (h : x.src = o) : x.dst = oth x o := by unfold oth; omega
theorem zxH {x : Lin} {o : Int} (h : x.dst = o) : x.src = oth x o := by unfold oth; omega
theorem zzG {nt : Nt} {i : Int} (h : (!inB i 0 ((nt.lines.length : Int) - 1)) = false) : inL nt i = true := by
 rw [Bool.not_eq_false'] at h
 have := zdh.1 h
 unfold inL; exact decide_eq_true (by omega)
theorem zzh {nt : Nt} {i : Int} (h : (!inB i 0 ((nt.lines.length : Int) - 1)) = true) : inL nt i = false := by
 rw [Bool.not_eq_true'] at h
 cases hc : inL nt i with
 | false => rfl
 | true =>
  have h2 : 0 <= i /\ i < (nt.lines.length : Int) := by simpa [inL] using hc
  rw [zdh.2 ⟨h2.1, by omega⟩] at h; cases h
theorem zy8 {k : Nat} (ls : List Int) : PO.okL k (.row (qA ls)) := fun r hr x hx => by
 obtain ⟨q, _, rfl⟩ := List.mem_map.1 hr
 simp at hx; subst hx; trivial
theorem mbI {st : ASt} {o : Oper} {x : Operand} {n : Int} (ho : o.op = .buildSlice 23 1 #[(0, x)]) (hd : vC o st.n = true) (hx : evO st.fr x = I n) :
  OpM Tryz.prog G st o ⟨st.n, jr st.fr o.dst (.psl st.mem.length 1), st.mem ++ [.row [[I n]]]⟩ :=
 zAl (rows := [[I n]]) (qs := [(0, [I n])]) (size := 1) ho hd Tryz.underlying23 ti3 rfl (by decide) rfl (by decide) ⟨_, _, rfl, jF hx, rfl⟩ rfl (by simp) rfl (by decide) (by simp)
theorem f59 (nt : Nt) (a z : Int) (l : List Int) (hn : zuA nt = true) (ha : 0 <= a /\ a <= nt.offices - 1) (hl : l.length <= 1000) : ACall Tryz.prog G 59 [.agg (eNt nt), ei a, ei z, zO l] (.v (.bool (zuC nt a z l))) := by
 have h6 := zuH hn
 refine zS Tryz.func59 rfl (by kernel_rfl) rfl ?_
 refine zl (zh (zg rfl rfl (jf rfl (zY rfl)) (zg rfl rfl (zn rfl rfl) (zo (zf (zl (zh (zg rfl rfl (zi rfl rfl) (jb rfl (mbI rfl rfl rfl) (zg rfl rfl (qo rfl rfl) (zo ?_)))))))))))
 refine zf (zl (zl (zh (zg rfl rfl (zn rfl rfl) (zo (zf (zB ?_)))))))
 refine qy (ι := { i : Nat // i <= l.length /\ gst nt a l i }) (fun i => ⟨Tryz.f59.ntmps, frL [(2, I z), (3, .pub (zO l)), (4, .pub (.ptr (eNt nt))), (9, .psl 0 (vs nt a (l.take i.1)).length), (10, I (i.1 : Int))], [.row (qA (vs nt a (l.take i.1)))]⟩) (fun i => l.length - i.1) (⟨0, by omega, rfl, by simp [vs]⟩) ?_ ?_
 ·
  exact zt _ ⟨rfl, rfl, rfl, rfl, rfl, trivial⟩ (rfl)
 ·
  rintro ⟨i, hi⟩
  dsimp only
  refine zl (zl (zh (zg rfl rfl (zi rfl rfl) (zg rfl rfl (zq rfl rfl) (zg rfl rfl (qh rfl rfl rfl Tryz.underlying23) (zg rfl rfl (qi rfl rfl rfl) (zo (zf (zx rfl (fun h0 => ?_) (fun h0 => ?_))))))))))
  ·
   have hlt : i < l.length := by simpa [zO] using h0
   have hvl := zvX nt (l.take i) a
   have hlk : (l.take i).length = i := by simp; omega
   have hvb := zzC hn ha hi.2.1
   refine zC (zf (zl (zB (zl (zl ?_)))))
   refine qY mixed (by kernel_rfl) rfl ?_
   refine zH rfl (zq rfl rfl) (zH rfl (zi rfl rfl) (zH rfl (zG rfl rfl rfl jv (by omega) (wu hlt) jC) (zH rfl (zA rfl rfl rfl ty3) (zH rfl (zu rfl rfl zuy) (zH rfl (zA rfl rfl rfl zuP) (zH rfl (qh rfl rfl rfl Tryz.underlying71) ?_))))))
   refine zH rfl (ze5 rfl rfl rfl ⟨by simp; omega, by simp; omega⟩) ?_
   refine zH rfl (zy (av := [_, _, _]) rfl ⟨rfl, rfl, rfl, trivial⟩ (f93 _ _ _)) (zH rfl (je rfl rfl) (jw (zf (zx rfl (fun h1 => ?_) (fun h1 => ?_)))))
   ·
    have hno : zuC nt a z l = false := zvg hlt (by have h9 := h1; simp only [List.length_map] at h9; rw [zzh h9]; rfl)
    refine zl (zh (zg rfl rfl (zn rfl rfl) (zo (zf (zP (zQ (qF (zQ (zQ (qF (zQ ?_)))))))))))
    exact ⟨.inr rfl, AVle.of (by rw [hno])⟩
   ·
    have hin : inL nt l[i] = true := by have h9 := h1; simp only [List.length_map] at h9; exact zzG h9
    have hxl : zvO nt (lnA nt l[i]) = true := by obtain ⟨kk, hk1, hk2⟩ := zxd hin; rw [hk1]; exact zvd hn hk2
    have hxb : (0 <= (lnA nt l[i]).src /\ (lnA nt l[i]).src <= nt.offices - 1) /\ (0 <= (lnA nt l[i]).dst /\ (lnA nt l[i]).dst <= nt.offices - 1) /\ (lnA nt l[i]).src ≠ (lnA nt l[i]).dst := by simp only [zvO, Bool.and_eq_true, decide_eq_true_eq] at hxl; omega
    refine zC (zf (zl ?_))
    refine qx vz ?_
    refine wR (fun _ => True) (fun k => match k with | 0 => .stable | 1 => .stable | 2 => .stable | 3 => .stable | 4 => .stable | 5 => .stable | 6 => .stable | 7 => .stable | 8 => .own 1 | 9 => .writes | _ => .here) mixed (by kernel_rfl) rfl (by kernel_rfl) trivial ?_
    refine wo rfl rfl (fun m hm => zu rfl rfl zuy) (wo rfl rfl (fun m hm => zA rfl rfl rfl zuP) (wo rfl rfl (fun m hm => zq rfl rfl) (wo rfl rfl (fun m hm => zi rfl rfl) (wo rfl rfl (fun m hm => zG rfl rfl rfl jv (by omega) (wu hlt) jC) (wo rfl rfl (fun m hm => zA rfl rfl rfl ty3) (wo rfl rfl (fun m hm => zG rfl rfl rfl zv8 (zxz hin).1 (zwt hin) zva) (wo rfl rfl (fun m hm => zZ rfl rfl zvE (by exact zLb rfl)) ?_)))))))
    refine zgb rfl rfl (zb1 rfl zxL rfl rfl rfl) ?_
    refine zaw rfl rfl (jk rfl rfl rfl rfl rfl rfl (zY rfl) zvE (by rfl) (by rfl)) trivial ?_
    refine wQ (zf (zl (zh (zg rfl rfl (zn rfl rfl) (zo (zf (zl (zl ?_))))))))
    refine qY mixed (by kernel_rfl) rfl ?_
    refine zH rfl (qE rfl rfl rfl rfl zuM) (zH rfl (zK rfl rfl rfl rfl rfl rfl ty3) (zH rfl (zI rfl rfl) (zH rfl (zI rfl rfl) (zH rfl (jE rfl rfl rfl (qm ..) Tryz.underlying23) (zH rfl (ze5 rfl rfl rfl ⟨(by omega), (by omega)⟩) (zH rfl (qc rfl rfl rfl rfl (qm ..) jv (by omega) (by omega) (jh _)) (zH rfl (zK (c := I (vl nt a (l.take i))) rfl rfl rfl (qm ..) (zvA (by omega)) rfl ty3) (zH rfl (qJ rfl rfl rfl) (jw (zf (zx rfl (fun h2 => ?_) (fun h2 => ?_))))))))))))
    ·
     have hs2 : (lnA nt l[i]).src = (vl nt a (l.take i)) := by simpa using h2
     refine zh (zg rfl rfl (qE rfl rfl rfl rfl zuL) (zg rfl rfl (zK rfl rfl rfl rfl rfl rfl ty3) (zg rfl rfl (zn rfl rfl) (zo (zf (zl (zl ?_)))))))
     refine qY mixed (by kernel_rfl) rfl ?_
     refine zH rfl (qE rfl rfl rfl rfl zuL) (zH rfl (zK rfl rfl rfl rfl rfl rfl ty3) (zH rfl (zI rfl rfl) (zH rfl (zI rfl rfl) (zH rfl (jE rfl rfl rfl (qm ..) Tryz.underlying23) (zH rfl (ze5 rfl rfl rfl ⟨(by omega), (by omega)⟩) (zH rfl (qc rfl rfl rfl rfl (qm ..) jv (by omega) (by omega) (jh _)) (zH rfl (zK (c := I (vl nt a (l.take i))) rfl rfl rfl (qm ..) (zvA (by omega)) rfl ty3) (zH rfl (qJ rfl rfl rfl) (jw (zf (zx rfl (fun h3 => ?_) (fun h3 => ?_))))))))))))
     ·
      have hs3 : (lnA nt l[i]).dst = (vl nt a (l.take i)) := by simpa using h3
      refine zh (zg rfl rfl (qE rfl rfl rfl rfl zuM) (zg rfl rfl (zK rfl rfl rfl rfl rfl rfl ty3) (zg rfl rfl (zn rfl rfl) (zo (zf (zl (zl (zh (zg rfl rfl (zi rfl rfl) (zg rfl rfl (qi rfl rfl rfl) (zo ?_)))))))))))
      refine zf (zx rfl (fun h4 => ?_) (fun h4 => ?_))
      ·
       have hno : zuC nt a z l = false := zvg hlt (by rw [hin]; simp only [Bool.true_and, touch, Bool.or_eq_false_iff, decide_eq_false_iff_not]; first | exact ⟨hs2, hs3⟩ | (exfalso; simp at h4; omega))
       refine zl (zh (zg rfl rfl (zn rfl rfl) (zo (zf (zP (zQ (qF (zQ (zQ (qF (zQ ?_)))))))))))
       exact ⟨.inr rfl, AVle.of (by rw [hno])⟩
      ·
       have htc : touch (lnA nt l[i]) (vl nt a (l.take i)) = true := by unfold touch; first | (rw [decide_eq_true hs2]; rfl) | (rw [decide_eq_true hs3, Bool.or_true]) | (exfalso; simp at h4)
       have hnb := (zu0 hxl htc).1
       refine zC (zf (zl (zl (zh (zg rfl rfl (zn rfl rfl) (zo (zf (zB ?_))))))))
       refine qx (zt (mem' := [.row (qA (vs nt a (l.take i))), .row [(zs3 (lnA nt l[i])).map .pub]]) [(2, I z), (3, .pub (zO l)), (4, .pub (.ptr (eNt nt))), (9, .psl 0 (vs nt a (l.take i)).length), (10, I (i : Int)), (12, I (oth (lnA nt l[i]) (vl nt a (l.take i)))), (13, I 0)] ?_ ?_) ?_
       ·
        exact ⟨rfl, rfl, rfl, rfl, rfl, (congrArg I (by first | rfl | exact zxJ hs2 | exact zxH hs3 | (exfalso; simp at h4))), rfl, trivial⟩
       ·
        exact (rfl)
       refine qx (vO 1 ?_ ?_) ?_
       ·
        exact ⟨trivial, trivial, trivial, (show _ < _ by omega), trivial, trivial, trivial, trivial⟩
       ·
        exact ⟨zy8 _, trivial⟩
       refine qy (ι := { q : Nat // q <= (vs nt a (l.take i)).length /\ (oth (lnA nt l[i]) (vl nt a (l.take i))) ∉ (vs nt a (l.take i)).take q }) (fun q => ⟨Tryz.f59.ntmps, frL [(2, I z), (3, .pub (zO l)), (4, .pub (.ptr (eNt nt))), (9, .psl 0 (vs nt a (l.take i)).length), (10, I (i : Int)), (12, I (oth (lnA nt l[i]) (vl nt a (l.take i)))), (13, I (q.1 : Int))], [.row (qA (vs nt a (l.take i)))]⟩) (fun q => (vs nt a (l.take i)).length - q.1) (⟨0, by simp⟩) ?_ ?_
       ·
        exact zt _ ⟨rfl, rfl, rfl, rfl, rfl, rfl, rfl, trivial⟩ (rfl)
       ·
        rintro ⟨q, hq⟩
        dsimp only
        refine zl (zl (zh (zg rfl rfl (zi rfl rfl) (zg rfl rfl (zI rfl rfl) (zg rfl rfl (jE rfl rfl rfl (qm ..) Tryz.underlying23) (zg rfl rfl (qi rfl rfl rfl) (zo (zf (zx rfl (fun h5 => ?_) (fun h5 => ?_))))))))))
        ·
         have hlq : q < (vs nt a (l.take i)).length := by simpa using h5
         refine zC (zf (zl (zB (zl (zh (zg rfl rfl (zI rfl rfl) (zg rfl rfl (zi rfl rfl) (zg rfl rfl (qc rfl rfl rfl rfl (qm ..) jv (by omega) (by omega) (jh _)) (zg rfl rfl (zK (c := I ((vs nt a (l.take i)).getD q 0)) rfl rfl rfl (qm ..) (wY (by omega)) rfl ty3) (zg rfl rfl (zi rfl rfl) (zg rfl rfl (qJ rfl rfl rfl) ?_)))))))))))
         refine zo (zf (zx rfl (fun h6 => ?_) (fun h6 => ?_)))
         ·
          have hno : zuC nt a z l = false := zvs hlt (by have h9 : (vs nt a (l.take i)).getD q 0 = (oth (lnA nt l[i]) (vl nt a (l.take i))) := (by simpa using h6); rw [List.getD_eq_getElem?_getD, List.getElem?_eq_getElem hlq] at h9; exact h9 ▸ List.getElem_mem hlq)
          refine zl (zh (zg rfl rfl (zn rfl rfl) (zo (zf (zP (qF (zQ (zQ (qF (zQ (qF ?_)))))))))))
          refine zQ (zQ (qF (zQ ?_)))
          exact ⟨.inr rfl, AVle.of (by rw [hno])⟩
         ·
          have hq3 : (oth (lnA nt l[i]) (vl nt a (l.take i))) ∉ (vs nt a (l.take i)).take (q + 1) := by have h9 : ¬ (vs nt a (l.take i)).getD q 0 = (oth (lnA nt l[i]) (vl nt a (l.take i))) := (by simpa using h6); rw [List.getD_eq_getElem?_getD, List.getElem?_eq_getElem hlq] at h9; rw [List.take_succ_eq_append_getElem hlq, List.mem_append, List.mem_singleton]; exact fun h => h.elim hq.2 (fun e => h9 e.symm)
          refine zC (zD (zf (zh (zg rfl rfl (zi rfl rfl) (zg rfl rfl (zV rfl rfl rfl ⟨(by omega), (by omega)⟩) (zg rfl rfl (zn rfl rfl) (zo ?_)))))))
          exact ⟨⟨q + 1, by omega, hq3⟩, by dsimp only; omega, zt _ ⟨rfl, rfl, rfl, rfl, rfl, rfl, rfl, trivial⟩ (rfl)⟩
        ·
         have hgq : (vs nt a (l.take i)).length <= q := by simpa using h5
         have htk : (vs nt a (l.take i)).take q = (vs nt a (l.take i)) := List.take_of_length_le (by omega)
         have hnm : (oth (lnA nt l[i]) (vl nt a (l.take i))) ∉ (vs nt a (l.take i)) := by have h9 := hq.2; rw [htk] at h9; exact h9
         refine qp (zL (zL (qw (zf (zh (zg rfl rfl (zI rfl rfl) (zg rfl rfl (zi rfl rfl) ?_)))))))
         refine zg rfl rfl (qg (size := 1) (rows := [[_]]) rfl Tryz.underlying23 ti3 rfl (by decide) rfl (by decide) ⟨_, _, rfl, (jF rfl), rfl⟩ (by rfl) (by simp [ofV]) rfl (by simp)) ?_
         refine jb rfl (vS rfl rfl rfl rfl (qm ..) rfl zwE (jh _) (by simp) (by simp; omega) (by unfold maxLen; simp; omega)) ?_
         refine zg rfl rfl (qo rfl rfl) (zo (zD (zf (zh (zg rfl rfl (zi rfl rfl) (zg rfl rfl (zV rfl rfl rfl ⟨(by omega), (by omega)⟩) (zg rfl rfl (zn rfl rfl) (zo ?_))))))))
         exact ⟨⟨i + 1, by omega, zvF hlt hi.2 hin htc hnm⟩, by dsimp only; omega, zt _ ⟨rfl, rfl, rfl, (congrArg (EV.psl 0) (by rw [zuR hlt]; simp)), rfl, trivial⟩ ((by exact congrArg (fun z => [PO.row z]) (by rw [zuR hlt]; simp [qA])))⟩
     ·
      have hs3 : ¬ (lnA nt l[i]).dst = (vl nt a (l.take i)) := by simpa using h3
      refine zC (zf (zl (zl (zh (zg rfl rfl (zi rfl rfl) (zg rfl rfl (qi rfl rfl rfl) (zo (zf (zx rfl (fun h4 => ?_) (fun h4 => ?_))))))))))
      ·
       have hno : zuC nt a z l = false := zvg hlt (by rw [hin]; simp only [Bool.true_and, touch, Bool.or_eq_false_iff, decide_eq_false_iff_not]; first | exact ⟨hs2, hs3⟩ | (exfalso; simp at h4; omega))
       refine zl (zh (zg rfl rfl (zn rfl rfl) (zo (zf (zP (zQ (qF (zQ (zQ (qF (zQ ?_)))))))))))
       exact ⟨.inr rfl, AVle.of (by rw [hno])⟩
      ·
       have htc : touch (lnA nt l[i]) (vl nt a (l.take i)) = true := by unfold touch; first | (rw [decide_eq_true hs2]; rfl) | (rw [decide_eq_true hs3, Bool.or_true]) | (exfalso; simp at h4)
       have hnb := (zu0 hxl htc).1
       refine zC (zf (zl (zl (zh (zg rfl rfl (zn rfl rfl) (zo (zf (zB ?_))))))))
       refine qx (zt (mem' := [.row (qA (vs nt a (l.take i))), .row [(zs3 (lnA nt l[i])).map .pub]]) [(2, I z), (3, .pub (zO l)), (4, .pub (.ptr (eNt nt))), (9, .psl 0 (vs nt a (l.take i)).length), (10, I (i : Int)), (12, I (oth (lnA nt l[i]) (vl nt a (l.take i)))), (13, I 0)] ?_ ?_) ?_
       ·
        exact ⟨rfl, rfl, rfl, rfl, rfl, (congrArg I (by first | rfl | exact zxJ hs2 | exact zxH hs3 | (exfalso; simp at h4))), rfl, trivial⟩
       ·
        exact (rfl)
       refine qx (vO 1 ?_ ?_) ?_
       ·
        exact ⟨trivial, trivial, trivial, (show _ < _ by omega), trivial, trivial, trivial, trivial⟩
       ·
        exact ⟨zy8 _, trivial⟩
       refine qy (ι := { q : Nat // q <= (vs nt a (l.take i)).length /\ (oth (lnA nt l[i]) (vl nt a (l.take i))) ∉ (vs nt a (l.take i)).take q }) (fun q => ⟨Tryz.f59.ntmps, frL [(2, I z), (3, .pub (zO l)), (4, .pub (.ptr (eNt nt))), (9, .psl 0 (vs nt a (l.take i)).length), (10, I (i : Int)), (12, I (oth (lnA nt l[i]) (vl nt a (l.take i)))), (13, I (q.1 : Int))], [.row (qA (vs nt a (l.take i)))]⟩) (fun q => (vs nt a (l.take i)).length - q.1) (⟨0, by simp⟩) ?_ ?_
       ·
        exact zt _ ⟨rfl, rfl, rfl, rfl, rfl, rfl, rfl, trivial⟩ (rfl)
       ·
        rintro ⟨q, hq⟩
        dsimp only
        refine zl (zl (zh (zg rfl rfl (zi rfl rfl) (zg rfl rfl (zI rfl rfl) (zg rfl rfl (jE rfl rfl rfl (qm ..) Tryz.underlying23) (zg rfl rfl (qi rfl rfl rfl) (zo (zf (zx rfl (fun h5 => ?_) (fun h5 => ?_))))))))))
        ·
         have hlq : q < (vs nt a (l.take i)).length := by simpa using h5
         refine zC (zf (zl (zB (zl (zh (zg rfl rfl (zI rfl rfl) (zg rfl rfl (zi rfl rfl) (zg rfl rfl (qc rfl rfl rfl rfl (qm ..) jv (by omega) (by omega) (jh _)) (zg rfl rfl (zK (c := I ((vs nt a (l.take i)).getD q 0)) rfl rfl rfl (qm ..) (wY (by omega)) rfl ty3) (zg rfl rfl (zi rfl rfl) (zg rfl rfl (qJ rfl rfl rfl) ?_)))))))))))
         refine zo (zf (zx rfl (fun h6 => ?_) (fun h6 => ?_)))
         ·
          have hno : zuC nt a z l = false := zvs hlt (by have h9 : (vs nt a (l.take i)).getD q 0 = (oth (lnA nt l[i]) (vl nt a (l.take i))) := (by simpa using h6); rw [List.getD_eq_getElem?_getD, List.getElem?_eq_getElem hlq] at h9; exact h9 ▸ List.getElem_mem hlq)
          refine zl (zh (zg rfl rfl (zn rfl rfl) (zo (zf (zP (qF (zQ (zQ (qF (zQ (qF ?_)))))))))))
          refine zQ (zQ (qF (zQ ?_)))
          exact ⟨.inr rfl, AVle.of (by rw [hno])⟩
         ·
          have hq3 : (oth (lnA nt l[i]) (vl nt a (l.take i))) ∉ (vs nt a (l.take i)).take (q + 1) := by have h9 : ¬ (vs nt a (l.take i)).getD q 0 = (oth (lnA nt l[i]) (vl nt a (l.take i))) := (by simpa using h6); rw [List.getD_eq_getElem?_getD, List.getElem?_eq_getElem hlq] at h9; rw [List.take_succ_eq_append_getElem hlq, List.mem_append, List.mem_singleton]; exact fun h => h.elim hq.2 (fun e => h9 e.symm)
          refine zC (zD (zf (zh (zg rfl rfl (zi rfl rfl) (zg rfl rfl (zV rfl rfl rfl ⟨(by omega), (by omega)⟩) (zg rfl rfl (zn rfl rfl) (zo ?_)))))))
          exact ⟨⟨q + 1, by omega, hq3⟩, by dsimp only; omega, zt _ ⟨rfl, rfl, rfl, rfl, rfl, rfl, rfl, trivial⟩ (rfl)⟩
        ·
         have hgq : (vs nt a (l.take i)).length <= q := by simpa using h5
         have htk : (vs nt a (l.take i)).take q = (vs nt a (l.take i)) := List.take_of_length_le (by omega)
         have hnm : (oth (lnA nt l[i]) (vl nt a (l.take i))) ∉ (vs nt a (l.take i)) := by have h9 := hq.2; rw [htk] at h9; exact h9
         refine qp (zL (zL (qw (zf (zh (zg rfl rfl (zI rfl rfl) (zg rfl rfl (zi rfl rfl) ?_)))))))
         refine zg rfl rfl (qg (size := 1) (rows := [[_]]) rfl Tryz.underlying23 ti3 rfl (by decide) rfl (by decide) ⟨_, _, rfl, (jF rfl), rfl⟩ (by rfl) (by simp [ofV]) rfl (by simp)) ?_
         refine jb rfl (vS rfl rfl rfl rfl (qm ..) rfl zwE (jh _) (by simp) (by simp; omega) (by unfold maxLen; simp; omega)) ?_
         refine zg rfl rfl (qo rfl rfl) (zo (zD (zf (zh (zg rfl rfl (zi rfl rfl) (zg rfl rfl (zV rfl rfl rfl ⟨(by omega), (by omega)⟩) (zg rfl rfl (zn rfl rfl) (zo ?_))))))))
         exact ⟨⟨i + 1, by omega, zvF hlt hi.2 hin htc hnm⟩, by dsimp only; omega, zt _ ⟨rfl, rfl, rfl, (congrArg (EV.psl 0) (by rw [zuR hlt]; simp)), rfl, trivial⟩ ((by exact congrArg (fun z => [PO.row z]) (by rw [zuR hlt]; simp [qA])))⟩
    ·
     have hs2 : ¬ (lnA nt l[i]).src = (vl nt a (l.take i)) := by simpa using h2
     refine zC (zf (zl (zl ?_)))
     refine qY mixed (by kernel_rfl) rfl ?_
     refine zH rfl (qE rfl rfl rfl rfl zuL) (zH rfl (zK rfl rfl rfl rfl rfl rfl ty3) (zH rfl (zI rfl rfl) (zH rfl (zI rfl rfl) (zH rfl (jE rfl rfl rfl (qm ..) Tryz.underlying23) (zH rfl (ze5 rfl rfl rfl ⟨(by omega), (by omega)⟩) (zH rfl (qc rfl rfl rfl rfl (qm ..) jv (by omega) (by omega) (jh _)) (zH rfl (zK (c := I (vl nt a (l.take i))) rfl rfl rfl (qm ..) (zvA (by omega)) rfl ty3) (zH rfl (qJ rfl rfl rfl) (jw (zf (zx rfl (fun h3 => ?_) (fun h3 => ?_))))))))))))
     ·
      have hs3 : (lnA nt l[i]).dst = (vl nt a (l.take i)) := by simpa using h3
      refine zh (zg rfl rfl (qE rfl rfl rfl rfl zuM) (zg rfl rfl (zK rfl rfl rfl rfl rfl rfl ty3) (zg rfl rfl (zn rfl rfl) (zo (zf (zl (zl (zh (zg rfl rfl (zi rfl rfl) (zg rfl rfl (qi rfl rfl rfl) (zo ?_)))))))))))
      refine zf (zx rfl (fun h4 => ?_) (fun h4 => ?_))
      ·
       have hno : zuC nt a z l = false := zvg hlt (by rw [hin]; simp only [Bool.true_and, touch, Bool.or_eq_false_iff, decide_eq_false_iff_not]; first | exact ⟨hs2, hs3⟩ | (exfalso; simp at h4; omega))
       refine zl (zh (zg rfl rfl (zn rfl rfl) (zo (zf (zP (zQ (qF (zQ (zQ (qF (zQ ?_)))))))))))
       exact ⟨.inr rfl, AVle.of (by rw [hno])⟩
      ·
       have htc : touch (lnA nt l[i]) (vl nt a (l.take i)) = true := by unfold touch; first | (rw [decide_eq_true hs2]; rfl) | (rw [decide_eq_true hs3, Bool.or_true]) | (exfalso; simp at h4)
       have hnb := (zu0 hxl htc).1
       refine zC (zf (zl (zl (zh (zg rfl rfl (zn rfl rfl) (zo (zf (zB ?_))))))))
       refine qx (zt (mem' := [.row (qA (vs nt a (l.take i))), .row [(zs3 (lnA nt l[i])).map .pub]]) [(2, I z), (3, .pub (zO l)), (4, .pub (.ptr (eNt nt))), (9, .psl 0 (vs nt a (l.take i)).length), (10, I (i : Int)), (12, I (oth (lnA nt l[i]) (vl nt a (l.take i)))), (13, I 0)] ?_ ?_) ?_
       ·
        exact ⟨rfl, rfl, rfl, rfl, rfl, (congrArg I (by first | rfl | exact zxJ hs2 | exact zxH hs3 | (exfalso; simp at h4))), rfl, trivial⟩
       ·
        exact (rfl)
       refine qx (vO 1 ?_ ?_) ?_
       ·
        exact ⟨trivial, trivial, trivial, (show _ < _ by omega), trivial, trivial, trivial, trivial⟩
       ·
        exact ⟨zy8 _, trivial⟩
       refine qy (ι := { q : Nat // q <= (vs nt a (l.take i)).length /\ (oth (lnA nt l[i]) (vl nt a (l.take i))) ∉ (vs nt a (l.take i)).take q }) (fun q => ⟨Tryz.f59.ntmps, frL [(2, I z), (3, .pub (zO l)), (4, .pub (.ptr (eNt nt))), (9, .psl 0 (vs nt a (l.take i)).length), (10, I (i : Int)), (12, I (oth (lnA nt l[i]) (vl nt a (l.take i)))), (13, I (q.1 : Int))], [.row (qA (vs nt a (l.take i)))]⟩) (fun q => (vs nt a (l.take i)).length - q.1) (⟨0, by simp⟩) ?_ ?_
       ·
        exact zt _ ⟨rfl, rfl, rfl, rfl, rfl, rfl, rfl, trivial⟩ (rfl)
       ·
        rintro ⟨q, hq⟩
        dsimp only
        refine zl (zl (zh (zg rfl rfl (zi rfl rfl) (zg rfl rfl (zI rfl rfl) (zg rfl rfl (jE rfl rfl rfl (qm ..) Tryz.underlying23) (zg rfl rfl (qi rfl rfl rfl) (zo (zf (zx rfl (fun h5 => ?_) (fun h5 => ?_))))))))))
        ·
         have hlq : q < (vs nt a (l.take i)).length := by simpa using h5
         refine zC (zf (zl (zB (zl (zh (zg rfl rfl (zI rfl rfl) (zg rfl rfl (zi rfl rfl) (zg rfl rfl (qc rfl rfl rfl rfl (qm ..) jv (by omega) (by omega) (jh _)) (zg rfl rfl (zK (c := I ((vs nt a (l.take i)).getD q 0)) rfl rfl rfl (qm ..) (wY (by omega)) rfl ty3) (zg rfl rfl (zi rfl rfl) (zg rfl rfl (qJ rfl rfl rfl) ?_)))))))))))
         refine zo (zf (zx rfl (fun h6 => ?_) (fun h6 => ?_)))
         ·
          have hno : zuC nt a z l = false := zvs hlt (by have h9 : (vs nt a (l.take i)).getD q 0 = (oth (lnA nt l[i]) (vl nt a (l.take i))) := (by simpa using h6); rw [List.getD_eq_getElem?_getD, List.getElem?_eq_getElem hlq] at h9; exact h9 ▸ List.getElem_mem hlq)
          refine zl (zh (zg rfl rfl (zn rfl rfl) (zo (zf (zP (qF (zQ (zQ (qF (zQ (qF ?_)))))))))))
          refine zQ (zQ (qF (zQ ?_)))
          exact ⟨.inr rfl, AVle.of (by rw [hno])⟩
         ·
          have hq3 : (oth (lnA nt l[i]) (vl nt a (l.take i))) ∉ (vs nt a (l.take i)).take (q + 1) := by have h9 : ¬ (vs nt a (l.take i)).getD q 0 = (oth (lnA nt l[i]) (vl nt a (l.take i))) := (by simpa using h6); rw [List.getD_eq_getElem?_getD, List.getElem?_eq_getElem hlq] at h9; rw [List.take_succ_eq_append_getElem hlq, List.mem_append, List.mem_singleton]; exact fun h => h.elim hq.2 (fun e => h9 e.symm)
          refine zC (zD (zf (zh (zg rfl rfl (zi rfl rfl) (zg rfl rfl (zV rfl rfl rfl ⟨(by omega), (by omega)⟩) (zg rfl rfl (zn rfl rfl) (zo ?_)))))))
          exact ⟨⟨q + 1, by omega, hq3⟩, by dsimp only; omega, zt _ ⟨rfl, rfl, rfl, rfl, rfl, rfl, rfl, trivial⟩ (rfl)⟩
        ·
         have hgq : (vs nt a (l.take i)).length <= q := by simpa using h5
         have htk : (vs nt a (l.take i)).take q = (vs nt a (l.take i)) := List.take_of_length_le (by omega)
         have hnm : (oth (lnA nt l[i]) (vl nt a (l.take i))) ∉ (vs nt a (l.take i)) := by have h9 := hq.2; rw [htk] at h9; exact h9
         refine qp (zL (zL (qw (zf (zh (zg rfl rfl (zI rfl rfl) (zg rfl rfl (zi rfl rfl) ?_)))))))
         refine zg rfl rfl (qg (size := 1) (rows := [[_]]) rfl Tryz.underlying23 ti3 rfl (by decide) rfl (by decide) ⟨_, _, rfl, (jF rfl), rfl⟩ (by rfl) (by simp [ofV]) rfl (by simp)) ?_
         refine jb rfl (vS rfl rfl rfl rfl (qm ..) rfl zwE (jh _) (by simp) (by simp; omega) (by unfold maxLen; simp; omega)) ?_
         refine zg rfl rfl (qo rfl rfl) (zo (zD (zf (zh (zg rfl rfl (zi rfl rfl) (zg rfl rfl (zV rfl rfl rfl ⟨(by omega), (by omega)⟩) (zg rfl rfl (zn rfl rfl) (zo ?_))))))))
         exact ⟨⟨i + 1, by omega, zvF hlt hi.2 hin htc hnm⟩, by dsimp only; omega, zt _ ⟨rfl, rfl, rfl, (congrArg (EV.psl 0) (by rw [zuR hlt]; simp)), rfl, trivial⟩ ((by exact congrArg (fun z => [PO.row z]) (by rw [zuR hlt]; simp [qA])))⟩
     ·
      have hs3 : ¬ (lnA nt l[i]).dst = (vl nt a (l.take i)) := by simpa using h3
      refine zC (zf (zl (zl (zh (zg rfl rfl (zi rfl rfl) (zg rfl rfl (qi rfl rfl rfl) (zo (zf (zx rfl (fun h4 => ?_) (fun h4 => ?_))))))))))
      ·
       have hno : zuC nt a z l = false := zvg hlt (by rw [hin]; simp only [Bool.true_and, touch, Bool.or_eq_false_iff, decide_eq_false_iff_not]; first | exact ⟨hs2, hs3⟩ | (exfalso; simp at h4; omega))
       refine zl (zh (zg rfl rfl (zn rfl rfl) (zo (zf (zP (zQ (qF (zQ (zQ (qF (zQ ?_)))))))))))
       exact ⟨.inr rfl, AVle.of (by rw [hno])⟩
      ·
       have htc : touch (lnA nt l[i]) (vl nt a (l.take i)) = true := by unfold touch; first | (rw [decide_eq_true hs2]; rfl) | (rw [decide_eq_true hs3, Bool.or_true]) | (exfalso; simp at h4)
       have hnb := (zu0 hxl htc).1
       refine zC (zf (zl (zl (zh (zg rfl rfl (zn rfl rfl) (zo (zf (zB ?_))))))))
       refine qx (zt (mem' := [.row (qA (vs nt a (l.take i))), .row [(zs3 (lnA nt l[i])).map .pub]]) [(2, I z), (3, .pub (zO l)), (4, .pub (.ptr (eNt nt))), (9, .psl 0 (vs nt a (l.take i)).length), (10, I (i : Int)), (12, I (oth (lnA nt l[i]) (vl nt a (l.take i)))), (13, I 0)] ?_ ?_) ?_
       ·
        exact ⟨rfl, rfl, rfl, rfl, rfl, (congrArg I (by first | rfl | exact zxJ hs2 | exact zxH hs3 | (exfalso; simp at h4))), rfl, trivial⟩
       ·
        exact (rfl)
       refine qx (vO 1 ?_ ?_) ?_
       ·
        exact ⟨trivial, trivial, trivial, (show _ < _ by omega), trivial, trivial, trivial, trivial⟩
       ·
        exact ⟨zy8 _, trivial⟩
       refine qy (ι := { q : Nat // q <= (vs nt a (l.take i)).length /\ (oth (lnA nt l[i]) (vl nt a (l.take i))) ∉ (vs nt a (l.take i)).take q }) (fun q => ⟨Tryz.f59.ntmps, frL [(2, I z), (3, .pub (zO l)), (4, .pub (.ptr (eNt nt))), (9, .psl 0 (vs nt a (l.take i)).length), (10, I (i : Int)), (12, I (oth (lnA nt l[i]) (vl nt a (l.take i)))), (13, I (q.1 : Int))], [.row (qA (vs nt a (l.take i)))]⟩) (fun q => (vs nt a (l.take i)).length - q.1) (⟨0, by simp⟩) ?_ ?_
       ·
        exact zt _ ⟨rfl, rfl, rfl, rfl, rfl, rfl, rfl, trivial⟩ (rfl)
       ·
        rintro ⟨q, hq⟩
        dsimp only
        refine zl (zl (zh (zg rfl rfl (zi rfl rfl) (zg rfl rfl (zI rfl rfl) (zg rfl rfl (jE rfl rfl rfl (qm ..) Tryz.underlying23) (zg rfl rfl (qi rfl rfl rfl) (zo (zf (zx rfl (fun h5 => ?_) (fun h5 => ?_))))))))))
        ·
         have hlq : q < (vs nt a (l.take i)).length := by simpa using h5
         refine zC (zf (zl (zB (zl (zh (zg rfl rfl (zI rfl rfl) (zg rfl rfl (zi rfl rfl) (zg rfl rfl (qc rfl rfl rfl rfl (qm ..) jv (by omega) (by omega) (jh _)) (zg rfl rfl (zK (c := I ((vs nt a (l.take i)).getD q 0)) rfl rfl rfl (qm ..) (wY (by omega)) rfl ty3) (zg rfl rfl (zi rfl rfl) (zg rfl rfl (qJ rfl rfl rfl) ?_)))))))))))
         refine zo (zf (zx rfl (fun h6 => ?_) (fun h6 => ?_)))
         ·
          have hno : zuC nt a z l = false := zvs hlt (by have h9 : (vs nt a (l.take i)).getD q 0 = (oth (lnA nt l[i]) (vl nt a (l.take i))) := (by simpa using h6); rw [List.getD_eq_getElem?_getD, List.getElem?_eq_getElem hlq] at h9; exact h9 ▸ List.getElem_mem hlq)
          refine zl (zh (zg rfl rfl (zn rfl rfl) (zo (zf (zP (qF (zQ (zQ (qF (zQ (qF ?_)))))))))))
          refine zQ (zQ (qF (zQ ?_)))
          exact ⟨.inr rfl, AVle.of (by rw [hno])⟩
         ·
          have hq3 : (oth (lnA nt l[i]) (vl nt a (l.take i))) ∉ (vs nt a (l.take i)).take (q + 1) := by have h9 : ¬ (vs nt a (l.take i)).getD q 0 = (oth (lnA nt l[i]) (vl nt a (l.take i))) := (by simpa using h6); rw [List.getD_eq_getElem?_getD, List.getElem?_eq_getElem hlq] at h9; rw [List.take_succ_eq_append_getElem hlq, List.mem_append, List.mem_singleton]; exact fun h => h.elim hq.2 (fun e => h9 e.symm)
          refine zC (zD (zf (zh (zg rfl rfl (zi rfl rfl) (zg rfl rfl (zV rfl rfl rfl ⟨(by omega), (by omega)⟩) (zg rfl rfl (zn rfl rfl) (zo ?_)))))))
          exact ⟨⟨q + 1, by omega, hq3⟩, by dsimp only; omega, zt _ ⟨rfl, rfl, rfl, rfl, rfl, rfl, rfl, trivial⟩ (rfl)⟩
        ·
         have hgq : (vs nt a (l.take i)).length <= q := by simpa using h5
         have htk : (vs nt a (l.take i)).take q = (vs nt a (l.take i)) := List.take_of_length_le (by omega)
         have hnm : (oth (lnA nt l[i]) (vl nt a (l.take i))) ∉ (vs nt a (l.take i)) := by have h9 := hq.2; rw [htk] at h9; exact h9
         refine qp (zL (zL (qw (zf (zh (zg rfl rfl (zI rfl rfl) (zg rfl rfl (zi rfl rfl) ?_)))))))
         refine zg rfl rfl (qg (size := 1) (rows := [[_]]) rfl Tryz.underlying23 ti3 rfl (by decide) rfl (by decide) ⟨_, _, rfl, (jF rfl), rfl⟩ (by rfl) (by simp [ofV]) rfl (by simp)) ?_
         refine jb rfl (vS rfl rfl rfl rfl (qm ..) rfl zwE (jh _) (by simp) (by simp; omega) (by unfold maxLen; simp; omega)) ?_
         refine zg rfl rfl (qo rfl rfl) (zo (zD (zf (zh (zg rfl rfl (zi rfl rfl) (zg rfl rfl (zV rfl rfl rfl ⟨(by omega), (by omega)⟩) (zg rfl rfl (zn rfl rfl) (zo ?_))))))))
         exact ⟨⟨i + 1, by omega, zvF hlt hi.2 hin htc hnm⟩, by dsimp only; omega, zt _ ⟨rfl, rfl, rfl, (congrArg (EV.psl 0) (by rw [zuR hlt]; simp)), rfl, trivial⟩ ((by exact congrArg (fun z => [PO.row z]) (by rw [zuR hlt]; simp [qA])))⟩
  ·
   have hge : l.length <= i := by simpa [zO] using h0
   have hvl := zvX nt (l.take i) a
   have hlk : (l.take i).length = i := by simp; omega
   refine qp (zL (zL (qw (zf (zl (zh (zg rfl rfl (zI rfl rfl) (zg rfl rfl (zI rfl rfl) (zg rfl rfl (jE rfl rfl rfl (qm ..) Tryz.underlying23) (zg rfl rfl (ze5 rfl rfl rfl ⟨(by omega), (by omega)⟩) (zg rfl rfl (qc rfl rfl rfl rfl (qm ..) jv (by omega) (by omega) (jh _)) ?_)))))))))))
   refine zg rfl rfl (zK (c := I (vl nt a (l.take i))) rfl rfl rfl (qm ..) (zvA (by omega)) rfl ty3) (zg rfl rfl (zi rfl rfl) (zg rfl rfl (qJ rfl rfl rfl) (zg rfl rfl (zn rfl rfl) (zo (zf (zP ?_))))))
   exact ⟨.inr rfl, AVle.of (by have e := List.take_of_length_le hge; have h8 := hi.2.1; have h9 := hi.2.2; rw [e] at h8 h9 ⊢; rw [zyJ h8 h9]; rfl)⟩
end Go.Av
end
section
namespace Go.Av
open Go.Proofs
set_option maxRecDepth 100000
set_option maxHeartbeats 1000000
variable {G : Glob}
theorem zxe (nt : Nt) (a z : Int) (l : List Int) (hn : zuA nt = true) (ha : 0 <= a /\ a <= nt.offices - 1) (hl : l.length <= 1000) {b : Bool} (h : zuC nt a z l = b) : ACall Tryz.prog G 59 [.agg (eNt nt), ei a, ei z, zO l] (.v (.bool b)) := h ▸ f59 nt a z l hn ha hl
theorem zzY (nt : Nt) (words : Int) (a b : List Int) (hn : zuA nt = true) (hw : 0 <= words /\ words <= 100) (ha : a.length <= 1000 /\ ∀ i ∈ a, inL nt i = true) (hb : b.length <= 1000 /\ ∀ i ∈ b, inL nt i = true) {c : Bool} (h : bt3 nt words a b = c) : ACall Tryz.prog G 61 [.agg (eNt nt), ei words, zO a, zO b] (.v (.bool c)) := h ▸ f61 nt words a b hn hw ha hb
theorem zvZ {nt : Nt} {a z words most : Int} (h : zuE nt a z words most = true) : zuE nt z a words most = true := by
 simp only [zuE, Bool.and_eq_true] at h ⊢
 exact ⟨⟨⟨⟨h.1.1.1.1, h.1.1.2⟩, h.1.1.1.2⟩, h.1.2⟩, h.2⟩
theorem zyl (nt : Nt) (a z words most : Int) (hl : nt.lines.length <= 1000) (hok : zuE nt a z words most = true) {r : List Int} (h : rtB nt a z words most = some r) : ∃ s : List Int, ACall Tryz.prog G 51 [.agg (eNt nt), ei z, ei a, ei words, ei most] (.tup [zO s, ei (words * prc nt r), ei 0]) := by
 have hn := (zuQ hok).1
 have hb := zAb hn (a := a) (z := z) (w := words) (most := most)
 cases hc : rtB nt z a words most with
 | none => rw [hb.1.2 hc] at h; cases h
 | some s =>
  refine ⟨s, ?_⟩
  rw [hb.2 r s h hc]
  exact zwo nt z a words most hl (zvZ hok) hc
theorem zyt (hk : KN G) (nt : Nt) (a z w most : Int) (o : List Int) (hs : 14 < nt.lines.length) : ACall Tryz.prog G 11 [.agg (eNt nt), ei a, ei z, ei w, ei most, zO o] (.v (.bool true)) := by
 refine zS Tryz.func11 rfl (by kernel_rfl) rfl ?_
 refine zl (zh (zg rfl rfl (jf rfl (zY rfl)) (zg rfl rfl (zn rfl rfl) (zo (zf (zl (zl (zh (zg rfl rfl (zu rfl rfl zuy) (zg rfl rfl (zA rfl rfl rfl zuP) (zg rfl rfl (qh rfl rfl rfl Tryz.underlying71) ?_)))))))))))
 refine zg rfl rfl (zuz (y := true) (by simp; omega) (qR rfl rfl rfl)) ?_
 refine zg rfl rfl (zi rfl rfl) (zk rfl rfl rfl (fun hg => zq rfl rfl) ?_)
 refine zk (x := .pub (.tup [])) rfl rfl rfl (fun hg => absurd hg (by decide)) ?_
 refine zk (x := .pub (.tup [])) rfl rfl rfl (fun hg => absurd hg (by decide)) ?_
 refine zg rfl rfl (zU rfl rfl (fun _ => rfl) (fun h => absurd h (by decide))) ?_
 refine zg rfl rfl (zi rfl rfl) (zk rfl rfl rfl (fun hg => zZ rfl rfl qf (by exact zLb rfl)) ?_)
 refine zk (x := .pub (.tup [])) rfl rfl rfl (fun hg => absurd hg (by decide)) ?_
 refine zk (x := .pub (.tup [])) rfl rfl rfl (fun hg => absurd hg (by decide)) ?_
 refine zg rfl rfl (zU rfl rfl (fun _ => rfl) (fun h => absurd h (by decide))) ?_
 refine zg rfl rfl (zi rfl rfl) (zk rfl rfl rfl (fun hg => zZ rfl rfl qf (by exact zLb rfl)) (zk rfl rfl rfl (fun hg => zi rfl rfl) ?_))
 refine zk (x := .pub (.tup [])) rfl rfl rfl (fun hg => absurd hg (by decide)) ?_
 refine zk (x := .pub (.tup [])) rfl rfl rfl (fun hg => absurd hg (by decide)) ?_
 refine zg rfl rfl (zU rfl rfl (fun _ => rfl) (fun h => absurd h (by decide))) ?_
 refine zg rfl rfl (zi rfl rfl) (zk rfl rfl rfl (fun hg => zZ rfl rfl qf (by exact zLb rfl)) (zk rfl rfl rfl (fun hg => zi rfl rfl) ?_))
 refine zk (x := .pub (.tup [])) rfl rfl rfl (fun hg => absurd hg (by decide)) ?_
 refine zk (x := .pub (.tup [])) rfl rfl rfl (fun hg => absurd hg (by decide)) ?_
 refine zg rfl rfl (zU rfl rfl (fun _ => rfl) (fun h => absurd h (by decide))) ?_
 refine zg rfl rfl (zi rfl rfl) (zk rfl rfl rfl (fun hg => zi rfl rfl) ?_)
 refine zk (x := .pub (.tup [])) rfl rfl rfl (fun hg => absurd hg (by decide)) ?_
 refine zk (x := .pub (.tup [])) rfl rfl rfl (fun hg => absurd hg (by decide)) ?_
 refine zg rfl rfl (zU rfl rfl (fun _ => rfl) (fun h => absurd h (by decide))) ?_
 refine zg rfl rfl (zi rfl rfl) (zk rfl rfl rfl (fun hg => zi rfl rfl) ?_)
 refine zk (x := .pub (.tup [])) rfl rfl rfl (fun hg => absurd hg (by decide)) ?_
 refine zk (x := .pub (.tup [])) rfl rfl rfl (fun hg => absurd hg (by decide)) ?_
 refine zg rfl rfl (zU rfl rfl (fun _ => rfl) (fun h => absurd h (by decide))) ?_
 refine zo (zf (zx rfl (fun h0 => ?_) (fun h0 => ?_)))
 ·
  refine zl (zh (zg rfl rfl (zy (av := []) rfl trivial hk) (zg rfl rfl (zn rfl rfl) (zo (zf (zP (zQ ?_)))))))
  exact ⟨.inr rfl, AVle.refl _⟩
 ·
  exfalso; simp at h0
theorem zyE (hk : KN G) (nt : Nt) (a z w most : Int) (o : List Int) (hs : nt.lines.length <= 14) (ho : 8 < o.length) : ACall Tryz.prog G 11 [.agg (eNt nt), ei a, ei z, ei w, ei most, zO o] (.v (.bool true)) := by
 refine zS Tryz.func11 rfl (by kernel_rfl) rfl ?_
 refine zl (zh (zg rfl rfl (jf rfl (zY rfl)) (zg rfl rfl (zn rfl rfl) (zo (zf (zl (zl (zh (zg rfl rfl (zu rfl rfl zuy) (zg rfl rfl (zA rfl rfl rfl zuP) (zg rfl rfl (qh rfl rfl rfl Tryz.underlying71) ?_)))))))))))
 refine zg rfl rfl (zuz (y := false) (by simp; omega) (qR rfl rfl rfl)) ?_
 refine zg rfl rfl (zi rfl rfl) (zk rfl rfl rfl (fun hg => zq rfl rfl) (zk rfl rfl rfl (fun hg => qh rfl rfl (rfl) Tryz.underlying23) ?_))
 refine zk rfl rfl rfl (fun hg => zuz (y := true) (by simp [zO]; omega) (qR rfl rfl rfl)) ?_
 refine zg rfl rfl (qU rfl rfl rfl rfl) (zg rfl rfl (zi rfl rfl) (zk rfl rfl rfl (fun hg => zZ rfl rfl qf (by exact zLb rfl)) ?_))
 refine zk (x := .pub (.tup [])) rfl rfl rfl (fun hg => absurd hg (by decide)) ?_
 refine zk (x := .pub (.tup [])) rfl rfl rfl (fun hg => absurd hg (by decide)) ?_
 refine zg rfl rfl (zU rfl rfl (fun _ => rfl) (fun h => absurd h (by decide))) ?_
 refine zg rfl rfl (zi rfl rfl) (zk rfl rfl rfl (fun hg => zZ rfl rfl qf (by exact zLb rfl)) (zk rfl rfl rfl (fun hg => zi rfl rfl) ?_))
 refine zk (x := .pub (.tup [])) rfl rfl rfl (fun hg => absurd hg (by decide)) ?_
 refine zk (x := .pub (.tup [])) rfl rfl rfl (fun hg => absurd hg (by decide)) ?_
 refine zg rfl rfl (zU rfl rfl (fun _ => rfl) (fun h => absurd h (by decide))) ?_
 refine zg rfl rfl (zi rfl rfl) (zk rfl rfl rfl (fun hg => zZ rfl rfl qf (by exact zLb rfl)) (zk rfl rfl rfl (fun hg => zi rfl rfl) ?_))
 refine zk (x := .pub (.tup [])) rfl rfl rfl (fun hg => absurd hg (by decide)) ?_
 refine zk (x := .pub (.tup [])) rfl rfl rfl (fun hg => absurd hg (by decide)) ?_
 refine zg rfl rfl (zU rfl rfl (fun _ => rfl) (fun h => absurd h (by decide))) ?_
 refine zg rfl rfl (zi rfl rfl) (zk rfl rfl rfl (fun hg => zi rfl rfl) ?_)
 refine zk (x := .pub (.tup [])) rfl rfl rfl (fun hg => absurd hg (by decide)) ?_
 refine zk (x := .pub (.tup [])) rfl rfl rfl (fun hg => absurd hg (by decide)) ?_
 refine zg rfl rfl (zU rfl rfl (fun _ => rfl) (fun h => absurd h (by decide))) ?_
 refine zg rfl rfl (zi rfl rfl) (zk rfl rfl rfl (fun hg => zi rfl rfl) ?_)
 refine zk (x := .pub (.tup [])) rfl rfl rfl (fun hg => absurd hg (by decide)) ?_
 refine zk (x := .pub (.tup [])) rfl rfl rfl (fun hg => absurd hg (by decide)) ?_
 refine zg rfl rfl (zU rfl rfl (fun _ => rfl) (fun h => absurd h (by decide))) ?_
 refine zo (zf (zx rfl (fun h0 => ?_) (fun h0 => ?_)))
 ·
  refine zl (zh (zg rfl rfl (zy (av := []) rfl trivial hk) (zg rfl rfl (zn rfl rfl) (zo (zf (zP (zQ ?_)))))))
  exact ⟨.inr rfl, AVle.refl _⟩
 ·
  exfalso; simp at h0
theorem zzr (hk : KN G) (nt : Nt) (a z w most : Int) (o : List Int) (hs : nt.lines.length <= 14) (ho : o.length <= 8) (hnet : zuA nt = false) : ACall Tryz.prog G 11 [.agg (eNt nt), ei a, ei z, ei w, ei most, zO o] (.v (.bool true)) := by
 refine zS Tryz.func11 rfl (by kernel_rfl) rfl ?_
 refine zl (zh (zg rfl rfl (jf rfl (zY rfl)) (zg rfl rfl (zn rfl rfl) (zo (zf (zl (zl (zh (zg rfl rfl (zu rfl rfl zuy) (zg rfl rfl (zA rfl rfl rfl zuP) (zg rfl rfl (qh rfl rfl rfl Tryz.underlying71) ?_)))))))))))
 refine zg rfl rfl (zuz (y := false) (by simp; omega) (qR rfl rfl rfl)) ?_
 refine zg rfl rfl (zi rfl rfl) (zk rfl rfl rfl (fun hg => zq rfl rfl) (zk rfl rfl rfl (fun hg => qh rfl rfl (rfl) Tryz.underlying23) ?_))
 refine zk rfl rfl rfl (fun hg => zuz (y := false) (by simp [zO]; omega) (qR rfl rfl rfl)) ?_
 refine zg rfl rfl (qU rfl rfl rfl rfl) (zg rfl rfl (zi rfl rfl) (zk rfl rfl rfl (fun hg => zZ rfl rfl qf (by exact zLb rfl)) (zk rfl rfl rfl (fun hg => zy (av := [_]) rfl ⟨(rfl), trivial⟩ (zvr nt (by omega) (b := false) hnet)) (zk rfl rfl rfl (fun hg => je rfl (rfl)) (zg rfl rfl (qU rfl rfl rfl rfl) (zg rfl rfl (zi rfl rfl) (zk rfl rfl rfl (fun hg => zZ rfl rfl qf (by exact zLb rfl)) (zk rfl rfl rfl (fun hg => zi rfl rfl) ?_))))))))
 refine zk (x := .pub (.tup [])) rfl rfl rfl (fun hg => absurd hg (by decide)) ?_
 refine zk (x := .pub (.tup [])) rfl rfl rfl (fun hg => absurd hg (by decide)) ?_
 refine zg rfl rfl (zU rfl rfl (fun _ => rfl) (fun h => absurd h (by decide))) ?_
 refine zg rfl rfl (zi rfl rfl) (zk rfl rfl rfl (fun hg => zZ rfl rfl qf (by exact zLb rfl)) (zk rfl rfl rfl (fun hg => zi rfl rfl) ?_))
 refine zk (x := .pub (.tup [])) rfl rfl rfl (fun hg => absurd hg (by decide)) ?_
 refine zk (x := .pub (.tup [])) rfl rfl rfl (fun hg => absurd hg (by decide)) ?_
 refine zg rfl rfl (zU rfl rfl (fun _ => rfl) (fun h => absurd h (by decide))) ?_
 refine zg rfl rfl (zi rfl rfl) (zk rfl rfl rfl (fun hg => zi rfl rfl) ?_)
 refine zk (x := .pub (.tup [])) rfl rfl rfl (fun hg => absurd hg (by decide)) ?_
 refine zk (x := .pub (.tup [])) rfl rfl rfl (fun hg => absurd hg (by decide)) ?_
 refine zg rfl rfl (zU rfl rfl (fun _ => rfl) (fun h => absurd h (by decide))) ?_
 refine zg rfl rfl (zi rfl rfl) (zk rfl rfl rfl (fun hg => zi rfl rfl) ?_)
 refine zk (x := .pub (.tup [])) rfl rfl rfl (fun hg => absurd hg (by decide)) ?_
 refine zk (x := .pub (.tup [])) rfl rfl rfl (fun hg => absurd hg (by decide)) ?_
 refine zg rfl rfl (zU rfl rfl (fun _ => rfl) (fun h => absurd h (by decide))) ?_
 refine zo (zf (zx rfl (fun h0 => ?_) (fun h0 => ?_)))
 ·
  refine zl (zh (zg rfl rfl (zy (av := []) rfl trivial hk) (zg rfl rfl (zn rfl rfl) (zo (zf (zP (zQ ?_)))))))
  exact ⟨.inr rfl, AVle.refl _⟩
 ·
  exfalso; simp at h0
theorem zvk (a z w m : Bool) : ((((((false || false) || (!true)) || (!a)) || (!z)) || (!w)) || (!m)) = !((((true && a) && z) && w) && m) := by cases a <;> cases z <;> cases w <;> cases m <;> rfl
theorem zy6 (hk : KN G) (nt : Nt) (a z w most : Int) (o : List Int) (hs : nt.lines.length <= 14) (ho : o.length <= 8) (hnet : zuA nt = true) (hb : zuE nt a z w most = false) : ACall Tryz.prog G 11 [.agg (eNt nt), ei a, ei z, ei w, ei most, zO o] (.v (.bool true)) := by
 have h6 := zuH hnet
 have hof : 1 <= nt.offices /\ nt.offices <= 6 := ⟨h6.1, h6.2.1⟩
 refine zS Tryz.func11 rfl (by kernel_rfl) rfl ?_
 refine zl (zh (zg rfl rfl (jf rfl (zY rfl)) (zg rfl rfl (zn rfl rfl) (zo (zf (zl (zl (zh (zg rfl rfl (zu rfl rfl zuy) (zg rfl rfl (zA rfl rfl rfl zuP) (zg rfl rfl (qh rfl rfl rfl Tryz.underlying71) ?_)))))))))))
 refine zg rfl rfl (zuz (y := false) (by simp; omega) (qR rfl rfl rfl)) ?_
 refine zg rfl rfl (zi rfl rfl) (zk rfl rfl rfl (fun hg => zq rfl rfl) (zk rfl rfl rfl (fun hg => qh rfl rfl (rfl) Tryz.underlying23) ?_))
 refine zk rfl rfl rfl (fun hg => zuz (y := false) (by simp [zO]; omega) (qR rfl rfl rfl)) ?_
 refine zg rfl rfl (qU rfl rfl rfl rfl) (zg rfl rfl (zi rfl rfl) (zk rfl rfl rfl (fun hg => zZ rfl rfl qf (by exact zLb rfl)) (zk rfl rfl rfl (fun hg => zy (av := [_]) rfl ⟨(rfl), trivial⟩ (zvr nt (by omega) (b := true) hnet)) (zk rfl rfl rfl (fun hg => je rfl (rfl)) (zg rfl rfl (qU rfl rfl rfl rfl) (zg rfl rfl (zi rfl rfl) (zk rfl rfl rfl (fun hg => zZ rfl rfl qf (by exact zLb rfl)) (zk rfl rfl rfl (fun hg => zi rfl rfl) (zk rfl rfl rfl (fun hg => zy (av := [_, _]) rfl ⟨(rfl), (rfl), trivial⟩ (f56 nt _ hof)) (zk rfl rfl rfl (fun hg => je rfl (rfl)) (zg rfl rfl (qU rfl rfl rfl rfl) ?_)))))))))))
 refine zg rfl rfl (zi rfl rfl) (zk rfl rfl rfl (fun hg => zZ rfl rfl qf (by exact zLb rfl)) (zk rfl rfl rfl (fun hg => zi rfl rfl) (zk rfl rfl rfl (fun hg => zy (av := [_, _]) rfl ⟨((if_pos hg)), ((if_pos hg)), trivial⟩ (f56 nt _ hof)) (zk rfl rfl rfl (fun hg => je rfl (if_pos hg)) (zg rfl rfl (qU rfl rfl rfl rfl) (zg rfl rfl (zi rfl rfl) (zk rfl rfl rfl (fun hg => zi rfl rfl) (zk rfl rfl rfl (fun hg => zy (av := [_]) rfl ⟨((if_pos hg)), trivial⟩ (f53 _)) (zk rfl rfl rfl (fun hg => je rfl (if_pos hg)) (zg rfl rfl (qU rfl rfl rfl rfl) (zg rfl rfl (zi rfl rfl) ?_)))))))))))
 refine zk rfl rfl rfl (fun hg => zi rfl rfl) (zk rfl rfl rfl (fun hg => zy (av := [_]) rfl ⟨((if_pos hg)), trivial⟩ (f53 _)) (zk rfl rfl rfl (fun hg => je rfl (if_pos hg)) (zg rfl rfl (qU rfl rfl rfl rfl) (zo (zf (zx rfl (fun h0 => ?_) (fun h0 => ?_)))))))
 ·
  refine zl (zh (zg rfl rfl (zy (av := []) rfl trivial hk) (zg rfl rfl (zn rfl rfl) (zo (zf (zP (zQ ?_)))))))
  exact ⟨.inr rfl, AVle.refl _⟩
 ·
  exfalso; have h9 : (!((((true && zu9 nt a) && zu9 nt z) && inB w 0 100) && inB most 0 100)) = false := (zvk ..).symm.trans h0; unfold zuE at hb; rw [hnet] at hb; rw [hb] at h9; cases h9
theorem zyd (hk : KN G) (nt : Nt) (a z w most : Int) (o : List Int) (hs : nt.lines.length <= 14) (ho : o.length <= 8) (hb : zuE nt a z w most = true) (hr : rtB nt a z w most = none) (hgo : zuC nt a z o = false) : ACall Tryz.prog G 11 [.agg (eNt nt), ei a, ei z, ei w, ei most, zO o] (.v (.bool true)) := by
 have hq := zuQ hb
 have hnet := hq.1
 have h6 := zuH hnet
 have hof : 1 <= nt.offices /\ nt.offices <= 6 := ⟨h6.1, h6.2.1⟩
 refine zS Tryz.func11 rfl (by kernel_rfl) rfl ?_
 refine zl (zh (zg rfl rfl (jf rfl (zY rfl)) (zg rfl rfl (zn rfl rfl) (zo (zf (zl (zl (zh (zg rfl rfl (zu rfl rfl zuy) (zg rfl rfl (zA rfl rfl rfl zuP) (zg rfl rfl (qh rfl rfl rfl Tryz.underlying71) ?_)))))))))))
 refine zg rfl rfl (zuz (y := false) (by simp; omega) (qR rfl rfl rfl)) ?_
 refine zg rfl rfl (zi rfl rfl) (zk rfl rfl rfl (fun hg => zq rfl rfl) (zk rfl rfl rfl (fun hg => qh rfl rfl (rfl) Tryz.underlying23) ?_))
 refine zk rfl rfl rfl (fun hg => zuz (y := false) (by simp [zO]; omega) (qR rfl rfl rfl)) ?_
 refine zg rfl rfl (qU rfl rfl rfl rfl) (zg rfl rfl (zi rfl rfl) (zk rfl rfl rfl (fun hg => zZ rfl rfl qf (by exact zLb rfl)) (zk rfl rfl rfl (fun hg => zy (av := [_]) rfl ⟨(rfl), trivial⟩ (zvr nt (by omega) (b := true) hnet)) (zk rfl rfl rfl (fun hg => je rfl (rfl)) (zg rfl rfl (qU rfl rfl rfl rfl) (zg rfl rfl (zi rfl rfl) (zk rfl rfl rfl (fun hg => zZ rfl rfl qf (by exact zLb rfl)) (zk rfl rfl rfl (fun hg => zi rfl rfl) (zk rfl rfl rfl (fun hg => zy (av := [_, _]) rfl ⟨(rfl), (rfl), trivial⟩ (f56 nt _ hof)) (zk rfl rfl rfl (fun hg => je rfl (rfl)) (zg rfl rfl (qU rfl rfl rfl rfl) ?_)))))))))))
 refine zg rfl rfl (zi rfl rfl) (zk rfl rfl rfl (fun hg => zZ rfl rfl qf (by exact zLb rfl)) (zk rfl rfl rfl (fun hg => zi rfl rfl) (zk rfl rfl rfl (fun hg => zy (av := [_, _]) rfl ⟨((if_pos hg)), ((if_pos hg)), trivial⟩ (f56 nt _ hof)) (zk rfl rfl rfl (fun hg => je rfl (if_pos hg)) (zg rfl rfl (qU rfl rfl rfl rfl) (zg rfl rfl (zi rfl rfl) (zk rfl rfl rfl (fun hg => zi rfl rfl) (zk rfl rfl rfl (fun hg => zy (av := [_]) rfl ⟨((if_pos hg)), trivial⟩ (f53 _)) (zk rfl rfl rfl (fun hg => je rfl (if_pos hg)) (zg rfl rfl (qU rfl rfl rfl rfl) (zg rfl rfl (zi rfl rfl) ?_)))))))))))
 refine zk rfl rfl rfl (fun hg => zi rfl rfl) (zk rfl rfl rfl (fun hg => zy (av := [_]) rfl ⟨((if_pos hg)), trivial⟩ (f53 _)) (zk rfl rfl rfl (fun hg => je rfl (if_pos hg)) (zg rfl rfl (qU rfl rfl rfl rfl) (zo (zf (zx rfl (fun h0 => ?_) (fun h0 => ?_)))))))
 ·
  exfalso; have h9 : (!((((true && zu9 nt a) && zu9 nt z) && inB w 0 100) && inB most 0 100)) = true := (zvk ..).symm.trans h0; unfold zuE at hb; rw [hnet] at hb; rw [hb] at h9; cases h9
 ·
  refine zC (zf (zl (zh (zg rfl rfl (zZ rfl rfl qf (by exact zLb rfl)) (zg rfl rfl (zi rfl rfl) (zg rfl rfl (zi rfl rfl) (zg rfl rfl (zi rfl rfl) (zg rfl rfl (zi rfl rfl) (zg rfl rfl (zy (av := [_, _, _, _, _]) rfl ⟨rfl, rfl, rfl, rfl, rfl, trivial⟩ (zwm nt a z w most (by omega) hb hr)) (zg rfl rfl (zq rfl rfl) (zg rfl rfl (zN rfl rfl rfl) ?_)))))))))))
  refine zg rfl rfl (zN rfl rfl rfl) (zg rfl rfl (zN rfl rfl rfl) (zg rfl rfl (zW rfl rfl) (zg rfl rfl (zn rfl rfl) (zg rfl rfl (zn rfl rfl) (zo (zf (zl (zh (zg rfl rfl (zZ rfl rfl qf (by exact zLb rfl)) (zg rfl rfl (zi rfl rfl) (zg rfl rfl (zi rfl rfl) ?_)))))))))))
  refine zg rfl rfl (zi rfl rfl) (zg rfl rfl (zi rfl rfl) (zg rfl rfl (zy (av := [_, _, _, _, _]) rfl ⟨rfl, rfl, rfl, rfl, rfl, trivial⟩ (zwm nt z a w most (by omega) (zvZ hb) (zAb hnet |>.1.1 hr))) (zg rfl rfl (zq rfl rfl) (zg rfl rfl (zN rfl rfl rfl) (zg rfl rfl (zN rfl rfl rfl) (zg rfl rfl (zN rfl rfl rfl) (zg rfl rfl (zW rfl rfl) (zg rfl rfl (zn rfl rfl) (zg rfl rfl (zn rfl rfl) (zo (zf ?_)))))))))))
  refine zl (zl (zh (zg rfl rfl (zi rfl rfl) (zg rfl rfl (zi rfl rfl) (zg rfl rfl (vg rfl rfl rfl) (zg rfl rfl (zi rfl rfl) (zk rfl rfl rfl (fun hg => zi rfl rfl) (zk rfl rfl rfl (fun hg => zi rfl rfl) (zk rfl rfl rfl (fun hg => vg rfl (rfl) (rfl)) (zg rfl rfl (qU rfl rfl rfl rfl) (zg rfl rfl (zi rfl rfl) ?_)))))))))))
  refine zk rfl rfl rfl (fun hg => zi rfl rfl) (zk rfl rfl rfl (fun hg => vg rfl (rfl) rfl) (zk rfl rfl rfl (fun hg => zi rfl (rfl)) (zk rfl rfl rfl (fun hg => zi rfl rfl) (zk rfl rfl rfl (fun hg => vg rfl rfl rfl) (zk rfl rfl rfl (fun hg => qI rfl rfl rfl rfl) (zg rfl rfl (qU rfl rfl rfl rfl) (zo (zf (zx rfl (fun h1 => ?_) (fun h1 => ?_))))))))))
  ·
   exfalso; simp at h1
  ·
   refine zC (zf (zl (zh (zg rfl rfl (zZ rfl rfl qf (by exact zLb rfl)) (zg rfl rfl (zi rfl rfl) (zg rfl rfl (zi rfl rfl) (zg rfl rfl (zq rfl rfl) (zg rfl rfl (zy (av := [_, _, _, _]) rfl ⟨rfl, rfl, rfl, rfl, trivial⟩ (zxe nt a z o hnet hq.2.1 (by omega) (b := false) hgo)) (zg rfl rfl (zi rfl rfl) (zk rfl rfl rfl (fun hg => zZ rfl rfl qf (by exact zLb rfl)) (zk rfl rfl rfl (fun hg => zq rfl rfl) ?_)))))))))))
   refine zk rfl rfl rfl (fun hg => zy (av := [_, _]) rfl ⟨((if_pos hg)), ((if_pos hg)), trivial⟩ (f60 nt o hnet (by omega) (by exact absurd hg (by decide)))) ?_
   refine zk rfl rfl rfl (fun hg => zi rfl rfl) ?_
   refine zk (x := .pub (.tup [])) rfl rfl rfl (fun hg => absurd hg (by decide)) ?_
   refine zg rfl rfl (zU rfl rfl (fun h => absurd h (by decide)) (fun _ => rfl)) ?_
   refine zg rfl rfl (zn rfl rfl) (zo (zf (zl (zl (zh (zg rfl rfl (zi rfl rfl) (zg rfl rfl (vg rfl rfl rfl) (zo (zf (zx rfl (fun h2 => ?_) (fun h2 => ?_)))))))))))
   ·
    refine zl (zh (zg rfl rfl (zi rfl rfl) (zg rfl rfl (je rfl rfl) (zg rfl rfl (zi rfl rfl) (zk rfl rfl rfl (fun hg => zy (av := []) rfl trivial hk) (zg rfl rfl (qI rfl rfl rfl rfl) (zg rfl rfl (zn rfl rfl) (zo (zf (zP (zQ ?_)))))))))))
    exact ⟨.inr rfl, AVle.of (by simp)⟩
   ·
    exfalso; simp at h2
theorem zyk (hk : KN G) (nt : Nt) (a z w most : Int) (o : List Int) (hs : nt.lines.length <= 14) (ho : o.length <= 8) (hb : zuE nt a z w most = true) (hr : rtB nt a z w most = none) (hgo : zuC nt a z o = true) (hgm : decide (grb nt o <= most) = false) : ACall Tryz.prog G 11 [.agg (eNt nt), ei a, ei z, ei w, ei most, zO o] (.v (.bool true)) := by
 have hq := zuQ hb
 have hnet := hq.1
 have h6 := zuH hnet
 have hof : 1 <= nt.offices /\ nt.offices <= 6 := ⟨h6.1, h6.2.1⟩
 refine zS Tryz.func11 rfl (by kernel_rfl) rfl ?_
 refine zl (zh (zg rfl rfl (jf rfl (zY rfl)) (zg rfl rfl (zn rfl rfl) (zo (zf (zl (zl (zh (zg rfl rfl (zu rfl rfl zuy) (zg rfl rfl (zA rfl rfl rfl zuP) (zg rfl rfl (qh rfl rfl rfl Tryz.underlying71) ?_)))))))))))
 refine zg rfl rfl (zuz (y := false) (by simp; omega) (qR rfl rfl rfl)) ?_
 refine zg rfl rfl (zi rfl rfl) (zk rfl rfl rfl (fun hg => zq rfl rfl) (zk rfl rfl rfl (fun hg => qh rfl rfl (rfl) Tryz.underlying23) ?_))
 refine zk rfl rfl rfl (fun hg => zuz (y := false) (by simp [zO]; omega) (qR rfl rfl rfl)) ?_
 refine zg rfl rfl (qU rfl rfl rfl rfl) (zg rfl rfl (zi rfl rfl) (zk rfl rfl rfl (fun hg => zZ rfl rfl qf (by exact zLb rfl)) (zk rfl rfl rfl (fun hg => zy (av := [_]) rfl ⟨(rfl), trivial⟩ (zvr nt (by omega) (b := true) hnet)) (zk rfl rfl rfl (fun hg => je rfl (rfl)) (zg rfl rfl (qU rfl rfl rfl rfl) (zg rfl rfl (zi rfl rfl) (zk rfl rfl rfl (fun hg => zZ rfl rfl qf (by exact zLb rfl)) (zk rfl rfl rfl (fun hg => zi rfl rfl) (zk rfl rfl rfl (fun hg => zy (av := [_, _]) rfl ⟨(rfl), (rfl), trivial⟩ (f56 nt _ hof)) (zk rfl rfl rfl (fun hg => je rfl (rfl)) (zg rfl rfl (qU rfl rfl rfl rfl) ?_)))))))))))
 refine zg rfl rfl (zi rfl rfl) (zk rfl rfl rfl (fun hg => zZ rfl rfl qf (by exact zLb rfl)) (zk rfl rfl rfl (fun hg => zi rfl rfl) (zk rfl rfl rfl (fun hg => zy (av := [_, _]) rfl ⟨((if_pos hg)), ((if_pos hg)), trivial⟩ (f56 nt _ hof)) (zk rfl rfl rfl (fun hg => je rfl (if_pos hg)) (zg rfl rfl (qU rfl rfl rfl rfl) (zg rfl rfl (zi rfl rfl) (zk rfl rfl rfl (fun hg => zi rfl rfl) (zk rfl rfl rfl (fun hg => zy (av := [_]) rfl ⟨((if_pos hg)), trivial⟩ (f53 _)) (zk rfl rfl rfl (fun hg => je rfl (if_pos hg)) (zg rfl rfl (qU rfl rfl rfl rfl) (zg rfl rfl (zi rfl rfl) ?_)))))))))))
 refine zk rfl rfl rfl (fun hg => zi rfl rfl) (zk rfl rfl rfl (fun hg => zy (av := [_]) rfl ⟨((if_pos hg)), trivial⟩ (f53 _)) (zk rfl rfl rfl (fun hg => je rfl (if_pos hg)) (zg rfl rfl (qU rfl rfl rfl rfl) (zo (zf (zx rfl (fun h0 => ?_) (fun h0 => ?_)))))))
 ·
  exfalso; have h9 : (!((((true && zu9 nt a) && zu9 nt z) && inB w 0 100) && inB most 0 100)) = true := (zvk ..).symm.trans h0; unfold zuE at hb; rw [hnet] at hb; rw [hb] at h9; cases h9
 ·
  refine zC (zf (zl (zh (zg rfl rfl (zZ rfl rfl qf (by exact zLb rfl)) (zg rfl rfl (zi rfl rfl) (zg rfl rfl (zi rfl rfl) (zg rfl rfl (zi rfl rfl) (zg rfl rfl (zi rfl rfl) (zg rfl rfl (zy (av := [_, _, _, _, _]) rfl ⟨rfl, rfl, rfl, rfl, rfl, trivial⟩ (zwm nt a z w most (by omega) hb hr)) (zg rfl rfl (zq rfl rfl) (zg rfl rfl (zN rfl rfl rfl) ?_)))))))))))
  refine zg rfl rfl (zN rfl rfl rfl) (zg rfl rfl (zN rfl rfl rfl) (zg rfl rfl (zW rfl rfl) (zg rfl rfl (zn rfl rfl) (zg rfl rfl (zn rfl rfl) (zo (zf (zl (zh (zg rfl rfl (zZ rfl rfl qf (by exact zLb rfl)) (zg rfl rfl (zi rfl rfl) (zg rfl rfl (zi rfl rfl) ?_)))))))))))
  refine zg rfl rfl (zi rfl rfl) (zg rfl rfl (zi rfl rfl) (zg rfl rfl (zy (av := [_, _, _, _, _]) rfl ⟨rfl, rfl, rfl, rfl, rfl, trivial⟩ (zwm nt z a w most (by omega) (zvZ hb) (zAb hnet |>.1.1 hr))) (zg rfl rfl (zq rfl rfl) (zg rfl rfl (zN rfl rfl rfl) (zg rfl rfl (zN rfl rfl rfl) (zg rfl rfl (zN rfl rfl rfl) (zg rfl rfl (zW rfl rfl) (zg rfl rfl (zn rfl rfl) (zg rfl rfl (zn rfl rfl) (zo (zf ?_)))))))))))
  refine zl (zl (zh (zg rfl rfl (zi rfl rfl) (zg rfl rfl (zi rfl rfl) (zg rfl rfl (vg rfl rfl rfl) (zg rfl rfl (zi rfl rfl) (zk rfl rfl rfl (fun hg => zi rfl rfl) (zk rfl rfl rfl (fun hg => zi rfl rfl) (zk rfl rfl rfl (fun hg => vg rfl (rfl) (rfl)) (zg rfl rfl (qU rfl rfl rfl rfl) (zg rfl rfl (zi rfl rfl) ?_)))))))))))
  refine zk rfl rfl rfl (fun hg => zi rfl rfl) (zk rfl rfl rfl (fun hg => vg rfl (rfl) rfl) (zk rfl rfl rfl (fun hg => zi rfl (rfl)) (zk rfl rfl rfl (fun hg => zi rfl rfl) (zk rfl rfl rfl (fun hg => vg rfl rfl rfl) (zk rfl rfl rfl (fun hg => qI rfl rfl rfl rfl) (zg rfl rfl (qU rfl rfl rfl rfl) (zo (zf (zx rfl (fun h1 => ?_) (fun h1 => ?_))))))))))
  ·
   exfalso; simp at h1
  ·
   refine zC (zf (zl (zh (zg rfl rfl (zZ rfl rfl qf (by exact zLb rfl)) (zg rfl rfl (zi rfl rfl) (zg rfl rfl (zi rfl rfl) (zg rfl rfl (zq rfl rfl) (zg rfl rfl (zy (av := [_, _, _, _]) rfl ⟨rfl, rfl, rfl, rfl, trivial⟩ (zxe nt a z o hnet hq.2.1 (by omega) (b := true) hgo)) (zg rfl rfl (zi rfl rfl) (zk rfl rfl rfl (fun hg => zZ rfl rfl qf (by exact zLb rfl)) (zk rfl rfl rfl (fun hg => zq rfl rfl) ?_)))))))))))
   refine zk rfl rfl rfl (fun hg => zy (av := [_, _]) rfl ⟨(rfl), (rfl), trivial⟩ (f60 nt o hnet (by omega) (zu8 hgo))) (zk rfl rfl rfl (fun hg => zi rfl rfl) (zk rfl rfl rfl (fun hg => zuz hgm (zaq rfl rfl rfl)) (zg rfl rfl (qI rfl rfl rfl rfl) (zg rfl rfl (zn rfl rfl) (zo (zf (zl (zl (zh (zg rfl rfl (zi rfl rfl) (zg rfl rfl (vg rfl rfl rfl) ?_)))))))))))
   refine zo (zf (zx rfl (fun h2 => ?_) (fun h2 => ?_)))
   ·
    refine zl (zh (zg rfl rfl (zi rfl rfl) (zg rfl rfl (je rfl rfl) (zg rfl rfl (zi rfl rfl) (zk rfl rfl rfl (fun hg => zy (av := []) rfl trivial hk) (zg rfl rfl (qI rfl rfl rfl rfl) (zg rfl rfl (zn rfl rfl) (zo (zf (zP (zQ ?_)))))))))))
    exact ⟨.inr rfl, AVle.of (by simp)⟩
   ·
    exfalso; simp at h2
theorem zx6 (hk : KN G) (nt : Nt) (a z w most : Int) (o : List Int) (hs : nt.lines.length <= 14) (ho : o.length <= 8) (hb : zuE nt a z w most = true) {r : List Int} (hr : rtB nt a z w most = some r) {s : List Int} (hsb : ACall Tryz.prog G 51 [.agg (eNt nt), ei z, ei a, ei w, ei most] (.tup [zO s, ei (w * prc nt r), ei 0])) (hgo : zuC nt a z o = false) : ACall Tryz.prog G 11 [.agg (eNt nt), ei a, ei z, ei w, ei most, zO o] (.v (.bool true)) := by
 have hq := zuQ hb
 have hnet := hq.1
 have h6 := zuH hnet
 have hof : 1 <= nt.offices /\ nt.offices <= 6 := ⟨h6.1, h6.2.1⟩
 have hbd := zv3 hb hr
 have hbest := zvB hnet hr
 refine zS Tryz.func11 rfl (by kernel_rfl) rfl ?_
 refine zl (zh (zg rfl rfl (jf rfl (zY rfl)) (zg rfl rfl (zn rfl rfl) (zo (zf (zl (zl (zh (zg rfl rfl (zu rfl rfl zuy) (zg rfl rfl (zA rfl rfl rfl zuP) (zg rfl rfl (qh rfl rfl rfl Tryz.underlying71) ?_)))))))))))
 refine zg rfl rfl (zuz (y := false) (by simp; omega) (qR rfl rfl rfl)) ?_
 refine zg rfl rfl (zi rfl rfl) (zk rfl rfl rfl (fun hg => zq rfl rfl) (zk rfl rfl rfl (fun hg => qh rfl rfl (rfl) Tryz.underlying23) ?_))
 refine zk rfl rfl rfl (fun hg => zuz (y := false) (by simp [zO]; omega) (qR rfl rfl rfl)) ?_
 refine zg rfl rfl (qU rfl rfl rfl rfl) (zg rfl rfl (zi rfl rfl) (zk rfl rfl rfl (fun hg => zZ rfl rfl qf (by exact zLb rfl)) (zk rfl rfl rfl (fun hg => zy (av := [_]) rfl ⟨(rfl), trivial⟩ (zvr nt (by omega) (b := true) hnet)) (zk rfl rfl rfl (fun hg => je rfl (rfl)) (zg rfl rfl (qU rfl rfl rfl rfl) (zg rfl rfl (zi rfl rfl) (zk rfl rfl rfl (fun hg => zZ rfl rfl qf (by exact zLb rfl)) (zk rfl rfl rfl (fun hg => zi rfl rfl) (zk rfl rfl rfl (fun hg => zy (av := [_, _]) rfl ⟨(rfl), (rfl), trivial⟩ (f56 nt _ hof)) (zk rfl rfl rfl (fun hg => je rfl (rfl)) (zg rfl rfl (qU rfl rfl rfl rfl) ?_)))))))))))
 refine zg rfl rfl (zi rfl rfl) (zk rfl rfl rfl (fun hg => zZ rfl rfl qf (by exact zLb rfl)) (zk rfl rfl rfl (fun hg => zi rfl rfl) (zk rfl rfl rfl (fun hg => zy (av := [_, _]) rfl ⟨((if_pos hg)), ((if_pos hg)), trivial⟩ (f56 nt _ hof)) (zk rfl rfl rfl (fun hg => je rfl (if_pos hg)) (zg rfl rfl (qU rfl rfl rfl rfl) (zg rfl rfl (zi rfl rfl) (zk rfl rfl rfl (fun hg => zi rfl rfl) (zk rfl rfl rfl (fun hg => zy (av := [_]) rfl ⟨((if_pos hg)), trivial⟩ (f53 _)) (zk rfl rfl rfl (fun hg => je rfl (if_pos hg)) (zg rfl rfl (qU rfl rfl rfl rfl) (zg rfl rfl (zi rfl rfl) ?_)))))))))))
 refine zk rfl rfl rfl (fun hg => zi rfl rfl) (zk rfl rfl rfl (fun hg => zy (av := [_]) rfl ⟨((if_pos hg)), trivial⟩ (f53 _)) (zk rfl rfl rfl (fun hg => je rfl (if_pos hg)) (zg rfl rfl (qU rfl rfl rfl rfl) (zo (zf (zx rfl (fun h0 => ?_) (fun h0 => ?_)))))))
 ·
  exfalso; have h9 : (!((((true && zu9 nt a) && zu9 nt z) && inB w 0 100) && inB most 0 100)) = true := (zvk ..).symm.trans h0; unfold zuE at hb; rw [hnet] at hb; rw [hb] at h9; cases h9
 ·
  refine zC (zf (zl (zh (zg rfl rfl (zZ rfl rfl qf (by exact zLb rfl)) (zg rfl rfl (zi rfl rfl) (zg rfl rfl (zi rfl rfl) (zg rfl rfl (zi rfl rfl) (zg rfl rfl (zi rfl rfl) (zg rfl rfl (zy (av := [_, _, _, _, _]) rfl ⟨rfl, rfl, rfl, rfl, rfl, trivial⟩ (zwo nt a z w most (by omega) hb hr)) (zg rfl rfl (zq rfl rfl) (zg rfl rfl (zN rfl rfl rfl) ?_)))))))))))
  refine zg rfl rfl (zN rfl rfl rfl) (zg rfl rfl (zN rfl rfl rfl) (zg rfl rfl (zW rfl rfl) (zg rfl rfl (zn rfl rfl) (zg rfl rfl (zn rfl rfl) (zo (zf (zl (zh (zg rfl rfl (zZ rfl rfl qf (by exact zLb rfl)) (zg rfl rfl (zi rfl rfl) (zg rfl rfl (zi rfl rfl) ?_)))))))))))
  refine zg rfl rfl (zi rfl rfl) (zg rfl rfl (zi rfl rfl) (zg rfl rfl (zy (av := [_, _, _, _, _]) rfl ⟨rfl, rfl, rfl, rfl, rfl, trivial⟩ hsb) (zg rfl rfl (zq rfl rfl) (zg rfl rfl (zN rfl rfl rfl) (zg rfl rfl (zN rfl rfl rfl) (zg rfl rfl (zN rfl rfl rfl) (zg rfl rfl (zW rfl rfl) (zg rfl rfl (zn rfl rfl) (zg rfl rfl (zn rfl rfl) (zo (zf ?_)))))))))))
  refine zl (zl (zh (zg rfl rfl (zi rfl rfl) (zg rfl rfl (zi rfl rfl) (zg rfl rfl (vg rfl rfl rfl) (zg rfl rfl (zi rfl rfl) (zk rfl rfl rfl (fun hg => zi rfl rfl) (zk rfl rfl rfl (fun hg => zi rfl rfl) ?_))))))))
  refine zk rfl rfl rfl (fun hg => zuz (y := false) (by simp) (vg rfl rfl rfl)) ?_
  refine zg rfl rfl (qU rfl rfl rfl rfl) (zg rfl rfl (zi rfl rfl) (zk rfl rfl rfl (fun hg => zi rfl rfl) (zk rfl rfl rfl (fun hg => vg rfl (rfl) rfl) (zk rfl rfl rfl (fun hg => zi rfl (rfl)) (zk rfl rfl rfl (fun hg => zi rfl rfl) ?_)))))
  refine zk (x := .pub (.tup [])) rfl rfl rfl (fun hg => absurd hg (by decide)) ?_
  refine zk rfl rfl rfl (fun hg => zU rfl rfl (fun h => absurd h (by decide)) (fun _ => rfl)) ?_
  refine zg rfl rfl (qU rfl rfl rfl rfl) (zo (zf (zx rfl (fun h1 => ?_) (fun h1 => ?_))))
  ·
   exfalso; simp at h1
  ·
   refine zC (zf (zl (zh (zg rfl rfl (zZ rfl rfl qf (by exact zLb rfl)) (zg rfl rfl (zi rfl rfl) (zg rfl rfl (zi rfl rfl) (zg rfl rfl (zq rfl rfl) (zg rfl rfl (zy (av := [_, _, _, _]) rfl ⟨rfl, rfl, rfl, rfl, trivial⟩ (zxe nt a z o hnet hq.2.1 (by omega) (b := false) hgo)) (zg rfl rfl (zi rfl rfl) (zk rfl rfl rfl (fun hg => zZ rfl rfl qf (by exact zLb rfl)) (zk rfl rfl rfl (fun hg => zq rfl rfl) ?_)))))))))))
   refine zk rfl rfl rfl (fun hg => zy (av := [_, _]) rfl ⟨((if_pos hg)), ((if_pos hg)), trivial⟩ (f60 nt o hnet (by omega) (by exact absurd hg (by decide)))) ?_
   refine zk rfl rfl rfl (fun hg => zi rfl rfl) ?_
   refine zk (x := .pub (.tup [])) rfl rfl rfl (fun hg => absurd hg (by decide)) ?_
   refine zg rfl rfl (zU rfl rfl (fun h => absurd h (by decide)) (fun _ => rfl)) ?_
   refine zg rfl rfl (zn rfl rfl) (zo (zf (zl (zl (zh (zg rfl rfl (zi rfl rfl) (zg rfl rfl (vg rfl rfl rfl) (zo (zf (zx rfl (fun h2 => ?_) (fun h2 => ?_)))))))))))
   ·
    exfalso; simp at h2
   ·
    refine zC (zf (zl (zl (zh (zg rfl rfl (zq rfl rfl) (zg rfl rfl (qh rfl rfl rfl Tryz.underlying23) ?_))))))
    refine zg rfl rfl (zuz (y := false) (by simp [zO]; omega) (qR rfl rfl rfl)) ?_
    refine zg rfl rfl (zi rfl rfl) (zk rfl rfl rfl (fun hg => zZ rfl rfl qf (by exact zLb rfl)) (zk rfl rfl rfl (fun hg => zi rfl rfl) (zk rfl rfl rfl (fun hg => zi rfl rfl) (zk rfl rfl rfl (fun hg => zq rfl rfl) (zk rfl rfl rfl (fun hg => zy (av := [_, _, _, _]) rfl ⟨(rfl), (rfl), (rfl), (rfl), trivial⟩ (zxe nt a z r hnet hq.2.1 (by omega) (b := true) hbest.1.1)) (zk rfl rfl rfl (fun hg => je rfl (rfl)) (zg rfl rfl (qU rfl rfl rfl rfl) (zg rfl rfl (zi rfl rfl) (zk rfl rfl rfl (fun hg => zZ rfl rfl qf (by exact zLb rfl)) (zk rfl rfl rfl (fun hg => zq rfl rfl) (zk rfl rfl rfl (fun hg => zy (av := [_, _]) rfl ⟨(rfl), (rfl), trivial⟩ (f60 nt r hnet (by omega) hbd.2.1)) ?_)))))))))))
    refine zk rfl rfl rfl (fun hg => zi rfl rfl) ?_
    refine zk rfl rfl rfl (fun hg => zuz (y := false) (by have := hbest.1.2; simp; omega) (qR rfl rfl rfl)) ?_
    refine zg rfl rfl (qU rfl rfl rfl rfl) (zg rfl rfl (zi rfl rfl) (zk rfl rfl rfl (fun hg => zi rfl rfl) (zk rfl rfl rfl (fun hg => zi rfl rfl) (zk rfl rfl rfl (fun hg => zZ rfl rfl qf (by exact zLb rfl)) (zk rfl rfl rfl (fun hg => zq rfl rfl) (zk rfl rfl rfl (fun hg => zy (av := [_, _]) rfl ⟨(rfl), (rfl), trivial⟩ (f58 nt r hnet (by omega) hbd.2.1)) ?_))))))
    refine zk rfl rfl rfl (fun hg => zcY rfl (rfl) (rfl) ⟨(by first | omega | (simp at hg; omega)), (by first | omega | (simp at hg; omega))⟩) ?_
    refine zk rfl rfl rfl (fun hg => zuz (y := false) (by simp) (vg rfl rfl rfl)) ?_
    refine zg rfl rfl (qU rfl rfl rfl rfl) (zo (zf (zx rfl (fun h3 => ?_) (fun h3 => ?_))))
    ·
     exfalso; simp at h3
    ·
     refine zC (zf (zl (zh (zg rfl rfl (zi rfl rfl) (zg rfl rfl (je rfl rfl) (zg rfl rfl (zi rfl rfl) (zk rfl rfl rfl (fun hg => zZ rfl rfl qf (by exact zLb rfl)) (zk rfl rfl rfl (fun hg => zi rfl rfl) (zk rfl rfl rfl (fun hg => zq rfl rfl) (zk rfl rfl rfl (fun hg => zq rfl rfl) ?_))))))))))
     refine zk rfl rfl rfl (fun hg => zy (av := [_, _, _, _]) rfl ⟨((if_pos hg)), ((if_pos hg)), ((if_pos hg)), ((if_pos hg)), trivial⟩ (zzY nt w o r hnet hq.2.2.2.1 (by exact absurd hg (by decide)) ⟨by omega, hbd.2.1⟩ (c := false) (by exact absurd hg (by decide)))) ?_
     refine zk (x := .pub (.tup [])) rfl rfl rfl (fun hg => absurd hg (by decide)) ?_
     refine zg rfl rfl (zU rfl rfl (fun _ => rfl) (fun h => absurd h (by decide))) ?_
     refine zg rfl rfl (zi rfl rfl) (zk rfl rfl rfl (fun hg => zy (av := []) rfl trivial hk) (zg rfl rfl (qI rfl rfl rfl rfl) (zg rfl rfl (zn rfl rfl) (zo (zf (zP ?_))))))
     exact ⟨.inr rfl, AVle.of (by simp)⟩
theorem zx1 (hk : KN G) (nt : Nt) (a z w most : Int) (o : List Int) (hs : nt.lines.length <= 14) (ho : o.length <= 8) (hb : zuE nt a z w most = true) {r : List Int} (hr : rtB nt a z w most = some r) {s : List Int} (hsb : ACall Tryz.prog G 51 [.agg (eNt nt), ei z, ei a, ei w, ei most] (.tup [zO s, ei (w * prc nt r), ei 0])) (hgo : zuC nt a z o = true) (hgm : decide (grb nt o <= most) = false) : ACall Tryz.prog G 11 [.agg (eNt nt), ei a, ei z, ei w, ei most, zO o] (.v (.bool true)) := by
 have hq := zuQ hb
 have hnet := hq.1
 have h6 := zuH hnet
 have hof : 1 <= nt.offices /\ nt.offices <= 6 := ⟨h6.1, h6.2.1⟩
 have hbd := zv3 hb hr
 have hbest := zvB hnet hr
 refine zS Tryz.func11 rfl (by kernel_rfl) rfl ?_
 refine zl (zh (zg rfl rfl (jf rfl (zY rfl)) (zg rfl rfl (zn rfl rfl) (zo (zf (zl (zl (zh (zg rfl rfl (zu rfl rfl zuy) (zg rfl rfl (zA rfl rfl rfl zuP) (zg rfl rfl (qh rfl rfl rfl Tryz.underlying71) ?_)))))))))))
 refine zg rfl rfl (zuz (y := false) (by simp; omega) (qR rfl rfl rfl)) ?_
 refine zg rfl rfl (zi rfl rfl) (zk rfl rfl rfl (fun hg => zq rfl rfl) (zk rfl rfl rfl (fun hg => qh rfl rfl (rfl) Tryz.underlying23) ?_))
 refine zk rfl rfl rfl (fun hg => zuz (y := false) (by simp [zO]; omega) (qR rfl rfl rfl)) ?_
 refine zg rfl rfl (qU rfl rfl rfl rfl) (zg rfl rfl (zi rfl rfl) (zk rfl rfl rfl (fun hg => zZ rfl rfl qf (by exact zLb rfl)) (zk rfl rfl rfl (fun hg => zy (av := [_]) rfl ⟨(rfl), trivial⟩ (zvr nt (by omega) (b := true) hnet)) (zk rfl rfl rfl (fun hg => je rfl (rfl)) (zg rfl rfl (qU rfl rfl rfl rfl) (zg rfl rfl (zi rfl rfl) (zk rfl rfl rfl (fun hg => zZ rfl rfl qf (by exact zLb rfl)) (zk rfl rfl rfl (fun hg => zi rfl rfl) (zk rfl rfl rfl (fun hg => zy (av := [_, _]) rfl ⟨(rfl), (rfl), trivial⟩ (f56 nt _ hof)) (zk rfl rfl rfl (fun hg => je rfl (rfl)) (zg rfl rfl (qU rfl rfl rfl rfl) ?_)))))))))))
 refine zg rfl rfl (zi rfl rfl) (zk rfl rfl rfl (fun hg => zZ rfl rfl qf (by exact zLb rfl)) (zk rfl rfl rfl (fun hg => zi rfl rfl) (zk rfl rfl rfl (fun hg => zy (av := [_, _]) rfl ⟨((if_pos hg)), ((if_pos hg)), trivial⟩ (f56 nt _ hof)) (zk rfl rfl rfl (fun hg => je rfl (if_pos hg)) (zg rfl rfl (qU rfl rfl rfl rfl) (zg rfl rfl (zi rfl rfl) (zk rfl rfl rfl (fun hg => zi rfl rfl) (zk rfl rfl rfl (fun hg => zy (av := [_]) rfl ⟨((if_pos hg)), trivial⟩ (f53 _)) (zk rfl rfl rfl (fun hg => je rfl (if_pos hg)) (zg rfl rfl (qU rfl rfl rfl rfl) (zg rfl rfl (zi rfl rfl) ?_)))))))))))
 refine zk rfl rfl rfl (fun hg => zi rfl rfl) (zk rfl rfl rfl (fun hg => zy (av := [_]) rfl ⟨((if_pos hg)), trivial⟩ (f53 _)) (zk rfl rfl rfl (fun hg => je rfl (if_pos hg)) (zg rfl rfl (qU rfl rfl rfl rfl) (zo (zf (zx rfl (fun h0 => ?_) (fun h0 => ?_)))))))
 ·
  exfalso; have h9 : (!((((true && zu9 nt a) && zu9 nt z) && inB w 0 100) && inB most 0 100)) = true := (zvk ..).symm.trans h0; unfold zuE at hb; rw [hnet] at hb; rw [hb] at h9; cases h9
 ·
  refine zC (zf (zl (zh (zg rfl rfl (zZ rfl rfl qf (by exact zLb rfl)) (zg rfl rfl (zi rfl rfl) (zg rfl rfl (zi rfl rfl) (zg rfl rfl (zi rfl rfl) (zg rfl rfl (zi rfl rfl) (zg rfl rfl (zy (av := [_, _, _, _, _]) rfl ⟨rfl, rfl, rfl, rfl, rfl, trivial⟩ (zwo nt a z w most (by omega) hb hr)) (zg rfl rfl (zq rfl rfl) (zg rfl rfl (zN rfl rfl rfl) ?_)))))))))))
  refine zg rfl rfl (zN rfl rfl rfl) (zg rfl rfl (zN rfl rfl rfl) (zg rfl rfl (zW rfl rfl) (zg rfl rfl (zn rfl rfl) (zg rfl rfl (zn rfl rfl) (zo (zf (zl (zh (zg rfl rfl (zZ rfl rfl qf (by exact zLb rfl)) (zg rfl rfl (zi rfl rfl) (zg rfl rfl (zi rfl rfl) ?_)))))))))))
  refine zg rfl rfl (zi rfl rfl) (zg rfl rfl (zi rfl rfl) (zg rfl rfl (zy (av := [_, _, _, _, _]) rfl ⟨rfl, rfl, rfl, rfl, rfl, trivial⟩ hsb) (zg rfl rfl (zq rfl rfl) (zg rfl rfl (zN rfl rfl rfl) (zg rfl rfl (zN rfl rfl rfl) (zg rfl rfl (zN rfl rfl rfl) (zg rfl rfl (zW rfl rfl) (zg rfl rfl (zn rfl rfl) (zg rfl rfl (zn rfl rfl) (zo (zf ?_)))))))))))
  refine zl (zl (zh (zg rfl rfl (zi rfl rfl) (zg rfl rfl (zi rfl rfl) (zg rfl rfl (vg rfl rfl rfl) (zg rfl rfl (zi rfl rfl) (zk rfl rfl rfl (fun hg => zi rfl rfl) (zk rfl rfl rfl (fun hg => zi rfl rfl) ?_))))))))
  refine zk rfl rfl rfl (fun hg => zuz (y := false) (by simp) (vg rfl rfl rfl)) ?_
  refine zg rfl rfl (qU rfl rfl rfl rfl) (zg rfl rfl (zi rfl rfl) (zk rfl rfl rfl (fun hg => zi rfl rfl) (zk rfl rfl rfl (fun hg => vg rfl (rfl) rfl) (zk rfl rfl rfl (fun hg => zi rfl (rfl)) (zk rfl rfl rfl (fun hg => zi rfl rfl) ?_)))))
  refine zk (x := .pub (.tup [])) rfl rfl rfl (fun hg => absurd hg (by decide)) ?_
  refine zk rfl rfl rfl (fun hg => zU rfl rfl (fun h => absurd h (by decide)) (fun _ => rfl)) ?_
  refine zg rfl rfl (qU rfl rfl rfl rfl) (zo (zf (zx rfl (fun h1 => ?_) (fun h1 => ?_))))
  ·
   exfalso; simp at h1
  ·
   refine zC (zf (zl (zh (zg rfl rfl (zZ rfl rfl qf (by exact zLb rfl)) (zg rfl rfl (zi rfl rfl) (zg rfl rfl (zi rfl rfl) (zg rfl rfl (zq rfl rfl) (zg rfl rfl (zy (av := [_, _, _, _]) rfl ⟨rfl, rfl, rfl, rfl, trivial⟩ (zxe nt a z o hnet hq.2.1 (by omega) (b := true) hgo)) (zg rfl rfl (zi rfl rfl) (zk rfl rfl rfl (fun hg => zZ rfl rfl qf (by exact zLb rfl)) (zk rfl rfl rfl (fun hg => zq rfl rfl) ?_)))))))))))
   refine zk rfl rfl rfl (fun hg => zy (av := [_, _]) rfl ⟨(rfl), (rfl), trivial⟩ (f60 nt o hnet (by omega) (zu8 hgo))) (zk rfl rfl rfl (fun hg => zi rfl rfl) (zk rfl rfl rfl (fun hg => zuz hgm (zaq rfl rfl rfl)) (zg rfl rfl (qI rfl rfl rfl rfl) (zg rfl rfl (zn rfl rfl) (zo (zf (zl (zl (zh (zg rfl rfl (zi rfl rfl) (zg rfl rfl (vg rfl rfl rfl) ?_)))))))))))
   refine zo (zf (zx rfl (fun h2 => ?_) (fun h2 => ?_)))
   ·
    exfalso; simp at h2
   ·
    refine zC (zf (zl (zl (zh (zg rfl rfl (zq rfl rfl) (zg rfl rfl (qh rfl rfl rfl Tryz.underlying23) ?_))))))
    refine zg rfl rfl (zuz (y := false) (by simp [zO]; omega) (qR rfl rfl rfl)) ?_
    refine zg rfl rfl (zi rfl rfl) (zk rfl rfl rfl (fun hg => zZ rfl rfl qf (by exact zLb rfl)) (zk rfl rfl rfl (fun hg => zi rfl rfl) (zk rfl rfl rfl (fun hg => zi rfl rfl) (zk rfl rfl rfl (fun hg => zq rfl rfl) (zk rfl rfl rfl (fun hg => zy (av := [_, _, _, _]) rfl ⟨(rfl), (rfl), (rfl), (rfl), trivial⟩ (zxe nt a z r hnet hq.2.1 (by omega) (b := true) hbest.1.1)) (zk rfl rfl rfl (fun hg => je rfl (rfl)) (zg rfl rfl (qU rfl rfl rfl rfl) (zg rfl rfl (zi rfl rfl) (zk rfl rfl rfl (fun hg => zZ rfl rfl qf (by exact zLb rfl)) (zk rfl rfl rfl (fun hg => zq rfl rfl) (zk rfl rfl rfl (fun hg => zy (av := [_, _]) rfl ⟨(rfl), (rfl), trivial⟩ (f60 nt r hnet (by omega) hbd.2.1)) ?_)))))))))))
    refine zk rfl rfl rfl (fun hg => zi rfl rfl) ?_
    refine zk rfl rfl rfl (fun hg => zuz (y := false) (by have := hbest.1.2; simp; omega) (qR rfl rfl rfl)) ?_
    refine zg rfl rfl (qU rfl rfl rfl rfl) (zg rfl rfl (zi rfl rfl) (zk rfl rfl rfl (fun hg => zi rfl rfl) (zk rfl rfl rfl (fun hg => zi rfl rfl) (zk rfl rfl rfl (fun hg => zZ rfl rfl qf (by exact zLb rfl)) (zk rfl rfl rfl (fun hg => zq rfl rfl) (zk rfl rfl rfl (fun hg => zy (av := [_, _]) rfl ⟨(rfl), (rfl), trivial⟩ (f58 nt r hnet (by omega) hbd.2.1)) ?_))))))
    refine zk rfl rfl rfl (fun hg => zcY rfl (rfl) (rfl) ⟨(by first | omega | (simp at hg; omega)), (by first | omega | (simp at hg; omega))⟩) ?_
    refine zk rfl rfl rfl (fun hg => zuz (y := false) (by simp) (vg rfl rfl rfl)) ?_
    refine zg rfl rfl (qU rfl rfl rfl rfl) (zo (zf (zx rfl (fun h3 => ?_) (fun h3 => ?_))))
    ·
     exfalso; simp at h3
    ·
     refine zC (zf (zl (zh (zg rfl rfl (zi rfl rfl) (zg rfl rfl (je rfl rfl) (zg rfl rfl (zi rfl rfl) (zk rfl rfl rfl (fun hg => zZ rfl rfl qf (by exact zLb rfl)) (zk rfl rfl rfl (fun hg => zi rfl rfl) (zk rfl rfl rfl (fun hg => zq rfl rfl) (zk rfl rfl rfl (fun hg => zq rfl rfl) ?_))))))))))
     refine zk rfl rfl rfl (fun hg => zy (av := [_, _, _, _]) rfl ⟨((if_pos hg)), ((if_pos hg)), ((if_pos hg)), ((if_pos hg)), trivial⟩ (f61 nt w o r hnet hq.2.2.2.1 ⟨by omega, zu8 hgo⟩ ⟨by omega, hbd.2.1⟩)) ?_
     refine zk (x := .pub (.tup [])) rfl rfl rfl (fun hg => absurd hg (by decide)) ?_
     refine zg rfl rfl (zU rfl rfl (fun _ => rfl) (fun h => absurd h (by decide))) ?_
     refine zg rfl rfl (zi rfl rfl) (zk rfl rfl rfl (fun hg => zy (av := []) rfl trivial hk) (zg rfl rfl (qI rfl rfl rfl rfl) (zg rfl rfl (zn rfl rfl) (zo (zf (zP ?_))))))
     exact ⟨.inr rfl, AVle.of (by simp)⟩
theorem zx0 (hk : KN G) (nt : Nt) (a z w most : Int) (o : List Int) (hs : nt.lines.length <= 14) (ho : o.length <= 8) (hb : zuE nt a z w most = true) {r : List Int} (hr : rtB nt a z w most = some r) {s : List Int} (hsb : ACall Tryz.prog G 51 [.agg (eNt nt), ei z, ei a, ei w, ei most] (.tup [zO s, ei (w * prc nt r), ei 0])) (hgo : zuC nt a z o = true) (hgm : decide (grb nt o <= most) = true) : ACall Tryz.prog G 11 [.agg (eNt nt), ei a, ei z, ei w, ei most, zO o] (.v (.bool true)) := by
 have hq := zuQ hb
 have hnet := hq.1
 have h6 := zuH hnet
 have hof : 1 <= nt.offices /\ nt.offices <= 6 := ⟨h6.1, h6.2.1⟩
 have hbd := zv3 hb hr
 have hbest := zvB hnet hr
 refine zS Tryz.func11 rfl (by kernel_rfl) rfl ?_
 refine zl (zh (zg rfl rfl (jf rfl (zY rfl)) (zg rfl rfl (zn rfl rfl) (zo (zf (zl (zl (zh (zg rfl rfl (zu rfl rfl zuy) (zg rfl rfl (zA rfl rfl rfl zuP) (zg rfl rfl (qh rfl rfl rfl Tryz.underlying71) ?_)))))))))))
 refine zg rfl rfl (zuz (y := false) (by simp; omega) (qR rfl rfl rfl)) ?_
 refine zg rfl rfl (zi rfl rfl) (zk rfl rfl rfl (fun hg => zq rfl rfl) (zk rfl rfl rfl (fun hg => qh rfl rfl (rfl) Tryz.underlying23) ?_))
 refine zk rfl rfl rfl (fun hg => zuz (y := false) (by simp [zO]; omega) (qR rfl rfl rfl)) ?_
 refine zg rfl rfl (qU rfl rfl rfl rfl) (zg rfl rfl (zi rfl rfl) (zk rfl rfl rfl (fun hg => zZ rfl rfl qf (by exact zLb rfl)) (zk rfl rfl rfl (fun hg => zy (av := [_]) rfl ⟨(rfl), trivial⟩ (zvr nt (by omega) (b := true) hnet)) (zk rfl rfl rfl (fun hg => je rfl (rfl)) (zg rfl rfl (qU rfl rfl rfl rfl) (zg rfl rfl (zi rfl rfl) (zk rfl rfl rfl (fun hg => zZ rfl rfl qf (by exact zLb rfl)) (zk rfl rfl rfl (fun hg => zi rfl rfl) (zk rfl rfl rfl (fun hg => zy (av := [_, _]) rfl ⟨(rfl), (rfl), trivial⟩ (f56 nt _ hof)) (zk rfl rfl rfl (fun hg => je rfl (rfl)) (zg rfl rfl (qU rfl rfl rfl rfl) ?_)))))))))))
 refine zg rfl rfl (zi rfl rfl) (zk rfl rfl rfl (fun hg => zZ rfl rfl qf (by exact zLb rfl)) (zk rfl rfl rfl (fun hg => zi rfl rfl) (zk rfl rfl rfl (fun hg => zy (av := [_, _]) rfl ⟨((if_pos hg)), ((if_pos hg)), trivial⟩ (f56 nt _ hof)) (zk rfl rfl rfl (fun hg => je rfl (if_pos hg)) (zg rfl rfl (qU rfl rfl rfl rfl) (zg rfl rfl (zi rfl rfl) (zk rfl rfl rfl (fun hg => zi rfl rfl) (zk rfl rfl rfl (fun hg => zy (av := [_]) rfl ⟨((if_pos hg)), trivial⟩ (f53 _)) (zk rfl rfl rfl (fun hg => je rfl (if_pos hg)) (zg rfl rfl (qU rfl rfl rfl rfl) (zg rfl rfl (zi rfl rfl) ?_)))))))))))
 refine zk rfl rfl rfl (fun hg => zi rfl rfl) (zk rfl rfl rfl (fun hg => zy (av := [_]) rfl ⟨((if_pos hg)), trivial⟩ (f53 _)) (zk rfl rfl rfl (fun hg => je rfl (if_pos hg)) (zg rfl rfl (qU rfl rfl rfl rfl) (zo (zf (zx rfl (fun h0 => ?_) (fun h0 => ?_)))))))
 ·
  exfalso; have h9 : (!((((true && zu9 nt a) && zu9 nt z) && inB w 0 100) && inB most 0 100)) = true := (zvk ..).symm.trans h0; unfold zuE at hb; rw [hnet] at hb; rw [hb] at h9; cases h9
 ·
  refine zC (zf (zl (zh (zg rfl rfl (zZ rfl rfl qf (by exact zLb rfl)) (zg rfl rfl (zi rfl rfl) (zg rfl rfl (zi rfl rfl) (zg rfl rfl (zi rfl rfl) (zg rfl rfl (zi rfl rfl) (zg rfl rfl (zy (av := [_, _, _, _, _]) rfl ⟨rfl, rfl, rfl, rfl, rfl, trivial⟩ (zwo nt a z w most (by omega) hb hr)) (zg rfl rfl (zq rfl rfl) (zg rfl rfl (zN rfl rfl rfl) ?_)))))))))))
  refine zg rfl rfl (zN rfl rfl rfl) (zg rfl rfl (zN rfl rfl rfl) (zg rfl rfl (zW rfl rfl) (zg rfl rfl (zn rfl rfl) (zg rfl rfl (zn rfl rfl) (zo (zf (zl (zh (zg rfl rfl (zZ rfl rfl qf (by exact zLb rfl)) (zg rfl rfl (zi rfl rfl) (zg rfl rfl (zi rfl rfl) ?_)))))))))))
  refine zg rfl rfl (zi rfl rfl) (zg rfl rfl (zi rfl rfl) (zg rfl rfl (zy (av := [_, _, _, _, _]) rfl ⟨rfl, rfl, rfl, rfl, rfl, trivial⟩ hsb) (zg rfl rfl (zq rfl rfl) (zg rfl rfl (zN rfl rfl rfl) (zg rfl rfl (zN rfl rfl rfl) (zg rfl rfl (zN rfl rfl rfl) (zg rfl rfl (zW rfl rfl) (zg rfl rfl (zn rfl rfl) (zg rfl rfl (zn rfl rfl) (zo (zf ?_)))))))))))
  refine zl (zl (zh (zg rfl rfl (zi rfl rfl) (zg rfl rfl (zi rfl rfl) (zg rfl rfl (vg rfl rfl rfl) (zg rfl rfl (zi rfl rfl) (zk rfl rfl rfl (fun hg => zi rfl rfl) (zk rfl rfl rfl (fun hg => zi rfl rfl) ?_))))))))
  refine zk rfl rfl rfl (fun hg => zuz (y := false) (by simp) (vg rfl rfl rfl)) ?_
  refine zg rfl rfl (qU rfl rfl rfl rfl) (zg rfl rfl (zi rfl rfl) (zk rfl rfl rfl (fun hg => zi rfl rfl) (zk rfl rfl rfl (fun hg => vg rfl (rfl) rfl) (zk rfl rfl rfl (fun hg => zi rfl (rfl)) (zk rfl rfl rfl (fun hg => zi rfl rfl) ?_)))))
  refine zk (x := .pub (.tup [])) rfl rfl rfl (fun hg => absurd hg (by decide)) ?_
  refine zk rfl rfl rfl (fun hg => zU rfl rfl (fun h => absurd h (by decide)) (fun _ => rfl)) ?_
  refine zg rfl rfl (qU rfl rfl rfl rfl) (zo (zf (zx rfl (fun h1 => ?_) (fun h1 => ?_))))
  ·
   exfalso; simp at h1
  ·
   refine zC (zf (zl (zh (zg rfl rfl (zZ rfl rfl qf (by exact zLb rfl)) (zg rfl rfl (zi rfl rfl) (zg rfl rfl (zi rfl rfl) (zg rfl rfl (zq rfl rfl) (zg rfl rfl (zy (av := [_, _, _, _]) rfl ⟨rfl, rfl, rfl, rfl, trivial⟩ (zxe nt a z o hnet hq.2.1 (by omega) (b := true) hgo)) (zg rfl rfl (zi rfl rfl) (zk rfl rfl rfl (fun hg => zZ rfl rfl qf (by exact zLb rfl)) (zk rfl rfl rfl (fun hg => zq rfl rfl) ?_)))))))))))
   refine zk rfl rfl rfl (fun hg => zy (av := [_, _]) rfl ⟨(rfl), (rfl), trivial⟩ (f60 nt o hnet (by omega) (zu8 hgo))) (zk rfl rfl rfl (fun hg => zi rfl rfl) (zk rfl rfl rfl (fun hg => zuz hgm (zaq rfl rfl rfl)) (zg rfl rfl (qI rfl rfl rfl rfl) (zg rfl rfl (zn rfl rfl) (zo (zf (zl (zl (zh (zg rfl rfl (zi rfl rfl) (zg rfl rfl (vg rfl rfl rfl) ?_)))))))))))
   refine zo (zf (zx rfl (fun h2 => ?_) (fun h2 => ?_)))
   ·
    exfalso; simp at h2
   ·
    refine zC (zf (zl (zl (zh (zg rfl rfl (zq rfl rfl) (zg rfl rfl (qh rfl rfl rfl Tryz.underlying23) ?_))))))
    refine zg rfl rfl (zuz (y := false) (by simp [zO]; omega) (qR rfl rfl rfl)) ?_
    refine zg rfl rfl (zi rfl rfl) (zk rfl rfl rfl (fun hg => zZ rfl rfl qf (by exact zLb rfl)) (zk rfl rfl rfl (fun hg => zi rfl rfl) (zk rfl rfl rfl (fun hg => zi rfl rfl) (zk rfl rfl rfl (fun hg => zq rfl rfl) (zk rfl rfl rfl (fun hg => zy (av := [_, _, _, _]) rfl ⟨(rfl), (rfl), (rfl), (rfl), trivial⟩ (zxe nt a z r hnet hq.2.1 (by omega) (b := true) hbest.1.1)) (zk rfl rfl rfl (fun hg => je rfl (rfl)) (zg rfl rfl (qU rfl rfl rfl rfl) (zg rfl rfl (zi rfl rfl) (zk rfl rfl rfl (fun hg => zZ rfl rfl qf (by exact zLb rfl)) (zk rfl rfl rfl (fun hg => zq rfl rfl) (zk rfl rfl rfl (fun hg => zy (av := [_, _]) rfl ⟨(rfl), (rfl), trivial⟩ (f60 nt r hnet (by omega) hbd.2.1)) ?_)))))))))))
    refine zk rfl rfl rfl (fun hg => zi rfl rfl) ?_
    refine zk rfl rfl rfl (fun hg => zuz (y := false) (by have := hbest.1.2; simp; omega) (qR rfl rfl rfl)) ?_
    refine zg rfl rfl (qU rfl rfl rfl rfl) (zg rfl rfl (zi rfl rfl) (zk rfl rfl rfl (fun hg => zi rfl rfl) (zk rfl rfl rfl (fun hg => zi rfl rfl) (zk rfl rfl rfl (fun hg => zZ rfl rfl qf (by exact zLb rfl)) (zk rfl rfl rfl (fun hg => zq rfl rfl) (zk rfl rfl rfl (fun hg => zy (av := [_, _]) rfl ⟨(rfl), (rfl), trivial⟩ (f58 nt r hnet (by omega) hbd.2.1)) ?_))))))
    refine zk rfl rfl rfl (fun hg => zcY rfl (rfl) (rfl) ⟨(by first | omega | (simp at hg; omega)), (by first | omega | (simp at hg; omega))⟩) ?_
    refine zk rfl rfl rfl (fun hg => zuz (y := false) (by simp) (vg rfl rfl rfl)) ?_
    refine zg rfl rfl (qU rfl rfl rfl rfl) (zo (zf (zx rfl (fun h3 => ?_) (fun h3 => ?_))))
    ·
     exfalso; simp at h3
    ·
     refine zC (zf (zl (zh (zg rfl rfl (zi rfl rfl) (zg rfl rfl (je rfl rfl) (zg rfl rfl (zi rfl rfl) (zk rfl rfl rfl (fun hg => zZ rfl rfl qf (by exact zLb rfl)) (zk rfl rfl rfl (fun hg => zi rfl rfl) (zk rfl rfl rfl (fun hg => zq rfl rfl) (zk rfl rfl rfl (fun hg => zq rfl rfl) ?_))))))))))
     refine zk rfl rfl rfl (fun hg => zy (av := [_, _, _, _]) rfl ⟨(rfl), (rfl), (rfl), (rfl), trivial⟩ (zzY nt w o r hnet hq.2.2.2.1 ⟨by omega, zu8 hgo⟩ ⟨by omega, hbd.2.1⟩ (c := false) (hbest.2 o ⟨hgo, by simpa using hgm⟩))) ?_
     refine zk rfl rfl rfl (fun hg => je rfl (rfl)) (zg rfl rfl (qU rfl rfl rfl rfl) (zg rfl rfl (zi rfl rfl) (zk rfl rfl rfl (fun hg => zy (av := []) rfl trivial hk) (zg rfl rfl (qI rfl rfl rfl rfl) (zg rfl rfl (zn rfl rfl) (zo (zf (zP ?_))))))))
     exact ⟨.inr rfl, AVle.of (by simp)⟩
theorem f11 (hk : KN G) (nt : Nt) (a z w most : Int) (o : List Int) : ACall Tryz.prog G 11 [.agg (eNt nt), ei a, ei z, ei w, ei most, zO o] (.v (.bool true)) := by
 by_cases h1 : 14 < nt.lines.length
 ·
  exact zyt hk nt a z w most o h1
 ·
  by_cases h2 : 8 < o.length
  ·
   exact zyE hk nt a z w most o (by omega) h2
  ·
   have hs : nt.lines.length <= 14 := by omega
   have ho : o.length <= 8 := by omega
   cases hnet : zuA nt with
   | false => exact zzr hk nt a z w most o hs ho hnet
   | true =>
    cases hb : zuE nt a z w most with
    | false => exact zy6 hk nt a z w most o hs ho hnet hb
    | true =>
     cases hr : rtB nt a z w most with
     | none =>
      cases hg : zuC nt a z o with
      | false => exact zyd hk nt a z w most o hs ho hb hr hg
      | true =>
       refine zyk hk nt a z w most o hs ho hb hr hg ?_
       exact decide_eq_false fun h => zAf hnet hr o ⟨hg, h⟩
     | some r =>
      obtain ⟨s, hsb⟩ := zyl (G := G) nt a z w most (by omega) hb hr
      cases hg : zuC nt a z o with
      | false => exact zx6 hk nt a z w most o hs ho hb hr hsb hg
      | true =>
       cases hm : decide (grb nt o <= most) with
       | false => exact zx1 hk nt a z w most o hs ho hb hr hsb hg hm
       | true => exact zx0 hk nt a z w most o hs ho hb hr hsb hg hm
end Go.Av
end
