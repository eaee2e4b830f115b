
import Derived.Test.YtaphehlgijlfeaaGreatDoorWiH
import Derived.Test.YtaphehlgijlfeaaGreatDoorPlatH
set_option linter.unusedVariables false
set_option linter.unusedSimpArgs false
section
namespace Go.Av
open Go.Proofs
set_option maxRecDepth 100000
set_option maxHeartbeats 1000000
variable {G : Glob}
theorem zu4 : zau Tryz.prog 63 3 = true := by kernel_rfl
theorem zvN : tyIs Tryz.prog 152 true 3 = true := by kernel_rfl
theorem zxm : (Tryz.prog.info? 152).bind (·.zero) = some (.agg #[.string ⟨#[]⟩, .int .i64 0, .int .i64 0]) := by kernel_rfl
theorem zuW : fldIs Tryz.prog 152 0 0 = true := by kernel_rfl
theorem zvf : fldIs Tryz.prog 152 1 1 = true := by kernel_rfl
theorem zvc : fldIs Tryz.prog 152 2 2 = true := by kernel_rfl
abbrev encS : List UInt8 -> Value := fun l => Value.string ⟨l.toArray⟩
def wm (l : List Ent) : List (List UInt8 × EV) := l.map fun e => (e.word, B true)
theorem zyz (w : List UInt8) : ∀ l : List Ent, wM w (EV.pub (ofV (.bool false))) (wm l) = B (decide (w ∈ l.map (·.word)))
 | [] => by simp [wm, wM, ofV]
 | e :: l => by
  have ih := zyz w l
  simp only [wm, List.map_cons, wM] at ih ⊢
  by_cases h : e.word = w
  ·
   rw [if_pos h]; simp [h]
  ·
   rw [if_neg h, ih]
   have : (w ∈ e.word :: List.map (·.word) l) ↔ w ∈ List.map (·.word) l := by simp [Ne.symm h, fun e' : w = e.word => h e'.symm]
   rw [decide_eq_decide.2 this]
theorem zyr (w : List UInt8) : ∀ l : List Ent, w ∉ l.map (·.word) -> yh w (B true) (wm l) = wm l ++ [(w, B true)]
 | [], _ => by simp [wm, yh]
 | e :: l, h => by
  simp only [List.map_cons, List.mem_cons, not_or] at h
  have ih := zyr w l h.2
  simp only [wm, List.map_cons, yh] at ih ⊢
  rw [if_neg (fun e' => h.1 e'.symm), ih]; rfl
theorem zvb : (Tryz.prog.info? 4).bind (·.zero) = some (.bool false) := by kernel_rfl
theorem zAE {fr : Nat -> EV} {mem : List PO} {o : Oper} {x i : Operand} {k : Nat} {L : List Ent} {w : List UInt8} (ho : o.op = .lookup 194 x i false) (hx : evO fr x = .mpv k) (hm : mem[k]? = some (zlS encS (wm L))) (hi : evO fr i = .pub (eS w)) :
  OpY Tryz.prog G fr mem o (B (decide (w ∈ L.map (·.word)))) := by
 have := zdD (P := Tryz.prog) (G := G) (enc := encS) (a := w) (es := wm L) ho hx hm hi zw0 Tryz.underlying194 (zvO Tryz.underlying9) zvb
 rw [zyz] at this
 exact this
def zwb (e : Ent) : Bool := ofB zwt e.word && inB e.first 0 99999 && inB e.second 0 99999
def bkE (l : List Ent) : Bool := l.all zwb && decide (l.map (·.word)).Nodup
def zuB (l : List Ent) : Bool := bkE l && decide (l.length <= 12)
theorem zuT {l : List Ent} {k : Nat} (h : k < l.length) : (l.map zs8)[k]? = some (zs8 l[k]) := by simp [h]
theorem zuN {l : List Ent} : ∀ q ∈ l.map zs8, q.length = 3 := fun q hq => by obtain ⟨p, _, rfl⟩ := List.mem_map.1 hq; rfl
theorem zwD {l : List Ent} {q : Nat} (h : q < l.length) (h0 : ((l.take q).map (·.word)).Nodup) (h1 : l[q].word ∉ (l.take q).map (·.word)) : ((l.take (q + 1)).map (·.word)).Nodup := by
 rw [List.take_succ_eq_append_getElem h, List.map_append, List.nodup_append]
 exact ⟨h0, by simp, fun a ha b hb e => by simp at hb; subst hb; exact h1 (e ▸ ha)⟩
theorem zzD {l : List Ent} {q : Nat} (h : q < l.length) (h1 : l[q].word ∈ (l.take q).map (·.word)) : ¬ (l.map (·.word)).Nodup := fun hn => by
 have e : l.map (·.word) = (l.take q).map (·.word) ++ (l.drop q).map (·.word) := by rw [← List.map_append, List.take_append_drop]
 rw [e, List.nodup_append] at hn
 exact hn.2.2 _ h1 l[q].word (List.mem_map.2 ⟨l[q], by rw [List.drop_eq_getElem_cons h]; exact List.mem_cons_self .., rfl⟩) rfl
theorem zAG {l : List Ent} {q : Nat} (h : q < l.length) (h1 : l[q].word ∉ (l.take q).map (·.word)) : yh l[q].word (B true) (wm (l.take q)) = wm (l.take (q + 1)) := by
 rw [zyr _ _ h1]
 unfold wm
 rw [List.take_succ_eq_append_getElem h, List.map_append]; rfl
theorem zx8 {l : List Ent} {q : Nat} (h : q < l.length) (hb : (zwb l[q] = true /\ l[q].word ∉ (l.take q).map (·.word)) -> False) : bkE l = false := by
 cases he : zwb l[q] with
 | false => rw [bkE, zaW h he]; rfl
 | true =>
  have : l[q].word ∈ (l.take q).map (·.word) := Classical.byContradiction fun hn => hb ⟨he, hn⟩
  rw [bkE, decide_eq_false (zzD h this), Bool.and_false]
theorem f102 (l : List Ent) (hl : l.length <= 1000) : ACall Tryz.prog G 102 [eBk l] (.v (.bool (zuB l))) := by
 refine zS Tryz.func102 rfl (by kernel_rfl) rfl ?_
 refine zl (zh (zg rfl rfl (zn rfl rfl) (zo (zf (zl (zh (jb rfl (zlZ rfl rfl) (zg rfl rfl (qV rfl rfl) (zo (zf (zl ?_)))))))))))
 refine zl (zh (zg rfl rfl (zq rfl rfl) (zg rfl rfl (qh rfl rfl rfl Tryz.underlying63) (zg rfl rfl (zi rfl rfl) (zo (zf (zB ?_)))))))
 refine qy (ι := { q : Nat // q <= l.length /\ (l.take q).all zwb = true /\ ((l.take q).map (·.word)).Nodup }) (fun q => ⟨Tryz.f102.ntmps, frL [(0, .pub (eBk l)), (3, .mpv 0), (7, .pub (eBk l)), (8, I (l.length : Int)), (9, I (q.1 : Int))], [zlS encS (wm (l.take q.1))]⟩) (fun q => l.length - q.1) (⟨0, by simp⟩) ?_ ?_
 ·
  exact zt _ ⟨rfl, rfl, rfl, (congrArg (fun x : Nat => I (x : Int)) (List.length_map _)), rfl, trivial⟩ (rfl)
 ·
  rintro ⟨q, hq⟩
  dsimp only
  refine zl (zh (zg rfl rfl (qi rfl rfl rfl) (zo (zf (zl (zx rfl (fun h0 => ?_) (fun h0 => ?_)))))))
  ·
   have hlt : q < l.length := by simpa using h0
   refine zC (zf (zl (zB (zl (zh (zg rfl rfl (zG rfl rfl rfl zu4 (by omega) (zuT hlt) zuN) (zg rfl rfl (zZ rfl rfl zvN (by exact zLb rfl)) ?_)))))))
   refine vI  rfl rfl rfl rfl rfl rfl rfl zxm zvN rfl (by rfl) (zY rfl) rfl ?_
   refine zo (zf (zl (zl (zh (zg rfl rfl (zu rfl rfl zuW) (zg rfl rfl (zA rfl rfl rfl ty9) (zg rfl rfl (zy (av := [_, _]) rfl ⟨rfl, rfl, trivial⟩ (f103 l[q].word zwt 105 [] [] zAM (fun r => f105 r))) (zg rfl rfl (je rfl rfl) (zg rfl rfl (zi rfl rfl) (zk rfl rfl rfl (fun hg => zM rfl rfl) (zk rfl rfl rfl (fun hg => zu rfl rfl zuW) ?_)))))))))))
   refine zk rfl rfl rfl (fun hg => zA rfl (if_pos hg) rfl ty9) ?_
   refine zk (x := B (decide ((l[q]'hlt).word ∈ (l.take q).map (·.word)))) rfl rfl rfl (fun hg => ?_) ?_
   ·
    refine zAE (k := 0) (L := l.take q) (w := (l[q]'hlt).word) rfl ?_ ?_ ?_
    ·
     exact if_pos hg
    ·
     exact rfl
    ·
     exact if_pos hg
   refine zg rfl rfl (qU rfl rfl rfl rfl) (zg rfl rfl (zi rfl rfl) (zk rfl rfl rfl (fun hg => zu rfl rfl zvf) (zk rfl rfl rfl (fun hg => zA rfl (if_pos hg) rfl ty3) (zk rfl rfl rfl (fun hg => zy (av := [_, _, _]) rfl ⟨((if_pos hg)), rfl, rfl, trivial⟩ (f107 _ _ _)) (zk rfl rfl rfl (fun hg => je rfl (if_pos hg)) (zg rfl rfl (qU rfl rfl rfl rfl) (zg rfl rfl (zi rfl rfl) (zk rfl rfl rfl (fun hg => zu rfl rfl zvc) (zk rfl rfl rfl (fun hg => zA rfl (if_pos hg) rfl ty3) (zk rfl rfl rfl (fun hg => zy (av := [_, _, _]) rfl ⟨((if_pos hg)), rfl, rfl, trivial⟩ (f107 _ _ _)) (zk rfl rfl rfl (fun hg => je rfl (if_pos hg)) ?_)))))))))))
   refine zg rfl rfl (qU rfl rfl rfl rfl) (zo (zf (zx rfl (fun h1 => ?_) (fun h1 => ?_))))
   ·
    have hno : bkE l = false := zx8 hlt (fun h => by have h2 := decide_eq_false h.2; simp only [zwb, Bool.and_eq_true] at h; simp only [h.1.1.1, h.1.1.2, h.1.2, h2, Bool.not_true, Bool.or_false, Bool.false_or, Bool.or_self, Bool.false_eq_true] at h1)
    refine zl (zh (zg rfl rfl (zn rfl rfl) (zo (zf (zP (zQ (qF (zQ (zQ (qF (zQ ?_)))))))))))
    exact ⟨.inr rfl, AVle.of (by rw [zuB, hno]; rfl)⟩
   ·
    have hyes : zwb l[q] = true /\ l[q].word ∉ (l.take q).map (·.word) := by
     simp only [zwb]; simp only [Bool.or_eq_false_iff, Bool.not_eq_false', decide_eq_false_iff_not] at h1; exact ⟨by simp [h1.1.1.1, h1.1.2, h1.2], h1.1.1.2⟩
    refine zC (zf (zh (zg rfl rfl (zM rfl rfl) (zg rfl rfl (zu rfl rfl zuW) (zg rfl rfl (zA rfl rfl rfl ty9) (jb rfl (zwa (enc := encS) (es := wm (l.take q)) (a := l[q].word) (v := B true) (.inl rfl) rfl rfl rfl rfl zw0 Tryz.underlying194 (zvO Tryz.underlying9) rfl) (zo (zD (zf (zh (zg rfl rfl (zV rfl rfl rfl ⟨(by omega), (by omega)⟩) ?_)))))))))))
    refine zg rfl rfl (zi rfl rfl) (zo ?_)
    exact ⟨⟨q + 1, by omega, xQ hq.2.1 hlt hyes.1, zwD hlt hq.2.2 hyes.2⟩, by dsimp only; omega, zt _ ⟨rfl, rfl, rfl, rfl, rfl, trivial⟩ (congrArg (fun z => [zlS encS z]) (zAG hlt hyes.2))⟩
  ·
   have hge : l.length <= q := by simpa using h0
   refine qp (zL (zL (qw (zf (zl (zh (zg rfl rfl (zq rfl rfl) (zg rfl rfl (qh rfl rfl rfl Tryz.underlying63) (zg rfl rfl (zaq rfl rfl rfl) (zg rfl rfl (zn rfl rfl) (zo ?_)))))))))))
   refine zf (zP ?_)
   exact ⟨.inr rfl, AVle.of (by have h1 := hq.2; rw [List.take_of_length_le hge] at h1; rw [zuB, bkE, h1.1, decide_eq_true h1.2]; simp [eBk]; omega)⟩
end Go.Av
end
section
namespace Go.Av
open Go.Proofs
set_option maxRecDepth 100000
set_option maxHeartbeats 1000000
variable {G : Glob}
theorem ti3 : Tryz.prog.info? 3 = some Tryz.t3 := by kernel_rfl
theorem zvw : elemIs Tryz.prog 23 3 1 8 := ⟨Tryz.underlying23, Tryz.t3, _, by kernel_rfl, rfl, rfl, rfl, rfl, by decide⟩
theorem zzP {l : List Ent} {r : Nat} {w : List UInt8} (h : r < l.length) (h0 : w ∉ (l.take r).map (·.word)) (h1 : l[r].word ≠ w) : w ∉ (l.take (r + 1)).map (·.word) := by
 rw [List.take_succ_eq_append_getElem h, List.map_append, List.mem_append]
 simp only [List.map_cons, List.map_nil, List.mem_singleton]
 exact fun hh => hh.elim h0 (fun e => h1 e.symm)
theorem f47 (l : List Ent) (hl : l.length <= 1000) (hw : ∀ e ∈ l, e.word.length <= 9223372036854775807) : ACall Tryz.prog G 47 [eBk l] (.v (.bool (zuB l))) := by
 refine zS Tryz.func47 rfl (by kernel_rfl) rfl ?_
 refine zl (zh (zg rfl rfl (zn rfl rfl) (zo (zf (zl (zl (zh (zg rfl rfl (zq rfl rfl) (zg rfl rfl (qh rfl rfl rfl Tryz.underlying63) (zg rfl rfl (qR rfl rfl rfl) (zo ?_)))))))))))
 refine zf (zx rfl (fun h0 => ?_) (fun h0 => ?_))
 ·
  have hlong : ¬ l.length <= 12 := by simp [eBk] at h0; omega
  refine zl (zh (zg rfl rfl (zn rfl rfl) (zo (zf (zP (zQ ?_))))))
  exact ⟨.inr rfl, AVle.of (by rw [zuB, decide_eq_false hlong, Bool.and_false])⟩
 ·
  have hsh : l.length <= 12 := by simp [eBk] at h0; omega
  refine zC (zf (zl (zl (zh (zg rfl rfl (zn rfl rfl) (zo (zf (zB ?_))))))))
  refine qy (ι := { q : Nat // q <= l.length /\ (l.take q).all zwb = true /\ ((l.take q).map (·.word)).Nodup }) (fun q => ⟨Tryz.f47.ntmps, frL [(0, .pub (eBk l)), (3, I (q.1 : Int))], []⟩) (fun q => l.length - q.1) (⟨0, by simp⟩) ?_ ?_
  ·
   exact zt _ ⟨rfl, rfl, trivial⟩ (rfl)
  ·
   rintro ⟨q, hq⟩
   dsimp only
   refine zl (zl (zh (zg rfl rfl (zi rfl rfl) (zg rfl rfl (zq rfl rfl) (zg rfl rfl (qh rfl rfl rfl Tryz.underlying63) (zg rfl rfl (qi rfl rfl rfl) (zo (zf (zx rfl (fun h1 => ?_) (fun h1 => ?_))))))))))
   ·
    have hlt : q < l.length := by simpa [eBk] using h1
    refine zC (zf (zl (zB (zl (zl (zh (zg rfl rfl (zq rfl rfl) (zg rfl rfl (zi rfl rfl) (zg rfl rfl (zG rfl rfl rfl zu4 (by omega) (zuT hlt) zuN) (zg rfl rfl (zu rfl rfl zuW) (zg rfl rfl (zA rfl rfl rfl ty9) ?_)))))))))))
    refine zg rfl rfl (zy (av := [_]) rfl ⟨rfl, trivial⟩ (f108 l[q].word (hw _ (List.getElem_mem hlt)))) (zg rfl rfl (je rfl rfl) (zg rfl rfl (zi rfl rfl) (zk rfl rfl rfl (fun hg => zq rfl rfl) (zk rfl rfl rfl (fun hg => zi rfl rfl) (zk rfl rfl rfl (fun hg => zG rfl (if_pos hg) (if_pos hg) zu4 (by omega) (zuT hlt) zuN) (zk rfl rfl rfl (fun hg => zu rfl (if_pos hg) zvf) (zk rfl rfl rfl (fun hg => zA rfl (if_pos hg) rfl ty3) (zk rfl rfl rfl (fun hg => zy (av := [_, _, _]) rfl ⟨((if_pos hg)), rfl, rfl, trivial⟩ (f93 _ _ _)) (zk rfl rfl rfl (fun hg => je rfl (if_pos hg)) (zg rfl rfl (qU rfl rfl rfl rfl) (zg rfl rfl (zi rfl rfl) ?_)))))))))))
    refine zk rfl rfl rfl (fun hg => zq rfl rfl) (zk rfl rfl rfl (fun hg => zi rfl rfl) (zk rfl rfl rfl (fun hg => zG rfl (if_pos hg) (if_pos hg) zu4 (by omega) (zuT hlt) zuN) (zk rfl rfl rfl (fun hg => zu rfl (if_pos hg) zvc) (zk rfl rfl rfl (fun hg => zA rfl (if_pos hg) rfl ty3) (zk rfl rfl rfl (fun hg => zy (av := [_, _, _]) rfl ⟨((if_pos hg)), rfl, rfl, trivial⟩ (f93 _ _ _)) (zk rfl rfl rfl (fun hg => je rfl (if_pos hg)) (zg rfl rfl (qU rfl rfl rfl rfl) (zo (zf (zx rfl (fun h2 => ?_) (fun h2 => ?_)))))))))))
    ·
     have hno : bkE l = false := zx8 hlt (fun h => by simp only [zwb, Bool.and_eq_true] at h; simp only [h.1.1.1, h.1.1.2, h.1.2, Bool.not_true, Bool.or_false, Bool.or_self, Bool.false_eq_true] at h2)
     refine zl (zh (zg rfl rfl (zn rfl rfl) (zo (zf (zP (zQ (qF (zQ (zQ (qF (zQ ?_)))))))))))
     exact ⟨.inr rfl, AVle.of (by rw [zuB, hno]; rfl)⟩
    ·
     have hent : zwb l[q] = true := by simp only [zwb]; simp only [Bool.or_eq_false_iff, Bool.not_eq_false'] at h2; simp [h2.1.1, h2.1.2, h2.2]
     refine zC (zf (zl (zh (zg rfl rfl (zn rfl rfl) (zo (zf (zB ?_)))))))
     refine qy (ι := { r : Nat // r <= q /\ l[q].word ∉ (l.take r).map (·.word) }) (fun r => ⟨Tryz.f47.ntmps, frL [(0, .pub (eBk l)), (3, I (q : Int)), (4, I (r.1 : Int))], []⟩) (fun r => q - r.1) (⟨0, by simp⟩) ?_ ?_
     ·
      exact zt _ ⟨rfl, rfl, rfl, trivial⟩ (rfl)
     ·
      rintro ⟨r, hr⟩
      dsimp only
      refine zl (zl (zh (zg rfl rfl (zi rfl rfl) (zg rfl rfl (zi rfl rfl) (zg rfl rfl (qi rfl rfl rfl) (zo (zf (zx rfl (fun h3 => ?_) (fun h3 => ?_)))))))))
      ·
       have hrq : r < q := by simpa using h3
       have hrl : r < l.length := by omega
       refine zC (zf (zl (zB (zl ?_))))
       refine qY mixed (by kernel_rfl) rfl ?_
       refine zH rfl (zq rfl rfl) (zH rfl (zi rfl rfl) (zH rfl (zG rfl rfl rfl zu4 (by omega) (zuT hrl) zuN) (zH rfl (zu rfl rfl zuW) (zH rfl (zA rfl rfl rfl ty9) (zH rfl (zq rfl rfl) (zH rfl (zi rfl rfl) (zH rfl (zG rfl rfl rfl zu4 (by omega) (zuT hlt) zuN) (zH rfl (zu rfl rfl zuW) (zH rfl (zA rfl rfl rfl ty9) (zH rfl (zof rfl rfl rfl) (jw ?_)))))))))))
       refine zf (zx rfl (fun h4 => ?_) (fun h4 => ?_))
       ·
        have hdup : l[r].word = l[q].word := by simpa using h4
        have hno : bkE l = false := zx8 hlt (fun h => h.2 (List.mem_map.2 ⟨l[r], List.mem_take_iff_getElem.2 ⟨r, by omega, rfl⟩, hdup⟩))
        refine zl (zh (zg rfl rfl (zn rfl rfl) (zo (zf (zP (qF (zQ (zQ (qF (qF (zQ ?_)))))))))))
        refine zQ (qF (zQ ?_))
        exact ⟨.inr rfl, AVle.of (by rw [zuB, hno]; rfl)⟩
       ·
        have hdup : l[r].word ≠ l[q].word := by simpa using h4
        refine zC (zD (zf (zh (zg rfl rfl (zi rfl rfl) (zg rfl rfl (zV rfl rfl rfl ⟨(by omega), (by omega)⟩) (zg rfl rfl (zn rfl rfl) (zo ?_)))))))
        exact ⟨⟨r + 1, by omega, zzP hrl hr.2 hdup⟩, by dsimp only; omega, zt _ ⟨rfl, rfl, rfl, trivial⟩ (rfl)⟩
      ·
       have hrq : r = q := by simp at h3; omega
       subst hrq
       refine qp (zL (zL (qw (zD (zf (zh (zg rfl rfl (zi rfl rfl) (zg rfl rfl (zV rfl rfl rfl ⟨(by omega), (by omega)⟩) (zg rfl rfl (zn rfl rfl) (zo ?_))))))))))
       exact ⟨⟨r + 1, by omega, xQ hq.2.1 hlt hent, zwD hlt hq.2.2 hr.2⟩, by dsimp only; omega, zt _ ⟨rfl, rfl, trivial⟩ (rfl)⟩
   ·
    have hge : l.length <= q := by simpa [eBk] using h1
    refine qp (zL (zL (qw (zf (zl (zh (zg rfl rfl (zn rfl rfl) (zo (zf (zP ?_))))))))))
    exact ⟨.inr rfl, AVle.of (by have h1 := hq.2; rw [List.take_of_length_le hge] at h1; rw [zuB, bkE, h1.1, decide_eq_true h1.2, decide_eq_true hsh]; rfl)⟩
end Go.Av
end
