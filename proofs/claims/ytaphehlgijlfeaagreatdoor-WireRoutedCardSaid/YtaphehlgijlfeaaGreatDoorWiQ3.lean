
import Derived.Test.YtaphehlgijlfeaaGreatDoorWiQ2
import Derived.Test.YtaphehlgijlfeaaGreatDoorWiW
set_option linter.unusedVariables false
set_option linter.unusedSimpArgs false
section
namespace Go.Av
open Go.Proofs
set_option maxRecDepth 100000
set_option maxHeartbeats 1000000
variable {G : Glob}
theorem ti4 : Tryz.prog.info? 4 = some Tryz.t4 := by kernel_rfl
theorem zzx : (Tryz.prog.info? 155).bind (·.zero) = some (.slice none 0 0) := by kernel_rfl
theorem zzA : (Tryz.prog.info? 156).bind (·.zero) = some (.nilFunc) := by kernel_rfl
def zu9 (nt : Nt) (a : Int) : Bool := inB a 0 (nt.offices - 1)
def zuE (nt : Nt) (a z words most : Int) : Bool := zuA nt && zu9 nt a && zu9 nt z && inB words 0 100 && inB most 0 100
theorem zuQ {nt : Nt} {a z words most : Int} (h : zuE nt a z words most = true) : zuA nt = true /\ (0 <= a /\ a <= nt.offices - 1) /\ (0 <= z /\ z <= nt.offices - 1) /\ (0 <= words /\ words <= 100) /\ (0 <= most /\ most <= 100) := by
 simp only [zuE, zu9, Bool.and_eq_true] at h
 exact ⟨h.1.1.1.1, zdh.1 h.1.1.1.2, zdh.1 h.1.1.2, zdh.1 h.1.2, zdh.1 h.2⟩
theorem zu7 (a z w m : Bool) : (((((!true) || (!a)) || (!z)) || (!w)) || (!m)) = !((((true && a) && z) && w) && m) := by cases a <;> cases z <;> cases w <;> cases m <;> rfl
theorem zxF (nt : Nt) (hl : nt.lines.length <= 1000) {b : Bool} (h : zuA nt = b) : ACall Tryz.prog G 110 [.agg (eNt nt)] (.v (.bool b)) := h ▸ f110 nt hl
theorem zw8 {nt : Nt} (hn : zuA nt = true) (a z most : Int) : (zuT nt a z most).length <= 10000000 := by
 have h1 := zvS (zuH hn).2.2 z 7 a [a] []
 have h2 := List.length_filter_le (fun r => decide (grb nt r <= most)) (zuK nt a z)
 unfold zuT
 unfold zuK at h2 ⊢
 omega
theorem zyL (N : Nat) : List.replicate N [B false] = zuI N [] := by
 apply List.ext_getElem
 ·
  simp [zuI]
 ·
  intro i h1 h2; simp [zuI]
theorem zyV (nt : Nt) (a z words most : Int) (hl : nt.lines.length <= 1000) (hok : zuE nt a z words most = true) (hF0 : zuT nt a z most = []) : ACall Tryz.prog G 51 [.agg (eNt nt), ei a, ei z, ei words, ei most] (.tup [.sl [], ei 0, ei 5]) := by
 have hk := zuQ hok
 have hnet := hk.1
 have hF := zw8 hk.1 a z most
 have h6 := zuH hk.1
 refine zS Tryz.func51 rfl (by kernel_rfl) rfl ?_
 refine zl (zh (zg rfl rfl (jf rfl (zY rfl)) (zg rfl rfl (jf (cs := [_]) rfl (jF rfl)) (zg rfl rfl (jf (cs := [_]) rfl (jF rfl)) (zg rfl rfl (jf (cs := [_]) rfl (jF rfl)) (zg rfl rfl (zn rfl rfl) (zg rfl rfl (zn rfl rfl) (zg rfl rfl (zn rfl rfl) (zo (zf (zl ?_)))))))))))
 refine zl (zh (zg rfl rfl (zZ rfl rfl qf (by exact zLb rfl)) (zg rfl rfl (zy (av := [_]) rfl ⟨rfl, trivial⟩ (zxF nt hl (b := true) hnet)) (zg rfl rfl (je rfl rfl) (zg rfl rfl (zi rfl rfl) (zk rfl rfl rfl (fun hg => zi rfl rfl) (zk rfl rfl rfl (fun hg => zu rfl rfl zuG) (zk rfl rfl rfl (fun hg => zA rfl (rfl) rfl ty3) ?_))))))))
 refine zk rfl rfl rfl (fun hg => ze5 rfl (rfl) rfl ⟨(by first | omega | (simp at hg; omega)), (by first | omega | (simp at hg; omega))⟩) ?_
 refine zk rfl rfl rfl (fun hg => zy (av := [_, _, _]) rfl ⟨(rfl), rfl, (rfl), trivial⟩ (f107 _ _ _)) (zk rfl rfl rfl (fun hg => je rfl (rfl)) (zg rfl rfl (qU rfl rfl rfl rfl) (zg rfl rfl (zi rfl rfl) (zk rfl rfl rfl (fun hg => zA rfl rfl rfl ty3) (zk rfl rfl rfl (fun hg => zu rfl rfl zuG) (zk rfl rfl rfl (fun hg => zA rfl (if_pos hg) rfl ty3) ?_))))))
 refine zk rfl rfl rfl (fun hg => ze5 rfl (if_pos hg) rfl ⟨(by first | omega | (simp at hg; omega)), (by first | omega | (simp at hg; omega))⟩) ?_
 refine zk rfl rfl rfl (fun hg => zy (av := [_, _, _]) rfl ⟨((if_pos hg)), rfl, ((if_pos hg)), trivial⟩ (f107 _ _ _)) (zk rfl rfl rfl (fun hg => je rfl (if_pos hg)) (zg rfl rfl (qU rfl rfl rfl rfl) (zg rfl rfl (zi rfl rfl) (zk rfl rfl rfl (fun hg => zA rfl rfl rfl ty3) (zk rfl rfl rfl (fun hg => zy (av := [_, _, _]) rfl ⟨((if_pos hg)), rfl, rfl, trivial⟩ (f107 _ _ _)) (zk rfl rfl rfl (fun hg => je rfl (if_pos hg)) (zg rfl rfl (qU rfl rfl rfl rfl) (zg rfl rfl (zi rfl rfl) (zk rfl rfl rfl (fun hg => zA rfl rfl rfl ty3) (zk rfl rfl rfl (fun hg => zy (av := [_, _, _]) rfl ⟨((if_pos hg)), rfl, rfl, trivial⟩ (f107 _ _ _)) (zk rfl rfl rfl (fun hg => je rfl (if_pos hg)) ?_)))))))))))
 refine zg rfl rfl (qU rfl rfl rfl rfl) (zo (zf (zx rfl (fun h0 => ?_) (fun h0 => ?_))))
 ·
  exfalso; rw [zu7] at h0; unfold zuE zu9 at hok; rw [hnet] at hok; rw [hok] at h0; cases h0
 ·
  refine zC (zf (zl (zh (jb rfl (wJ rfl rfl zzu rfl rfl) (zo (zf (zl (zh (zg rfl rfl (zu rfl rfl zuG) (zg rfl rfl (zA rfl rfl rfl ty3) ?_))))))))))
  refine jb rfl (zrx rfl rfl rfl Tryz.underlying155 ti4 rfl rfl rfl (zs := [.bool false]) rfl rfl rfl (by decide) (by omega) (by omega) (by decide)) ?_
  refine jb rfl (wJ rfl rfl zzx rfl rfl) ?_
  refine jb rfl (qG rfl rfl rfl rfl rfl rfl (zbO rfl rfl (by simp)) zxg (by rfl) (by exact zLb rfl)) ?_
  refine zo (zf (zl (zh (jb rfl (wJ rfl rfl zzA rfl rfl) (zo (zf (zl (zh (zg rfl rfl (zjz rfl) ?_)))))))))
  refine jb rfl (qG rfl rfl rfl rfl rfl rfl (zrP rfl) zwU (by rfl) (by exact zLb rfl)) ?_
  refine zo (zf (zl ?_))
  refine qx (zl2 (k := 0) (i := 0) (j := 0) rfl rfl rfl) ?_
  refine zh (zg rfl rfl (zK rfl rfl rfl rfl rfl rfl zwU) (zg rfl rfl (zi rfl rfl) ?_))
  refine zg rfl rfl (zb3 (cs := [_, _, _]) rfl zyN rfl rfl (by rfl) (by simp [ofV])) ?_
  refine zvm (zt (mem' := (zuW nt z words most [] [])) [(13, .pp 0 1 0 0), (50, .fnm 111 [] (zuX nt z words most)), (51, I a), (52, .pub (.agg [LN [], ei (prc nt [] * words), ei (grb nt [])]))] ?_ ?_) ?_
  ·
   exact ⟨rfl, rfl, rfl, (congrArg (fun z => EV.pub (.agg [LN [], ei z, ei 0])) (Int.zero_mul words).symm), trivial⟩
  ·
   exact (zvv rfl (zyL _) rfl)
  refine jb rfl (zij (f := 111) (fs := []) (cs := zuX nt z words most) (av := [I a, .pub (.agg [LN [], ei (prc nt [] * words), ei (grb nt [])])]) rfl rfl ⟨rfl, rfl, rfl⟩ ⟨rfl, rfl, trivial⟩ (zzX nt z words most hk.1 hk.2.2.2.1 7 a [] [] [] (by have := zwD nt ([] ++ [a]); omega) hk.2.1 (by simp) (by simp) (by show 0 + (zuT nt a z most).length <= _; omega))) ?_
  refine zo (zf (zl (zl ?_)))
  refine qx (zt (mem' := (zuW nt z words most [] (zuT nt a z most))) [(13, .pp 0 1 0 0)] ?_ ?_) ?_
  ·
   exact ⟨rfl, trivial⟩
  ·
   exact (rfl)
  refine zh (zg rfl rfl (zK rfl rfl rfl rfl rfl rfl zxa) (zg rfl rfl (jE rfl rfl rfl (zu6 ..) Tryz.underlying154) (zg rfl rfl (qJ rfl rfl rfl) (zo (zf (zx rfl (fun h1 => ?_) (fun h1 => ?_)))))))
  ·
   refine zl (zh (zg rfl rfl (zn rfl rfl) (zg rfl rfl (zn rfl rfl) (zg rfl rfl (zn rfl rfl) (zo (zf (zP (zQ ?_))))))))
   exact ⟨.inr rfl, ⟨_, rfl, ⟨_, _, rfl, AVle.nil, ⟨_, _, rfl, AVle.refl _, ⟨_, _, rfl, AVle.refl _, rfl⟩⟩⟩⟩⟩
  ·
   exfalso; rw [hF0] at h1; simp at h1
theorem zyH (nt : Nt) (a z words most : Int) (hl : nt.lines.length <= 1000) (hok : zuE nt a z words most = true) (h0F : 0 < (zuT nt a z most).length) (R : List Int) (hR : R = bsK (bt2 nt words) [] (zuT nt a z most) ((zuT nt a z most).length - 1)) : ACall Tryz.prog G 51 [.agg (eNt nt), ei a, ei z, ei words, ei most] (.tup [zO R, ei (words * prc nt R), ei 0]) := by
 have hk := zuQ hok
 have hnet := hk.1
 have hF := zw8 hk.1 a z most
 have h6 := zuH hk.1
 refine zS Tryz.func51 rfl (by kernel_rfl) rfl ?_
 refine zl (zh (zg rfl rfl (jf rfl (zY rfl)) (zg rfl rfl (jf (cs := [_]) rfl (jF rfl)) (zg rfl rfl (jf (cs := [_]) rfl (jF rfl)) (zg rfl rfl (jf (cs := [_]) rfl (jF rfl)) (zg rfl rfl (zn rfl rfl) (zg rfl rfl (zn rfl rfl) (zg rfl rfl (zn rfl rfl) (zo (zf (zl ?_)))))))))))
 refine zl (zh (zg rfl rfl (zZ rfl rfl qf (by exact zLb rfl)) (zg rfl rfl (zy (av := [_]) rfl ⟨rfl, trivial⟩ (zxF nt hl (b := true) hnet)) (zg rfl rfl (je rfl rfl) (zg rfl rfl (zi rfl rfl) (zk rfl rfl rfl (fun hg => zi rfl rfl) (zk rfl rfl rfl (fun hg => zu rfl rfl zuG) (zk rfl rfl rfl (fun hg => zA rfl (rfl) rfl ty3) ?_))))))))
 refine zk rfl rfl rfl (fun hg => ze5 rfl (rfl) rfl ⟨(by first | omega | (simp at hg; omega)), (by first | omega | (simp at hg; omega))⟩) ?_
 refine zk rfl rfl rfl (fun hg => zy (av := [_, _, _]) rfl ⟨(rfl), rfl, (rfl), trivial⟩ (f107 _ _ _)) (zk rfl rfl rfl (fun hg => je rfl (rfl)) (zg rfl rfl (qU rfl rfl rfl rfl) (zg rfl rfl (zi rfl rfl) (zk rfl rfl rfl (fun hg => zA rfl rfl rfl ty3) (zk rfl rfl rfl (fun hg => zu rfl rfl zuG) (zk rfl rfl rfl (fun hg => zA rfl (if_pos hg) rfl ty3) ?_))))))
 refine zk rfl rfl rfl (fun hg => ze5 rfl (if_pos hg) rfl ⟨(by first | omega | (simp at hg; omega)), (by first | omega | (simp at hg; omega))⟩) ?_
 refine zk rfl rfl rfl (fun hg => zy (av := [_, _, _]) rfl ⟨((if_pos hg)), rfl, ((if_pos hg)), trivial⟩ (f107 _ _ _)) (zk rfl rfl rfl (fun hg => je rfl (if_pos hg)) (zg rfl rfl (qU rfl rfl rfl rfl) (zg rfl rfl (zi rfl rfl) (zk rfl rfl rfl (fun hg => zA rfl rfl rfl ty3) (zk rfl rfl rfl (fun hg => zy (av := [_, _, _]) rfl ⟨((if_pos hg)), rfl, rfl, trivial⟩ (f107 _ _ _)) (zk rfl rfl rfl (fun hg => je rfl (if_pos hg)) (zg rfl rfl (qU rfl rfl rfl rfl) (zg rfl rfl (zi rfl rfl) (zk rfl rfl rfl (fun hg => zA rfl rfl rfl ty3) (zk rfl rfl rfl (fun hg => zy (av := [_, _, _]) rfl ⟨((if_pos hg)), rfl, rfl, trivial⟩ (f107 _ _ _)) (zk rfl rfl rfl (fun hg => je rfl (if_pos hg)) ?_)))))))))))
 refine zg rfl rfl (qU rfl rfl rfl rfl) (zo (zf (zx rfl (fun h0 => ?_) (fun h0 => ?_))))
 ·
  exfalso; rw [zu7] at h0; unfold zuE zu9 at hok; rw [hnet] at hok; rw [hok] at h0; cases h0
 ·
  refine zC (zf (zl (zh (jb rfl (wJ rfl rfl zzu rfl rfl) (zo (zf (zl (zh (zg rfl rfl (zu rfl rfl zuG) (zg rfl rfl (zA rfl rfl rfl ty3) ?_))))))))))
  refine jb rfl (zrx rfl rfl rfl Tryz.underlying155 ti4 rfl rfl rfl (zs := [.bool false]) rfl rfl rfl (by decide) (by omega) (by omega) (by decide)) ?_
  refine jb rfl (wJ rfl rfl zzx rfl rfl) ?_
  refine jb rfl (qG rfl rfl rfl rfl rfl rfl (zbO rfl rfl (by simp)) zxg (by rfl) (by exact zLb rfl)) ?_
  refine zo (zf (zl (zh (jb rfl (wJ rfl rfl zzA rfl rfl) (zo (zf (zl (zh (zg rfl rfl (zjz rfl) ?_)))))))))
  refine jb rfl (qG rfl rfl rfl rfl rfl rfl (zrP rfl) zwU (by rfl) (by exact zLb rfl)) ?_
  refine zo (zf (zl ?_))
  refine qx (zl2 (k := 0) (i := 0) (j := 0) rfl rfl rfl) ?_
  refine zh (zg rfl rfl (zK rfl rfl rfl rfl rfl rfl zwU) (zg rfl rfl (zi rfl rfl) ?_))
  refine zg rfl rfl (zb3 (cs := [_, _, _]) rfl zyN rfl rfl (by rfl) (by simp [ofV])) ?_
  refine zvm (zt (mem' := (zuW nt z words most [] [])) [(13, .pp 0 1 0 0), (50, .fnm 111 [] (zuX nt z words most)), (51, I a), (52, .pub (.agg [LN [], ei (prc nt [] * words), ei (grb nt [])]))] ?_ ?_) ?_
  ·
   exact ⟨rfl, rfl, rfl, (congrArg (fun z => EV.pub (.agg [LN [], ei z, ei 0])) (Int.zero_mul words).symm), trivial⟩
  ·
   exact (zvv rfl (zyL _) rfl)
  refine jb rfl (zij (f := 111) (fs := []) (cs := zuX nt z words most) (av := [I a, .pub (.agg [LN [], ei (prc nt [] * words), ei (grb nt [])])]) rfl rfl ⟨rfl, rfl, rfl⟩ ⟨rfl, rfl, trivial⟩ (zzX nt z words most hk.1 hk.2.2.2.1 7 a [] [] [] (by have := zwD nt ([] ++ [a]); omega) hk.2.1 (by simp) (by simp) (by show 0 + (zuT nt a z most).length <= _; omega))) ?_
  refine zo (zf (zl (zl ?_)))
  refine qx (zt (mem' := (zuW nt z words most [] (zuT nt a z most))) [(13, .pp 0 1 0 0)] ?_ ?_) ?_
  ·
   exact ⟨rfl, trivial⟩
  ·
   exact (rfl)
  refine zh (zg rfl rfl (zK rfl rfl rfl rfl rfl rfl zxa) (zg rfl rfl (jE rfl rfl rfl (zu6 ..) Tryz.underlying154) (zg rfl rfl (qJ rfl rfl rfl) (zo (zf (zx rfl (fun h1 => ?_) (fun h1 => ?_)))))))
  ·
   exfalso; simp at h1; rw [h1] at h0F; simp at h0F
  ·
   refine zC (zf (zl (zh (zg rfl rfl (zK rfl rfl rfl rfl rfl rfl zxa) ?_))))
   refine zvm (zcT (k := 4) (m := (zuT nt a z most).length) (rows := (zuT nt a z most).map (rtV nt words)) [57] ?_ ?_ ?_) ?_
   ·
    exact congrArg (fun z => some (PO.row z)) (by simp [zve])
   ·
    simp
   ·
    intro d hd; rw [List.mem_singleton] at hd; subst hd; rfl
   refine zg rfl rfl (zy (av := [_, _]) rfl ⟨rfl, rfl, trivial⟩ (f113 nt words (zuT nt a z most) h0F (by omega))) ?_
   refine vI  rfl rfl rfl rfl rfl rfl rfl zxW zu5 rfl (by rfl) (zY rfl) rfl ?_
   refine zo (zf (zl ?_))
   refine qY mixed (by kernel_rfl) rfl ?_
   refine zH rfl (zu rfl rfl zu3) (zH rfl (zA rfl rfl rfl jO) (zH rfl (zu rfl rfl zu4) (zH rfl (zA rfl rfl rfl ty3) (zH rfl (zW rfl rfl) (zH rfl (zn rfl rfl) (zH rfl (zn rfl rfl) (jw (zf (zP ?_)))))))))
   exact ⟨.inr rfl, ⟨_, rfl, ⟨_, _, rfl, AVle.of (by rw [hR]; rfl), ⟨_, _, rfl, AVle.of (by rw [hR, Int.mul_comm]; rfl), ⟨_, _, rfl, AVle.refl _, rfl⟩⟩⟩⟩⟩
end Go.Av
end
section
namespace Go.Av
open Go.Proofs
set_option maxRecDepth 100000
set_option maxHeartbeats 1000000
variable {G : Glob}
theorem zwt {nt : Nt} {i : Int} (h : inL nt i = true) : (nt.lines.map zs3)[i.toNat]? = some (zs3 (lnA nt i)) := by
 obtain ⟨k, rfl, hk⟩ := zxd h
 exact zxw hk
theorem zxz {nt : Nt} {i : Int} (h : inL nt i = true) : 0 <= i /\ i < (nt.lines.length : Int) := by simpa [inL] using h
theorem zyz {nt : Nt} {l : List Int} {k : Nat} (h : k < l.length) : prc nt (l.take (k + 1)) = prc nt (l.take k) + (lnA nt l[k]).price := by rw [List.take_succ_eq_append_getElem h, zwd]
theorem zys {nt : Nt} {l : List Int} {k : Nat} (h : k < l.length) : grb nt (l.take (k + 1)) = grb nt (l.take k) + (lnA nt l[k]).wrong := by rw [List.take_succ_eq_append_getElem h, zv5]
theorem zy0 {nt : Nt} (h : (inB nt.offices 1 6 && decide (nt.lines.length <= 10)) = false) : zuA nt = false := by rw [zwK, h]; rfl
theorem f56 (nt : Nt) (a : Int) (ho : 1 <= nt.offices /\ nt.offices <= 6) : ACall Tryz.prog G 56 [.agg (eNt nt), .v (.int .i64 a)] (.v (.bool (zu9 nt a))) := by
 refine zS Tryz.func56 rfl (by kernel_rfl) rfl ?_
 refine zl (zh (zg rfl rfl (jf rfl (zY rfl)) (zg rfl rfl (zn rfl rfl) (zo (zf (zl (zh (zg rfl rfl (zi rfl rfl) (zg rfl rfl (zu rfl rfl zuG) (zg rfl rfl (zA rfl rfl rfl ty3) (zg rfl rfl (ze5 rfl rfl rfl ⟨(by omega), (by omega)⟩) ?_)))))))))))
 refine zg rfl rfl (zy (av := [_, _, _]) rfl ⟨rfl, rfl, rfl, trivial⟩ (f93 _ _ _)) (zg rfl rfl (zn rfl rfl) (zo (zf (zP ?_))))
 exact ⟨.inr rfl, AVle.refl _⟩
theorem zyo {α : Type} (l : List α) : decide ((10 : Int) < (l.length : Int)) = !decide (l.length <= 10) := by
 rw [← decide_not]; exact decide_eq_decide.2 (by omega)
theorem zzS (a b : Bool) : ((!a || !b) = true) ↔ (a && b) = false := by cases a <;> cases b <;> simp
theorem zzb (a b : Bool) : ((!a || !b) = false) ↔ (a = true /\ b = true) := by cases a <;> cases b <;> simp
theorem zyr (a b c d e : Bool) : (((((!a || !b) || c) || !d) || !e)) = !((((a && b) && !c) && d) && e) := by cases a <;> cases b <;> cases c <;> cases d <;> cases e <;> rfl
theorem zwV (nt : Nt) : zuA nt = (inB nt.offices 1 6 && decide (nt.lines.length <= 10) && nt.lines.all (zwl nt.offices)) := by
 rw [zwK]; congr 1
 rw [List.not_any_eq_all_not]; simp
theorem f55 (nt : Nt) (hl : nt.lines.length <= 1000) : ACall Tryz.prog G 55 [.agg (eNt nt)] (.v (.bool (zuA nt))) := by
 refine zS Tryz.func55 rfl (by kernel_rfl) rfl ?_
 refine zl (zh (zg rfl rfl (jf rfl (zY rfl)) (zg rfl rfl (zn rfl rfl) (zo (zf (zl (zl (zh (zg rfl rfl (zu rfl rfl zuG) (zg rfl rfl (zA rfl rfl rfl ty3) (zg rfl rfl (zy (av := [_, _, _]) rfl ⟨rfl, rfl, rfl, trivial⟩ (f93 _ _ _)) ?_)))))))))))
 refine zg rfl rfl (je rfl rfl) (zg rfl rfl (zi rfl rfl) (zk rfl rfl rfl (fun hg => zu rfl rfl zuy) (zk rfl rfl rfl (fun hg => zA rfl (if_pos hg) rfl zuP) (zk rfl rfl rfl (fun hg => qh rfl rfl (if_pos hg) Tryz.underlying71) (zk rfl rfl rfl (fun hg => qR rfl (if_pos hg) rfl) (zg rfl rfl (qU rfl rfl rfl rfl) (zo (zf (zx rfl (fun h0 => ?_) (fun h0 => ?_))))))))))
 ·
  have hno : zuA nt = false := zy0 (by have h9 := h0; simp only [List.length_map, zyo, zzS] at h9; exact h9)
  refine zl (zh (zg rfl rfl (zn rfl rfl) (zo (zf (zP (zQ ?_))))))
  exact ⟨.inr rfl, AVle.of (by rw [hno])⟩
 ·
  have hyes : inB nt.offices 1 6 = true /\ nt.lines.length <= 10 := by have h9 := h0; simp only [List.length_map, zyo, zzb, decide_eq_true_eq] at h9; exact h9
  have ho := zdh.1 hyes.1
  refine zC (zf (zl (zl (zh (zg rfl rfl (zn rfl rfl) (zo (zf (zB ?_))))))))
  refine qy (ι := { k : Nat // k <= nt.lines.length /\ (nt.lines.take k).all (zwl nt.offices) = true }) (fun k => ⟨Tryz.f55.ntmps, frL [(1, .pub (.ptr (eNt nt))), (3, I (k.1 : Int))], []⟩) (fun k => nt.lines.length - k.1) (⟨0, by simp⟩) ?_ ?_
  ·
   exact zt _ ⟨rfl, rfl, trivial⟩ (rfl)
  ·
   rintro ⟨k, hk⟩
   dsimp only
   refine zl (zl (zh (zg rfl rfl (zi rfl rfl) (zg rfl rfl (zu rfl rfl zuy) (zg rfl rfl (zA rfl rfl rfl zuP) (zg rfl rfl (qh rfl rfl rfl Tryz.underlying71) (zg rfl rfl (qi rfl rfl rfl) (zo (zf (zx rfl (fun h1 => ?_) (fun h1 => ?_)))))))))))
   ·
    have hlt : k < nt.lines.length := by simpa using h1
    refine zC (zf (zl (zB (zl (zh (zg rfl rfl (zu rfl rfl zuy) (zg rfl rfl (zA rfl rfl rfl zuP) (zg rfl rfl (zi rfl rfl) (zg rfl rfl (zG rfl rfl rfl zv8 (by omega) (zxD hlt) zva) (zg rfl rfl (zZ rfl rfl zvE (by exact zLb rfl)) ?_))))))))))
    refine vI  rfl rfl rfl rfl rfl rfl rfl zxL zvE rfl (by rfl) (zY rfl) rfl ?_
    refine zo (zf (zl (zh (zg rfl rfl (zZ rfl rfl qf (by exact zLb rfl)) (zg rfl rfl (zu rfl rfl zuM) (zg rfl rfl (zA rfl rfl rfl ty3) (zg rfl rfl (zy (av := [_, _]) rfl ⟨rfl, rfl, trivial⟩ (f56 nt _ ho)) (zg rfl rfl (je rfl rfl) (zg rfl rfl (zi rfl rfl) (zk rfl rfl rfl (fun hg => zZ rfl rfl qf (by exact zLb rfl)) (zk rfl rfl rfl (fun hg => zu rfl rfl zuL) ?_)))))))))))
    refine zk rfl rfl rfl (fun hg => zA rfl (if_pos hg) rfl ty3) (zk rfl rfl rfl (fun hg => zy (av := [_, _]) rfl ⟨((if_pos hg)), ((if_pos hg)), trivial⟩ (f56 nt _ ho)) (zk rfl rfl rfl (fun hg => je rfl (if_pos hg)) (zg rfl rfl (qU rfl rfl rfl rfl) (zg rfl rfl (zi rfl rfl) (zk rfl rfl rfl (fun hg => zu rfl rfl zuM) (zk rfl rfl rfl (fun hg => zA rfl (if_pos hg) rfl ty3) (zk rfl rfl rfl (fun hg => zu rfl rfl zuL) (zk rfl rfl rfl (fun hg => zA rfl (if_pos hg) rfl ty3) (zk rfl rfl rfl (fun hg => qJ rfl (if_pos hg) (if_pos hg)) (zg rfl rfl (qU rfl rfl rfl rfl) (zg rfl rfl (zi rfl rfl) ?_)))))))))))
    refine zk rfl rfl rfl (fun hg => zu rfl rfl zvC) (zk rfl rfl rfl (fun hg => zA rfl (if_pos hg) rfl ty3) (zk rfl rfl rfl (fun hg => zy (av := [_, _, _]) rfl ⟨((if_pos hg)), rfl, rfl, trivial⟩ (f93 _ _ _)) (zk rfl rfl rfl (fun hg => je rfl (if_pos hg)) (zg rfl rfl (qU rfl rfl rfl rfl) (zg rfl rfl (zi rfl rfl) (zk rfl rfl rfl (fun hg => zu rfl rfl zvt) (zk rfl rfl rfl (fun hg => zA rfl (if_pos hg) rfl ty3) (zk rfl rfl rfl (fun hg => zy (av := [_, _, _]) rfl ⟨((if_pos hg)), rfl, rfl, trivial⟩ (f93 _ _ _)) (zk rfl rfl rfl (fun hg => je rfl (if_pos hg)) (zg rfl rfl (qU rfl rfl rfl rfl) (zo ?_)))))))))))
    refine zf (zx rfl (fun h2 => ?_) (fun h2 => ?_))
    ·
     have hb : zwl nt.offices nt.lines[k] = false := by rw [zyr] at h2; exact (Bool.not_eq_true' _) ▸ h2
     refine zl (zh (zg rfl rfl (zn rfl rfl) (zo (zf (zP (qF (zQ (zQ (qF (zQ ?_))))))))))
     exact ⟨.inr rfl, AVle.of (by rw [zwV, zaW hlt hb, Bool.and_false])⟩
    ·
     have hb : zwl nt.offices nt.lines[k] = true := by rw [zyr] at h2; exact (Bool.not_eq_false' _) ▸ h2
     refine zC (zD (zf (zh (zg rfl rfl (zi rfl rfl) (zg rfl rfl (zV rfl rfl rfl ⟨(by omega), (by omega)⟩) (zg rfl rfl (zn rfl rfl) (zo ?_)))))))
     exact ⟨⟨k + 1, by omega, xQ hk.2 hlt hb⟩, by dsimp only; omega, zt _ ⟨rfl, rfl, trivial⟩ (rfl)⟩
   ·
    have hge : nt.lines.length <= k := by simpa using h1
    refine qp (zL (zL (qw (zf (zl (zh (zg rfl rfl (zn rfl rfl) (zo (zf (zP ?_))))))))))
    exact ⟨.inr rfl, AVle.of (by rw [List.take_of_length_le hge] at hk; rw [zwV, hk.2, hyes.1, decide_eq_true hyes.2]; rfl)⟩
theorem f58 (nt : Nt) (l : List Int) (hn : zuA nt = true) (hl : l.length <= 1000) (hi : ∀ i ∈ l, inL nt i = true) : ACall Tryz.prog G 58 [.agg (eNt nt), zO l] (.v (.int .i64 (prc nt l))) := by
 refine zS Tryz.func58 rfl (by kernel_rfl) rfl ?_
 refine zl (zh (zg rfl rfl (jf rfl (zY rfl)) (zg rfl rfl (zn rfl rfl) (zo (zf (zl (zh (zg rfl rfl (zn rfl rfl) (zo (zf (zl ?_)))))))))))
 refine zl (zh (zg rfl rfl (zn rfl rfl) (zo (zf (zB ?_)))))
 refine qy (ι := { k : Nat // k <= l.length }) (fun k => ⟨Tryz.f58.ntmps, frL [(1, .pub (zO l)), (2, .pub (.ptr (eNt nt))), (5, I (prc nt (l.take k.1))), (6, I (k.1 : Int))], []⟩) (fun k => l.length - k.1) (⟨0, by omega⟩) ?_ ?_
 ·
  exact zt _ ⟨rfl, rfl, rfl, rfl, trivial⟩ (rfl)
 ·
  rintro ⟨k, hk⟩
  dsimp only
  refine zl (zl (zh (zg rfl rfl (zi rfl rfl) (zg rfl rfl (zq rfl rfl) (zg rfl rfl (qh rfl rfl rfl Tryz.underlying23) (zg rfl rfl (qi rfl rfl rfl) (zo (zf (zx rfl (fun h0 => ?_) (fun h0 => ?_))))))))))
  ·
   have hlt : k < l.length := by simpa [zO] using h0
   have hin := hi _ (List.getElem_mem hlt)
   have hsb := zvi hn (l.take k)
   have hlk : (l.take k).length <= k := by simp; omega
   have hxb := zvY hn l[k]
   refine zC (zf (zl (zB ?_)))
   refine qY mixed (by kernel_rfl) rfl ?_
   refine zH rfl (zi rfl rfl) (zH rfl (zu rfl rfl zuy) (zH rfl (zA rfl rfl rfl zuP) (zH rfl (zq rfl rfl) (zH rfl (zi rfl rfl) (zH rfl (zG rfl rfl rfl jv (by omega) (wu hlt) jC) (zH rfl (zA rfl rfl rfl ty3) (zH rfl (zG rfl rfl rfl zv8 (zxz hin).1 (zwt hin) zva) (zH rfl (zu rfl rfl zvC) (zH rfl (zA rfl rfl rfl ty3) (zH rfl (zV rfl rfl rfl ⟨(by omega), (by omega)⟩) (zH rfl (zn rfl rfl) ?_)))))))))))
   refine jw (zD (zf (zh (zg rfl rfl (zi rfl rfl) (zg rfl rfl (zV rfl rfl rfl ⟨(by omega), (by omega)⟩) (zg rfl rfl (zn rfl rfl) (zo ?_)))))))
   exact ⟨⟨k + 1, by omega⟩, by dsimp only; omega, zt _ ⟨rfl, rfl, (congrArg (fun x : Int => I x) (zyz hlt).symm), rfl, trivial⟩ (rfl)⟩
  ·
   have hge : l.length <= k := by simpa [zO] using h0
   refine qp (zL (zL (qw (zf (zl (zh (zg rfl rfl (zi rfl rfl) (zg rfl rfl (zn rfl rfl) (zo (zf (zP ?_)))))))))))
   exact ⟨.inr rfl, AVle.of (by rw [List.take_of_length_le hge])⟩
theorem f60 (nt : Nt) (l : List Int) (hn : zuA nt = true) (hl : l.length <= 1000) (hi : ∀ i ∈ l, inL nt i = true) : ACall Tryz.prog G 60 [.agg (eNt nt), zO l] (.v (.int .i64 (grb nt l))) := by
 refine zS Tryz.func60 rfl (by kernel_rfl) rfl ?_
 refine zl (zh (zg rfl rfl (jf rfl (zY rfl)) (zg rfl rfl (zn rfl rfl) (zo (zf (zl (zh (zg rfl rfl (zn rfl rfl) (zo (zf (zl ?_)))))))))))
 refine zl (zh (zg rfl rfl (zn rfl rfl) (zo (zf (zB ?_)))))
 refine qy (ι := { k : Nat // k <= l.length }) (fun k => ⟨Tryz.f60.ntmps, frL [(1, .pub (zO l)), (2, .pub (.ptr (eNt nt))), (5, I (grb nt (l.take k.1))), (6, I (k.1 : Int))], []⟩) (fun k => l.length - k.1) (⟨0, by omega⟩) ?_ ?_
 ·
  exact zt _ ⟨rfl, rfl, rfl, rfl, trivial⟩ (rfl)
 ·
  rintro ⟨k, hk⟩
  dsimp only
  refine zl (zl (zh (zg rfl rfl (zi rfl rfl) (zg rfl rfl (zq rfl rfl) (zg rfl rfl (qh rfl rfl rfl Tryz.underlying23) (zg rfl rfl (qi rfl rfl rfl) (zo (zf (zx rfl (fun h0 => ?_) (fun h0 => ?_))))))))))
  ·
   have hlt : k < l.length := by simpa [zO] using h0
   have hin := hi _ (List.getElem_mem hlt)
   have hsb := zvH hn (l.take k)
   have hlk : (l.take k).length <= k := by simp; omega
   have hxb := zvY hn l[k]
   refine zC (zf (zl (zB ?_)))
   refine qY mixed (by kernel_rfl) rfl ?_
   refine zH rfl (zi rfl rfl) (zH rfl (zu rfl rfl zuy) (zH rfl (zA rfl rfl rfl zuP) (zH rfl (zq rfl rfl) (zH rfl (zi rfl rfl) (zH rfl (zG rfl rfl rfl jv (by omega) (wu hlt) jC) (zH rfl (zA rfl rfl rfl ty3) (zH rfl (zG rfl rfl rfl zv8 (zxz hin).1 (zwt hin) zva) (zH rfl (zu rfl rfl zvt) (zH rfl (zA rfl rfl rfl ty3) (zH rfl (zV rfl rfl rfl ⟨(by omega), (by omega)⟩) (zH rfl (zn rfl rfl) ?_)))))))))))
   refine jw (zD (zf (zh (zg rfl rfl (zi rfl rfl) (zg rfl rfl (zV rfl rfl rfl ⟨(by omega), (by omega)⟩) (zg rfl rfl (zn rfl rfl) (zo ?_)))))))
   exact ⟨⟨k + 1, by omega⟩, by dsimp only; omega, zt _ ⟨rfl, rfl, (congrArg (fun x : Int => I x) (zys hlt).symm), rfl, trivial⟩ (rfl)⟩
  ·
   have hge : l.length <= k := by simpa [zO] using h0
   refine qp (zL (zL (qw (zf (zl (zh (zg rfl rfl (zi rfl rfl) (zg rfl rfl (zn rfl rfl) (zo (zf (zP ?_)))))))))))
   exact ⟨.inr rfl, AVle.of (by rw [List.take_of_length_le hge])⟩
theorem f61 (nt : Nt) (words : Int) (a b : List Int) (hn : zuA nt = true) (hw : 0 <= words /\ words <= 100) (ha : a.length <= 1000 /\ ∀ i ∈ a, inL nt i = true) (hb : b.length <= 1000 /\ ∀ i ∈ b, inL nt i = true) : ACall Tryz.prog G 61 [.agg (eNt nt), .v (.int .i64 words), zO a, zO b] (.v (.bool (bt3 nt words a b))) := by
 have ba := zvi hn a
 have bb := zvi hn b
 have ma := zwa hw (show 0 <= prc nt a /\ prc nt a <= 10000000 by omega)
 have mb := zwa hw (show 0 <= prc nt b /\ prc nt b <= 10000000 by omega)
 refine zS Tryz.func61 rfl (by kernel_rfl) rfl ?_
 refine zl (zh (zg rfl rfl (jf rfl (zY rfl)) (zg rfl rfl (zn rfl rfl) (zo (zf (zl ?_))))))
 refine qY mixed (by kernel_rfl) rfl ?_
 refine zH rfl (zi rfl rfl) (zH rfl (zZ rfl rfl qf (by exact zLb rfl)) (zH rfl (zq rfl rfl) (zH rfl (zy (av := [_, _]) rfl ⟨rfl, rfl, trivial⟩ (f58 nt a hn ha.1 ha.2)) (zH rfl (zcY rfl rfl rfl ⟨(by omega), (by omega)⟩) (zH rfl (zi rfl rfl) (zH rfl (zZ rfl rfl qf (by exact zLb rfl)) (zH rfl (zq rfl rfl) (zH rfl (zy (av := [_, _]) rfl ⟨rfl, rfl, trivial⟩ (f58 nt b hn hb.1 hb.2)) (zH rfl (zcY rfl rfl rfl ⟨(by omega), (by omega)⟩) (zH rfl (zn rfl rfl) (zH rfl (zn rfl rfl) ?_)))))))))))
 refine jw (zf (zl (zl (zh (zg rfl rfl (zi rfl rfl) (zg rfl rfl (zi rfl rfl) (zg rfl rfl (vg rfl rfl rfl) (zo (zf (zx rfl (fun h0 => ?_) (fun h0 => ?_)))))))))))
 ·
  have hne : words * prc nt a ≠ words * prc nt b := by simpa using h0
  refine zl (zh (zg rfl rfl (zi rfl rfl) (zg rfl rfl (zi rfl rfl) (zg rfl rfl (qi rfl rfl rfl) (zg rfl rfl (zn rfl rfl) (zo (zf (zP (zQ ?_)))))))))
  exact ⟨.inr rfl, AVle.of (by rw [bt3, if_pos hne])⟩
 ·
  have heq : ¬ words * prc nt a ≠ words * prc nt b := by simpa using h0
  refine zC (zf (zl (zl (zh (zg rfl rfl (zq rfl rfl) (zg rfl rfl (qh rfl rfl rfl Tryz.underlying23) (zg rfl rfl (zq rfl rfl) (zg rfl rfl (qh rfl rfl rfl Tryz.underlying23) (zg rfl rfl (vg rfl rfl rfl) (zo (zf (zx rfl (fun h1 => ?_) (fun h1 => ?_)))))))))))))
  ·
   have hle : a.length ≠ b.length := by simp [zO] at h1; omega
   refine zl (zh (zg rfl rfl (zq rfl rfl) (zg rfl rfl (qh rfl rfl rfl Tryz.underlying23) (zg rfl rfl (zq rfl rfl) (zg rfl rfl (qh rfl rfl rfl Tryz.underlying23) (zg rfl rfl (qi rfl rfl rfl) (zg rfl rfl (zn rfl rfl) (zo (zf (zP (zQ ?_)))))))))))
   exact ⟨.inr rfl, AVle.of (by rw [bt3, if_neg heq, if_pos hle]; simp [zO])⟩
  ·
   have hle : ¬ a.length ≠ b.length := by simp [zO] at h1; omega
   refine zC (zf (zl (zh (zg rfl rfl (zq rfl rfl) (zg rfl rfl (zq rfl rfl) (zg rfl rfl (zy (av := [_, _]) rfl ⟨rfl, rfl, trivial⟩ (f42 a b (by omega) (by omega))) (zg rfl rfl (zn rfl rfl) (zo (zf (zP ?_))))))))))
   exact ⟨.inr rfl, AVle.of (by rw [bt3, if_neg heq, if_neg hle])⟩
end Go.Av
end
