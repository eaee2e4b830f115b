import Derived.Test.YtdjncbjfejdamaaGreatDoorChSD
import Derived.Test.YtdjncbjfejdamaaGreatDoorChSF
import Derived.Test.YtdjncbjfejdamaaGreatDoorExG
import Derived.Test.YtdjncbjfejdamaaGreatDoorChO
import Derived.Test.YtdjncbjfejdamaaGreatDoorChF
import Derived.Test.YtdjncbjfejdamaaGreatDoorChJ
import Derived.Test.YtdjncbjfejdamaaGreatDoorChM
import Derived.Test.YtdjncbjfejdamaaGreatDoorChSC
set_option linter.unusedVariables false
set_option linter.unusedSimpArgs false
section
namespace Go.Av
open Go.Av.Pn Go.Proofs
set_option maxRecDepth 100000
variable {G:Glob}
theorem zZK (mp:Mp) (p:Nat) (lvl:Int) (hi:Bool) (ho:okM mp) (hc:zH5 mp = none) (hp:p < npt mp) (hv:1 <= lvl /\ lvl <= 99999):
  ∃ R:Fld, ACall Tryz.prog G 43 [.agg (eMp mp), ei (p:Int), ei lvl, .v (.bool hi)] (.tup [.agg (zHF R), .v (.bool (!zWr mp p lvl hi))]) /\ (zWr mp p lvl hi = false -> R = ⟨mp.wide, shL mp p lvl hi⟩):=by
 cases hi with
 | true=>
  cases hn:zWr mp p lvl true with
  | true=>exact ⟨_, zZq mp p lvl ho hp hv (by have h:=hn; unfold zWr at h; dsimp only at h; rw [zW9 hp] at h; exact of_decide_eq_true h), fun h=>by cases h⟩
  | false=>exact ⟨_, zZr mp p lvl ho hp hv (by have h:=hn; unfold zWr at h; dsimp only at h; rw [zW9 hp] at h; have:=of_decide_eq_false h; omega), fun _=>sh_hi.symm⟩
 | false=>
  cases hn:zWr mp p lvl false with
  | true=>exact ⟨_, zZo mp p lvl ho hp hv (by have h:=hn; unfold zWr at h; dsimp only at h; rw [zXa hp] at h; exact of_decide_eq_true h), fun h=>by cases h⟩
  | false=>exact ⟨_, zZp mp p lvl ho hp hv (by have h:=hn; unfold zWr at h; dsimp only at h; rw [zXa hp] at h; have:=of_decide_eq_false h; omega), fun _=>sh_lo.symm⟩
theorem z0b (mp:Mp):(⟨mp.wide, los mp⟩:Fld) = fnF mp (loG mp):=rfl
theorem z0e (mp:Mp):(⟨mp.wide, his mp⟩:Fld) = fnF mp (hiG mp):=rfl
theorem zZ1 {mp:Mp} {p:Nat} {lvl:Int} {hi:Bool} (ho:okM mp) (hc:zH5 mp = none) (hp:p < npt mp) (h:wX mp p lvl hi = true):isP mp p lvl hi = true:=by
 have hF:=zVe ho hc
 have hf:=zU3 ho
 have hl:(zN6 mp).vals.length = npt mp:=by have h1:=hF.len; have h2:=zJF ho; omega
 exact zYM ho hF hf hl hp (zXW ho hF hf hl hp h)
theorem zZ6 {mp:Mp} {p:Nat} {lvl:Int} {hi b:Bool} (ho:okM mp) (hc:zH5 mp = none) (hp:p < npt mp) (h1:wX mp p lvl hi = b) {c:Bool} (h2:isP mp p lvl hi = c):(if b = true then (3:Int) else if c = true then 2 else 1) = wdP mp p lvl hi:=by
 unfold wdP
 subst h1; subst h2
 cases hw:wX mp p lvl hi with
 | true=>rw [zZ1 ho hc hp hw]; rfl
 | false=>cases isP mp p lvl hi <;> rfl
theorem z0f {mp:Mp} {p:Nat} {lvl:Int} {hi:Bool} {R:Fld} (ho:okM mp) (hp:p < npt mp) (hR:zWr mp p lvl hi = false -> R = ⟨mp.wide, shL mp p lvl hi⟩):isP mp p lvl hi = (!zWr mp p lvl hi && zV2 R lvl hi p):=by
 unfold isP
 cases hn:zWr mp p lvl hi with
 | true=>rfl
 | false=>rw [hR hn, zXq ho hp]
theorem zZX (mp:Mp) (p:Nat) (lvl:Int) (hi:Bool) (ho:okM mp) (hc:zH5 mp = none) (hp:p < npt mp) (hv:1 <= lvl /\ lvl <= 99999):ACall Tryz.prog G 42 [.agg (eMp mp), ei (p:Int), ei lvl, .v (.bool hi)] (ei (wdP mp p lvl hi)):=by
 obtain ⟨R, h43, hR⟩:=zZK (G:=G) mp p lvl hi ho hc hp hv
 have hb2:(!zWr mp p lvl hi) = true -> zHz R = true /\ R.vals.length = npt mp:=fun h=>by
  have hn:zWr mp p lvl hi = false:=by simpa using h
  rw [hR hn]; exact ⟨(zW6 ho hc hp hv hn).2, zWk⟩
 have hn:=zJF ho
 obtain ⟨m1, m2, m3, m4, _⟩:=id ho
 have hx:=z0f ho hp hR
 cases hi with
 | true=>
  have h:=zZU mp p lvl ho hp R _ h43 hb2
  rw [zZ6 ho hc hp (by unfold wX; dsimp only; rw [zXa hp, zXj m1 m3 (by rw [zK3]; omega) (by rw [zK3]; exact hp), z0e]; simp) hx] at h
  exact h
 | false=>
  have h:=zZP mp p lvl ho hp R _ h43 hb2
  rw [zZ6 ho hc hp (by unfold wX; dsimp only; rw [zW9 hp, zXj m1 m3 (by rw [zK2]; omega) (by rw [zK2]; exact hp), z0b]; rw [Bool.eq_iff_iff]; simp only[beq_false, zLa, Bool.not_eq_true', decide_eq_false_iff_not, decide_eq_true_eq, Int.not_le]) hx] at h
  exact h
end Go.Av
end
section
namespace Go.Av
open Go.Proofs
set_option maxRecDepth 100000
set_option maxHeartbeats 1000000
variable {G:Glob}
theorem zZZ (hkn:KN GT) (m:Mp) (p lvl:Int) (hi:Bool) (hs:16 < m.st.length):ACall Tryz.prog GT 7 [.agg (eMp m), ei p, ei lvl, .v (.bool hi)] (.v (.bool true)):=by
 refine zS Tryz.func7 rfl (by kernel_rfl) rfl ?_
 refine zuy (zh ?_)
 refine zg rfl rfl (jf rfl (zY rfl)) ?_
 refine zg rfl rfl (zn rfl rfl) ?_
 refine zo (zf (zuy (zuy (zh ?_))))
 refine zg rfl rfl (zZ rfl rfl zMg (by exact zLb rfl)) ?_
 refine zg rfl rfl (zy (av:=[_]) rfl ⟨rfl, trivial⟩ (f20 m)) ?_
 refine zg rfl rfl (je rfl rfl) ?_
 refine zo (zf (zx rfl (fun h0=>?_) (fun h0=>?_)))
 ·
  refine zuy (zh ?_)
  refine zg rfl rfl (zy (av:=[]) rfl trivial hkn) ?_
  refine zg rfl rfl (zn rfl rfl) ?_
  refine zo (zf (zP (zQ ?_)))
  exact ⟨.inr rfl, AVle.refl _⟩
 ·
  exfalso; simp at h0; omega
theorem zZA (hkn:KN GT) (m:Mp) (p lvl e:Int) (hs:m.st.length <= 16) (he:e ≠ 0) (h37:ACall Tryz.prog GT 37 [.agg (eMp m), ei p, ei lvl] (.tup [ei 0, ei e])) (h38:ACall Tryz.prog GT 38 [.agg (eMp m), ei p, ei lvl] (.tup [ei 0, ei e])) (h39:ACall Tryz.prog GT 39 [.agg (eMp m), ei p, ei lvl, .v (.bool true)] (.tup [.agg (zHF zVY), ei e])) (h23:ACall Tryz.prog GT 23 [.agg (eMp m), .v (.bool (zNr m && inB p 0 (m.wide * m.rows - 1) && inB lvl 1 99999))] (ei e)):ACall Tryz.prog GT 7 [.agg (eMp m), ei p, ei lvl, .v (.bool true)] (.v (.bool true)):=by
 refine zS Tryz.func7 rfl (by kernel_rfl) rfl ?_
 refine zuy (zh ?_)
 refine zg rfl rfl (jf rfl (zY rfl)) ?_
 refine zg rfl rfl (zn rfl rfl) ?_
 refine zo (zf (zuy (zuy (zh ?_))))
 refine zg rfl rfl (zZ rfl rfl zMg (by exact zLb rfl)) ?_
 refine zg rfl rfl (zy (av:=[_]) rfl ⟨rfl, trivial⟩ (f20 m)) ?_
 refine zg rfl rfl (je rfl rfl) ?_
 refine zo (zf (zx rfl (fun h0=>?_) (fun h0=>?_)))
 ·
  exfalso; simp at h0; omega
 ·
  refine zC (zf (zuy (zh ?_)))
  refine zg rfl rfl (zZ rfl rfl zMg (by exact zLb rfl)) ?_
  refine zg rfl rfl (zi rfl rfl) ?_
  refine zg rfl rfl (zi rfl rfl) ?_
  refine zg rfl rfl (zy (av:=[_, _, _]) rfl ⟨rfl, rfl, rfl, trivial⟩ h37) ?_
  refine zg rfl rfl (zq rfl rfl) ?_
  refine zg rfl rfl (zN rfl rfl rfl) ?_
  refine zg rfl rfl (zN rfl rfl rfl) ?_
  refine zg rfl rfl (zn rfl rfl) ?_
  refine zg rfl rfl (zn rfl rfl) ?_
  refine zo (zf (zuy (zuy (zh ?_))))
  refine zg rfl rfl (zi rfl rfl) ?_
  refine zo (zf (zx rfl (fun h1=>?_) (fun h1=>?_)))
  ·
   refine zh ?_
   refine zg rfl rfl (zZ rfl rfl zMg (by exact zLb rfl)) ?_
   refine zg rfl rfl (zi rfl rfl) ?_
   refine zg rfl rfl (zi rfl rfl) ?_
   refine zg rfl rfl (zy (av:=[_, _, _]) rfl ⟨rfl, rfl, rfl, trivial⟩ h38) ?_
   refine zg rfl rfl (zq rfl rfl) ?_
   refine zg rfl rfl (zN rfl rfl rfl) ?_
   refine zg rfl rfl (zN rfl rfl rfl) ?_
   refine zg rfl rfl (zn rfl rfl) ?_
   refine zg rfl rfl (zn rfl rfl) ?_
   refine zo (zf (zuy (zh ?_)))
   refine zg rfl rfl (zZ rfl rfl zMg (by exact zLb rfl)) ?_
   refine zg rfl rfl (zi rfl rfl) ?_
   refine zg rfl rfl (zi rfl rfl) ?_
   refine zg rfl rfl (zi rfl rfl) ?_
   refine zg rfl rfl (zy (av:=[_, _, _, _]) rfl ⟨rfl, rfl, rfl, rfl, trivial⟩ h39) ?_
   refine zg rfl rfl (zq rfl rfl) ?_
   refine zg rfl rfl (zN rfl rfl rfl) ?_
   refine zg rfl rfl (zN rfl rfl rfl) ?_
   refine vI  rfl rfl rfl rfl rfl rfl rfl zNn zHQ rfl (by rfl) (zY rfl) rfl ?_
   refine zg rfl rfl (zn rfl rfl) ?_
   refine zo (zf (zuy (zuy ?_)))
   refine qY mixed (by kernel_rfl) rfl ?_
   refine zH rfl (zZ rfl rfl zMg (by exact zLb rfl)) ?_
   refine zH rfl (zZ rfl rfl zMg (by exact zLb rfl)) ?_
   refine zH rfl (zy (av:=[_]) rfl ⟨rfl, trivial⟩ (f40 m)) ?_
   refine zH rfl (zi rfl rfl) ?_
   refine jm rfl (fun hg=>zZ rfl rfl zMg (by exact zLb rfl)) ?_
   refine jm rfl (fun hg=>zi rfl rfl) ?_
   refine jm rfl (fun hg=>zy (av:=[_, _]) rfl ⟨((if_pos hg)), ((if_pos hg)), trivial⟩ (f41 m p (by have h2:=(zMw m).1 hg; exact ⟨h2.1, h2.2.1⟩) (by have h2:=(zMw m).1 hg; exact ⟨h2.2.2.1, h2.2.2.2.1⟩))) ?_
   refine zH rfl (qI rfl rfl rfl rfl) ?_
   refine zH rfl (zi rfl rfl) ?_
   refine jm rfl (fun hg=>zi rfl rfl) ?_
   refine jm rfl (fun hg=>zy (av:=[_]) rfl ⟨((if_pos hg)), trivial⟩ (f29 lvl)) ?_
   refine zH rfl (qI rfl rfl rfl rfl) ?_
   refine zH rfl (zy (av:=[_, _]) rfl ⟨rfl, rfl, trivial⟩ h23) ?_
   refine zH rfl (zn rfl rfl) ?_
   refine jw (zf (zuy (zh ?_)))
   refine zg rfl rfl (zi rfl rfl) ?_
   refine zg rfl rfl (vg rfl rfl rfl) ?_
   refine zo (zf (zx rfl (fun h2=>?_) (fun h2=>?_)))
   ·
    refine zuy (zh ?_)
    refine zg rfl rfl (zi rfl rfl) ?_
    refine zg rfl rfl (zi rfl rfl) ?_
    refine zg rfl rfl (qJ rfl rfl rfl) ?_
    refine zg rfl rfl (zi rfl rfl) ?_
    refine zk rfl rfl rfl (fun hg=>zi rfl rfl) ?_
    refine zk rfl rfl rfl (fun hg=>qJ rfl (if_pos hg) rfl) ?_
    refine zg rfl rfl (qI rfl rfl rfl rfl) ?_
    refine zg rfl rfl (zi rfl rfl) ?_
    refine zk rfl rfl rfl (fun hg=>zi rfl rfl) ?_
    refine zk rfl rfl rfl (fun hg=>zi rfl rfl) ?_
    refine zk rfl rfl rfl (fun hg=>qJ rfl (if_pos hg) (if_pos hg)) ?_
    refine zg rfl rfl (qI rfl rfl rfl rfl) ?_
    refine zg rfl rfl (zi rfl rfl) ?_
    refine zk rfl rfl rfl (fun hg=>zZ rfl rfl zHQ (by exact zLb rfl)) ?_
    refine zk rfl rfl rfl (fun hg=>zb3 (cs:=[_, _]) rfl zQH rfl rfl (by rfl) (by simp [ofV])) ?_
    refine zk rfl rfl rfl (fun hg=>zy (av:=[_, _]) rfl ⟨((if_pos hg)), ((if_pos hg)), trivial⟩ (zZW zVY (by simp [zVY]))) ?_
    refine zg rfl rfl (qI rfl rfl rfl rfl) ?_
    refine zg rfl rfl (zi rfl rfl) ?_
    refine zk rfl rfl rfl (fun hg=>zy (av:=[]) rfl trivial hkn) ?_
    refine zg rfl rfl (qI rfl rfl rfl rfl) ?_
    refine zg rfl rfl (zn rfl rfl) ?_
    refine zo (zf (zP (zQ ?_)))
    exact ⟨.inr rfl, AVle.of (by simp [zZm])⟩
   ·
    exfalso; simp at h2; exact he h2
  ·
   exfalso; cases h1
theorem zZI (hkn:KN GT) (m:Mp) (p:Int) (lvl w0 wd:Int) (X:Fld) (hs:m.st.length <= 16) (hm:okM m) (hl:X.vals.length <= 1000) (h37:ACall Tryz.prog GT 37 [.agg (eMp m), ei p, ei lvl] (.tup [ei w0, ei 0])) (h38:ACall Tryz.prog GT 38 [.agg (eMp m), ei p, ei lvl] (.tup [ei 1, ei 0])) (h39:ACall Tryz.prog GT 39 [.agg (eMp m), ei p, ei lvl, .v (.bool true)] (.tup [.agg (zHF zVY), ei 5])) (h23:ACall Tryz.prog GT 23 [.agg (eMp m), .v (.bool (zNr m && inB p 0 (m.wide * m.rows - 1) && inB lvl 1 99999))] (ei 0)) (h42:ACall Tryz.prog GT 42 [.agg (eMp m), ei p, ei lvl, .v (.bool true)] (ei 1)):ACall Tryz.prog GT 7 [.agg (eMp m), ei p, ei lvl, .v (.bool true)] (.v (.bool true)):=by
 refine zS Tryz.func7 rfl (by kernel_rfl) rfl ?_
 refine zuy (zh ?_)
 refine zg rfl rfl (jf rfl (zY rfl)) ?_
 refine zg rfl rfl (zn rfl rfl) ?_
 refine zo (zf (zuy (zuy (zh ?_))))
 refine zg rfl rfl (zZ rfl rfl zMg (by exact zLb rfl)) ?_
 refine zg rfl rfl (zy (av:=[_]) rfl ⟨rfl, trivial⟩ (f20 m)) ?_
 refine zg rfl rfl (je rfl rfl) ?_
 refine zo (zf (zx rfl (fun h0=>?_) (fun h0=>?_)))
 ·
  exfalso; simp at h0; omega
 ·
  refine zC (zf (zuy (zh ?_)))
  refine zg rfl rfl (zZ rfl rfl zMg (by exact zLb rfl)) ?_
  refine zg rfl rfl (zi rfl rfl) ?_
  refine zg rfl rfl (zi rfl rfl) ?_
  refine zg rfl rfl (zy (av:=[_, _, _]) rfl ⟨rfl, rfl, rfl, trivial⟩ h37) ?_
  refine zg rfl rfl (zq rfl rfl) ?_
  refine zg rfl rfl (zN rfl rfl rfl) ?_
  refine zg rfl rfl (zN rfl rfl rfl) ?_
  refine zg rfl rfl (zn rfl rfl) ?_
  refine zg rfl rfl (zn rfl rfl) ?_
  refine zo (zf (zuy (zuy (zh ?_))))
  refine zg rfl rfl (zi rfl rfl) ?_
  refine zo (zf (zx rfl (fun h1=>?_) (fun h1=>?_)))
  ·
   refine zh ?_
   refine zg rfl rfl (zZ rfl rfl zMg (by exact zLb rfl)) ?_
   refine zg rfl rfl (zi rfl rfl) ?_
   refine zg rfl rfl (zi rfl rfl) ?_
   refine zg rfl rfl (zy (av:=[_, _, _]) rfl ⟨rfl, rfl, rfl, trivial⟩ h38) ?_
   refine zg rfl rfl (zq rfl rfl) ?_
   refine zg rfl rfl (zN rfl rfl rfl) ?_
   refine zg rfl rfl (zN rfl rfl rfl) ?_
   refine zg rfl rfl (zn rfl rfl) ?_
   refine zg rfl rfl (zn rfl rfl) ?_
   refine zo (zf (zuy (zh ?_)))
   refine zg rfl rfl (zZ rfl rfl zMg (by exact zLb rfl)) ?_
   refine zg rfl rfl (zi rfl rfl) ?_
   refine zg rfl rfl (zi rfl rfl) ?_
   refine zg rfl rfl (zi rfl rfl) ?_
   refine zg rfl rfl (zy (av:=[_, _, _, _]) rfl ⟨rfl, rfl, rfl, rfl, trivial⟩ h39) ?_
   refine zg rfl rfl (zq rfl rfl) ?_
   refine zg rfl rfl (zN rfl rfl rfl) ?_
   refine zg rfl rfl (zN rfl rfl rfl) ?_
   refine vI  rfl rfl rfl rfl rfl rfl rfl zNn zHQ rfl (by rfl) (zY rfl) rfl ?_
   refine zg rfl rfl (zn rfl rfl) ?_
   refine zo (zf (zuy (zuy ?_)))
   refine qY mixed (by kernel_rfl) rfl ?_
   refine zH rfl (zZ rfl rfl zMg (by exact zLb rfl)) ?_
   refine zH rfl (zZ rfl rfl zMg (by exact zLb rfl)) ?_
   refine zH rfl (zy (av:=[_]) rfl ⟨rfl, trivial⟩ (f40 m)) ?_
   refine zH rfl (zi rfl rfl) ?_
   refine jm rfl (fun hg=>zZ rfl rfl zMg (by exact zLb rfl)) ?_
   refine jm rfl (fun hg=>zi rfl rfl) ?_
   refine jm rfl (fun hg=>zy (av:=[_, _]) rfl ⟨((if_pos hg)), ((if_pos hg)), trivial⟩ (f41 m p (by have h2:=(zMw m).1 hg; exact ⟨h2.1, h2.2.1⟩) (by have h2:=(zMw m).1 hg; exact ⟨h2.2.2.1, h2.2.2.2.1⟩))) ?_
   refine zH rfl (qI rfl rfl rfl rfl) ?_
   refine zH rfl (zi rfl rfl) ?_
   refine jm rfl (fun hg=>zi rfl rfl) ?_
   refine jm rfl (fun hg=>zy (av:=[_]) rfl ⟨((if_pos hg)), trivial⟩ (f29 lvl)) ?_
   refine zH rfl (qI rfl rfl rfl rfl) ?_
   refine zH rfl (zy (av:=[_, _]) rfl ⟨rfl, rfl, trivial⟩ h23) ?_
   refine zH rfl (zn rfl rfl) ?_
   refine jw (zf (zuy (zh ?_)))
   refine zg rfl rfl (zi rfl rfl) ?_
   refine zg rfl rfl (vg rfl rfl rfl) ?_
   refine zo (zf (zx rfl (fun h2=>?_) (fun h2=>?_)))
   ·
    exfalso; simp at h2
   ·
    refine zC (zf (zuy (zuy (zh ?_))))
    refine zg rfl rfl (zi rfl rfl) ?_
    refine zg rfl rfl (vg rfl rfl rfl) ?_
    refine zg rfl rfl (zi rfl rfl) ?_
    refine zk rfl rfl rfl (fun hg=>zi rfl rfl) ?_
    refine zk rfl rfl rfl (fun hg=>zZ rfl rfl zMg (by exact zLb rfl)) ?_
    refine zk rfl rfl rfl (fun hg=>zi rfl rfl) ?_
    refine zk rfl rfl rfl (fun hg=>zi rfl rfl) ?_
    refine zk rfl rfl rfl (fun hg=>zi rfl rfl) ?_
    refine zk rfl rfl rfl (fun hg=>zy (av:=[_, _, _, _]) rfl ⟨(rfl), (rfl), (rfl), (rfl), trivial⟩ h42) ?_
    refine zk rfl rfl rfl (fun hg=>vg rfl (rfl) (rfl)) ?_
    refine zg rfl rfl (qU rfl rfl rfl rfl) ?_
    refine zo (zf (zx rfl (fun h3=>?_) (fun h3=>?_)))
    ·
     exfalso; simp at h3
    ·
     refine zC (zf (zuy (zuy (zh ?_))))
     refine zg rfl rfl (zi rfl rfl) ?_
     refine zg rfl rfl (qJ rfl rfl rfl) ?_
     refine zo (zf (zx rfl (fun h4=>?_) (fun h4=>?_)))
     ·
      refine zuy (zh ?_)
      refine zg rfl rfl (zi rfl rfl) ?_
      refine zg rfl rfl (qJ rfl rfl rfl) ?_
      refine zg rfl rfl (zi rfl rfl) ?_
      refine zk rfl rfl rfl (fun hg=>zZ rfl rfl zHQ (by exact zLb rfl)) ?_
      refine zk rfl rfl rfl (fun hg=>zb3 (cs:=[_, _]) rfl zQH rfl rfl (by rfl) (by simp [ofV])) ?_
      refine zk rfl rfl rfl (fun hg=>zy (av:=[_, _]) rfl ⟨(rfl), (rfl), trivial⟩ (zZW zVY (by simp [zVY]))) ?_
      refine zg rfl rfl (qI rfl rfl rfl rfl) ?_
      refine zg rfl rfl (zi rfl rfl) ?_
      refine zk rfl rfl rfl (fun hg=>zy (av:=[]) rfl trivial hkn) ?_
      refine zg rfl rfl (qI rfl rfl rfl rfl) ?_
      refine zg rfl rfl (zn rfl rfl) ?_
      refine zo (zf (zP (zQ ?_)))
      exact ⟨.inr rfl, AVle.of (by simp [zZm, zZl])⟩
     ·
      exfalso; simp at h4
  ·
   exfalso; cases h1
theorem zZC (hkn:KN GT) (m:Mp) (p:Int) (lvl w0 wd:Int) (X:Fld) (hs:m.st.length <= 16) (hm:okM m) (hw:wd ≠ 1) (hl:X.vals.length <= 1000) (h37:ACall Tryz.prog GT 37 [.agg (eMp m), ei p, ei lvl] (.tup [ei w0, ei 0])) (h38:ACall Tryz.prog GT 38 [.agg (eMp m), ei p, ei lvl] (.tup [ei wd, ei 0])) (h39:ACall Tryz.prog GT 39 [.agg (eMp m), ei p, ei lvl, .v (.bool true)] (.tup [.agg (zHF X), ei 0])) (h23:ACall Tryz.prog GT 23 [.agg (eMp m), .v (.bool (zNr m && inB p 0 (m.wide * m.rows - 1) && inB lvl 1 99999))] (ei 0)) (h42:ACall Tryz.prog GT 42 [.agg (eMp m), ei p, ei lvl, .v (.bool true)] (ei wd)) (h43:ACall Tryz.prog GT 43 [.agg (eMp m), ei p, ei lvl, .v (.bool true)] (.tup [.agg (zHF X), .v (.bool true)])):ACall Tryz.prog GT 7 [.agg (eMp m), ei p, ei lvl, .v (.bool true)] (.v (.bool true)):=by
 refine zS Tryz.func7 rfl (by kernel_rfl) rfl ?_
 refine zuy (zh ?_)
 refine zg rfl rfl (jf rfl (zY rfl)) ?_
 refine zg rfl rfl (zn rfl rfl) ?_
 refine zo (zf (zuy (zuy (zh ?_))))
 refine zg rfl rfl (zZ rfl rfl zMg (by exact zLb rfl)) ?_
 refine zg rfl rfl (zy (av:=[_]) rfl ⟨rfl, trivial⟩ (f20 m)) ?_
 refine zg rfl rfl (je rfl rfl) ?_
 refine zo (zf (zx rfl (fun h0=>?_) (fun h0=>?_)))
 ·
  exfalso; simp at h0; omega
 ·
  refine zC (zf (zuy (zh ?_)))
  refine zg rfl rfl (zZ rfl rfl zMg (by exact zLb rfl)) ?_
  refine zg rfl rfl (zi rfl rfl) ?_
  refine zg rfl rfl (zi rfl rfl) ?_
  refine zg rfl rfl (zy (av:=[_, _, _]) rfl ⟨rfl, rfl, rfl, trivial⟩ h37) ?_
  refine zg rfl rfl (zq rfl rfl) ?_
  refine zg rfl rfl (zN rfl rfl rfl) ?_
  refine zg rfl rfl (zN rfl rfl rfl) ?_
  refine zg rfl rfl (zn rfl rfl) ?_
  refine zg rfl rfl (zn rfl rfl) ?_
  refine zo (zf (zuy (zuy (zh ?_))))
  refine zg rfl rfl (zi rfl rfl) ?_
  refine zo (zf (zx rfl (fun h1=>?_) (fun h1=>?_)))
  ·
   refine zh ?_
   refine zg rfl rfl (zZ rfl rfl zMg (by exact zLb rfl)) ?_
   refine zg rfl rfl (zi rfl rfl) ?_
   refine zg rfl rfl (zi rfl rfl) ?_
   refine zg rfl rfl (zy (av:=[_, _, _]) rfl ⟨rfl, rfl, rfl, trivial⟩ h38) ?_
   refine zg rfl rfl (zq rfl rfl) ?_
   refine zg rfl rfl (zN rfl rfl rfl) ?_
   refine zg rfl rfl (zN rfl rfl rfl) ?_
   refine zg rfl rfl (zn rfl rfl) ?_
   refine zg rfl rfl (zn rfl rfl) ?_
   refine zo (zf (zuy (zh ?_)))
   refine zg rfl rfl (zZ rfl rfl zMg (by exact zLb rfl)) ?_
   refine zg rfl rfl (zi rfl rfl) ?_
   refine zg rfl rfl (zi rfl rfl) ?_
   refine zg rfl rfl (zi rfl rfl) ?_
   refine zg rfl rfl (zy (av:=[_, _, _, _]) rfl ⟨rfl, rfl, rfl, rfl, trivial⟩ h39) ?_
   refine zg rfl rfl (zq rfl rfl) ?_
   refine zg rfl rfl (zN rfl rfl rfl) ?_
   refine zg rfl rfl (zN rfl rfl rfl) ?_
   refine vI  rfl rfl rfl rfl rfl rfl rfl zNn zHQ rfl (by rfl) (zY rfl) rfl ?_
   refine zg rfl rfl (zn rfl rfl) ?_
   refine zo (zf (zuy (zuy ?_)))
   refine qY mixed (by kernel_rfl) rfl ?_
   refine zH rfl (zZ rfl rfl zMg (by exact zLb rfl)) ?_
   refine zH rfl (zZ rfl rfl zMg (by exact zLb rfl)) ?_
   refine zH rfl (zy (av:=[_]) rfl ⟨rfl, trivial⟩ (f40 m)) ?_
   refine zH rfl (zi rfl rfl) ?_
   refine jm rfl (fun hg=>zZ rfl rfl zMg (by exact zLb rfl)) ?_
   refine jm rfl (fun hg=>zi rfl rfl) ?_
   refine jm rfl (fun hg=>zy (av:=[_, _]) rfl ⟨((if_pos hg)), ((if_pos hg)), trivial⟩ (f41 m p (by have h2:=(zMw m).1 hg; exact ⟨h2.1, h2.2.1⟩) (by have h2:=(zMw m).1 hg; exact ⟨h2.2.2.1, h2.2.2.2.1⟩))) ?_
   refine zH rfl (qI rfl rfl rfl rfl) ?_
   refine zH rfl (zi rfl rfl) ?_
   refine jm rfl (fun hg=>zi rfl rfl) ?_
   refine jm rfl (fun hg=>zy (av:=[_]) rfl ⟨((if_pos hg)), trivial⟩ (f29 lvl)) ?_
   refine zH rfl (qI rfl rfl rfl rfl) ?_
   refine zH rfl (zy (av:=[_, _]) rfl ⟨rfl, rfl, trivial⟩ h23) ?_
   refine zH rfl (zn rfl rfl) ?_
   refine jw (zf (zuy (zh ?_)))
   refine zg rfl rfl (zi rfl rfl) ?_
   refine zg rfl rfl (vg rfl rfl rfl) ?_
   refine zo (zf (zx rfl (fun h2=>?_) (fun h2=>?_)))
   ·
    exfalso; simp at h2
   ·
    refine zC (zf (zuy (zuy (zh ?_))))
    refine zg rfl rfl (zi rfl rfl) ?_
    refine zg rfl rfl (vg rfl rfl rfl) ?_
    refine zg rfl rfl (zi rfl rfl) ?_
    refine zk rfl rfl rfl (fun hg=>zi rfl rfl) ?_
    refine zk rfl rfl rfl (fun hg=>zZ rfl rfl zMg (by exact zLb rfl)) ?_
    refine zk rfl rfl rfl (fun hg=>zi rfl rfl) ?_
    refine zk rfl rfl rfl (fun hg=>zi rfl rfl) ?_
    refine zk rfl rfl rfl (fun hg=>zi rfl rfl) ?_
    refine zk rfl rfl rfl (fun hg=>zy (av:=[_, _, _, _]) rfl ⟨(rfl), (rfl), (rfl), (rfl), trivial⟩ h42) ?_
    refine zk rfl rfl rfl (fun hg=>vg rfl (rfl) (rfl)) ?_
    refine zg rfl rfl (qU rfl rfl rfl rfl) ?_
    refine zo (zf (zx rfl (fun h3=>?_) (fun h3=>?_)))
    ·
     exfalso; simp at h3
    ·
     refine zC (zf (zuy (zuy (zh ?_))))
     refine zg rfl rfl (zi rfl rfl) ?_
     refine zg rfl rfl (qJ rfl rfl rfl) ?_
     refine zo (zf (zx rfl (fun h4=>?_) (fun h4=>?_)))
     ·
      exfalso; simp at h4; exact hw h4
     ·
      refine zC (zf (zuy (zh ?_)))
      refine zg rfl rfl (zZ rfl rfl zMg (by exact zLb rfl)) ?_
      refine zg rfl rfl (zi rfl rfl) ?_
      refine zg rfl rfl (zi rfl rfl) ?_
      refine zg rfl rfl (zi rfl rfl) ?_
      refine zg rfl rfl (zy (av:=[_, _, _, _]) rfl ⟨rfl, rfl, rfl, rfl, trivial⟩ h43) ?_
      refine zg rfl rfl (zq rfl rfl) ?_
      refine zg rfl rfl (zN rfl rfl rfl) ?_
      refine zg rfl rfl (zN rfl rfl rfl) ?_
      refine vI  rfl rfl rfl rfl rfl rfl rfl zNn zHQ rfl (by rfl) (zY rfl) rfl ?_
      refine zg rfl rfl (zn rfl rfl) ?_
      refine zo (zf (zuy (zh ?_)))
      refine zg rfl rfl (zi rfl rfl) ?_
      refine zg rfl rfl (qJ rfl rfl rfl) ?_
      refine zg rfl rfl (zi rfl rfl) ?_
      refine zk rfl rfl rfl (fun hg=>zZ rfl rfl zHQ (by exact zLb rfl)) ?_
      refine zk rfl rfl rfl (fun hg=>zZ rfl rfl zHQ (by exact zLb rfl)) ?_
      refine zk rfl rfl rfl (fun hg=>zy (av:=[_, _]) rfl ⟨(rfl), (rfl), trivial⟩ (f24 X X hl hl)) ?_
      refine zg rfl rfl (qI rfl rfl rfl rfl) ?_
      refine zg rfl rfl (zi rfl rfl) ?_
      refine zk rfl rfl rfl (fun hg=>zy (av:=[]) rfl trivial hkn) ?_
      refine zg rfl rfl (qI rfl rfl rfl rfl) ?_
      refine zg rfl rfl (zn rfl rfl) ?_
      refine zo (zf (zP ?_))
      exact ⟨.inr rfl, AVle.of (by simp [zZm, zZl])⟩
  ·
   exfalso; cases h1
theorem zZu (hkn:KN GT) (m:Mp) (p lvl e:Int) (hs:m.st.length <= 16) (he:e ≠ 0) (h37:ACall Tryz.prog GT 37 [.agg (eMp m), ei p, ei lvl] (.tup [ei 0, ei e])) (h39:ACall Tryz.prog GT 39 [.agg (eMp m), ei p, ei lvl, .v (.bool false)] (.tup [.agg (zHF zVY), ei e])) (h23:ACall Tryz.prog GT 23 [.agg (eMp m), .v (.bool (zNr m && inB p 0 (m.wide * m.rows - 1) && inB lvl 1 99999))] (ei e)):ACall Tryz.prog GT 7 [.agg (eMp m), ei p, ei lvl, .v (.bool false)] (.v (.bool true)):=by
 refine zS Tryz.func7 rfl (by kernel_rfl) rfl ?_
 refine zuy (zh ?_)
 refine zg rfl rfl (jf rfl (zY rfl)) ?_
 refine zg rfl rfl (zn rfl rfl) ?_
 refine zo (zf (zuy (zuy (zh ?_))))
 refine zg rfl rfl (zZ rfl rfl zMg (by exact zLb rfl)) ?_
 refine zg rfl rfl (zy (av:=[_]) rfl ⟨rfl, trivial⟩ (f20 m)) ?_
 refine zg rfl rfl (je rfl rfl) ?_
 refine zo (zf (zx rfl (fun h0=>?_) (fun h0=>?_)))
 ·
  exfalso; simp at h0; omega
 ·
  refine zC (zf (zuy (zh ?_)))
  refine zg rfl rfl (zZ rfl rfl zMg (by exact zLb rfl)) ?_
  refine zg rfl rfl (zi rfl rfl) ?_
  refine zg rfl rfl (zi rfl rfl) ?_
  refine zg rfl rfl (zy (av:=[_, _, _]) rfl ⟨rfl, rfl, rfl, trivial⟩ h37) ?_
  refine zg rfl rfl (zq rfl rfl) ?_
  refine zg rfl rfl (zN rfl rfl rfl) ?_
  refine zg rfl rfl (zN rfl rfl rfl) ?_
  refine zg rfl rfl (zn rfl rfl) ?_
  refine zg rfl rfl (zn rfl rfl) ?_
  refine zo (zf (zuy (zuy (zh ?_))))
  refine zg rfl rfl (zi rfl rfl) ?_
  refine zo (zf (zx rfl (fun h1=>?_) (fun h1=>?_)))
  ·
   exfalso; cases h1
  ·
   refine zC (zf (zuy (zh ?_)))
   refine zg rfl rfl (zZ rfl rfl zMg (by exact zLb rfl)) ?_
   refine zg rfl rfl (zi rfl rfl) ?_
   refine zg rfl rfl (zi rfl rfl) ?_
   refine zg rfl rfl (zi rfl rfl) ?_
   refine zg rfl rfl (zy (av:=[_, _, _, _]) rfl ⟨rfl, rfl, rfl, rfl, trivial⟩ h39) ?_
   refine zg rfl rfl (zq rfl rfl) ?_
   refine zg rfl rfl (zN rfl rfl rfl) ?_
   refine zg rfl rfl (zN rfl rfl rfl) ?_
   refine vI  rfl rfl rfl rfl rfl rfl rfl zNn zHQ rfl (by rfl) (zY rfl) rfl ?_
   refine zg rfl rfl (zn rfl rfl) ?_
   refine zo (zf (zuy (zuy ?_)))
   refine qY mixed (by kernel_rfl) rfl ?_
   refine zH rfl (zZ rfl rfl zMg (by exact zLb rfl)) ?_
   refine zH rfl (zZ rfl rfl zMg (by exact zLb rfl)) ?_
   refine zH rfl (zy (av:=[_]) rfl ⟨rfl, trivial⟩ (f40 m)) ?_
   refine zH rfl (zi rfl rfl) ?_
   refine jm rfl (fun hg=>zZ rfl rfl zMg (by exact zLb rfl)) ?_
   refine jm rfl (fun hg=>zi rfl rfl) ?_
   refine jm rfl (fun hg=>zy (av:=[_, _]) rfl ⟨((if_pos hg)), ((if_pos hg)), trivial⟩ (f41 m p (by have h2:=(zMw m).1 hg; exact ⟨h2.1, h2.2.1⟩) (by have h2:=(zMw m).1 hg; exact ⟨h2.2.2.1, h2.2.2.2.1⟩))) ?_
   refine zH rfl (qI rfl rfl rfl rfl) ?_
   refine zH rfl (zi rfl rfl) ?_
   refine jm rfl (fun hg=>zi rfl rfl) ?_
   refine jm rfl (fun hg=>zy (av:=[_]) rfl ⟨((if_pos hg)), trivial⟩ (f29 lvl)) ?_
   refine zH rfl (qI rfl rfl rfl rfl) ?_
   refine zH rfl (zy (av:=[_, _]) rfl ⟨rfl, rfl, trivial⟩ h23) ?_
   refine zH rfl (zn rfl rfl) ?_
   refine jw (zf (zuy (zh ?_)))
   refine zg rfl rfl (zi rfl rfl) ?_
   refine zg rfl rfl (vg rfl rfl rfl) ?_
   refine zo (zf (zx rfl (fun h2=>?_) (fun h2=>?_)))
   ·
    refine zuy (zh ?_)
    refine zg rfl rfl (zi rfl rfl) ?_
    refine zg rfl rfl (zi rfl rfl) ?_
    refine zg rfl rfl (qJ rfl rfl rfl) ?_
    refine zg rfl rfl (zi rfl rfl) ?_
    refine zk rfl rfl rfl (fun hg=>zi rfl rfl) ?_
    refine zk rfl rfl rfl (fun hg=>qJ rfl (if_pos hg) rfl) ?_
    refine zg rfl rfl (qI rfl rfl rfl rfl) ?_
    refine zg rfl rfl (zi rfl rfl) ?_
    refine zk rfl rfl rfl (fun hg=>zi rfl rfl) ?_
    refine zk rfl rfl rfl (fun hg=>zi rfl rfl) ?_
    refine zk rfl rfl rfl (fun hg=>qJ rfl (if_pos hg) (if_pos hg)) ?_
    refine zg rfl rfl (qI rfl rfl rfl rfl) ?_
    refine zg rfl rfl (zi rfl rfl) ?_
    refine zk rfl rfl rfl (fun hg=>zZ rfl rfl zHQ (by exact zLb rfl)) ?_
    refine zk rfl rfl rfl (fun hg=>zb3 (cs:=[_, _]) rfl zQH rfl rfl (by rfl) (by simp [ofV])) ?_
    refine zk rfl rfl rfl (fun hg=>zy (av:=[_, _]) rfl ⟨((if_pos hg)), ((if_pos hg)), trivial⟩ (zZW zVY (by simp [zVY]))) ?_
    refine zg rfl rfl (qI rfl rfl rfl rfl) ?_
    refine zg rfl rfl (zi rfl rfl) ?_
    refine zk rfl rfl rfl (fun hg=>zy (av:=[]) rfl trivial hkn) ?_
    refine zg rfl rfl (qI rfl rfl rfl rfl) ?_
    refine zg rfl rfl (zn rfl rfl) ?_
    refine zo (zf (zP (zQ ?_)))
    exact ⟨.inr rfl, AVle.of (by simp [zZm])⟩
   ·
    exfalso; simp at h2; exact he h2
theorem zZz (hkn:KN GT) (m:Mp) (p:Int) (lvl w0 wd:Int) (X:Fld) (hs:m.st.length <= 16) (hm:okM m) (hl:X.vals.length <= 1000) (h37:ACall Tryz.prog GT 37 [.agg (eMp m), ei p, ei lvl] (.tup [ei 1, ei 0])) (h39:ACall Tryz.prog GT 39 [.agg (eMp m), ei p, ei lvl, .v (.bool false)] (.tup [.agg (zHF zVY), ei 5])) (h23:ACall Tryz.prog GT 23 [.agg (eMp m), .v (.bool (zNr m && inB p 0 (m.wide * m.rows - 1) && inB lvl 1 99999))] (ei 0)) (h42:ACall Tryz.prog GT 42 [.agg (eMp m), ei p, ei lvl, .v (.bool false)] (ei 1)):ACall Tryz.prog GT 7 [.agg (eMp m), ei p, ei lvl, .v (.bool false)] (.v (.bool true)):=by
 refine zS Tryz.func7 rfl (by kernel_rfl) rfl ?_
 refine zuy (zh ?_)
 refine zg rfl rfl (jf rfl (zY rfl)) ?_
 refine zg rfl rfl (zn rfl rfl) ?_
 refine zo (zf (zuy (zuy (zh ?_))))
 refine zg rfl rfl (zZ rfl rfl zMg (by exact zLb rfl)) ?_
 refine zg rfl rfl (zy (av:=[_]) rfl ⟨rfl, trivial⟩ (f20 m)) ?_
 refine zg rfl rfl (je rfl rfl) ?_
 refine zo (zf (zx rfl (fun h0=>?_) (fun h0=>?_)))
 ·
  exfalso; simp at h0; omega
 ·
  refine zC (zf (zuy (zh ?_)))
  refine zg rfl rfl (zZ rfl rfl zMg (by exact zLb rfl)) ?_
  refine zg rfl rfl (zi rfl rfl) ?_
  refine zg rfl rfl (zi rfl rfl) ?_
  refine zg rfl rfl (zy (av:=[_, _, _]) rfl ⟨rfl, rfl, rfl, trivial⟩ h37) ?_
  refine zg rfl rfl (zq rfl rfl) ?_
  refine zg rfl rfl (zN rfl rfl rfl) ?_
  refine zg rfl rfl (zN rfl rfl rfl) ?_
  refine zg rfl rfl (zn rfl rfl) ?_
  refine zg rfl rfl (zn rfl rfl) ?_
  refine zo (zf (zuy (zuy (zh ?_))))
  refine zg rfl rfl (zi rfl rfl) ?_
  refine zo (zf (zx rfl (fun h1=>?_) (fun h1=>?_)))
  ·
   exfalso; cases h1
  ·
   refine zC (zf (zuy (zh ?_)))
   refine zg rfl rfl (zZ rfl rfl zMg (by exact zLb rfl)) ?_
   refine zg rfl rfl (zi rfl rfl) ?_
   refine zg rfl rfl (zi rfl rfl) ?_
   refine zg rfl rfl (zi rfl rfl) ?_
   refine zg rfl rfl (zy (av:=[_, _, _, _]) rfl ⟨rfl, rfl, rfl, rfl, trivial⟩ h39) ?_
   refine zg rfl rfl (zq rfl rfl) ?_
   refine zg rfl rfl (zN rfl rfl rfl) ?_
   refine zg rfl rfl (zN rfl rfl rfl) ?_
   refine vI  rfl rfl rfl rfl rfl rfl rfl zNn zHQ rfl (by rfl) (zY rfl) rfl ?_
   refine zg rfl rfl (zn rfl rfl) ?_
   refine zo (zf (zuy (zuy ?_)))
   refine qY mixed (by kernel_rfl) rfl ?_
   refine zH rfl (zZ rfl rfl zMg (by exact zLb rfl)) ?_
   refine zH rfl (zZ rfl rfl zMg (by exact zLb rfl)) ?_
   refine zH rfl (zy (av:=[_]) rfl ⟨rfl, trivial⟩ (f40 m)) ?_
   refine zH rfl (zi rfl rfl) ?_
   refine jm rfl (fun hg=>zZ rfl rfl zMg (by exact zLb rfl)) ?_
   refine jm rfl (fun hg=>zi rfl rfl) ?_
   refine jm rfl (fun hg=>zy (av:=[_, _]) rfl ⟨((if_pos hg)), ((if_pos hg)), trivial⟩ (f41 m p (by have h2:=(zMw m).1 hg; exact ⟨h2.1, h2.2.1⟩) (by have h2:=(zMw m).1 hg; exact ⟨h2.2.2.1, h2.2.2.2.1⟩))) ?_
   refine zH rfl (qI rfl rfl rfl rfl) ?_
   refine zH rfl (zi rfl rfl) ?_
   refine jm rfl (fun hg=>zi rfl rfl) ?_
   refine jm rfl (fun hg=>zy (av:=[_]) rfl ⟨((if_pos hg)), trivial⟩ (f29 lvl)) ?_
   refine zH rfl (qI rfl rfl rfl rfl) ?_
   refine zH rfl (zy (av:=[_, _]) rfl ⟨rfl, rfl, trivial⟩ h23) ?_
   refine zH rfl (zn rfl rfl) ?_
   refine jw (zf (zuy (zh ?_)))
   refine zg rfl rfl (zi rfl rfl) ?_
   refine zg rfl rfl (vg rfl rfl rfl) ?_
   refine zo (zf (zx rfl (fun h2=>?_) (fun h2=>?_)))
   ·
    exfalso; simp at h2
   ·
    refine zC (zf (zuy (zuy (zh ?_))))
    refine zg rfl rfl (zi rfl rfl) ?_
    refine zg rfl rfl (vg rfl rfl rfl) ?_
    refine zg rfl rfl (zi rfl rfl) ?_
    refine zk rfl rfl rfl (fun hg=>zi rfl rfl) ?_
    refine zk rfl rfl rfl (fun hg=>zZ rfl rfl zMg (by exact zLb rfl)) ?_
    refine zk rfl rfl rfl (fun hg=>zi rfl rfl) ?_
    refine zk rfl rfl rfl (fun hg=>zi rfl rfl) ?_
    refine zk rfl rfl rfl (fun hg=>zi rfl rfl) ?_
    refine zk rfl rfl rfl (fun hg=>zy (av:=[_, _, _, _]) rfl ⟨(rfl), (rfl), (rfl), (rfl), trivial⟩ h42) ?_
    refine zk rfl rfl rfl (fun hg=>vg rfl (rfl) (rfl)) ?_
    refine zg rfl rfl (qU rfl rfl rfl rfl) ?_
    refine zo (zf (zx rfl (fun h3=>?_) (fun h3=>?_)))
    ·
     exfalso; simp at h3
    ·
     refine zC (zf (zuy (zuy (zh ?_))))
     refine zg rfl rfl (zi rfl rfl) ?_
     refine zg rfl rfl (qJ rfl rfl rfl) ?_
     refine zo (zf (zx rfl (fun h4=>?_) (fun h4=>?_)))
     ·
      refine zuy (zh ?_)
      refine zg rfl rfl (zi rfl rfl) ?_
      refine zg rfl rfl (qJ rfl rfl rfl) ?_
      refine zg rfl rfl (zi rfl rfl) ?_
      refine zk rfl rfl rfl (fun hg=>zZ rfl rfl zHQ (by exact zLb rfl)) ?_
      refine zk rfl rfl rfl (fun hg=>zb3 (cs:=[_, _]) rfl zQH rfl rfl (by rfl) (by simp [ofV])) ?_
      refine zk rfl rfl rfl (fun hg=>zy (av:=[_, _]) rfl ⟨(rfl), (rfl), trivial⟩ (zZW zVY (by simp [zVY]))) ?_
      refine zg rfl rfl (qI rfl rfl rfl rfl) ?_
      refine zg rfl rfl (zi rfl rfl) ?_
      refine zk rfl rfl rfl (fun hg=>zy (av:=[]) rfl trivial hkn) ?_
      refine zg rfl rfl (qI rfl rfl rfl rfl) ?_
      refine zg rfl rfl (zn rfl rfl) ?_
      refine zo (zf (zP (zQ ?_)))
      exact ⟨.inr rfl, AVle.of (by simp [zZm, zZl])⟩
     ·
      exfalso; simp at h4
theorem zZw (hkn:KN GT) (m:Mp) (p:Int) (lvl w0 wd:Int) (X:Fld) (hs:m.st.length <= 16) (hm:okM m) (hw:wd ≠ 1) (hl:X.vals.length <= 1000) (h37:ACall Tryz.prog GT 37 [.agg (eMp m), ei p, ei lvl] (.tup [ei wd, ei 0])) (h39:ACall Tryz.prog GT 39 [.agg (eMp m), ei p, ei lvl, .v (.bool false)] (.tup [.agg (zHF X), ei 0])) (h23:ACall Tryz.prog GT 23 [.agg (eMp m), .v (.bool (zNr m && inB p 0 (m.wide * m.rows - 1) && inB lvl 1 99999))] (ei 0)) (h42:ACall Tryz.prog GT 42 [.agg (eMp m), ei p, ei lvl, .v (.bool false)] (ei wd)) (h43:ACall Tryz.prog GT 43 [.agg (eMp m), ei p, ei lvl, .v (.bool false)] (.tup [.agg (zHF X), .v (.bool true)])):ACall Tryz.prog GT 7 [.agg (eMp m), ei p, ei lvl, .v (.bool false)] (.v (.bool true)):=by
 refine zS Tryz.func7 rfl (by kernel_rfl) rfl ?_
 refine zuy (zh ?_)
 refine zg rfl rfl (jf rfl (zY rfl)) ?_
 refine zg rfl rfl (zn rfl rfl) ?_
 refine zo (zf (zuy (zuy (zh ?_))))
 refine zg rfl rfl (zZ rfl rfl zMg (by exact zLb rfl)) ?_
 refine zg rfl rfl (zy (av:=[_]) rfl ⟨rfl, trivial⟩ (f20 m)) ?_
 refine zg rfl rfl (je rfl rfl) ?_
 refine zo (zf (zx rfl (fun h0=>?_) (fun h0=>?_)))
 ·
  exfalso; simp at h0; omega
 ·
  refine zC (zf (zuy (zh ?_)))
  refine zg rfl rfl (zZ rfl rfl zMg (by exact zLb rfl)) ?_
  refine zg rfl rfl (zi rfl rfl) ?_
  refine zg rfl rfl (zi rfl rfl) ?_
  refine zg rfl rfl (zy (av:=[_, _, _]) rfl ⟨rfl, rfl, rfl, trivial⟩ h37) ?_
  refine zg rfl rfl (zq rfl rfl) ?_
  refine zg rfl rfl (zN rfl rfl rfl) ?_
  refine zg rfl rfl (zN rfl rfl rfl) ?_
  refine zg rfl rfl (zn rfl rfl) ?_
  refine zg rfl rfl (zn rfl rfl) ?_
  refine zo (zf (zuy (zuy (zh ?_))))
  refine zg rfl rfl (zi rfl rfl) ?_
  refine zo (zf (zx rfl (fun h1=>?_) (fun h1=>?_)))
  ·
   exfalso; cases h1
  ·
   refine zC (zf (zuy (zh ?_)))
   refine zg rfl rfl (zZ rfl rfl zMg (by exact zLb rfl)) ?_
   refine zg rfl rfl (zi rfl rfl) ?_
   refine zg rfl rfl (zi rfl rfl) ?_
   refine zg rfl rfl (zi rfl rfl) ?_
   refine zg rfl rfl (zy (av:=[_, _, _, _]) rfl ⟨rfl, rfl, rfl, rfl, trivial⟩ h39) ?_
   refine zg rfl rfl (zq rfl rfl) ?_
   refine zg rfl rfl (zN rfl rfl rfl) ?_
   refine zg rfl rfl (zN rfl rfl rfl) ?_
   refine vI  rfl rfl rfl rfl rfl rfl rfl zNn zHQ rfl (by rfl) (zY rfl) rfl ?_
   refine zg rfl rfl (zn rfl rfl) ?_
   refine zo (zf (zuy (zuy ?_)))
   refine qY mixed (by kernel_rfl) rfl ?_
   refine zH rfl (zZ rfl rfl zMg (by exact zLb rfl)) ?_
   refine zH rfl (zZ rfl rfl zMg (by exact zLb rfl)) ?_
   refine zH rfl (zy (av:=[_]) rfl ⟨rfl, trivial⟩ (f40 m)) ?_
   refine zH rfl (zi rfl rfl) ?_
   refine jm rfl (fun hg=>zZ rfl rfl zMg (by exact zLb rfl)) ?_
   refine jm rfl (fun hg=>zi rfl rfl) ?_
   refine jm rfl (fun hg=>zy (av:=[_, _]) rfl ⟨((if_pos hg)), ((if_pos hg)), trivial⟩ (f41 m p (by have h2:=(zMw m).1 hg; exact ⟨h2.1, h2.2.1⟩) (by have h2:=(zMw m).1 hg; exact ⟨h2.2.2.1, h2.2.2.2.1⟩))) ?_
   refine zH rfl (qI rfl rfl rfl rfl) ?_
   refine zH rfl (zi rfl rfl) ?_
   refine jm rfl (fun hg=>zi rfl rfl) ?_
   refine jm rfl (fun hg=>zy (av:=[_]) rfl ⟨((if_pos hg)), trivial⟩ (f29 lvl)) ?_
   refine zH rfl (qI rfl rfl rfl rfl) ?_
   refine zH rfl (zy (av:=[_, _]) rfl ⟨rfl, rfl, trivial⟩ h23) ?_
   refine zH rfl (zn rfl rfl) ?_
   refine jw (zf (zuy (zh ?_)))
   refine zg rfl rfl (zi rfl rfl) ?_
   refine zg rfl rfl (vg rfl rfl rfl) ?_
   refine zo (zf (zx rfl (fun h2=>?_) (fun h2=>?_)))
   ·
    exfalso; simp at h2
   ·
    refine zC (zf (zuy (zuy (zh ?_))))
    refine zg rfl rfl (zi rfl rfl) ?_
    refine zg rfl rfl (vg rfl rfl rfl) ?_
    refine zg rfl rfl (zi rfl rfl) ?_
    refine zk rfl rfl rfl (fun hg=>zi rfl rfl) ?_
    refine zk rfl rfl rfl (fun hg=>zZ rfl rfl zMg (by exact zLb rfl)) ?_
    refine zk rfl rfl rfl (fun hg=>zi rfl rfl) ?_
    refine zk rfl rfl rfl (fun hg=>zi rfl rfl) ?_
    refine zk rfl rfl rfl (fun hg=>zi rfl rfl) ?_
    refine zk rfl rfl rfl (fun hg=>zy (av:=[_, _, _, _]) rfl ⟨(rfl), (rfl), (rfl), (rfl), trivial⟩ h42) ?_
    refine zk rfl rfl rfl (fun hg=>vg rfl (rfl) (rfl)) ?_
    refine zg rfl rfl (qU rfl rfl rfl rfl) ?_
    refine zo (zf (zx rfl (fun h3=>?_) (fun h3=>?_)))
    ·
     exfalso; simp at h3
    ·
     refine zC (zf (zuy (zuy (zh ?_))))
     refine zg rfl rfl (zi rfl rfl) ?_
     refine zg rfl rfl (qJ rfl rfl rfl) ?_
     refine zo (zf (zx rfl (fun h4=>?_) (fun h4=>?_)))
     ·
      exfalso; simp at h4; exact hw h4
     ·
      refine zC (zf (zuy (zh ?_)))
      refine zg rfl rfl (zZ rfl rfl zMg (by exact zLb rfl)) ?_
      refine zg rfl rfl (zi rfl rfl) ?_
      refine zg rfl rfl (zi rfl rfl) ?_
      refine zg rfl rfl (zi rfl rfl) ?_
      refine zg rfl rfl (zy (av:=[_, _, _, _]) rfl ⟨rfl, rfl, rfl, rfl, trivial⟩ h43) ?_
      refine zg rfl rfl (zq rfl rfl) ?_
      refine zg rfl rfl (zN rfl rfl rfl) ?_
      refine zg rfl rfl (zN rfl rfl rfl) ?_
      refine vI  rfl rfl rfl rfl rfl rfl rfl zNn zHQ rfl (by rfl) (zY rfl) rfl ?_
      refine zg rfl rfl (zn rfl rfl) ?_
      refine zo (zf (zuy (zh ?_)))
      refine zg rfl rfl (zi rfl rfl) ?_
      refine zg rfl rfl (qJ rfl rfl rfl) ?_
      refine zg rfl rfl (zi rfl rfl) ?_
      refine zk rfl rfl rfl (fun hg=>zZ rfl rfl zHQ (by exact zLb rfl)) ?_
      refine zk rfl rfl rfl (fun hg=>zZ rfl rfl zHQ (by exact zLb rfl)) ?_
      refine zk rfl rfl rfl (fun hg=>zy (av:=[_, _]) rfl ⟨(rfl), (rfl), trivial⟩ (f24 X X hl hl)) ?_
      refine zg rfl rfl (qI rfl rfl rfl rfl) ?_
      refine zg rfl rfl (zi rfl rfl) ?_
      refine zk rfl rfl rfl (fun hg=>zy (av:=[]) rfl trivial hkn) ?_
      refine zg rfl rfl (qI rfl rfl rfl rfl) ?_
      refine zg rfl rfl (zn rfl rfl) ?_
      refine zo (zf (zP ?_))
      exact ⟨.inr rfl, AVle.of (by simp [zZm, zZl])⟩
end Go.Av
end
section
namespace Go.Av
open Go.Av.Pn Go.Proofs
set_option maxRecDepth 100000
theorem f7 (hkn:KN GT) (m:Mp) (p lvl:Int) (hi:Bool):ACall Tryz.prog GT 7 [.agg (eMp m), ei p, ei lvl, .v (.bool hi)] (.v (.bool true)):=by
 rcases Nat.lt_or_ge 16 m.st.length with hs | hs
 ·
  exact zZZ hkn m p lvl hi hs
 have err:∀ e:Int, e ≠ 0 -> (∀ b, ACall Tryz.prog GT 88 [.agg (eMp m), .agg (zV7 p lvl b)] (.tup [.agg zVF, ei e])) ->
   ACall Tryz.prog GT 23 [.agg (eMp m), .v (.bool (zNr m && inB p 0 (m.wide * m.rows - 1) && inB lvl 1 99999))] (ei e) ->
   ACall Tryz.prog GT 7 [.agg (eMp m), ei p, ei lvl, .v (.bool hi)] (.v (.bool true)):=fun e he h88 h23=>by
  cases hi with
  | true=>exact zZA hkn m p lvl e hs he (zCK m p lvl e he (h88 false)) (zZ4 m p lvl e he (h88 true)) (zZJ m p lvl true e he (h88 true)) h23
  | false=>exact zZu hkn m p lvl e hs he (zCK m p lvl e he (h88 false)) (zZJ m p lvl false e he (h88 false)) h23
 rcases zZS m with hb | ⟨hm, hc⟩
 ·
  exact err 2 (by decide) (fun b=>zZ3 m p lvl b hb) (zZM m _ (by rw [hb]; rfl))
 have hb2:zNr m = true:=(zMw m).2 hm
 cases hin:(inB p 0 (m.wide * m.rows - 1) && inB lvl 1 99999) with
 | false=>exact err 2 (by decide) (fun b=>zZ0 m p lvl b hm hin) (zZM m _ (by rw [Bool.and_assoc, hin]; simp))
 | true=>
  have hF:(zNr m && inB p 0 (m.wide * m.rows - 1) && inB lvl 1 99999) = true:=by rw [Bool.and_assoc, hin, hb2]; rfl
  rcases hc with ⟨q, hc⟩ | hc
  ·
   exact err 7 (by decide) (fun b=>zZR m p lvl b hm hin q hc) (by rw [hF]; exact zZQ m hm q hc)
  ·
   have h2:=hin
   rw [zLa, zdh, zdh] at h2
   have hn:=zJF hm
   have e1:((p.toNat:Nat):Int) = p:=by omega
   have hp:p.toNat < npt m:=by omega
   have h23:ACall Tryz.prog GT 23 [.agg (eMp m), .v (.bool (zNr m && inB p 0 (m.wide * m.rows - 1) && inB lvl 1 99999))] (ei 0):=by rw [hF]; exact z0d m hm hc
   have h37:=zWw (G:=GT) m p.toNat lvl hm hc hp h2.2
   have h38:=zWn (G:=GT) m p.toNat lvl hm hc hp h2.2
   have h39:=zWo (G:=GT) m p.toNat lvl hi hm hc hp h2.2
   have h42:=zZX (G:=GT) m p.toNat lvl hi hm hc hp h2.2
   obtain ⟨R, h43, hR⟩:=zZK (G:=GT) m p.toNat lvl hi hm hc hp h2.2
   rw [e1] at h37 h38 h39 h42 h43
   have hXl:(shL m p.toNat lvl hi).length <= 1000:=by rw [zWk]; omega
   cases his:isP m p.toNat lvl hi with
   | false=>
    rw [show xP m p.toNat lvl hi = zVY from by unfold xP; rw [his]; rfl, show gP m p.toNat lvl hi = 5 from by unfold gP; rw [his]; rfl] at h39
    have hw:wdP m p.toNat lvl hi = 1:=by unfold wdP; rw [his]; rfl
    rw [hw] at h42
    cases hi with
    | true=>rw [hw] at h38; exact zZI hkn m p lvl _ 0 zVY hs hm (by simp [zVY]) h37 h38 h39 h23 h42
    | false=>rw [hw] at h37; exact zZz hkn m p lvl 0 0 zVY hs hm (by simp [zVY]) h37 h39 h23 h42
   | true=>
    have hnc:zWr m p.toNat lvl hi = false:=by
     have h:=his
     unfold isP at h
     rw [zLa] at h
     simpa using h.1
    rw [hR hnc, hnc] at h43
    rw [show xP m p.toNat lvl hi = ⟨m.wide, shL m p.toNat lvl hi⟩ from by unfold xP; rw [his]; rfl, show gP m p.toNat lvl hi = 0 from by unfold gP; rw [his]; rfl] at h39
    have hw:wdP m p.toNat lvl hi ≠ 1:=by unfold wdP; rw [his]; cases wX m p.toNat lvl hi <;> decide
    cases hi with
    | true=>exact zZC hkn m p lvl _ _ _ hs hm hw hXl h37 h38 h39 h23 h42 h43
    | false=>exact zZw hkn m p lvl 0 _ _ hs hm hw hXl h37 h39 h23 h42 h43
end Go.Av
end
