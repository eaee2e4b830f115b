/- ChartClosed. -/
import Derived.Test.YtdjncbjfejdamaaGreatDoorChSD
import Derived.Test.YtdjncbjfejdamaaGreatDoorExG
import Derived.Test.YtdjncbjfejdamaaGreatDoorChK
import Derived.Test.YtdjncbjfejdamaaGreatDoorChM
import Derived.Test.YtdjncbjfejdamaaGreatDoorChSC
set_option linter.unusedVariables false
set_option linter.unusedSimpArgs false
section
namespace Go.Av
open Go.Proofs
set_option maxRecDepth 100000
set_option maxHeartbeats 1000000
variable {G:Glob}
theorem zYw (hkn:KN GT) (m:Mp) (p lvl:Int) (hi:Bool) (f:Fld) (h:¬ (zWl m = true /\ f.vals.length <= 40 /\ zHz f = true /\ 0 <= p /\ p < m.wide * m.rows /\ 1 <= lvl /\ lvl <= 99999)):ACall Tryz.prog GT 8 [.agg (eMp m), ei p, ei lvl, .v (.bool hi), .agg (zHF f)] (.v (.bool true)):=by
 refine zS Tryz.func8 rfl (by kernel_rfl) rfl ?_
 refine zuy (zh ?_)
 refine zg rfl rfl (jf rfl (zY rfl)) ?_
 refine zg rfl rfl (jf rfl (zY rfl)) ?_
 refine zg rfl rfl (zn rfl rfl) ?_
 refine zo (zf (zuy (zuy (zh ?_))))
 refine zg rfl rfl (zZ rfl rfl zMg (by exact zLb rfl)) ?_
 refine zg rfl rfl (zy (av:=[_]) rfl ⟨rfl, trivial⟩ (f44 m)) ?_
 refine zg rfl rfl (je rfl rfl) ?_
 refine zg rfl rfl (zi rfl rfl) ?_
 refine zk rfl rfl rfl (fun hg=>zZ rfl rfl zHQ (by exact zLb rfl)) ?_
 refine zk rfl rfl rfl (fun hg=>zy (av:=[_]) rfl ⟨(by exact if_pos hg), trivial⟩ (f26 f)) ?_
 refine zk rfl rfl rfl (fun hg=>je rfl (if_pos hg)) ?_
 refine zg rfl rfl (qU rfl rfl rfl rfl) ?_
 refine zg rfl rfl (zi rfl rfl) ?_
 refine zk rfl rfl rfl (fun hg=>zZ rfl rfl zHQ (by exact zLb rfl)) ?_
 refine zk rfl rfl rfl (fun hg=>zy (av:=[_]) rfl ⟨(by exact if_pos hg), trivial⟩ (f28 f (by simp at hg; omega))) ?_
 refine zk rfl rfl rfl (fun hg=>je rfl (if_pos hg)) ?_
 refine zg rfl rfl (qU rfl rfl rfl rfl) ?_
 refine zg rfl rfl (zi rfl rfl) ?_
 refine zk rfl rfl rfl (fun hg=>zZ rfl rfl zMg (by exact zLb rfl)) ?_
 refine zk rfl rfl rfl (fun hg=>zi rfl rfl) ?_
 refine zk rfl rfl rfl (fun hg=>zy (av:=[_, _]) rfl ⟨(by exact if_pos hg), (by exact if_pos hg), trivial⟩ (f41 m p (by have h2:=(zWg (by simp at hg; first | exact hg.1.1 | exact hg.1.1.1 | exact hg.1)).1; exact ⟨h2.1, h2.2.1⟩) (by have h2:=(zWg (by simp at hg; first | exact hg.1.1 | exact hg.1.1.1 | exact hg.1)).1; exact ⟨h2.2.2.1, h2.2.2.2.1⟩))) ?_
 refine zk rfl rfl rfl (fun hg=>je rfl (if_pos hg)) ?_
 refine zg rfl rfl (qU rfl rfl rfl rfl) ?_
 refine zg rfl rfl (zi rfl rfl) ?_
 refine zk rfl rfl rfl (fun hg=>zi rfl rfl) ?_
 refine zk rfl rfl rfl (fun hg=>zy (av:=[_]) rfl ⟨(by exact if_pos hg), trivial⟩ (f29 lvl)) ?_
 refine zk rfl rfl rfl (fun hg=>je rfl (if_pos hg)) ?_
 refine zg rfl rfl (qU rfl rfl rfl rfl) ?_
 refine zo (zf (zx rfl (fun h0=>?_) (fun h0=>?_)))
 ·
  refine zuy (zh ?_)
  refine zg rfl rfl (zy (av:=[]) rfl trivial hkn) ?_
  refine zg rfl rfl (zn rfl rfl) ?_
  refine zo (zf (zP (zQ ?_)))
  exact ⟨.inr rfl, AVle.refl _⟩
 ·
  exfalso; simp [zdh] at h0; exact h ⟨h0.1.1.1.1, by omega, h0.1.1.2, by omega, by omega, by omega, by omega⟩
theorem zXH (hkn:KN GT) (m:Mp) (p:Nat) (lvl:Int) (f:Fld) (hpo:zWl m = true) (hm:okM m) (hc:zH5 m = none) (hl:f.vals.length <= 40) (hf:zHz f = true) (hp:p < npt m) (hv:1 <= lvl /\ lvl <= 99999) (hlv:inB lvl 1 99999 = true) (hpt:inB (p:Int) 0 (m.wide * m.rows - 1) = true) (hwd:wdP m p lvl true = 1) (his:isP m p lvl true = false):ACall Tryz.prog GT 8 [.agg (eMp m), ei (p:Int), ei lvl, .v (.bool true), .agg (zHF f)] (.v (.bool true)):=by
 have ho:=hm
 obtain ⟨m1, m2, m3, m4, m5, m6, m7, m8⟩:=ho
 have hn:=zJF hm
 have h37:=zWw (G:=GT) m p lvl hm hc hp hv
 have h38:=zWn (G:=GT) m p lvl hm hc hp hv
 have h39:=zWo (G:=GT) m p lvl true hm hc hp hv
 rw [show xP m p lvl true = zVY from by unfold xP; rw [his]; rfl, show gP m p lvl true = 5 from by unfold gP; rw [his]; rfl] at h39
 rw [hwd] at h38
 have h45f:=f45 (G:=GT) m f hm hf (by omega)
 generalize wdP m p lvl false = wd0 at h37
 refine zS Tryz.func8 rfl (by kernel_rfl) rfl ?_
 refine zuy (zh ?_)
 refine zg rfl rfl (jf rfl (zY rfl)) ?_
 refine zg rfl rfl (jf rfl (zY rfl)) ?_
 refine zg rfl rfl (zn rfl rfl) ?_
 refine zo (zf (zuy (zuy (zh ?_))))
 refine zg rfl rfl (zZ rfl rfl zMg (by exact zLb rfl)) ?_
 refine zg rfl rfl (zy (av:=[_]) rfl ⟨rfl, trivial⟩ (f44 m)) ?_
 refine zg rfl rfl (je rfl rfl) ?_
 refine zg rfl rfl (zi rfl rfl) ?_
 refine zk rfl rfl rfl (fun hg=>zZ rfl rfl zHQ (by exact zLb rfl)) ?_
 refine zk rfl rfl rfl (fun hg=>zy (av:=[_]) rfl ⟨(by exact if_pos hg), trivial⟩ (f26 f)) ?_
 refine zk rfl rfl rfl (fun hg=>je rfl (if_pos hg)) ?_
 refine zg rfl rfl (qU rfl rfl rfl rfl) ?_
 refine zg rfl rfl (zi rfl rfl) ?_
 refine zk rfl rfl rfl (fun hg=>zZ rfl rfl zHQ (by exact zLb rfl)) ?_
 refine zk rfl rfl rfl (fun hg=>zy (av:=[_]) rfl ⟨(by exact if_pos hg), trivial⟩ (f28 f (by omega))) ?_
 refine zk rfl rfl rfl (fun hg=>je rfl (if_pos hg)) ?_
 refine zg rfl rfl (qU rfl rfl rfl rfl) ?_
 refine zg rfl rfl (zi rfl rfl) ?_
 refine zk rfl rfl rfl (fun hg=>zZ rfl rfl zMg (by exact zLb rfl)) ?_
 refine zk rfl rfl rfl (fun hg=>zi rfl rfl) ?_
 refine zk rfl rfl rfl (fun hg=>zy (av:=[_, _]) rfl ⟨(by exact if_pos hg), (by exact if_pos hg), trivial⟩ (f41 m (p:Int) ⟨m1, m2⟩ ⟨m3, m4⟩)) ?_
 refine zk rfl rfl rfl (fun hg=>je rfl (if_pos hg)) ?_
 refine zg rfl rfl (qU rfl rfl rfl rfl) ?_
 refine zg rfl rfl (zi rfl rfl) ?_
 refine zk rfl rfl rfl (fun hg=>zi rfl rfl) ?_
 refine zk rfl rfl rfl (fun hg=>zy (av:=[_]) rfl ⟨(by exact if_pos hg), trivial⟩ (f29 lvl)) ?_
 refine zk rfl rfl rfl (fun hg=>je rfl (if_pos hg)) ?_
 refine zg rfl rfl (qU rfl rfl rfl rfl) ?_
 refine zo (zf (zx rfl (fun h0=>?_) (fun h0=>?_)))
 ·
  exfalso; simp [hpo, hf, hlv, hpt] at h0; omega
 ·
  refine zC (zf (zuy (zh ?_)))
  refine zg rfl rfl (zZ rfl rfl zMg (by exact zLb rfl)) ?_
  refine zg rfl rfl (zi rfl rfl) ?_
  refine zg rfl rfl (zi rfl rfl) ?_
  refine zg rfl rfl (zy (av:=[_, _, _]) rfl ⟨rfl, rfl, rfl, trivial⟩ h37) ?_
  refine zg rfl rfl (zq rfl rfl) ?_
  refine zg rfl rfl (zN rfl rfl rfl) ?_
  refine zg rfl rfl (zN rfl rfl rfl) ?_
  refine zg rfl rfl (zn rfl rfl) ?_
  refine zg rfl rfl (zn rfl rfl) ?_
  refine zo (zf (zuy (zuy (zh ?_))))
  refine zg rfl rfl (zi rfl rfl) ?_
  refine zo (zf (zx rfl (fun h1=>?_) (fun h1=>?_)))
  ·
   refine zh ?_
   refine zg rfl rfl (zZ rfl rfl zMg (by exact zLb rfl)) ?_
   refine zg rfl rfl (zi rfl rfl) ?_
   refine zg rfl rfl (zi rfl rfl) ?_
   refine zg rfl rfl (zy (av:=[_, _, _]) rfl ⟨rfl, rfl, rfl, trivial⟩ h38) ?_
   refine zg rfl rfl (zq rfl rfl) ?_
   refine zg rfl rfl (zN rfl rfl rfl) ?_
   refine zg rfl rfl (zN rfl rfl rfl) ?_
   refine zg rfl rfl (zn rfl rfl) ?_
   refine zg rfl rfl (zn rfl rfl) ?_
   refine zo (zf (zuy (zh ?_)))
   refine zg rfl rfl (zZ rfl rfl zMg (by exact zLb rfl)) ?_
   refine zg rfl rfl (zi rfl rfl) ?_
   refine zg rfl rfl (zi rfl rfl) ?_
   refine zg rfl rfl (zi rfl rfl) ?_
   refine zg rfl rfl (zy (av:=[_, _, _, _]) rfl ⟨rfl, rfl, rfl, rfl, trivial⟩ h39) ?_
   refine zg rfl rfl (zq rfl rfl) ?_
   refine zg rfl rfl (zN rfl rfl rfl) ?_
   refine zg rfl rfl (zN rfl rfl rfl) ?_
   refine vI  rfl rfl rfl rfl rfl rfl rfl zNn zHQ rfl (by rfl) (zY rfl) rfl ?_
   refine zg rfl rfl (zn rfl rfl) ?_
   refine zo (zf (zuy (zuy (zh ?_))))
   refine zg rfl rfl (zi rfl rfl) ?_
   refine zg rfl rfl (vg rfl rfl rfl) ?_
   refine zg rfl rfl (zi rfl rfl) ?_
   refine zk rfl rfl rfl (fun hg=>zi rfl rfl) ?_
   refine zk rfl rfl rfl (fun hg=>zUB rfl (rfl) rfl) ?_
   refine zg rfl rfl (qU rfl rfl rfl rfl) ?_
   refine zg rfl rfl (zi rfl rfl) ?_
   refine zk rfl rfl rfl (fun hg=>zi rfl rfl) ?_
   refine zk rfl rfl rfl (fun hg=>qR rfl (rfl) rfl) ?_
   refine zg rfl rfl (qU rfl rfl rfl rfl) ?_
   refine zg rfl rfl (zi rfl rfl) ?_
   refine zk rfl rfl rfl (fun hg=>zi rfl rfl) ?_
   refine zk rfl rfl rfl (fun hg=>qJ rfl (rfl) rfl) ?_
   refine zk rfl rfl rfl (fun hg=>zi rfl rfl) ?_
   refine zk rfl rfl rfl (fun hg=>qJ rfl (rfl) rfl) ?_
   refine zk rfl rfl rfl (fun hg=>zwJ rfl (rfl) (rfl) Tryz.underlying4) ?_
   refine zg rfl rfl (qU rfl rfl rfl rfl) ?_
   refine zg rfl rfl (zi rfl rfl) ?_
   refine zk rfl rfl rfl (fun hg=>zi rfl rfl) ?_
   refine zk rfl rfl rfl (fun hg=>vg rfl (rfl) rfl) ?_
   refine zk rfl rfl rfl (fun hg=>zi rfl (rfl)) ?_
   refine zk rfl rfl rfl (fun hg=>zi rfl rfl) ?_
   refine zk (x:=.pub (.tup [])) rfl rfl rfl (fun hg=>absurd hg (by decide)) ?_
   refine zk rfl rfl rfl (fun hg=>zU rfl rfl (fun h=>absurd h (by decide)) (fun _=>rfl)) ?_
   refine zg rfl rfl (qU rfl rfl rfl rfl) ?_
   refine zo (zf (zx rfl (fun h2=>?_) (fun h2=>?_)))
   ·
    exfalso; cases h2
   ·
    refine zC (zf (zuy (zuy (zh ?_))))
    refine zg rfl rfl (zi rfl rfl) ?_
    refine zg rfl rfl (vg rfl rfl rfl) ?_
    refine zg rfl rfl (zi rfl rfl) ?_
    refine zk rfl rfl rfl (fun hg=>zZ rfl rfl zHQ (by exact zLb rfl)) ?_
    refine zk rfl rfl rfl (fun hg=>zy (av:=[_]) rfl ⟨(by exact if_pos hg), trivial⟩ (f26 zVY)) ?_
    refine zk (x:=.pub (.tup [])) rfl rfl rfl (fun hg=>absurd hg (by decide)) ?_
    refine zk rfl rfl rfl (fun hg=>zq rfl (rfl)) ?_
    refine zk rfl rfl rfl (fun hg=>zZ rfl rfl zHQ (by exact zLb rfl)) ?_
    refine zk (x:=.pub (.tup [])) rfl rfl rfl (fun hg=>absurd hg (by decide)) ?_
    refine zk (x:=.pub (.tup [])) rfl rfl rfl (fun hg=>absurd hg (by decide)) ?_
    refine zk (x:=.pub (.tup [])) rfl rfl rfl (fun hg=>absurd hg (by decide)) ?_
    refine zk rfl rfl rfl (fun hg=>zq rfl (rfl)) ?_
    refine zk rfl rfl rfl (fun hg=>zZ rfl rfl zMg (by exact zLb rfl)) ?_
    refine zk rfl rfl rfl (fun hg=>zZ rfl rfl zHQ (by exact zLb rfl)) ?_
    refine zk (x:=.pub (.tup [])) rfl rfl rfl (fun hg=>absurd hg (by decide)) ?_
    refine zk (x:=.pub (.tup [])) rfl rfl rfl (fun hg=>absurd hg (by decide)) ?_
    refine zk (x:=.pub (.tup [])) rfl rfl rfl (fun hg=>absurd hg (by decide)) ?_
    refine zk rfl rfl rfl (fun hg=>zq rfl (rfl)) ?_
    refine zk rfl rfl rfl (fun hg=>zZ rfl rfl zHQ (by exact zLb rfl)) ?_
    refine zk rfl rfl rfl (fun hg=>zi rfl rfl) ?_
    refine zk rfl rfl rfl (fun hg=>zi rfl rfl) ?_
    refine zk rfl rfl rfl (fun hg=>zi rfl rfl) ?_
    refine zk (x:=.pub (.tup [])) rfl rfl rfl (fun hg=>absurd hg (by decide)) ?_
    refine zk (x:=.pub (.tup [])) rfl rfl rfl (fun hg=>absurd hg (by decide)) ?_
    refine zk (x:=.pub (.tup [])) rfl rfl rfl (fun hg=>absurd hg (by decide)) ?_
    refine zg rfl rfl (zU rfl rfl (fun h=>absurd h (by decide)) (fun _=>rfl)) ?_
    refine zo (zf (zx rfl (fun h3=>?_) (fun h3=>?_)))
    ·
     exfalso; cases h3
    ·
     refine zC (zf (zuy (zuy (zh ?_))))
     refine zg rfl rfl (zZ rfl rfl zMg (by exact zLb rfl)) ?_
     refine zg rfl rfl (zZ rfl rfl zHQ (by exact zLb rfl)) ?_
     refine zg rfl rfl (zy (av:=[_, _]) rfl ⟨rfl, rfl, trivial⟩ h45f) ?_
     refine zg rfl rfl (je rfl rfl) ?_
     refine zo (zf (zx rfl (fun h4=>?_) (fun h4=>?_)))
     ·
      refine zuy (zh ?_)
      refine zg rfl rfl (zy (av:=[]) rfl trivial hkn) ?_
      refine zg rfl rfl (zn rfl rfl) ?_
      refine zo (zf (zP (zQ ?_)))
      exact ⟨.inr rfl, AVle.refl _⟩
     ·
      have hF:=zUR.1 (show zUE m f = true by simpa using h4)
      have hlf:f.vals.length = npt m:=by have:=hF.len; omega
      have hcf:zV2 f lvl true p = false:=by cases hcc:zV2 f lvl true p with
        | false=>rfl
        | true=>have:=zYM hm hF hf hlf hp hcc; rw [his] at this; cases this
      refine zC (zf (zuy (zh ?_)))
      refine zg rfl rfl (zZ rfl rfl zHQ (by exact zLb rfl)) ?_
      refine zg rfl rfl (zi rfl rfl) ?_
      refine zg rfl rfl (zi rfl rfl) ?_
      refine zg rfl rfl (zi rfl rfl) ?_
      refine zg rfl rfl (zy (av:=[_, _, _, _]) rfl ⟨rfl, rfl, rfl, rfl, trivial⟩ (f46 f p lvl true hf (by omega) (by omega))) ?_
      refine zg rfl rfl (zn rfl rfl) ?_
      refine zo (zf (zuy (zuy (zh ?_))))
      refine zg rfl rfl (zi rfl rfl) ?_
      refine zg rfl rfl (zi rfl rfl) ?_
      refine zk rfl rfl rfl (fun hg=>zi rfl rfl) ?_
      refine zk rfl rfl rfl (fun hg=>qJ rfl (if_pos hg) rfl) ?_
      refine zg rfl rfl (qI rfl rfl rfl rfl) ?_
      refine zg rfl rfl (zi rfl rfl) ?_
      refine zk rfl rfl rfl (fun hg=>zi rfl rfl) ?_
      refine zk rfl rfl rfl (fun hg=>je rfl (if_pos hg)) ?_
      refine zk rfl rfl rfl (fun hg=>zi rfl (if_pos hg)) ?_
      refine zk rfl (jH rfl rfl rfl) rfl (fun hg=>zi rfl rfl) ?_
      refine zk rfl (jH rfl rfl rfl) rfl (fun hg=>qJ rfl (if_pos hg) rfl) ?_
      refine zk rfl rfl rfl (fun hg=>qI rfl (if_pos hg) (zha hg) rfl) ?_
      refine zg rfl rfl (qU rfl rfl rfl rfl) ?_
      refine zo (zf (zx rfl (fun h5=>?_) (fun h5=>?_)))
      ·
       exfalso; rw [hcf] at h5; cases h5
      ·
       refine zC (zf (zuy (zuy (zh ?_))))
       refine zg rfl rfl (zi rfl rfl) ?_
       refine zg rfl rfl (qJ rfl rfl rfl) ?_
       refine zg rfl rfl (zi rfl rfl) ?_
       refine zk rfl rfl rfl (fun hg=>zu rfl rfl zHx) ?_
       refine zk (x:=.pub (.tup [])) rfl rfl rfl (fun hg=>absurd hg (by decide)) ?_
       refine zk rfl rfl rfl (fun hg=>zi rfl rfl) ?_
       refine zk (x:=.pub (.tup [])) rfl rfl rfl (fun hg=>absurd hg (by decide)) ?_
       refine zk (x:=.pub (.tup [])) rfl rfl rfl (fun hg=>absurd hg (by decide)) ?_
       refine zk rfl rfl rfl (fun hg=>zi rfl rfl) ?_
       refine zk (x:=.pub (.tup [])) rfl rfl rfl (fun hg=>absurd hg (by decide)) ?_
       refine zk rfl rfl rfl (fun hg=>zi rfl rfl) ?_
       refine zk (x:=.pub (.tup [])) rfl rfl rfl (fun hg=>absurd hg (by decide)) ?_
       refine zg rfl rfl (zU rfl rfl (fun _=>rfl) (fun h=>absurd h (by decide))) ?_
       refine zo (zf (zx rfl (fun h6=>?_) (fun h6=>?_)))
       ·
        refine zuy (zh ?_)
        refine zg rfl rfl (zy (av:=[]) rfl trivial hkn) ?_
        refine zg rfl rfl (zn rfl rfl) ?_
        refine zo (zf (zP (zQ ?_)))
        exact ⟨.inr rfl, AVle.refl _⟩
       ·
        exfalso; cases h6
  ·
   exfalso; cases h1
theorem zXt (hkn:KN GT) (m:Mp) (p:Nat) (lvl:Int) (f:Fld) (hpo:zWl m = true) (hm:okM m) (hc:zH5 m = none) (hl:f.vals.length <= 40) (hf:zHz f = true) (hp:p < npt m) (hv:1 <= lvl /\ lvl <= 99999) (hlv:inB lvl 1 99999 = true) (hpt:inB (p:Int) 0 (m.wide * m.rows - 1) = true) (hwd:wdP m p lvl true = 2) (his:isP m p lvl true = true) (hwx:wX m p lvl true = false):ACall Tryz.prog GT 8 [.agg (eMp m), ei (p:Int), ei lvl, .v (.bool true), .agg (zHF f)] (.v (.bool true)):=by
 have ho:=hm
 obtain ⟨m1, m2, m3, m4, m5, m6, m7, m8⟩:=ho
 have hn:=zJF hm
 have h37:=zWw (G:=GT) m p lvl hm hc hp hv
 have h38:=zWn (G:=GT) m p lvl hm hc hp hv
 have h39:=zWo (G:=GT) m p lvl true hm hc hp hv
 rw [show xP m p lvl true = ⟨m.wide, shL m p lvl true⟩ from by unfold xP; rw [his]; rfl, show gP m p lvl true = 0 from by unfold gP; rw [his]; rfl] at h39
 rw [hwd] at h38
 have h45f:=f45 (G:=GT) m f hm hf (by omega)
 generalize wdP m p lvl false = wd0 at h37
 have hX:=zW6 (lvl:=lvl) (hi:=true) hm hc hp hv (by have h:=his; unfold isP at h; rw [zLa] at h; simpa using h.1)
 have hXl:(shL m p lvl true).length = npt m:=zWk
 have hXc:zV2 ⟨m.wide, shL m p lvl true⟩ lvl true p = true:=by have h:=his; unfold isP at h; rw [zLa, zXq hm hp] at h; exact h.2
 have h26x:=f26 (G:=GT) ⟨m.wide, shL m p lvl true⟩
 have h28x:=f28 (G:=GT) ⟨m.wide, shL m p lvl true⟩ (by show (shL m p lvl true).length <= 1000; omega)
 have h45x:=f45 (G:=GT) m ⟨m.wide, shL m p lvl true⟩ hm hX.2 (by show (shL m p lvl true).length <= 1000; omega)
 have h46x:=f46 (G:=GT) ⟨m.wide, shL m p lvl true⟩ p lvl true hX.2 (by show p < (shL m p lvl true).length; omega) (by show (shL m p lvl true).length <= 1000; omega)
 rw [hX.2] at h28x
 rw [zUR.2 hX.1] at h45x
 rw [hXc] at h46x
 rw [show decide ((((⟨m.wide, shL m p lvl true⟩:Fld).vals.length:Nat):Int) <= 40) = true from decide_eq_true (by show ((shL m p lvl true).length:Int) <= 40; omega)] at h26x
 refine zS Tryz.func8 rfl (by kernel_rfl) rfl ?_
 refine zuy (zh ?_)
 refine zg rfl rfl (jf rfl (zY rfl)) ?_
 refine zg rfl rfl (jf rfl (zY rfl)) ?_
 refine zg rfl rfl (zn rfl rfl) ?_
 refine zo (zf (zuy (zuy (zh ?_))))
 refine zg rfl rfl (zZ rfl rfl zMg (by exact zLb rfl)) ?_
 refine zg rfl rfl (zy (av:=[_]) rfl ⟨rfl, trivial⟩ (f44 m)) ?_
 refine zg rfl rfl (je rfl rfl) ?_
 refine zg rfl rfl (zi rfl rfl) ?_
 refine zk rfl rfl rfl (fun hg=>zZ rfl rfl zHQ (by exact zLb rfl)) ?_
 refine zk rfl rfl rfl (fun hg=>zy (av:=[_]) rfl ⟨(by exact if_pos hg), trivial⟩ (f26 f)) ?_
 refine zk rfl rfl rfl (fun hg=>je rfl (if_pos hg)) ?_
 refine zg rfl rfl (qU rfl rfl rfl rfl) ?_
 refine zg rfl rfl (zi rfl rfl) ?_
 refine zk rfl rfl rfl (fun hg=>zZ rfl rfl zHQ (by exact zLb rfl)) ?_
 refine zk rfl rfl rfl (fun hg=>zy (av:=[_]) rfl ⟨(by exact if_pos hg), trivial⟩ (f28 f (by omega))) ?_
 refine zk rfl rfl rfl (fun hg=>je rfl (if_pos hg)) ?_
 refine zg rfl rfl (qU rfl rfl rfl rfl) ?_
 refine zg rfl rfl (zi rfl rfl) ?_
 refine zk rfl rfl rfl (fun hg=>zZ rfl rfl zMg (by exact zLb rfl)) ?_
 refine zk rfl rfl rfl (fun hg=>zi rfl rfl) ?_
 refine zk rfl rfl rfl (fun hg=>zy (av:=[_, _]) rfl ⟨(by exact if_pos hg), (by exact if_pos hg), trivial⟩ (f41 m (p:Int) ⟨m1, m2⟩ ⟨m3, m4⟩)) ?_
 refine zk rfl rfl rfl (fun hg=>je rfl (if_pos hg)) ?_
 refine zg rfl rfl (qU rfl rfl rfl rfl) ?_
 refine zg rfl rfl (zi rfl rfl) ?_
 refine zk rfl rfl rfl (fun hg=>zi rfl rfl) ?_
 refine zk rfl rfl rfl (fun hg=>zy (av:=[_]) rfl ⟨(by exact if_pos hg), trivial⟩ (f29 lvl)) ?_
 refine zk rfl rfl rfl (fun hg=>je rfl (if_pos hg)) ?_
 refine zg rfl rfl (qU rfl rfl rfl rfl) ?_
 refine zo (zf (zx rfl (fun h0=>?_) (fun h0=>?_)))
 ·
  exfalso; simp [hpo, hf, hlv, hpt] at h0; omega
 ·
  refine zC (zf (zuy (zh ?_)))
  refine zg rfl rfl (zZ rfl rfl zMg (by exact zLb rfl)) ?_
  refine zg rfl rfl (zi rfl rfl) ?_
  refine zg rfl rfl (zi rfl rfl) ?_
  refine zg rfl rfl (zy (av:=[_, _, _]) rfl ⟨rfl, rfl, rfl, trivial⟩ h37) ?_
  refine zg rfl rfl (zq rfl rfl) ?_
  refine zg rfl rfl (zN rfl rfl rfl) ?_
  refine zg rfl rfl (zN rfl rfl rfl) ?_
  refine zg rfl rfl (zn rfl rfl) ?_
  refine zg rfl rfl (zn rfl rfl) ?_
  refine zo (zf (zuy (zuy (zh ?_))))
  refine zg rfl rfl (zi rfl rfl) ?_
  refine zo (zf (zx rfl (fun h1=>?_) (fun h1=>?_)))
  ·
   refine zh ?_
   refine zg rfl rfl (zZ rfl rfl zMg (by exact zLb rfl)) ?_
   refine zg rfl rfl (zi rfl rfl) ?_
   refine zg rfl rfl (zi rfl rfl) ?_
   refine zg rfl rfl (zy (av:=[_, _, _]) rfl ⟨rfl, rfl, rfl, trivial⟩ h38) ?_
   refine zg rfl rfl (zq rfl rfl) ?_
   refine zg rfl rfl (zN rfl rfl rfl) ?_
   refine zg rfl rfl (zN rfl rfl rfl) ?_
   refine zg rfl rfl (zn rfl rfl) ?_
   refine zg rfl rfl (zn rfl rfl) ?_
   refine zo (zf (zuy (zh ?_)))
   refine zg rfl rfl (zZ rfl rfl zMg (by exact zLb rfl)) ?_
   refine zg rfl rfl (zi rfl rfl) ?_
   refine zg rfl rfl (zi rfl rfl) ?_
   refine zg rfl rfl (zi rfl rfl) ?_
   refine zg rfl rfl (zy (av:=[_, _, _, _]) rfl ⟨rfl, rfl, rfl, rfl, trivial⟩ h39) ?_
   refine zg rfl rfl (zq rfl rfl) ?_
   refine zg rfl rfl (zN rfl rfl rfl) ?_
   refine zg rfl rfl (zN rfl rfl rfl) ?_
   refine vI  rfl rfl rfl rfl rfl rfl rfl zNn zHQ rfl (by rfl) (zY rfl) rfl ?_
   refine zg rfl rfl (zn rfl rfl) ?_
   refine zo (zf (zuy (zuy (zh ?_))))
   refine zg rfl rfl (zi rfl rfl) ?_
   refine zg rfl rfl (vg rfl rfl rfl) ?_
   refine zg rfl rfl (zi rfl rfl) ?_
   refine zk rfl rfl rfl (fun hg=>zi rfl rfl) ?_
   refine zk rfl rfl rfl (fun hg=>zUB rfl (rfl) rfl) ?_
   refine zg rfl rfl (qU rfl rfl rfl rfl) ?_
   refine zg rfl rfl (zi rfl rfl) ?_
   refine zk rfl rfl rfl (fun hg=>zi rfl rfl) ?_
   refine zk rfl rfl rfl (fun hg=>qR rfl (rfl) rfl) ?_
   refine zg rfl rfl (qU rfl rfl rfl rfl) ?_
   refine zg rfl rfl (zi rfl rfl) ?_
   refine zk rfl rfl rfl (fun hg=>zi rfl rfl) ?_
   refine zk rfl rfl rfl (fun hg=>qJ rfl (rfl) rfl) ?_
   refine zk rfl rfl rfl (fun hg=>zi rfl rfl) ?_
   refine zk rfl rfl rfl (fun hg=>qJ rfl (rfl) rfl) ?_
   refine zk rfl rfl rfl (fun hg=>zwJ rfl (rfl) (rfl) Tryz.underlying4) ?_
   refine zg rfl rfl (qU rfl rfl rfl rfl) ?_
   refine zg rfl rfl (zi rfl rfl) ?_
   refine zk rfl rfl rfl (fun hg=>zi rfl rfl) ?_
   refine zk rfl rfl rfl (fun hg=>vg rfl (rfl) rfl) ?_
   refine zk rfl rfl rfl (fun hg=>zi rfl (rfl)) ?_
   refine zk rfl rfl rfl (fun hg=>zi rfl rfl) ?_
   refine zk rfl rfl rfl (fun hg=>vg rfl rfl rfl) ?_
   refine zk rfl rfl rfl (fun hg=>qI rfl rfl rfl rfl) ?_
   refine zg rfl rfl (qU rfl rfl rfl rfl) ?_
   refine zo (zf (zx rfl (fun h2=>?_) (fun h2=>?_)))
   ·
    exfalso; cases h2
   ·
    refine zC (zf (zuy (zuy (zh ?_))))
    refine zg rfl rfl (zi rfl rfl) ?_
    refine zg rfl rfl (vg rfl rfl rfl) ?_
    refine zg rfl rfl (zi rfl rfl) ?_
    refine zk rfl rfl rfl (fun hg=>zZ rfl rfl zHQ (by exact zLb rfl)) ?_
    refine zk rfl rfl rfl (fun hg=>zy (av:=[_]) rfl ⟨(rfl), trivial⟩ h26x) ?_
    refine zk rfl rfl rfl (fun hg=>je rfl (rfl)) ?_
    refine zk rfl rfl rfl (fun hg=>zi rfl (rfl)) ?_
    refine zk rfl rfl rfl (fun hg=>zZ rfl rfl zHQ (by exact zLb rfl)) ?_
    refine zk rfl rfl rfl (fun hg=>zy (av:=[_]) rfl ⟨(rfl), trivial⟩ h28x) ?_
    refine zk rfl rfl rfl (fun hg=>je rfl rfl) ?_
    refine zk rfl rfl rfl (fun hg=>qU rfl rfl rfl rfl) ?_
    refine zk rfl rfl rfl (fun hg=>zi rfl (rfl)) ?_
    refine zk rfl rfl rfl (fun hg=>zZ rfl rfl zMg (by exact zLb rfl)) ?_
    refine zk rfl rfl rfl (fun hg=>zZ rfl rfl zHQ (by exact zLb rfl)) ?_
    refine zk rfl rfl rfl (fun hg=>zy (av:=[_, _]) rfl ⟨(rfl), (rfl), trivial⟩ h45x) ?_
    refine zk rfl rfl rfl (fun hg=>je rfl rfl) ?_
    refine zk rfl rfl rfl (fun hg=>qU rfl rfl rfl rfl) ?_
    refine zk rfl rfl rfl (fun hg=>zi rfl (rfl)) ?_
    refine zk rfl rfl rfl (fun hg=>zZ rfl rfl zHQ (by exact zLb rfl)) ?_
    refine zk rfl rfl rfl (fun hg=>zi rfl rfl) ?_
    refine zk rfl rfl rfl (fun hg=>zi rfl rfl) ?_
    refine zk rfl rfl rfl (fun hg=>zi rfl rfl) ?_
    refine zk rfl rfl rfl (fun hg=>zy (av:=[_, _, _, _]) rfl ⟨(rfl), (rfl), (rfl), (rfl), trivial⟩ h46x) ?_
    refine zk rfl rfl rfl (fun hg=>je rfl rfl) ?_
    refine zk rfl rfl rfl (fun hg=>qU rfl rfl rfl rfl) ?_
    refine zg rfl rfl (qI rfl rfl rfl rfl) ?_
    refine zo (zf (zx rfl (fun h3=>?_) (fun h3=>?_)))
    ·
     exfalso; cases h3
    ·
     refine zC (zf (zuy (zuy (zh ?_))))
     refine zg rfl rfl (zZ rfl rfl zMg (by exact zLb rfl)) ?_
     refine zg rfl rfl (zZ rfl rfl zHQ (by exact zLb rfl)) ?_
     refine zg rfl rfl (zy (av:=[_, _]) rfl ⟨rfl, rfl, trivial⟩ h45f) ?_
     refine zg rfl rfl (je rfl rfl) ?_
     refine zo (zf (zx rfl (fun h4=>?_) (fun h4=>?_)))
     ·
      refine zuy (zh ?_)
      refine zg rfl rfl (zy (av:=[]) rfl trivial hkn) ?_
      refine zg rfl rfl (zn rfl rfl) ?_
      refine zo (zf (zP (zQ ?_)))
      exact ⟨.inr rfl, AVle.refl _⟩
     ·
      have hF:=zUR.1 (show zUE m f = true by simpa using h4)
      have hlf:f.vals.length = npt m:=by have:=hF.len; omega
      refine zC (zf (zuy (zh ?_)))
      refine zg rfl rfl (zZ rfl rfl zHQ (by exact zLb rfl)) ?_
      refine zg rfl rfl (zi rfl rfl) ?_
      refine zg rfl rfl (zi rfl rfl) ?_
      refine zg rfl rfl (zi rfl rfl) ?_
      refine zg rfl rfl (zy (av:=[_, _, _, _]) rfl ⟨rfl, rfl, rfl, rfl, trivial⟩ (f46 f p lvl true hf (by omega) (by omega))) ?_
      refine zg rfl rfl (zn rfl rfl) ?_
      refine zo (zf (zuy (zuy (zh ?_))))
      refine zg rfl rfl (zi rfl rfl) ?_
      refine zg rfl rfl (zi rfl rfl) ?_
      refine zk rfl rfl rfl (fun hg=>zi rfl rfl) ?_
      refine zk rfl rfl rfl (fun hg=>qJ rfl (if_pos hg) rfl) ?_
      refine zg rfl rfl (qI rfl rfl rfl rfl) ?_
      refine zg rfl rfl (zi rfl rfl) ?_
      refine zk rfl rfl rfl (fun hg=>zi rfl rfl) ?_
      refine zk rfl rfl rfl (fun hg=>je rfl (if_pos hg)) ?_
      refine zk rfl rfl rfl (fun hg=>zi rfl (if_pos hg)) ?_
      refine zk rfl (jH rfl rfl rfl) rfl (fun hg=>zi rfl rfl) ?_
      refine zk rfl (jH rfl rfl rfl) rfl (fun hg=>qJ rfl (if_pos hg) rfl) ?_
      refine zk rfl rfl rfl (fun hg=>qI rfl (if_pos hg) (zha hg) rfl) ?_
      refine zg rfl rfl (qU rfl rfl rfl rfl) ?_
      refine zo (zf (zx rfl (fun h5=>?_) (fun h5=>?_)))
      ·
       exfalso; cases hcc:zV2 f lvl true p <;> rw [hcc] at h5 <;> cases h5
      ·
       refine zC (zf (zuy (zuy (zh ?_))))
       refine zg rfl rfl (zi rfl rfl) ?_
       refine zg rfl rfl (qJ rfl rfl rfl) ?_
       refine zg rfl rfl (zi rfl rfl) ?_
       refine zk rfl rfl rfl (fun hg=>zu rfl rfl zHx) ?_
       refine zk rfl rfl rfl (fun hg=>zA rfl (rfl) rfl zHR) ?_
       refine zk rfl rfl rfl (fun hg=>zi rfl rfl) ?_
       refine zk rfl rfl rfl (fun hg=>zVZ rfl rfl rfl zIz (by omega) (zV1 (by omega)) jC) ?_
       refine zk rfl rfl rfl (fun hg=>zA rfl (rfl) rfl ty3) ?_
       refine zk rfl rfl rfl (fun hg=>zi rfl rfl) ?_
       refine zk rfl rfl rfl (fun hg=>zbe rfl (rfl) (rfl)) ?_
       refine zk rfl rfl rfl (fun hg=>zi rfl rfl) ?_
       refine zk rfl rfl rfl (fun hg=>zwJ rfl (rfl) (rfl) Tryz.underlying4) ?_
       refine zg rfl rfl (qU rfl rfl rfl rfl) ?_
       refine zo (zf (zx rfl (fun h6=>?_) (fun h6=>?_)))
       ·
        refine zuy (zh ?_)
        refine zg rfl rfl (zy (av:=[]) rfl trivial hkn) ?_
        refine zg rfl rfl (zn rfl rfl) ?_
        refine zo (zf (zP (zQ ?_)))
        exact ⟨.inr rfl, AVle.refl _⟩
       ·
        have hsp:inS f.vals lvl true p = true:=by unfold inS; simpa using h6
        have hxt:=zXD hm hF hf hlf hp hsp
        refine zC (zf (zuy (zuy (zh ?_))))
        refine zg rfl rfl (zn rfl rfl) ?_
        refine zo (zf (zB ?_))
        refine qy (ι:={ k:Nat // k <= f.vals.length }) (fun k=>⟨Tryz.f8.ntmps, frL [(3, B true), (9, .pub (.ptr (zHF f))), (13, .pub (.ptr (zHF ⟨m.wide, shL m p lvl true⟩))), (16, I (k.1:Int))], []⟩) (fun k=>f.vals.length - k.1) (⟨0, by simp⟩) ?_ ?_
        ·
         exact zt _ ⟨rfl, rfl, rfl, rfl, trivial⟩ (rfl)
        ·
         rintro ⟨k, hk⟩
         dsimp only
         refine zuy (zuy (zh ?_))
         refine zg rfl rfl (zi rfl rfl) ?_
         refine zg rfl rfl (zu rfl rfl zHx) ?_
         refine zg rfl rfl (zA rfl rfl rfl zHR) ?_
         refine zg rfl rfl (qh rfl rfl rfl Tryz.underlying27) ?_
         refine zg rfl rfl (zUB rfl rfl rfl) ?_
         refine zo (zf (zx rfl (fun h7=>?_) (fun h7=>?_)))
         ·
          have hlt:k < f.vals.length:=by simpa using h7
          have hxk:=hxt k (by omega)
          dsimp only at hxk
          rw [← zWA (m:=m) (p:=p) (lvl:=lvl) (hi:=true) (i:=k) (by omega)] at hxk
          refine zC (zf (zuy (zB (zuy ?_))))
          refine qY mixed (by kernel_rfl) rfl ?_
          refine zH rfl (zi rfl rfl) ?_
          refine zH rfl (zi rfl rfl) ?_
          refine jm rfl (fun hg=>zu rfl rfl zHx) ?_
          refine jm rfl (fun hg=>zA rfl (rfl) rfl zHR) ?_
          refine jm rfl (fun hg=>zi rfl rfl) ?_
          refine jm rfl (fun hg=>zVZ rfl rfl rfl zIz (by omega) (zV1 (by omega)) jC) ?_
          refine jm rfl (fun hg=>zA rfl (rfl) rfl ty3) ?_
          refine jm rfl (fun hg=>zu rfl rfl zHx) ?_
          refine jm rfl (fun hg=>zA rfl (rfl) rfl zHR) ?_
          refine jm rfl (fun hg=>zi rfl rfl) ?_
          refine jm rfl (fun hg=>zVZ rfl rfl rfl zIz (by omega) (zV1 (l:=shL m p lvl true) (k:=k) (by omega)) jC) ?_
          refine jm rfl (fun hg=>zA rfl (rfl) rfl ty3) ?_
          refine jm rfl (fun hg=>zUB rfl (rfl) (rfl)) ?_
          refine zH rfl (qI rfl rfl rfl rfl) ?_
          refine zH rfl (zi rfl rfl) ?_
          refine jm rfl (fun hg=>zi rfl rfl) ?_
          refine jm rfl (fun hg=>je rfl (if_pos hg)) ?_
          refine jm rfl (fun hg=>zi rfl (if_pos hg)) ?_
          refine jm (jH rfl rfl rfl) (fun hg=>zu rfl rfl zHx) ?_
          refine jm (jH rfl rfl rfl) (fun hg=>zA rfl (if_pos hg) rfl zHR) ?_
          refine jm (jH rfl rfl rfl) (fun hg=>zi rfl rfl) ?_
          refine jm (jH rfl rfl rfl) (fun hg=>zVZ rfl (ifp hg) (ifp hg) zIz (by omega) (zV1 (l:=f.vals) (k:=k) (by omega)) jC) ?_
          refine jm (jH rfl rfl rfl) (fun hg=>zA rfl (if_pos hg) rfl ty3) ?_
          refine jm (jH rfl rfl rfl) (fun hg=>zu rfl rfl zHx) ?_
          refine jm (jH rfl rfl rfl) (fun hg=>zA rfl (if_pos hg) rfl zHR) ?_
          refine jm (jH rfl rfl rfl) (fun hg=>zi rfl rfl) ?_
          refine jm (jH rfl rfl rfl) (fun hg=>zVZ rfl (ifp hg) (ifp hg) zIz (by omega) (zV1 (l:=shL m p lvl true) (k:=k) (by omega)) jC) ?_
          refine jm (jH rfl rfl rfl) (fun hg=>zA rfl (if_pos hg) rfl ty3) ?_
          refine jm (jH rfl rfl rfl) (fun hg=>qR rfl (if_pos hg) (if_pos hg)) ?_
          refine jm rfl (fun hg=>qI rfl (if_pos hg) (zha hg) rfl) ?_
          refine zH rfl (qU rfl rfl rfl rfl) ?_
          refine jw (zf (zx rfl (fun h8=>?_) (fun h8=>?_)))
          ·
           exfalso; simp only[Bool.true_and, Bool.not_true, Bool.false_and, Bool.or_false, Bool.and_false, decide_eq_true_eq, Bool.not_false, Bool.false_or, cond_true, cond_false, Int.toNat_natCast] at h8; omega
          ·
           refine zC (zD (zf (zh ?_)))
           refine zg rfl rfl (zi rfl rfl) ?_
           refine zg rfl rfl (zV rfl rfl rfl ⟨(by omega), (by omega)⟩) ?_
           refine zg rfl rfl (zn rfl rfl) ?_
           refine zo ?_
           exact ⟨⟨k + 1, by omega⟩, by dsimp only; omega, zt _ ⟨rfl, rfl, rfl, rfl, trivial⟩ (rfl)⟩
         ·
          have hge:f.vals.length <= k:=by simpa using h7
          refine qp (zRQ (zRQ (qw (zf (zuy (zh ?_))))))
          refine zg rfl rfl (zy (av:=[]) rfl trivial hkn) ?_
          refine zg rfl rfl (zn rfl rfl) ?_
          refine zo (zf (zP ?_))
          exact ⟨.inr rfl, AVle.refl _⟩
  ·
   exfalso; cases h1
theorem zW8 (hkn:KN GT) (m:Mp) (p:Nat) (lvl:Int) (f:Fld) (hpo:zWl m = true) (hm:okM m) (hc:zH5 m = none) (hl:f.vals.length <= 40) (hf:zHz f = true) (hp:p < npt m) (hv:1 <= lvl /\ lvl <= 99999) (hlv:inB lvl 1 99999 = true) (hpt:inB (p:Int) 0 (m.wide * m.rows - 1) = true) (hwd:wdP m p lvl true = 3) (his:isP m p lvl true = true) (hwx:wX m p lvl true = true):ACall Tryz.prog GT 8 [.agg (eMp m), ei (p:Int), ei lvl, .v (.bool true), .agg (zHF f)] (.v (.bool true)):=by
 have ho:=hm
 obtain ⟨m1, m2, m3, m4, m5, m6, m7, m8⟩:=ho
 have hn:=zJF hm
 have h37:=zWw (G:=GT) m p lvl hm hc hp hv
 have h38:=zWn (G:=GT) m p lvl hm hc hp hv
 have h39:=zWo (G:=GT) m p lvl true hm hc hp hv
 rw [show xP m p lvl true = ⟨m.wide, shL m p lvl true⟩ from by unfold xP; rw [his]; rfl, show gP m p lvl true = 0 from by unfold gP; rw [his]; rfl] at h39
 rw [hwd] at h38
 have h45f:=f45 (G:=GT) m f hm hf (by omega)
 generalize wdP m p lvl false = wd0 at h37
 have hX:=zW6 (lvl:=lvl) (hi:=true) hm hc hp hv (by have h:=his; unfold isP at h; rw [zLa] at h; simpa using h.1)
 have hXl:(shL m p lvl true).length = npt m:=zWk
 have hXc:zV2 ⟨m.wide, shL m p lvl true⟩ lvl true p = true:=by have h:=his; unfold isP at h; rw [zLa, zXq hm hp] at h; exact h.2
 have h26x:=f26 (G:=GT) ⟨m.wide, shL m p lvl true⟩
 have h28x:=f28 (G:=GT) ⟨m.wide, shL m p lvl true⟩ (by show (shL m p lvl true).length <= 1000; omega)
 have h45x:=f45 (G:=GT) m ⟨m.wide, shL m p lvl true⟩ hm hX.2 (by show (shL m p lvl true).length <= 1000; omega)
 have h46x:=f46 (G:=GT) ⟨m.wide, shL m p lvl true⟩ p lvl true hX.2 (by show p < (shL m p lvl true).length; omega) (by show (shL m p lvl true).length <= 1000; omega)
 rw [hX.2] at h28x
 rw [zUR.2 hX.1] at h45x
 rw [hXc] at h46x
 rw [show decide ((((⟨m.wide, shL m p lvl true⟩:Fld).vals.length:Nat):Int) <= 40) = true from decide_eq_true (by show ((shL m p lvl true).length:Int) <= 40; omega)] at h26x
 refine zS Tryz.func8 rfl (by kernel_rfl) rfl ?_
 refine zuy (zh ?_)
 refine zg rfl rfl (jf rfl (zY rfl)) ?_
 refine zg rfl rfl (jf rfl (zY rfl)) ?_
 refine zg rfl rfl (zn rfl rfl) ?_
 refine zo (zf (zuy (zuy (zh ?_))))
 refine zg rfl rfl (zZ rfl rfl zMg (by exact zLb rfl)) ?_
 refine zg rfl rfl (zy (av:=[_]) rfl ⟨rfl, trivial⟩ (f44 m)) ?_
 refine zg rfl rfl (je rfl rfl) ?_
 refine zg rfl rfl (zi rfl rfl) ?_
 refine zk rfl rfl rfl (fun hg=>zZ rfl rfl zHQ (by exact zLb rfl)) ?_
 refine zk rfl rfl rfl (fun hg=>zy (av:=[_]) rfl ⟨(by exact if_pos hg), trivial⟩ (f26 f)) ?_
 refine zk rfl rfl rfl (fun hg=>je rfl (if_pos hg)) ?_
 refine zg rfl rfl (qU rfl rfl rfl rfl) ?_
 refine zg rfl rfl (zi rfl rfl) ?_
 refine zk rfl rfl rfl (fun hg=>zZ rfl rfl zHQ (by exact zLb rfl)) ?_
 refine zk rfl rfl rfl (fun hg=>zy (av:=[_]) rfl ⟨(by exact if_pos hg), trivial⟩ (f28 f (by omega))) ?_
 refine zk rfl rfl rfl (fun hg=>je rfl (if_pos hg)) ?_
 refine zg rfl rfl (qU rfl rfl rfl rfl) ?_
 refine zg rfl rfl (zi rfl rfl) ?_
 refine zk rfl rfl rfl (fun hg=>zZ rfl rfl zMg (by exact zLb rfl)) ?_
 refine zk rfl rfl rfl (fun hg=>zi rfl rfl) ?_
 refine zk rfl rfl rfl (fun hg=>zy (av:=[_, _]) rfl ⟨(by exact if_pos hg), (by exact if_pos hg), trivial⟩ (f41 m (p:Int) ⟨m1, m2⟩ ⟨m3, m4⟩)) ?_
 refine zk rfl rfl rfl (fun hg=>je rfl (if_pos hg)) ?_
 refine zg rfl rfl (qU rfl rfl rfl rfl) ?_
 refine zg rfl rfl (zi rfl rfl) ?_
 refine zk rfl rfl rfl (fun hg=>zi rfl rfl) ?_
 refine zk rfl rfl rfl (fun hg=>zy (av:=[_]) rfl ⟨(by exact if_pos hg), trivial⟩ (f29 lvl)) ?_
 refine zk rfl rfl rfl (fun hg=>je rfl (if_pos hg)) ?_
 refine zg rfl rfl (qU rfl rfl rfl rfl) ?_
 refine zo (zf (zx rfl (fun h0=>?_) (fun h0=>?_)))
 ·
  exfalso; simp [hpo, hf, hlv, hpt] at h0; omega
 ·
  refine zC (zf (zuy (zh ?_)))
  refine zg rfl rfl (zZ rfl rfl zMg (by exact zLb rfl)) ?_
  refine zg rfl rfl (zi rfl rfl) ?_
  refine zg rfl rfl (zi rfl rfl) ?_
  refine zg rfl rfl (zy (av:=[_, _, _]) rfl ⟨rfl, rfl, rfl, trivial⟩ h37) ?_
  refine zg rfl rfl (zq rfl rfl) ?_
  refine zg rfl rfl (zN rfl rfl rfl) ?_
  refine zg rfl rfl (zN rfl rfl rfl) ?_
  refine zg rfl rfl (zn rfl rfl) ?_
  refine zg rfl rfl (zn rfl rfl) ?_
  refine zo (zf (zuy (zuy (zh ?_))))
  refine zg rfl rfl (zi rfl rfl) ?_
  refine zo (zf (zx rfl (fun h1=>?_) (fun h1=>?_)))
  ·
   refine zh ?_
   refine zg rfl rfl (zZ rfl rfl zMg (by exact zLb rfl)) ?_
   refine zg rfl rfl (zi rfl rfl) ?_
   refine zg rfl rfl (zi rfl rfl) ?_
   refine zg rfl rfl (zy (av:=[_, _, _]) rfl ⟨rfl, rfl, rfl, trivial⟩ h38) ?_
   refine zg rfl rfl (zq rfl rfl) ?_
   refine zg rfl rfl (zN rfl rfl rfl) ?_
   refine zg rfl rfl (zN rfl rfl rfl) ?_
   refine zg rfl rfl (zn rfl rfl) ?_
   refine zg rfl rfl (zn rfl rfl) ?_
   refine zo (zf (zuy (zh ?_)))
   refine zg rfl rfl (zZ rfl rfl zMg (by exact zLb rfl)) ?_
   refine zg rfl rfl (zi rfl rfl) ?_
   refine zg rfl rfl (zi rfl rfl) ?_
   refine zg rfl rfl (zi rfl rfl) ?_
   refine zg rfl rfl (zy (av:=[_, _, _, _]) rfl ⟨rfl, rfl, rfl, rfl, trivial⟩ h39) ?_
   refine zg rfl rfl (zq rfl rfl) ?_
   refine zg rfl rfl (zN rfl rfl rfl) ?_
   refine zg rfl rfl (zN rfl rfl rfl) ?_
   refine vI  rfl rfl rfl rfl rfl rfl rfl zNn zHQ rfl (by rfl) (zY rfl) rfl ?_
   refine zg rfl rfl (zn rfl rfl) ?_
   refine zo (zf (zuy (zuy (zh ?_))))
   refine zg rfl rfl (zi rfl rfl) ?_
   refine zg rfl rfl (vg rfl rfl rfl) ?_
   refine zg rfl rfl (zi rfl rfl) ?_
   refine zk rfl rfl rfl (fun hg=>zi rfl rfl) ?_
   refine zk rfl rfl rfl (fun hg=>zUB rfl (rfl) rfl) ?_
   refine zg rfl rfl (qU rfl rfl rfl rfl) ?_
   refine zg rfl rfl (zi rfl rfl) ?_
   refine zk rfl rfl rfl (fun hg=>zi rfl rfl) ?_
   refine zk rfl rfl rfl (fun hg=>qR rfl (rfl) rfl) ?_
   refine zg rfl rfl (qU rfl rfl rfl rfl) ?_
   refine zg rfl rfl (zi rfl rfl) ?_
   refine zk rfl rfl rfl (fun hg=>zi rfl rfl) ?_
   refine zk rfl rfl rfl (fun hg=>qJ rfl (rfl) rfl) ?_
   refine zk rfl rfl rfl (fun hg=>zi rfl rfl) ?_
   refine zk rfl rfl rfl (fun hg=>qJ rfl (rfl) rfl) ?_
   refine zk rfl rfl rfl (fun hg=>zwJ rfl (rfl) (rfl) Tryz.underlying4) ?_
   refine zg rfl rfl (qU rfl rfl rfl rfl) ?_
   refine zg rfl rfl (zi rfl rfl) ?_
   refine zk rfl rfl rfl (fun hg=>zi rfl rfl) ?_
   refine zk rfl rfl rfl (fun hg=>vg rfl (rfl) rfl) ?_
   refine zk rfl rfl rfl (fun hg=>zi rfl (rfl)) ?_
   refine zk rfl rfl rfl (fun hg=>zi rfl rfl) ?_
   refine zk rfl rfl rfl (fun hg=>vg rfl rfl rfl) ?_
   refine zk rfl rfl rfl (fun hg=>qI rfl rfl rfl rfl) ?_
   refine zg rfl rfl (qU rfl rfl rfl rfl) ?_
   refine zo (zf (zx rfl (fun h2=>?_) (fun h2=>?_)))
   ·
    exfalso; cases h2
   ·
    refine zC (zf (zuy (zuy (zh ?_))))
    refine zg rfl rfl (zi rfl rfl) ?_
    refine zg rfl rfl (vg rfl rfl rfl) ?_
    refine zg rfl rfl (zi rfl rfl) ?_
    refine zk rfl rfl rfl (fun hg=>zZ rfl rfl zHQ (by exact zLb rfl)) ?_
    refine zk rfl rfl rfl (fun hg=>zy (av:=[_]) rfl ⟨(rfl), trivial⟩ h26x) ?_
    refine zk rfl rfl rfl (fun hg=>je rfl (rfl)) ?_
    refine zk rfl rfl rfl (fun hg=>zi rfl (rfl)) ?_
    refine zk rfl rfl rfl (fun hg=>zZ rfl rfl zHQ (by exact zLb rfl)) ?_
    refine zk rfl rfl rfl (fun hg=>zy (av:=[_]) rfl ⟨(rfl), trivial⟩ h28x) ?_
    refine zk rfl rfl rfl (fun hg=>je rfl rfl) ?_
    refine zk rfl rfl rfl (fun hg=>qU rfl rfl rfl rfl) ?_
    refine zk rfl rfl rfl (fun hg=>zi rfl (rfl)) ?_
    refine zk rfl rfl rfl (fun hg=>zZ rfl rfl zMg (by exact zLb rfl)) ?_
    refine zk rfl rfl rfl (fun hg=>zZ rfl rfl zHQ (by exact zLb rfl)) ?_
    refine zk rfl rfl rfl (fun hg=>zy (av:=[_, _]) rfl ⟨(rfl), (rfl), trivial⟩ h45x) ?_
    refine zk rfl rfl rfl (fun hg=>je rfl rfl) ?_
    refine zk rfl rfl rfl (fun hg=>qU rfl rfl rfl rfl) ?_
    refine zk rfl rfl rfl (fun hg=>zi rfl (rfl)) ?_
    refine zk rfl rfl rfl (fun hg=>zZ rfl rfl zHQ (by exact zLb rfl)) ?_
    refine zk rfl rfl rfl (fun hg=>zi rfl rfl) ?_
    refine zk rfl rfl rfl (fun hg=>zi rfl rfl) ?_
    refine zk rfl rfl rfl (fun hg=>zi rfl rfl) ?_
    refine zk rfl rfl rfl (fun hg=>zy (av:=[_, _, _, _]) rfl ⟨(rfl), (rfl), (rfl), (rfl), trivial⟩ h46x) ?_
    refine zk rfl rfl rfl (fun hg=>je rfl rfl) ?_
    refine zk rfl rfl rfl (fun hg=>qU rfl rfl rfl rfl) ?_
    refine zg rfl rfl (qI rfl rfl rfl rfl) ?_
    refine zo (zf (zx rfl (fun h3=>?_) (fun h3=>?_)))
    ·
     exfalso; cases h3
    ·
     refine zC (zf (zuy (zuy (zh ?_))))
     refine zg rfl rfl (zZ rfl rfl zMg (by exact zLb rfl)) ?_
     refine zg rfl rfl (zZ rfl rfl zHQ (by exact zLb rfl)) ?_
     refine zg rfl rfl (zy (av:=[_, _]) rfl ⟨rfl, rfl, trivial⟩ h45f) ?_
     refine zg rfl rfl (je rfl rfl) ?_
     refine zo (zf (zx rfl (fun h4=>?_) (fun h4=>?_)))
     ·
      refine zuy (zh ?_)
      refine zg rfl rfl (zy (av:=[]) rfl trivial hkn) ?_
      refine zg rfl rfl (zn rfl rfl) ?_
      refine zo (zf (zP (zQ ?_)))
      exact ⟨.inr rfl, AVle.refl _⟩
     ·
      have hF:=zUR.1 (show zUE m f = true by simpa using h4)
      have hlf:f.vals.length = npt m:=by have:=hF.len; omega
      have hcf:zV2 f lvl true p = true:=zXW hm hF hf hlf hp hwx
      refine zC (zf (zuy (zh ?_)))
      refine zg rfl rfl (zZ rfl rfl zHQ (by exact zLb rfl)) ?_
      refine zg rfl rfl (zi rfl rfl) ?_
      refine zg rfl rfl (zi rfl rfl) ?_
      refine zg rfl rfl (zi rfl rfl) ?_
      refine zg rfl rfl (zy (av:=[_, _, _, _]) rfl ⟨rfl, rfl, rfl, rfl, trivial⟩ (f46 f p lvl true hf (by omega) (by omega))) ?_
      refine zg rfl rfl (zn rfl rfl) ?_
      refine zo (zf (zuy (zuy (zh ?_))))
      refine zg rfl rfl (zi rfl rfl) ?_
      refine zg rfl rfl (zi rfl rfl) ?_
      refine zk rfl rfl rfl (fun hg=>zi rfl rfl) ?_
      refine zk rfl rfl rfl (fun hg=>qJ rfl (if_pos hg) rfl) ?_
      refine zg rfl rfl (qI rfl rfl rfl rfl) ?_
      refine zg rfl rfl (zi rfl rfl) ?_
      refine zk rfl rfl rfl (fun hg=>zi rfl rfl) ?_
      refine zk rfl rfl rfl (fun hg=>je rfl (if_pos hg)) ?_
      refine zk rfl rfl rfl (fun hg=>zi rfl (if_pos hg)) ?_
      refine zk rfl (jH rfl rfl rfl) rfl (fun hg=>zi rfl rfl) ?_
      refine zk rfl (jH rfl rfl rfl) rfl (fun hg=>qJ rfl (if_pos hg) rfl) ?_
      refine zk rfl rfl rfl (fun hg=>qI rfl (if_pos hg) (zha hg) rfl) ?_
      refine zg rfl rfl (qU rfl rfl rfl rfl) ?_
      refine zo (zf (zx rfl (fun h5=>?_) (fun h5=>?_)))
      ·
       exfalso; rw [hcf] at h5; cases h5
      ·
       refine zC (zf (zuy (zuy (zh ?_))))
       refine zg rfl rfl (zi rfl rfl) ?_
       refine zg rfl rfl (qJ rfl rfl rfl) ?_
       refine zg rfl rfl (zi rfl rfl) ?_
       refine zk rfl rfl rfl (fun hg=>zu rfl rfl zHx) ?_
       refine zk rfl rfl rfl (fun hg=>zA rfl (rfl) rfl zHR) ?_
       refine zk rfl rfl rfl (fun hg=>zi rfl rfl) ?_
       refine zk rfl rfl rfl (fun hg=>zVZ rfl rfl rfl zIz (by omega) (zV1 (by omega)) jC) ?_
       refine zk rfl rfl rfl (fun hg=>zA rfl (rfl) rfl ty3) ?_
       refine zk rfl rfl rfl (fun hg=>zi rfl rfl) ?_
       refine zk rfl rfl rfl (fun hg=>zbe rfl (rfl) (rfl)) ?_
       refine zk rfl rfl rfl (fun hg=>zi rfl rfl) ?_
       refine zk rfl rfl rfl (fun hg=>zwJ rfl (rfl) (rfl) Tryz.underlying4) ?_
       refine zg rfl rfl (qU rfl rfl rfl rfl) ?_
       refine zo (zf (zx rfl (fun h6=>?_) (fun h6=>?_)))
       ·
        refine zuy (zh ?_)
        refine zg rfl rfl (zy (av:=[]) rfl trivial hkn) ?_
        refine zg rfl rfl (zn rfl rfl) ?_
        refine zo (zf (zP (zQ ?_)))
        exact ⟨.inr rfl, AVle.refl _⟩
       ·
        have hsp:inS f.vals lvl true p = true:=by unfold inS; simpa using h6
        have hxt:=zXD hm hF hf hlf hp hsp
        refine zC (zf (zuy (zuy (zh ?_))))
        refine zg rfl rfl (zn rfl rfl) ?_
        refine zo (zf (zB ?_))
        refine qy (ι:={ k:Nat // k <= f.vals.length }) (fun k=>⟨Tryz.f8.ntmps, frL [(3, B true), (9, .pub (.ptr (zHF f))), (13, .pub (.ptr (zHF ⟨m.wide, shL m p lvl true⟩))), (16, I (k.1:Int))], []⟩) (fun k=>f.vals.length - k.1) (⟨0, by simp⟩) ?_ ?_
        ·
         exact zt _ ⟨rfl, rfl, rfl, rfl, trivial⟩ (rfl)
        ·
         rintro ⟨k, hk⟩
         dsimp only
         refine zuy (zuy (zh ?_))
         refine zg rfl rfl (zi rfl rfl) ?_
         refine zg rfl rfl (zu rfl rfl zHx) ?_
         refine zg rfl rfl (zA rfl rfl rfl zHR) ?_
         refine zg rfl rfl (qh rfl rfl rfl Tryz.underlying27) ?_
         refine zg rfl rfl (zUB rfl rfl rfl) ?_
         refine zo (zf (zx rfl (fun h7=>?_) (fun h7=>?_)))
         ·
          have hlt:k < f.vals.length:=by simpa using h7
          have hxk:=hxt k (by omega)
          dsimp only at hxk
          rw [← zWA (m:=m) (p:=p) (lvl:=lvl) (hi:=true) (i:=k) (by omega)] at hxk
          refine zC (zf (zuy (zB (zuy ?_))))
          refine qY mixed (by kernel_rfl) rfl ?_
          refine zH rfl (zi rfl rfl) ?_
          refine zH rfl (zi rfl rfl) ?_
          refine jm rfl (fun hg=>zu rfl rfl zHx) ?_
          refine jm rfl (fun hg=>zA rfl (rfl) rfl zHR) ?_
          refine jm rfl (fun hg=>zi rfl rfl) ?_
          refine jm rfl (fun hg=>zVZ rfl rfl rfl zIz (by omega) (zV1 (by omega)) jC) ?_
          refine jm rfl (fun hg=>zA rfl (rfl) rfl ty3) ?_
          refine jm rfl (fun hg=>zu rfl rfl zHx) ?_
          refine jm rfl (fun hg=>zA rfl (rfl) rfl zHR) ?_
          refine jm rfl (fun hg=>zi rfl rfl) ?_
          refine jm rfl (fun hg=>zVZ rfl rfl rfl zIz (by omega) (zV1 (l:=shL m p lvl true) (k:=k) (by omega)) jC) ?_
          refine jm rfl (fun hg=>zA rfl (rfl) rfl ty3) ?_
          refine jm rfl (fun hg=>zUB rfl (rfl) (rfl)) ?_
          refine zH rfl (qI rfl rfl rfl rfl) ?_
          refine zH rfl (zi rfl rfl) ?_
          refine jm rfl (fun hg=>zi rfl rfl) ?_
          refine jm rfl (fun hg=>je rfl (if_pos hg)) ?_
          refine jm rfl (fun hg=>zi rfl (if_pos hg)) ?_
          refine jm (jH rfl rfl rfl) (fun hg=>zu rfl rfl zHx) ?_
          refine jm (jH rfl rfl rfl) (fun hg=>zA rfl (if_pos hg) rfl zHR) ?_
          refine jm (jH rfl rfl rfl) (fun hg=>zi rfl rfl) ?_
          refine jm (jH rfl rfl rfl) (fun hg=>zVZ rfl (ifp hg) (ifp hg) zIz (by omega) (zV1 (l:=f.vals) (k:=k) (by omega)) jC) ?_
          refine jm (jH rfl rfl rfl) (fun hg=>zA rfl (if_pos hg) rfl ty3) ?_
          refine jm (jH rfl rfl rfl) (fun hg=>zu rfl rfl zHx) ?_
          refine jm (jH rfl rfl rfl) (fun hg=>zA rfl (if_pos hg) rfl zHR) ?_
          refine jm (jH rfl rfl rfl) (fun hg=>zi rfl rfl) ?_
          refine jm (jH rfl rfl rfl) (fun hg=>zVZ rfl (ifp hg) (ifp hg) zIz (by omega) (zV1 (l:=shL m p lvl true) (k:=k) (by omega)) jC) ?_
          refine jm (jH rfl rfl rfl) (fun hg=>zA rfl (if_pos hg) rfl ty3) ?_
          refine jm (jH rfl rfl rfl) (fun hg=>qR rfl (if_pos hg) (if_pos hg)) ?_
          refine jm rfl (fun hg=>qI rfl (if_pos hg) (zha hg) rfl) ?_
          refine zH rfl (qU rfl rfl rfl rfl) ?_
          refine jw (zf (zx rfl (fun h8=>?_) (fun h8=>?_)))
          ·
           exfalso; simp only[Bool.true_and, Bool.not_true, Bool.false_and, Bool.or_false, Bool.and_false, decide_eq_true_eq, Bool.not_false, Bool.false_or, cond_true, cond_false, Int.toNat_natCast] at h8; omega
          ·
           refine zC (zD (zf (zh ?_)))
           refine zg rfl rfl (zi rfl rfl) ?_
           refine zg rfl rfl (zV rfl rfl rfl ⟨(by omega), (by omega)⟩) ?_
           refine zg rfl rfl (zn rfl rfl) ?_
           refine zo ?_
           exact ⟨⟨k + 1, by omega⟩, by dsimp only; omega, zt _ ⟨rfl, rfl, rfl, rfl, trivial⟩ (rfl)⟩
         ·
          have hge:f.vals.length <= k:=by simpa using h7
          refine qp (zRQ (zRQ (qw (zf (zuy (zh ?_))))))
          refine zg rfl rfl (zy (av:=[]) rfl trivial hkn) ?_
          refine zg rfl rfl (zn rfl rfl) ?_
          refine zo (zf (zP ?_))
          exact ⟨.inr rfl, AVle.refl _⟩
  ·
   exfalso; cases h1
theorem zXp (hkn:KN GT) (m:Mp) (p:Nat) (lvl:Int) (f:Fld) (hpo:zWl m = true) (hm:okM m) (hc:zH5 m = none) (hl:f.vals.length <= 40) (hf:zHz f = true) (hp:p < npt m) (hv:1 <= lvl /\ lvl <= 99999) (hlv:inB lvl 1 99999 = true) (hpt:inB (p:Int) 0 (m.wide * m.rows - 1) = true) (hwd:wdP m p lvl false = 1) (his:isP m p lvl false = false):ACall Tryz.prog GT 8 [.agg (eMp m), ei (p:Int), ei lvl, .v (.bool false), .agg (zHF f)] (.v (.bool true)):=by
 have ho:=hm
 obtain ⟨m1, m2, m3, m4, m5, m6, m7, m8⟩:=ho
 have hn:=zJF hm
 have h37:=zWw (G:=GT) m p lvl hm hc hp hv
 have h38:=zWn (G:=GT) m p lvl hm hc hp hv
 have h39:=zWo (G:=GT) m p lvl false hm hc hp hv
 rw [show xP m p lvl false = zVY from by unfold xP; rw [his]; rfl, show gP m p lvl false = 5 from by unfold gP; rw [his]; rfl] at h39
 rw [hwd] at h37
 have h45f:=f45 (G:=GT) m f hm hf (by omega)
 generalize wdP m p lvl true = wd0 at h38
 refine zS Tryz.func8 rfl (by kernel_rfl) rfl ?_
 refine zuy (zh ?_)
 refine zg rfl rfl (jf rfl (zY rfl)) ?_
 refine zg rfl rfl (jf rfl (zY rfl)) ?_
 refine zg rfl rfl (zn rfl rfl) ?_
 refine zo (zf (zuy (zuy (zh ?_))))
 refine zg rfl rfl (zZ rfl rfl zMg (by exact zLb rfl)) ?_
 refine zg rfl rfl (zy (av:=[_]) rfl ⟨rfl, trivial⟩ (f44 m)) ?_
 refine zg rfl rfl (je rfl rfl) ?_
 refine zg rfl rfl (zi rfl rfl) ?_
 refine zk rfl rfl rfl (fun hg=>zZ rfl rfl zHQ (by exact zLb rfl)) ?_
 refine zk rfl rfl rfl (fun hg=>zy (av:=[_]) rfl ⟨(by exact if_pos hg), trivial⟩ (f26 f)) ?_
 refine zk rfl rfl rfl (fun hg=>je rfl (if_pos hg)) ?_
 refine zg rfl rfl (qU rfl rfl rfl rfl) ?_
 refine zg rfl rfl (zi rfl rfl) ?_
 refine zk rfl rfl rfl (fun hg=>zZ rfl rfl zHQ (by exact zLb rfl)) ?_
 refine zk rfl rfl rfl (fun hg=>zy (av:=[_]) rfl ⟨(by exact if_pos hg), trivial⟩ (f28 f (by omega))) ?_
 refine zk rfl rfl rfl (fun hg=>je rfl (if_pos hg)) ?_
 refine zg rfl rfl (qU rfl rfl rfl rfl) ?_
 refine zg rfl rfl (zi rfl rfl) ?_
 refine zk rfl rfl rfl (fun hg=>zZ rfl rfl zMg (by exact zLb rfl)) ?_
 refine zk rfl rfl rfl (fun hg=>zi rfl rfl) ?_
 refine zk rfl rfl rfl (fun hg=>zy (av:=[_, _]) rfl ⟨(by exact if_pos hg), (by exact if_pos hg), trivial⟩ (f41 m (p:Int) ⟨m1, m2⟩ ⟨m3, m4⟩)) ?_
 refine zk rfl rfl rfl (fun hg=>je rfl (if_pos hg)) ?_
 refine zg rfl rfl (qU rfl rfl rfl rfl) ?_
 refine zg rfl rfl (zi rfl rfl) ?_
 refine zk rfl rfl rfl (fun hg=>zi rfl rfl) ?_
 refine zk rfl rfl rfl (fun hg=>zy (av:=[_]) rfl ⟨(by exact if_pos hg), trivial⟩ (f29 lvl)) ?_
 refine zk rfl rfl rfl (fun hg=>je rfl (if_pos hg)) ?_
 refine zg rfl rfl (qU rfl rfl rfl rfl) ?_
 refine zo (zf (zx rfl (fun h0=>?_) (fun h0=>?_)))
 ·
  exfalso; simp [hpo, hf, hlv, hpt] at h0; omega
 ·
  refine zC (zf (zuy (zh ?_)))
  refine zg rfl rfl (zZ rfl rfl zMg (by exact zLb rfl)) ?_
  refine zg rfl rfl (zi rfl rfl) ?_
  refine zg rfl rfl (zi rfl rfl) ?_
  refine zg rfl rfl (zy (av:=[_, _, _]) rfl ⟨rfl, rfl, rfl, trivial⟩ h37) ?_
  refine zg rfl rfl (zq rfl rfl) ?_
  refine zg rfl rfl (zN rfl rfl rfl) ?_
  refine zg rfl rfl (zN rfl rfl rfl) ?_
  refine zg rfl rfl (zn rfl rfl) ?_
  refine zg rfl rfl (zn rfl rfl) ?_
  refine zo (zf (zuy (zuy (zh ?_))))
  refine zg rfl rfl (zi rfl rfl) ?_
  refine zo (zf (zx rfl (fun h1=>?_) (fun h1=>?_)))
  ·
   exfalso; cases h1
  ·
   refine zC (zf (zuy (zh ?_)))
   refine zg rfl rfl (zZ rfl rfl zMg (by exact zLb rfl)) ?_
   refine zg rfl rfl (zi rfl rfl) ?_
   refine zg rfl rfl (zi rfl rfl) ?_
   refine zg rfl rfl (zi rfl rfl) ?_
   refine zg rfl rfl (zy (av:=[_, _, _, _]) rfl ⟨rfl, rfl, rfl, rfl, trivial⟩ h39) ?_
   refine zg rfl rfl (zq rfl rfl) ?_
   refine zg rfl rfl (zN rfl rfl rfl) ?_
   refine zg rfl rfl (zN rfl rfl rfl) ?_
   refine vI  rfl rfl rfl rfl rfl rfl rfl zNn zHQ rfl (by rfl) (zY rfl) rfl ?_
   refine zg rfl rfl (zn rfl rfl) ?_
   refine zo (zf (zuy (zuy (zh ?_))))
   refine zg rfl rfl (zi rfl rfl) ?_
   refine zg rfl rfl (vg rfl rfl rfl) ?_
   refine zg rfl rfl (zi rfl rfl) ?_
   refine zk rfl rfl rfl (fun hg=>zi rfl rfl) ?_
   refine zk rfl rfl rfl (fun hg=>zUB rfl (rfl) rfl) ?_
   refine zg rfl rfl (qU rfl rfl rfl rfl) ?_
   refine zg rfl rfl (zi rfl rfl) ?_
   refine zk rfl rfl rfl (fun hg=>zi rfl rfl) ?_
   refine zk rfl rfl rfl (fun hg=>qR rfl (rfl) rfl) ?_
   refine zg rfl rfl (qU rfl rfl rfl rfl) ?_
   refine zg rfl rfl (zi rfl rfl) ?_
   refine zk rfl rfl rfl (fun hg=>zi rfl rfl) ?_
   refine zk rfl rfl rfl (fun hg=>qJ rfl (rfl) rfl) ?_
   refine zk rfl rfl rfl (fun hg=>zi rfl rfl) ?_
   refine zk rfl rfl rfl (fun hg=>qJ rfl (rfl) rfl) ?_
   refine zk rfl rfl rfl (fun hg=>zwJ rfl (rfl) (rfl) Tryz.underlying4) ?_
   refine zg rfl rfl (qU rfl rfl rfl rfl) ?_
   refine zg rfl rfl (zi rfl rfl) ?_
   refine zk rfl rfl rfl (fun hg=>zi rfl rfl) ?_
   refine zk rfl rfl rfl (fun hg=>vg rfl (rfl) rfl) ?_
   refine zk rfl rfl rfl (fun hg=>zi rfl (rfl)) ?_
   refine zk rfl rfl rfl (fun hg=>zi rfl rfl) ?_
   refine zk (x:=.pub (.tup [])) rfl rfl rfl (fun hg=>absurd hg (by decide)) ?_
   refine zk rfl rfl rfl (fun hg=>zU rfl rfl (fun h=>absurd h (by decide)) (fun _=>rfl)) ?_
   refine zg rfl rfl (qU rfl rfl rfl rfl) ?_
   refine zo (zf (zx rfl (fun h2=>?_) (fun h2=>?_)))
   ·
    exfalso; cases h2
   ·
    refine zC (zf (zuy (zuy (zh ?_))))
    refine zg rfl rfl (zi rfl rfl) ?_
    refine zg rfl rfl (vg rfl rfl rfl) ?_
    refine zg rfl rfl (zi rfl rfl) ?_
    refine zk rfl rfl rfl (fun hg=>zZ rfl rfl zHQ (by exact zLb rfl)) ?_
    refine zk rfl rfl rfl (fun hg=>zy (av:=[_]) rfl ⟨(by exact if_pos hg), trivial⟩ (f26 zVY)) ?_
    refine zk (x:=.pub (.tup [])) rfl rfl rfl (fun hg=>absurd hg (by decide)) ?_
    refine zk rfl rfl rfl (fun hg=>zq rfl (rfl)) ?_
    refine zk rfl rfl rfl (fun hg=>zZ rfl rfl zHQ (by exact zLb rfl)) ?_
    refine zk (x:=.pub (.tup [])) rfl rfl rfl (fun hg=>absurd hg (by decide)) ?_
    refine zk (x:=.pub (.tup [])) rfl rfl rfl (fun hg=>absurd hg (by decide)) ?_
    refine zk (x:=.pub (.tup [])) rfl rfl rfl (fun hg=>absurd hg (by decide)) ?_
    refine zk rfl rfl rfl (fun hg=>zq rfl (rfl)) ?_
    refine zk rfl rfl rfl (fun hg=>zZ rfl rfl zMg (by exact zLb rfl)) ?_
    refine zk rfl rfl rfl (fun hg=>zZ rfl rfl zHQ (by exact zLb rfl)) ?_
    refine zk (x:=.pub (.tup [])) rfl rfl rfl (fun hg=>absurd hg (by decide)) ?_
    refine zk (x:=.pub (.tup [])) rfl rfl rfl (fun hg=>absurd hg (by decide)) ?_
    refine zk (x:=.pub (.tup [])) rfl rfl rfl (fun hg=>absurd hg (by decide)) ?_
    refine zk rfl rfl rfl (fun hg=>zq rfl (rfl)) ?_
    refine zk rfl rfl rfl (fun hg=>zZ rfl rfl zHQ (by exact zLb rfl)) ?_
    refine zk rfl rfl rfl (fun hg=>zi rfl rfl) ?_
    refine zk rfl rfl rfl (fun hg=>zi rfl rfl) ?_
    refine zk rfl rfl rfl (fun hg=>zi rfl rfl) ?_
    refine zk (x:=.pub (.tup [])) rfl rfl rfl (fun hg=>absurd hg (by decide)) ?_
    refine zk (x:=.pub (.tup [])) rfl rfl rfl (fun hg=>absurd hg (by decide)) ?_
    refine zk (x:=.pub (.tup [])) rfl rfl rfl (fun hg=>absurd hg (by decide)) ?_
    refine zg rfl rfl (zU rfl rfl (fun h=>absurd h (by decide)) (fun _=>rfl)) ?_
    refine zo (zf (zx rfl (fun h3=>?_) (fun h3=>?_)))
    ·
     exfalso; cases h3
    ·
     refine zC (zf (zuy (zuy (zh ?_))))
     refine zg rfl rfl (zZ rfl rfl zMg (by exact zLb rfl)) ?_
     refine zg rfl rfl (zZ rfl rfl zHQ (by exact zLb rfl)) ?_
     refine zg rfl rfl (zy (av:=[_, _]) rfl ⟨rfl, rfl, trivial⟩ h45f) ?_
     refine zg rfl rfl (je rfl rfl) ?_
     refine zo (zf (zx rfl (fun h4=>?_) (fun h4=>?_)))
     ·
      refine zuy (zh ?_)
      refine zg rfl rfl (zy (av:=[]) rfl trivial hkn) ?_
      refine zg rfl rfl (zn rfl rfl) ?_
      refine zo (zf (zP (zQ ?_)))
      exact ⟨.inr rfl, AVle.refl _⟩
     ·
      have hF:=zUR.1 (show zUE m f = true by simpa using h4)
      have hlf:f.vals.length = npt m:=by have:=hF.len; omega
      have hcf:zV2 f lvl false p = false:=by cases hcc:zV2 f lvl false p with
        | false=>rfl
        | true=>have:=zYM hm hF hf hlf hp hcc; rw [his] at this; cases this
      refine zC (zf (zuy (zh ?_)))
      refine zg rfl rfl (zZ rfl rfl zHQ (by exact zLb rfl)) ?_
      refine zg rfl rfl (zi rfl rfl) ?_
      refine zg rfl rfl (zi rfl rfl) ?_
      refine zg rfl rfl (zi rfl rfl) ?_
      refine zg rfl rfl (zy (av:=[_, _, _, _]) rfl ⟨rfl, rfl, rfl, rfl, trivial⟩ (f46 f p lvl false hf (by omega) (by omega))) ?_
      refine zg rfl rfl (zn rfl rfl) ?_
      refine zo (zf (zuy (zuy (zh ?_))))
      refine zg rfl rfl (zi rfl rfl) ?_
      refine zg rfl rfl (zi rfl rfl) ?_
      refine zk rfl rfl rfl (fun hg=>zi rfl rfl) ?_
      refine zk rfl rfl rfl (fun hg=>qJ rfl (if_pos hg) rfl) ?_
      refine zg rfl rfl (qI rfl rfl rfl rfl) ?_
      refine zg rfl rfl (zi rfl rfl) ?_
      refine zk rfl rfl rfl (fun hg=>zi rfl rfl) ?_
      refine zk rfl rfl rfl (fun hg=>je rfl (if_pos hg)) ?_
      refine zk rfl rfl rfl (fun hg=>zi rfl (if_pos hg)) ?_
      refine zk rfl (jH rfl rfl rfl) rfl (fun hg=>zi rfl rfl) ?_
      refine zk rfl (jH rfl rfl rfl) rfl (fun hg=>qJ rfl (if_pos hg) rfl) ?_
      refine zk rfl rfl rfl (fun hg=>qI rfl (if_pos hg) (zha hg) rfl) ?_
      refine zg rfl rfl (qU rfl rfl rfl rfl) ?_
      refine zo (zf (zx rfl (fun h5=>?_) (fun h5=>?_)))
      ·
       exfalso; rw [hcf] at h5; cases h5
      ·
       refine zC (zf (zuy (zuy (zh ?_))))
       refine zg rfl rfl (zi rfl rfl) ?_
       refine zg rfl rfl (qJ rfl rfl rfl) ?_
       refine zg rfl rfl (zi rfl rfl) ?_
       refine zk rfl rfl rfl (fun hg=>zu rfl rfl zHx) ?_
       refine zk (x:=.pub (.tup [])) rfl rfl rfl (fun hg=>absurd hg (by decide)) ?_
       refine zk rfl rfl rfl (fun hg=>zi rfl rfl) ?_
       refine zk (x:=.pub (.tup [])) rfl rfl rfl (fun hg=>absurd hg (by decide)) ?_
       refine zk (x:=.pub (.tup [])) rfl rfl rfl (fun hg=>absurd hg (by decide)) ?_
       refine zk rfl rfl rfl (fun hg=>zi rfl rfl) ?_
       refine zk (x:=.pub (.tup [])) rfl rfl rfl (fun hg=>absurd hg (by decide)) ?_
       refine zk rfl rfl rfl (fun hg=>zi rfl rfl) ?_
       refine zk (x:=.pub (.tup [])) rfl rfl rfl (fun hg=>absurd hg (by decide)) ?_
       refine zg rfl rfl (zU rfl rfl (fun _=>rfl) (fun h=>absurd h (by decide))) ?_
       refine zo (zf (zx rfl (fun h6=>?_) (fun h6=>?_)))
       ·
        refine zuy (zh ?_)
        refine zg rfl rfl (zy (av:=[]) rfl trivial hkn) ?_
        refine zg rfl rfl (zn rfl rfl) ?_
        refine zo (zf (zP (zQ ?_)))
        exact ⟨.inr rfl, AVle.refl _⟩
       ·
        exfalso; cases h6
theorem zXg (hkn:KN GT) (m:Mp) (p:Nat) (lvl:Int) (f:Fld) (hpo:zWl m = true) (hm:okM m) (hc:zH5 m = none) (hl:f.vals.length <= 40) (hf:zHz f = true) (hp:p < npt m) (hv:1 <= lvl /\ lvl <= 99999) (hlv:inB lvl 1 99999 = true) (hpt:inB (p:Int) 0 (m.wide * m.rows - 1) = true) (hwd:wdP m p lvl false = 2) (his:isP m p lvl false = true) (hwx:wX m p lvl false = false):ACall Tryz.prog GT 8 [.agg (eMp m), ei (p:Int), ei lvl, .v (.bool false), .agg (zHF f)] (.v (.bool true)):=by
 have ho:=hm
 obtain ⟨m1, m2, m3, m4, m5, m6, m7, m8⟩:=ho
 have hn:=zJF hm
 have h37:=zWw (G:=GT) m p lvl hm hc hp hv
 have h38:=zWn (G:=GT) m p lvl hm hc hp hv
 have h39:=zWo (G:=GT) m p lvl false hm hc hp hv
 rw [show xP m p lvl false = ⟨m.wide, shL m p lvl false⟩ from by unfold xP; rw [his]; rfl, show gP m p lvl false = 0 from by unfold gP; rw [his]; rfl] at h39
 rw [hwd] at h37
 have h45f:=f45 (G:=GT) m f hm hf (by omega)
 generalize wdP m p lvl true = wd0 at h38
 have hX:=zW6 (lvl:=lvl) (hi:=false) hm hc hp hv (by have h:=his; unfold isP at h; rw [zLa] at h; simpa using h.1)
 have hXl:(shL m p lvl false).length = npt m:=zWk
 have hXc:zV2 ⟨m.wide, shL m p lvl false⟩ lvl false p = true:=by have h:=his; unfold isP at h; rw [zLa, zXq hm hp] at h; exact h.2
 have h26x:=f26 (G:=GT) ⟨m.wide, shL m p lvl false⟩
 have h28x:=f28 (G:=GT) ⟨m.wide, shL m p lvl false⟩ (by show (shL m p lvl false).length <= 1000; omega)
 have h45x:=f45 (G:=GT) m ⟨m.wide, shL m p lvl false⟩ hm hX.2 (by show (shL m p lvl false).length <= 1000; omega)
 have h46x:=f46 (G:=GT) ⟨m.wide, shL m p lvl false⟩ p lvl false hX.2 (by show p < (shL m p lvl false).length; omega) (by show (shL m p lvl false).length <= 1000; omega)
 rw [hX.2] at h28x
 rw [zUR.2 hX.1] at h45x
 rw [hXc] at h46x
 rw [show decide ((((⟨m.wide, shL m p lvl false⟩:Fld).vals.length:Nat):Int) <= 40) = true from decide_eq_true (by show ((shL m p lvl false).length:Int) <= 40; omega)] at h26x
 refine zS Tryz.func8 rfl (by kernel_rfl) rfl ?_
 refine zuy (zh ?_)
 refine zg rfl rfl (jf rfl (zY rfl)) ?_
 refine zg rfl rfl (jf rfl (zY rfl)) ?_
 refine zg rfl rfl (zn rfl rfl) ?_
 refine zo (zf (zuy (zuy (zh ?_))))
 refine zg rfl rfl (zZ rfl rfl zMg (by exact zLb rfl)) ?_
 refine zg rfl rfl (zy (av:=[_]) rfl ⟨rfl, trivial⟩ (f44 m)) ?_
 refine zg rfl rfl (je rfl rfl) ?_
 refine zg rfl rfl (zi rfl rfl) ?_
 refine zk rfl rfl rfl (fun hg=>zZ rfl rfl zHQ (by exact zLb rfl)) ?_
 refine zk rfl rfl rfl (fun hg=>zy (av:=[_]) rfl ⟨(by exact if_pos hg), trivial⟩ (f26 f)) ?_
 refine zk rfl rfl rfl (fun hg=>je rfl (if_pos hg)) ?_
 refine zg rfl rfl (qU rfl rfl rfl rfl) ?_
 refine zg rfl rfl (zi rfl rfl) ?_
 refine zk rfl rfl rfl (fun hg=>zZ rfl rfl zHQ (by exact zLb rfl)) ?_
 refine zk rfl rfl rfl (fun hg=>zy (av:=[_]) rfl ⟨(by exact if_pos hg), trivial⟩ (f28 f (by omega))) ?_
 refine zk rfl rfl rfl (fun hg=>je rfl (if_pos hg)) ?_
 refine zg rfl rfl (qU rfl rfl rfl rfl) ?_
 refine zg rfl rfl (zi rfl rfl) ?_
 refine zk rfl rfl rfl (fun hg=>zZ rfl rfl zMg (by exact zLb rfl)) ?_
 refine zk rfl rfl rfl (fun hg=>zi rfl rfl) ?_
 refine zk rfl rfl rfl (fun hg=>zy (av:=[_, _]) rfl ⟨(by exact if_pos hg), (by exact if_pos hg), trivial⟩ (f41 m (p:Int) ⟨m1, m2⟩ ⟨m3, m4⟩)) ?_
 refine zk rfl rfl rfl (fun hg=>je rfl (if_pos hg)) ?_
 refine zg rfl rfl (qU rfl rfl rfl rfl) ?_
 refine zg rfl rfl (zi rfl rfl) ?_
 refine zk rfl rfl rfl (fun hg=>zi rfl rfl) ?_
 refine zk rfl rfl rfl (fun hg=>zy (av:=[_]) rfl ⟨(by exact if_pos hg), trivial⟩ (f29 lvl)) ?_
 refine zk rfl rfl rfl (fun hg=>je rfl (if_pos hg)) ?_
 refine zg rfl rfl (qU rfl rfl rfl rfl) ?_
 refine zo (zf (zx rfl (fun h0=>?_) (fun h0=>?_)))
 ·
  exfalso; simp [hpo, hf, hlv, hpt] at h0; omega
 ·
  refine zC (zf (zuy (zh ?_)))
  refine zg rfl rfl (zZ rfl rfl zMg (by exact zLb rfl)) ?_
  refine zg rfl rfl (zi rfl rfl) ?_
  refine zg rfl rfl (zi rfl rfl) ?_
  refine zg rfl rfl (zy (av:=[_, _, _]) rfl ⟨rfl, rfl, rfl, trivial⟩ h37) ?_
  refine zg rfl rfl (zq rfl rfl) ?_
  refine zg rfl rfl (zN rfl rfl rfl) ?_
  refine zg rfl rfl (zN rfl rfl rfl) ?_
  refine zg rfl rfl (zn rfl rfl) ?_
  refine zg rfl rfl (zn rfl rfl) ?_
  refine zo (zf (zuy (zuy (zh ?_))))
  refine zg rfl rfl (zi rfl rfl) ?_
  refine zo (zf (zx rfl (fun h1=>?_) (fun h1=>?_)))
  ·
   exfalso; cases h1
  ·
   refine zC (zf (zuy (zh ?_)))
   refine zg rfl rfl (zZ rfl rfl zMg (by exact zLb rfl)) ?_
   refine zg rfl rfl (zi rfl rfl) ?_
   refine zg rfl rfl (zi rfl rfl) ?_
   refine zg rfl rfl (zi rfl rfl) ?_
   refine zg rfl rfl (zy (av:=[_, _, _, _]) rfl ⟨rfl, rfl, rfl, rfl, trivial⟩ h39) ?_
   refine zg rfl rfl (zq rfl rfl) ?_
   refine zg rfl rfl (zN rfl rfl rfl) ?_
   refine zg rfl rfl (zN rfl rfl rfl) ?_
   refine vI  rfl rfl rfl rfl rfl rfl rfl zNn zHQ rfl (by rfl) (zY rfl) rfl ?_
   refine zg rfl rfl (zn rfl rfl) ?_
   refine zo (zf (zuy (zuy (zh ?_))))
   refine zg rfl rfl (zi rfl rfl) ?_
   refine zg rfl rfl (vg rfl rfl rfl) ?_
   refine zg rfl rfl (zi rfl rfl) ?_
   refine zk rfl rfl rfl (fun hg=>zi rfl rfl) ?_
   refine zk rfl rfl rfl (fun hg=>zUB rfl (rfl) rfl) ?_
   refine zg rfl rfl (qU rfl rfl rfl rfl) ?_
   refine zg rfl rfl (zi rfl rfl) ?_
   refine zk rfl rfl rfl (fun hg=>zi rfl rfl) ?_
   refine zk rfl rfl rfl (fun hg=>qR rfl (rfl) rfl) ?_
   refine zg rfl rfl (qU rfl rfl rfl rfl) ?_
   refine zg rfl rfl (zi rfl rfl) ?_
   refine zk rfl rfl rfl (fun hg=>zi rfl rfl) ?_
   refine zk rfl rfl rfl (fun hg=>qJ rfl (rfl) rfl) ?_
   refine zk rfl rfl rfl (fun hg=>zi rfl rfl) ?_
   refine zk rfl rfl rfl (fun hg=>qJ rfl (rfl) rfl) ?_
   refine zk rfl rfl rfl (fun hg=>zwJ rfl (rfl) (rfl) Tryz.underlying4) ?_
   refine zg rfl rfl (qU rfl rfl rfl rfl) ?_
   refine zg rfl rfl (zi rfl rfl) ?_
   refine zk rfl rfl rfl (fun hg=>zi rfl rfl) ?_
   refine zk rfl rfl rfl (fun hg=>vg rfl (rfl) rfl) ?_
   refine zk rfl rfl rfl (fun hg=>zi rfl (rfl)) ?_
   refine zk rfl rfl rfl (fun hg=>zi rfl rfl) ?_
   refine zk rfl rfl rfl (fun hg=>vg rfl rfl rfl) ?_
   refine zk rfl rfl rfl (fun hg=>qI rfl rfl rfl rfl) ?_
   refine zg rfl rfl (qU rfl rfl rfl rfl) ?_
   refine zo (zf (zx rfl (fun h2=>?_) (fun h2=>?_)))
   ·
    exfalso; cases h2
   ·
    refine zC (zf (zuy (zuy (zh ?_))))
    refine zg rfl rfl (zi rfl rfl) ?_
    refine zg rfl rfl (vg rfl rfl rfl) ?_
    refine zg rfl rfl (zi rfl rfl) ?_
    refine zk rfl rfl rfl (fun hg=>zZ rfl rfl zHQ (by exact zLb rfl)) ?_
    refine zk rfl rfl rfl (fun hg=>zy (av:=[_]) rfl ⟨(rfl), trivial⟩ h26x) ?_
    refine zk rfl rfl rfl (fun hg=>je rfl (rfl)) ?_
    refine zk rfl rfl rfl (fun hg=>zi rfl (rfl)) ?_
    refine zk rfl rfl rfl (fun hg=>zZ rfl rfl zHQ (by exact zLb rfl)) ?_
    refine zk rfl rfl rfl (fun hg=>zy (av:=[_]) rfl ⟨(rfl), trivial⟩ h28x) ?_
    refine zk rfl rfl rfl (fun hg=>je rfl rfl) ?_
    refine zk rfl rfl rfl (fun hg=>qU rfl rfl rfl rfl) ?_
    refine zk rfl rfl rfl (fun hg=>zi rfl (rfl)) ?_
    refine zk rfl rfl rfl (fun hg=>zZ rfl rfl zMg (by exact zLb rfl)) ?_
    refine zk rfl rfl rfl (fun hg=>zZ rfl rfl zHQ (by exact zLb rfl)) ?_
    refine zk rfl rfl rfl (fun hg=>zy (av:=[_, _]) rfl ⟨(rfl), (rfl), trivial⟩ h45x) ?_
    refine zk rfl rfl rfl (fun hg=>je rfl rfl) ?_
    refine zk rfl rfl rfl (fun hg=>qU rfl rfl rfl rfl) ?_
    refine zk rfl rfl rfl (fun hg=>zi rfl (rfl)) ?_
    refine zk rfl rfl rfl (fun hg=>zZ rfl rfl zHQ (by exact zLb rfl)) ?_
    refine zk rfl rfl rfl (fun hg=>zi rfl rfl) ?_
    refine zk rfl rfl rfl (fun hg=>zi rfl rfl) ?_
    refine zk rfl rfl rfl (fun hg=>zi rfl rfl) ?_
    refine zk rfl rfl rfl (fun hg=>zy (av:=[_, _, _, _]) rfl ⟨(rfl), (rfl), (rfl), (rfl), trivial⟩ h46x) ?_
    refine zk rfl rfl rfl (fun hg=>je rfl rfl) ?_
    refine zk rfl rfl rfl (fun hg=>qU rfl rfl rfl rfl) ?_
    refine zg rfl rfl (qI rfl rfl rfl rfl) ?_
    refine zo (zf (zx rfl (fun h3=>?_) (fun h3=>?_)))
    ·
     exfalso; cases h3
    ·
     refine zC (zf (zuy (zuy (zh ?_))))
     refine zg rfl rfl (zZ rfl rfl zMg (by exact zLb rfl)) ?_
     refine zg rfl rfl (zZ rfl rfl zHQ (by exact zLb rfl)) ?_
     refine zg rfl rfl (zy (av:=[_, _]) rfl ⟨rfl, rfl, trivial⟩ h45f) ?_
     refine zg rfl rfl (je rfl rfl) ?_
     refine zo (zf (zx rfl (fun h4=>?_) (fun h4=>?_)))
     ·
      refine zuy (zh ?_)
      refine zg rfl rfl (zy (av:=[]) rfl trivial hkn) ?_
      refine zg rfl rfl (zn rfl rfl) ?_
      refine zo (zf (zP (zQ ?_)))
      exact ⟨.inr rfl, AVle.refl _⟩
     ·
      have hF:=zUR.1 (show zUE m f = true by simpa using h4)
      have hlf:f.vals.length = npt m:=by have:=hF.len; omega
      refine zC (zf (zuy (zh ?_)))
      refine zg rfl rfl (zZ rfl rfl zHQ (by exact zLb rfl)) ?_
      refine zg rfl rfl (zi rfl rfl) ?_
      refine zg rfl rfl (zi rfl rfl) ?_
      refine zg rfl rfl (zi rfl rfl) ?_
      refine zg rfl rfl (zy (av:=[_, _, _, _]) rfl ⟨rfl, rfl, rfl, rfl, trivial⟩ (f46 f p lvl false hf (by omega) (by omega))) ?_
      refine zg rfl rfl (zn rfl rfl) ?_
      refine zo (zf (zuy (zuy (zh ?_))))
      refine zg rfl rfl (zi rfl rfl) ?_
      refine zg rfl rfl (zi rfl rfl) ?_
      refine zk rfl rfl rfl (fun hg=>zi rfl rfl) ?_
      refine zk rfl rfl rfl (fun hg=>qJ rfl (if_pos hg) rfl) ?_
      refine zg rfl rfl (qI rfl rfl rfl rfl) ?_
      refine zg rfl rfl (zi rfl rfl) ?_
      refine zk rfl rfl rfl (fun hg=>zi rfl rfl) ?_
      refine zk rfl rfl rfl (fun hg=>je rfl (if_pos hg)) ?_
      refine zk rfl rfl rfl (fun hg=>zi rfl (if_pos hg)) ?_
      refine zk rfl (jH rfl rfl rfl) rfl (fun hg=>zi rfl rfl) ?_
      refine zk rfl (jH rfl rfl rfl) rfl (fun hg=>qJ rfl (if_pos hg) rfl) ?_
      refine zk rfl rfl rfl (fun hg=>qI rfl (if_pos hg) (zha hg) rfl) ?_
      refine zg rfl rfl (qU rfl rfl rfl rfl) ?_
      refine zo (zf (zx rfl (fun h5=>?_) (fun h5=>?_)))
      ·
       exfalso; cases hcc:zV2 f lvl false p <;> rw [hcc] at h5 <;> cases h5
      ·
       refine zC (zf (zuy (zuy (zh ?_))))
       refine zg rfl rfl (zi rfl rfl) ?_
       refine zg rfl rfl (qJ rfl rfl rfl) ?_
       refine zg rfl rfl (zi rfl rfl) ?_
       refine zk rfl rfl rfl (fun hg=>zu rfl rfl zHx) ?_
       refine zk rfl rfl rfl (fun hg=>zA rfl (rfl) rfl zHR) ?_
       refine zk rfl rfl rfl (fun hg=>zi rfl rfl) ?_
       refine zk rfl rfl rfl (fun hg=>zVZ rfl rfl rfl zIz (by omega) (zV1 (by omega)) jC) ?_
       refine zk rfl rfl rfl (fun hg=>zA rfl (rfl) rfl ty3) ?_
       refine zk rfl rfl rfl (fun hg=>zi rfl rfl) ?_
       refine zk rfl rfl rfl (fun hg=>zbe rfl (rfl) (rfl)) ?_
       refine zk rfl rfl rfl (fun hg=>zi rfl rfl) ?_
       refine zk rfl rfl rfl (fun hg=>zwJ rfl (rfl) (rfl) Tryz.underlying4) ?_
       refine zg rfl rfl (qU rfl rfl rfl rfl) ?_
       refine zo (zf (zx rfl (fun h6=>?_) (fun h6=>?_)))
       ·
        refine zuy (zh ?_)
        refine zg rfl rfl (zy (av:=[]) rfl trivial hkn) ?_
        refine zg rfl rfl (zn rfl rfl) ?_
        refine zo (zf (zP (zQ ?_)))
        exact ⟨.inr rfl, AVle.refl _⟩
       ·
        have hsp:inS f.vals lvl false p = true:=by unfold inS; simpa using h6
        have hxt:=zXD hm hF hf hlf hp hsp
        refine zC (zf (zuy (zuy (zh ?_))))
        refine zg rfl rfl (zn rfl rfl) ?_
        refine zo (zf (zB ?_))
        refine qy (ι:={ k:Nat // k <= f.vals.length }) (fun k=>⟨Tryz.f8.ntmps, frL [(3, B false), (9, .pub (.ptr (zHF f))), (13, .pub (.ptr (zHF ⟨m.wide, shL m p lvl false⟩))), (16, I (k.1:Int))], []⟩) (fun k=>f.vals.length - k.1) (⟨0, by simp⟩) ?_ ?_
        ·
         exact zt _ ⟨rfl, rfl, rfl, rfl, trivial⟩ (rfl)
        ·
         rintro ⟨k, hk⟩
         dsimp only
         refine zuy (zuy (zh ?_))
         refine zg rfl rfl (zi rfl rfl) ?_
         refine zg rfl rfl (zu rfl rfl zHx) ?_
         refine zg rfl rfl (zA rfl rfl rfl zHR) ?_
         refine zg rfl rfl (qh rfl rfl rfl Tryz.underlying27) ?_
         refine zg rfl rfl (zUB rfl rfl rfl) ?_
         refine zo (zf (zx rfl (fun h7=>?_) (fun h7=>?_)))
         ·
          have hlt:k < f.vals.length:=by simpa using h7
          have hxk:=hxt k (by omega)
          dsimp only at hxk
          rw [← zWA (m:=m) (p:=p) (lvl:=lvl) (hi:=false) (i:=k) (by omega)] at hxk
          refine zC (zf (zuy (zB (zuy ?_))))
          refine qY mixed (by kernel_rfl) rfl ?_
          refine zH rfl (zi rfl rfl) ?_
          refine zH rfl (zi rfl rfl) ?_
          refine jm rfl (fun hg=>zu rfl rfl zHx) ?_
          refine jm (x:=.pub (.tup [])) rfl (fun hg=>absurd hg (by decide)) ?_
          refine jm rfl (fun hg=>zi rfl rfl) ?_
          refine jm (x:=.pub (.tup [])) rfl (fun hg=>absurd hg (by decide)) ?_
          refine jm (x:=.pub (.tup [])) rfl (fun hg=>absurd hg (by decide)) ?_
          refine jm rfl (fun hg=>zu rfl rfl zHx) ?_
          refine jm (x:=.pub (.tup [])) rfl (fun hg=>absurd hg (by decide)) ?_
          refine jm rfl (fun hg=>zi rfl rfl) ?_
          refine jm (x:=.pub (.tup [])) rfl (fun hg=>absurd hg (by decide)) ?_
          refine jm (x:=.pub (.tup [])) rfl (fun hg=>absurd hg (by decide)) ?_
          refine jm (x:=.pub (.tup [])) rfl (fun hg=>absurd hg (by decide)) ?_
          refine zH rfl (zU rfl rfl (fun h=>absurd h (by decide)) (fun _=>rfl)) ?_
          refine zH rfl (zi rfl rfl) ?_
          refine jm rfl (fun hg=>zi rfl rfl) ?_
          refine jm rfl (fun hg=>je rfl (rfl)) ?_
          refine jm rfl (fun hg=>zi rfl (rfl)) ?_
          refine jm rfl (fun hg=>zu rfl rfl zHx) ?_
          refine jm rfl (fun hg=>zA rfl rfl rfl zHR) ?_
          refine jm rfl (fun hg=>zi rfl rfl) ?_
          refine jm rfl (fun hg=>zVZ rfl rfl rfl zIz (by omega) (zV1 (by omega)) jC) ?_
          refine jm rfl (fun hg=>zA rfl rfl rfl ty3) ?_
          refine jm rfl (fun hg=>zu rfl rfl zHx) ?_
          refine jm rfl (fun hg=>zA rfl rfl rfl zHR) ?_
          refine jm rfl (fun hg=>zi rfl rfl) ?_
          refine jm rfl (fun hg=>zVZ rfl rfl rfl zIz (by omega) (zV1 (l:=shL m p lvl false) (k:=k) (by omega)) jC) ?_
          refine jm rfl (fun hg=>zA rfl rfl rfl ty3) ?_
          refine jm rfl (fun hg=>qR rfl rfl rfl) ?_
          refine jm rfl (fun hg=>qI rfl rfl rfl rfl) ?_
          refine zH rfl (qU rfl rfl rfl rfl) ?_
          refine jw (zf (zx rfl (fun h8=>?_) (fun h8=>?_)))
          ·
           exfalso; simp only[Bool.true_and, Bool.not_true, Bool.false_and, Bool.or_false, Bool.and_false, decide_eq_true_eq, Bool.not_false, Bool.false_or, cond_true, cond_false, Int.toNat_natCast] at h8; omega
          ·
           refine zC (zD (zf (zh ?_)))
           refine zg rfl rfl (zi rfl rfl) ?_
           refine zg rfl rfl (zV rfl rfl rfl ⟨(by omega), (by omega)⟩) ?_
           refine zg rfl rfl (zn rfl rfl) ?_
           refine zo ?_
           exact ⟨⟨k + 1, by omega⟩, by dsimp only; omega, zt _ ⟨rfl, rfl, rfl, rfl, trivial⟩ (rfl)⟩
         ·
          have hge:f.vals.length <= k:=by simpa using h7
          refine qp (zRQ (zRQ (qw (zf (zuy (zh ?_))))))
          refine zg rfl rfl (zy (av:=[]) rfl trivial hkn) ?_
          refine zg rfl rfl (zn rfl rfl) ?_
          refine zo (zf (zP ?_))
          exact ⟨.inr rfl, AVle.refl _⟩
theorem zWT (hkn:KN GT) (m:Mp) (p:Nat) (lvl:Int) (f:Fld) (hpo:zWl m = true) (hm:okM m) (hc:zH5 m = none) (hl:f.vals.length <= 40) (hf:zHz f = true) (hp:p < npt m) (hv:1 <= lvl /\ lvl <= 99999) (hlv:inB lvl 1 99999 = true) (hpt:inB (p:Int) 0 (m.wide * m.rows - 1) = true) (hwd:wdP m p lvl false = 3) (his:isP m p lvl false = true) (hwx:wX m p lvl false = true):ACall Tryz.prog GT 8 [.agg (eMp m), ei (p:Int), ei lvl, .v (.bool false), .agg (zHF f)] (.v (.bool true)):=by
 have ho:=hm
 obtain ⟨m1, m2, m3, m4, m5, m6, m7, m8⟩:=ho
 have hn:=zJF hm
 have h37:=zWw (G:=GT) m p lvl hm hc hp hv
 have h38:=zWn (G:=GT) m p lvl hm hc hp hv
 have h39:=zWo (G:=GT) m p lvl false hm hc hp hv
 rw [show xP m p lvl false = ⟨m.wide, shL m p lvl false⟩ from by unfold xP; rw [his]; rfl, show gP m p lvl false = 0 from by unfold gP; rw [his]; rfl] at h39
 rw [hwd] at h37
 have h45f:=f45 (G:=GT) m f hm hf (by omega)
 generalize wdP m p lvl true = wd0 at h38
 have hX:=zW6 (lvl:=lvl) (hi:=false) hm hc hp hv (by have h:=his; unfold isP at h; rw [zLa] at h; simpa using h.1)
 have hXl:(shL m p lvl false).length = npt m:=zWk
 have hXc:zV2 ⟨m.wide, shL m p lvl false⟩ lvl false p = true:=by have h:=his; unfold isP at h; rw [zLa, zXq hm hp] at h; exact h.2
 have h26x:=f26 (G:=GT) ⟨m.wide, shL m p lvl false⟩
 have h28x:=f28 (G:=GT) ⟨m.wide, shL m p lvl false⟩ (by show (shL m p lvl false).length <= 1000; omega)
 have h45x:=f45 (G:=GT) m ⟨m.wide, shL m p lvl false⟩ hm hX.2 (by show (shL m p lvl false).length <= 1000; omega)
 have h46x:=f46 (G:=GT) ⟨m.wide, shL m p lvl false⟩ p lvl false hX.2 (by show p < (shL m p lvl false).length; omega) (by show (shL m p lvl false).length <= 1000; omega)
 rw [hX.2] at h28x
 rw [zUR.2 hX.1] at h45x
 rw [hXc] at h46x
 rw [show decide ((((⟨m.wide, shL m p lvl false⟩:Fld).vals.length:Nat):Int) <= 40) = true from decide_eq_true (by show ((shL m p lvl false).length:Int) <= 40; omega)] at h26x
 refine zS Tryz.func8 rfl (by kernel_rfl) rfl ?_
 refine zuy (zh ?_)
 refine zg rfl rfl (jf rfl (zY rfl)) ?_
 refine zg rfl rfl (jf rfl (zY rfl)) ?_
 refine zg rfl rfl (zn rfl rfl) ?_
 refine zo (zf (zuy (zuy (zh ?_))))
 refine zg rfl rfl (zZ rfl rfl zMg (by exact zLb rfl)) ?_
 refine zg rfl rfl (zy (av:=[_]) rfl ⟨rfl, trivial⟩ (f44 m)) ?_
 refine zg rfl rfl (je rfl rfl) ?_
 refine zg rfl rfl (zi rfl rfl) ?_
 refine zk rfl rfl rfl (fun hg=>zZ rfl rfl zHQ (by exact zLb rfl)) ?_
 refine zk rfl rfl rfl (fun hg=>zy (av:=[_]) rfl ⟨(by exact if_pos hg), trivial⟩ (f26 f)) ?_
 refine zk rfl rfl rfl (fun hg=>je rfl (if_pos hg)) ?_
 refine zg rfl rfl (qU rfl rfl rfl rfl) ?_
 refine zg rfl rfl (zi rfl rfl) ?_
 refine zk rfl rfl rfl (fun hg=>zZ rfl rfl zHQ (by exact zLb rfl)) ?_
 refine zk rfl rfl rfl (fun hg=>zy (av:=[_]) rfl ⟨(by exact if_pos hg), trivial⟩ (f28 f (by omega))) ?_
 refine zk rfl rfl rfl (fun hg=>je rfl (if_pos hg)) ?_
 refine zg rfl rfl (qU rfl rfl rfl rfl) ?_
 refine zg rfl rfl (zi rfl rfl) ?_
 refine zk rfl rfl rfl (fun hg=>zZ rfl rfl zMg (by exact zLb rfl)) ?_
 refine zk rfl rfl rfl (fun hg=>zi rfl rfl) ?_
 refine zk rfl rfl rfl (fun hg=>zy (av:=[_, _]) rfl ⟨(by exact if_pos hg), (by exact if_pos hg), trivial⟩ (f41 m (p:Int) ⟨m1, m2⟩ ⟨m3, m4⟩)) ?_
 refine zk rfl rfl rfl (fun hg=>je rfl (if_pos hg)) ?_
 refine zg rfl rfl (qU rfl rfl rfl rfl) ?_
 refine zg rfl rfl (zi rfl rfl) ?_
 refine zk rfl rfl rfl (fun hg=>zi rfl rfl) ?_
 refine zk rfl rfl rfl (fun hg=>zy (av:=[_]) rfl ⟨(by exact if_pos hg), trivial⟩ (f29 lvl)) ?_
 refine zk rfl rfl rfl (fun hg=>je rfl (if_pos hg)) ?_
 refine zg rfl rfl (qU rfl rfl rfl rfl) ?_
 refine zo (zf (zx rfl (fun h0=>?_) (fun h0=>?_)))
 ·
  exfalso; simp [hpo, hf, hlv, hpt] at h0; omega
 ·
  refine zC (zf (zuy (zh ?_)))
  refine zg rfl rfl (zZ rfl rfl zMg (by exact zLb rfl)) ?_
  refine zg rfl rfl (zi rfl rfl) ?_
  refine zg rfl rfl (zi rfl rfl) ?_
  refine zg rfl rfl (zy (av:=[_, _, _]) rfl ⟨rfl, rfl, rfl, trivial⟩ h37) ?_
  refine zg rfl rfl (zq rfl rfl) ?_
  refine zg rfl rfl (zN rfl rfl rfl) ?_
  refine zg rfl rfl (zN rfl rfl rfl) ?_
  refine zg rfl rfl (zn rfl rfl) ?_
  refine zg rfl rfl (zn rfl rfl) ?_
  refine zo (zf (zuy (zuy (zh ?_))))
  refine zg rfl rfl (zi rfl rfl) ?_
  refine zo (zf (zx rfl (fun h1=>?_) (fun h1=>?_)))
  ·
   exfalso; cases h1
  ·
   refine zC (zf (zuy (zh ?_)))
   refine zg rfl rfl (zZ rfl rfl zMg (by exact zLb rfl)) ?_
   refine zg rfl rfl (zi rfl rfl) ?_
   refine zg rfl rfl (zi rfl rfl) ?_
   refine zg rfl rfl (zi rfl rfl) ?_
   refine zg rfl rfl (zy (av:=[_, _, _, _]) rfl ⟨rfl, rfl, rfl, rfl, trivial⟩ h39) ?_
   refine zg rfl rfl (zq rfl rfl) ?_
   refine zg rfl rfl (zN rfl rfl rfl) ?_
   refine zg rfl rfl (zN rfl rfl rfl) ?_
   refine vI  rfl rfl rfl rfl rfl rfl rfl zNn zHQ rfl (by rfl) (zY rfl) rfl ?_
   refine zg rfl rfl (zn rfl rfl) ?_
   refine zo (zf (zuy (zuy (zh ?_))))
   refine zg rfl rfl (zi rfl rfl) ?_
   refine zg rfl rfl (vg rfl rfl rfl) ?_
   refine zg rfl rfl (zi rfl rfl) ?_
   refine zk rfl rfl rfl (fun hg=>zi rfl rfl) ?_
   refine zk rfl rfl rfl (fun hg=>zUB rfl (rfl) rfl) ?_
   refine zg rfl rfl (qU rfl rfl rfl rfl) ?_
   refine zg rfl rfl (zi rfl rfl) ?_
   refine zk rfl rfl rfl (fun hg=>zi rfl rfl) ?_
   refine zk rfl rfl rfl (fun hg=>qR rfl (rfl) rfl) ?_
   refine zg rfl rfl (qU rfl rfl rfl rfl) ?_
   refine zg rfl rfl (zi rfl rfl) ?_
   refine zk rfl rfl rfl (fun hg=>zi rfl rfl) ?_
   refine zk rfl rfl rfl (fun hg=>qJ rfl (rfl) rfl) ?_
   refine zk rfl rfl rfl (fun hg=>zi rfl rfl) ?_
   refine zk rfl rfl rfl (fun hg=>qJ rfl (rfl) rfl) ?_
   refine zk rfl rfl rfl (fun hg=>zwJ rfl (rfl) (rfl) Tryz.underlying4) ?_
   refine zg rfl rfl (qU rfl rfl rfl rfl) ?_
   refine zg rfl rfl (zi rfl rfl) ?_
   refine zk rfl rfl rfl (fun hg=>zi rfl rfl) ?_
   refine zk rfl rfl rfl (fun hg=>vg rfl (rfl) rfl) ?_
   refine zk rfl rfl rfl (fun hg=>zi rfl (rfl)) ?_
   refine zk rfl rfl rfl (fun hg=>zi rfl rfl) ?_
   refine zk rfl rfl rfl (fun hg=>vg rfl rfl rfl) ?_
   refine zk rfl rfl rfl (fun hg=>qI rfl rfl rfl rfl) ?_
   refine zg rfl rfl (qU rfl rfl rfl rfl) ?_
   refine zo (zf (zx rfl (fun h2=>?_) (fun h2=>?_)))
   ·
    exfalso; cases h2
   ·
    refine zC (zf (zuy (zuy (zh ?_))))
    refine zg rfl rfl (zi rfl rfl) ?_
    refine zg rfl rfl (vg rfl rfl rfl) ?_
    refine zg rfl rfl (zi rfl rfl) ?_
    refine zk rfl rfl rfl (fun hg=>zZ rfl rfl zHQ (by exact zLb rfl)) ?_
    refine zk rfl rfl rfl (fun hg=>zy (av:=[_]) rfl ⟨(rfl), trivial⟩ h26x) ?_
    refine zk rfl rfl rfl (fun hg=>je rfl (rfl)) ?_
    refine zk rfl rfl rfl (fun hg=>zi rfl (rfl)) ?_
    refine zk rfl rfl rfl (fun hg=>zZ rfl rfl zHQ (by exact zLb rfl)) ?_
    refine zk rfl rfl rfl (fun hg=>zy (av:=[_]) rfl ⟨(rfl), trivial⟩ h28x) ?_
    refine zk rfl rfl rfl (fun hg=>je rfl rfl) ?_
    refine zk rfl rfl rfl (fun hg=>qU rfl rfl rfl rfl) ?_
    refine zk rfl rfl rfl (fun hg=>zi rfl (rfl)) ?_
    refine zk rfl rfl rfl (fun hg=>zZ rfl rfl zMg (by exact zLb rfl)) ?_
    refine zk rfl rfl rfl (fun hg=>zZ rfl rfl zHQ (by exact zLb rfl)) ?_
    refine zk rfl rfl rfl (fun hg=>zy (av:=[_, _]) rfl ⟨(rfl), (rfl), trivial⟩ h45x) ?_
    refine zk rfl rfl rfl (fun hg=>je rfl rfl) ?_
    refine zk rfl rfl rfl (fun hg=>qU rfl rfl rfl rfl) ?_
    refine zk rfl rfl rfl (fun hg=>zi rfl (rfl)) ?_
    refine zk rfl rfl rfl (fun hg=>zZ rfl rfl zHQ (by exact zLb rfl)) ?_
    refine zk rfl rfl rfl (fun hg=>zi rfl rfl) ?_
    refine zk rfl rfl rfl (fun hg=>zi rfl rfl) ?_
    refine zk rfl rfl rfl (fun hg=>zi rfl rfl) ?_
    refine zk rfl rfl rfl (fun hg=>zy (av:=[_, _, _, _]) rfl ⟨(rfl), (rfl), (rfl), (rfl), trivial⟩ h46x) ?_
    refine zk rfl rfl rfl (fun hg=>je rfl rfl) ?_
    refine zk rfl rfl rfl (fun hg=>qU rfl rfl rfl rfl) ?_
    refine zg rfl rfl (qI rfl rfl rfl rfl) ?_
    refine zo (zf (zx rfl (fun h3=>?_) (fun h3=>?_)))
    ·
     exfalso; cases h3
    ·
     refine zC (zf (zuy (zuy (zh ?_))))
     refine zg rfl rfl (zZ rfl rfl zMg (by exact zLb rfl)) ?_
     refine zg rfl rfl (zZ rfl rfl zHQ (by exact zLb rfl)) ?_
     refine zg rfl rfl (zy (av:=[_, _]) rfl ⟨rfl, rfl, trivial⟩ h45f) ?_
     refine zg rfl rfl (je rfl rfl) ?_
     refine zo (zf (zx rfl (fun h4=>?_) (fun h4=>?_)))
     ·
      refine zuy (zh ?_)
      refine zg rfl rfl (zy (av:=[]) rfl trivial hkn) ?_
      refine zg rfl rfl (zn rfl rfl) ?_
      refine zo (zf (zP (zQ ?_)))
      exact ⟨.inr rfl, AVle.refl _⟩
     ·
      have hF:=zUR.1 (show zUE m f = true by simpa using h4)
      have hlf:f.vals.length = npt m:=by have:=hF.len; omega
      have hcf:zV2 f lvl false p = true:=zXW hm hF hf hlf hp hwx
      refine zC (zf (zuy (zh ?_)))
      refine zg rfl rfl (zZ rfl rfl zHQ (by exact zLb rfl)) ?_
      refine zg rfl rfl (zi rfl rfl) ?_
      refine zg rfl rfl (zi rfl rfl) ?_
      refine zg rfl rfl (zi rfl rfl) ?_
      refine zg rfl rfl (zy (av:=[_, _, _, _]) rfl ⟨rfl, rfl, rfl, rfl, trivial⟩ (f46 f p lvl false hf (by omega) (by omega))) ?_
      refine zg rfl rfl (zn rfl rfl) ?_
      refine zo (zf (zuy (zuy (zh ?_))))
      refine zg rfl rfl (zi rfl rfl) ?_
      refine zg rfl rfl (zi rfl rfl) ?_
      refine zk rfl rfl rfl (fun hg=>zi rfl rfl) ?_
      refine zk rfl rfl rfl (fun hg=>qJ rfl (if_pos hg) rfl) ?_
      refine zg rfl rfl (qI rfl rfl rfl rfl) ?_
      refine zg rfl rfl (zi rfl rfl) ?_
      refine zk rfl rfl rfl (fun hg=>zi rfl rfl) ?_
      refine zk rfl rfl rfl (fun hg=>je rfl (if_pos hg)) ?_
      refine zk rfl rfl rfl (fun hg=>zi rfl (if_pos hg)) ?_
      refine zk rfl (jH rfl rfl rfl) rfl (fun hg=>zi rfl rfl) ?_
      refine zk rfl (jH rfl rfl rfl) rfl (fun hg=>qJ rfl (if_pos hg) rfl) ?_
      refine zk rfl rfl rfl (fun hg=>qI rfl (if_pos hg) (zha hg) rfl) ?_
      refine zg rfl rfl (qU rfl rfl rfl rfl) ?_
      refine zo (zf (zx rfl (fun h5=>?_) (fun h5=>?_)))
      ·
       exfalso; rw [hcf] at h5; cases h5
      ·
       refine zC (zf (zuy (zuy (zh ?_))))
       refine zg rfl rfl (zi rfl rfl) ?_
       refine zg rfl rfl (qJ rfl rfl rfl) ?_
       refine zg rfl rfl (zi rfl rfl) ?_
       refine zk rfl rfl rfl (fun hg=>zu rfl rfl zHx) ?_
       refine zk rfl rfl rfl (fun hg=>zA rfl (rfl) rfl zHR) ?_
       refine zk rfl rfl rfl (fun hg=>zi rfl rfl) ?_
       refine zk rfl rfl rfl (fun hg=>zVZ rfl rfl rfl zIz (by omega) (zV1 (by omega)) jC) ?_
       refine zk rfl rfl rfl (fun hg=>zA rfl (rfl) rfl ty3) ?_
       refine zk rfl rfl rfl (fun hg=>zi rfl rfl) ?_
       refine zk rfl rfl rfl (fun hg=>zbe rfl (rfl) (rfl)) ?_
       refine zk rfl rfl rfl (fun hg=>zi rfl rfl) ?_
       refine zk rfl rfl rfl (fun hg=>zwJ rfl (rfl) (rfl) Tryz.underlying4) ?_
       refine zg rfl rfl (qU rfl rfl rfl rfl) ?_
       refine zo (zf (zx rfl (fun h6=>?_) (fun h6=>?_)))
       ·
        refine zuy (zh ?_)
        refine zg rfl rfl (zy (av:=[]) rfl trivial hkn) ?_
        refine zg rfl rfl (zn rfl rfl) ?_
        refine zo (zf (zP (zQ ?_)))
        exact ⟨.inr rfl, AVle.refl _⟩
       ·
        have hsp:inS f.vals lvl false p = true:=by unfold inS; simpa using h6
        have hxt:=zXD hm hF hf hlf hp hsp
        refine zC (zf (zuy (zuy (zh ?_))))
        refine zg rfl rfl (zn rfl rfl) ?_
        refine zo (zf (zB ?_))
        refine qy (ι:={ k:Nat // k <= f.vals.length }) (fun k=>⟨Tryz.f8.ntmps, frL [(3, B false), (9, .pub (.ptr (zHF f))), (13, .pub (.ptr (zHF ⟨m.wide, shL m p lvl false⟩))), (16, I (k.1:Int))], []⟩) (fun k=>f.vals.length - k.1) (⟨0, by simp⟩) ?_ ?_
        ·
         exact zt _ ⟨rfl, rfl, rfl, rfl, trivial⟩ (rfl)
        ·
         rintro ⟨k, hk⟩
         dsimp only
         refine zuy (zuy (zh ?_))
         refine zg rfl rfl (zi rfl rfl) ?_
         refine zg rfl rfl (zu rfl rfl zHx) ?_
         refine zg rfl rfl (zA rfl rfl rfl zHR) ?_
         refine zg rfl rfl (qh rfl rfl rfl Tryz.underlying27) ?_
         refine zg rfl rfl (zUB rfl rfl rfl) ?_
         refine zo (zf (zx rfl (fun h7=>?_) (fun h7=>?_)))
         ·
          have hlt:k < f.vals.length:=by simpa using h7
          have hxk:=hxt k (by omega)
          dsimp only at hxk
          rw [← zWA (m:=m) (p:=p) (lvl:=lvl) (hi:=false) (i:=k) (by omega)] at hxk
          refine zC (zf (zuy (zB (zuy ?_))))
          refine qY mixed (by kernel_rfl) rfl ?_
          refine zH rfl (zi rfl rfl) ?_
          refine zH rfl (zi rfl rfl) ?_
          refine jm rfl (fun hg=>zu rfl rfl zHx) ?_
          refine jm (x:=.pub (.tup [])) rfl (fun hg=>absurd hg (by decide)) ?_
          refine jm rfl (fun hg=>zi rfl rfl) ?_
          refine jm (x:=.pub (.tup [])) rfl (fun hg=>absurd hg (by decide)) ?_
          refine jm (x:=.pub (.tup [])) rfl (fun hg=>absurd hg (by decide)) ?_
          refine jm rfl (fun hg=>zu rfl rfl zHx) ?_
          refine jm (x:=.pub (.tup [])) rfl (fun hg=>absurd hg (by decide)) ?_
          refine jm rfl (fun hg=>zi rfl rfl) ?_
          refine jm (x:=.pub (.tup [])) rfl (fun hg=>absurd hg (by decide)) ?_
          refine jm (x:=.pub (.tup [])) rfl (fun hg=>absurd hg (by decide)) ?_
          refine jm (x:=.pub (.tup [])) rfl (fun hg=>absurd hg (by decide)) ?_
          refine zH rfl (zU rfl rfl (fun h=>absurd h (by decide)) (fun _=>rfl)) ?_
          refine zH rfl (zi rfl rfl) ?_
          refine jm rfl (fun hg=>zi rfl rfl) ?_
          refine jm rfl (fun hg=>je rfl (rfl)) ?_
          refine jm rfl (fun hg=>zi rfl (rfl)) ?_
          refine jm rfl (fun hg=>zu rfl rfl zHx) ?_
          refine jm rfl (fun hg=>zA rfl rfl rfl zHR) ?_
          refine jm rfl (fun hg=>zi rfl rfl) ?_
          refine jm rfl (fun hg=>zVZ rfl rfl rfl zIz (by omega) (zV1 (by omega)) jC) ?_
          refine jm rfl (fun hg=>zA rfl rfl rfl ty3) ?_
          refine jm rfl (fun hg=>zu rfl rfl zHx) ?_
          refine jm rfl (fun hg=>zA rfl rfl rfl zHR) ?_
          refine jm rfl (fun hg=>zi rfl rfl) ?_
          refine jm rfl (fun hg=>zVZ rfl rfl rfl zIz (by omega) (zV1 (l:=shL m p lvl false) (k:=k) (by omega)) jC) ?_
          refine jm rfl (fun hg=>zA rfl rfl rfl ty3) ?_
          refine jm rfl (fun hg=>qR rfl rfl rfl) ?_
          refine jm rfl (fun hg=>qI rfl rfl rfl rfl) ?_
          refine zH rfl (qU rfl rfl rfl rfl) ?_
          refine jw (zf (zx rfl (fun h8=>?_) (fun h8=>?_)))
          ·
           exfalso; simp only[Bool.true_and, Bool.not_true, Bool.false_and, Bool.or_false, Bool.and_false, decide_eq_true_eq, Bool.not_false, Bool.false_or, cond_true, cond_false, Int.toNat_natCast] at h8; omega
          ·
           refine zC (zD (zf (zh ?_)))
           refine zg rfl rfl (zi rfl rfl) ?_
           refine zg rfl rfl (zV rfl rfl rfl ⟨(by omega), (by omega)⟩) ?_
           refine zg rfl rfl (zn rfl rfl) ?_
           refine zo ?_
           exact ⟨⟨k + 1, by omega⟩, by dsimp only; omega, zt _ ⟨rfl, rfl, rfl, rfl, trivial⟩ (rfl)⟩
         ·
          have hge:f.vals.length <= k:=by simpa using h7
          refine qp (zRQ (zRQ (qw (zf (zuy (zh ?_))))))
          refine zg rfl rfl (zy (av:=[]) rfl trivial hkn) ?_
          refine zg rfl rfl (zn rfl rfl) ?_
          refine zo (zf (zP ?_))
          exact ⟨.inr rfl, AVle.refl _⟩
theorem f8 (hkn:KN GT) (m:Mp) (p lvl:Int) (hi:Bool) (f:Fld):ACall Tryz.prog GT 8 [.agg (eMp m), ei p, ei lvl, .v (.bool hi), .agg (zHF f)] (.v (.bool true)):=by
 by_cases h:(zWl m = true /\ f.vals.length <= 40 /\ zHz f = true /\ 0 <= p /\ p < m.wide * m.rows /\ 1 <= lvl /\ lvl <= 99999)
 ·
  obtain ⟨h1, h2, h3, h4, h5, h6, h7⟩:=h
  obtain ⟨hm, hc⟩:=zWg h1
  have hn:=zJF hm
  have e1:((p.toNat:Nat):Int) = p:=by omega
  have hp:p.toNat < npt m:=by omega
  have hv:1 <= lvl /\ lvl <= 99999:=⟨h6, h7⟩
  have hlv:inB lvl 1 99999 = true:=zdh.2 hv
  have hpt:inB ((p.toNat:Nat):Int) 0 (m.wide * m.rows - 1) = true:=zdh.2 (by omega)
  have key:ACall Tryz.prog GT 8 [.agg (eMp m), ei ((p.toNat:Nat):Int), ei lvl, .v (.bool hi), .agg (zHF f)] (.v (.bool true)):=by
   have hw:∀ b, isP m p.toNat lvl b = false -> wdP m p.toNat lvl b = 1:=fun b h=>by unfold wdP; rw [h]; rfl
   have hw2:∀ b, isP m p.toNat lvl b = true -> wX m p.toNat lvl b = false -> wdP m p.toNat lvl b = 2:=fun b h g=>by unfold wdP; rw [h, g]; rfl
   have hw3:∀ b, isP m p.toNat lvl b = true -> wX m p.toNat lvl b = true -> wdP m p.toNat lvl b = 3:=fun b h g=>by unfold wdP; rw [h, g]; rfl
   cases hi with
   | true=>
    cases his:isP m p.toNat lvl true with
    | false=>exact zXH hkn m p.toNat lvl f h1 hm hc h2 h3 hp hv hlv hpt (hw true his) his
    | true=>
     cases hx:wX m p.toNat lvl true with
     | false=>exact zXt hkn m p.toNat lvl f h1 hm hc h2 h3 hp hv hlv hpt (hw2 true his hx) his hx
     | true=>exact zW8 hkn m p.toNat lvl f h1 hm hc h2 h3 hp hv hlv hpt (hw3 true his hx) his hx
   | false=>
    cases his:isP m p.toNat lvl false with
    | false=>exact zXp hkn m p.toNat lvl f h1 hm hc h2 h3 hp hv hlv hpt (hw false his) his
    | true=>
     cases hx:wX m p.toNat lvl false with
     | false=>exact zXg hkn m p.toNat lvl f h1 hm hc h2 h3 hp hv hlv hpt (hw2 false his hx) his hx
     | true=>exact zWT hkn m p.toNat lvl f h1 hm hc h2 h3 hp hv hlv hpt (hw3 false his hx) his hx
  rw [e1] at key
  exact key
 ·
  exact zYw hkn m p lvl hi f h
end Go.Av
end
