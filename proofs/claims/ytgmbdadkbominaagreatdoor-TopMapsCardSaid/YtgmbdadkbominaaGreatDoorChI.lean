import Derived.Test.YtgmbdadkbominaaGreatDoorChH
import Derived.Test.YtgmbdadkbominaaGreatDoorChF
set_option linter.unusedVariables false
set_option linter.unusedSimpArgs false
section
namespace Go.Av
namespace Ct
open Go.Proofs
set_option maxRecDepth 100000
set_option maxHeartbeats 1000000
variable {G:Glob}
theorem zrd:vM Tryz.prog 189 [(0, 1), (1, 1), (2, 1)] [.int .i64 0, .int .i64 0, .bool false]:=⟨_, Tryz.underlying189, by kernel_rfl, by kernel_rfl⟩
theorem zrn:(Tryz.prog.info? 189).bind (·.zero) = some (.agg #[.int .i64 0, .int .i64 0, .bool false]):=by kernel_rfl
def wX (m:Mp) (p:Nat) (lvl:Int) (hi:Bool):Bool:=match hi with
 | true=>(decide (lvl <= (los m).getD p 0) == true) && zgy m.wide m.rows (his m) lvl true p
 | false=>(decide (lvl <= (his m).getD p 0) == false) && zgy m.wide m.rows (los m) lvl false p
theorem zjq (m:Mp) (p:Nat) (lvl:Int) (hm:okM m) (hp:p < npt m) (hv:1 <= lvl /\ lvl <= 99999) (V:AV) (h90:ACall Tryz.prog G 187 [.agg (qB m), .agg (yQ (p:Int) lvl true)] (.tup [V, .v (.bool false)])):ACall Tryz.prog G 90 [.agg (qB m), .agg (yQ (p:Int) lvl true)] (ei 1):=by
 have hn:=npt_bd hm
 have ho:=hm
 obtain ⟨m1, m2, m3, m4, m5, m6, m7, m8⟩:=ho
 have har:=area m1 m2 m3 m4
 have hlol:=wU m
 have hhil:=wS m
 refine zO Tryz.func90 Y (by kernel_rfl) Y ?_
 refine zn (zf (ql Y (zQ Y)) (zf (ql Y (zQ Y)) (zf (zg Y Y) (zo (zn (zf (zK Y Y jF (by exact zLb Y)) (zf (zB (av:=[_]) Y ⟨Y, trivial⟩ (f64 m hm)) ?_)))))))
 refine qP  Y Y Y Y Y Y Y zbX zby Y (by rfl) (zQ Y) Y ?_
 refine zo (zn (zf (zg Y Y) (zo (zt (zn (zf (zK Y Y jF (by exact zLb Y)) (zf (zK Y Y zah (by exact zLb Y)) ?_)))))))
 refine zf (zB (av:=[_, _]) Y ⟨Y, Y, trivial⟩ h90) (zf (zI Y Y) (zf (zU Y Y Y) (zf (zU Y Y Y) (zf (qG Y Y) (zf (zg Y Y) (zo (zn (zf (zh Y Y) (zM ?_)))))))))
 refine zk (zA Y (fun h0=>?_) (fun h0=>?_))
 ·exfalso; cases h0
 ·refine zH (zk (zn (zf (zh Y Y) (zf (zW Y Y Y ⟨by omega, by omega⟩) (zf (zg Y Y) (zo (zN ?_)))))))
  exact ⟨.inr Y, AVle.refl _⟩
theorem zit (m:Mp) (p:Nat) (lvl:Int) (hm:okM m) (hp:p < npt m) (hv:1 <= lvl /\ lvl <= 99999) (V:AV) (h90:ACall Tryz.prog G 187 [.agg (qB m), .agg (yQ (p:Int) lvl true)] (.tup [V, .v (.bool true)])):ACall Tryz.prog G 90 [.agg (qB m), .agg (yQ (p:Int) lvl true)] (ei (if wX m p lvl true = true then 3 else 2)):=by
 have hn:=npt_bd hm
 have ho:=hm
 obtain ⟨m1, m2, m3, m4, m5, m6, m7, m8⟩:=ho
 have har:=area m1 m2 m3 m4
 have hlol:=wU m
 have hhil:=wS m
 refine zO Tryz.func90 Y (by kernel_rfl) Y ?_
 refine zn (zf (ql Y (zQ Y)) (zf (ql Y (zQ Y)) (zf (zg Y Y) (zo (zn (zf (zK Y Y jF (by exact zLb Y)) (zf (zB (av:=[_]) Y ⟨Y, trivial⟩ (f64 m hm)) ?_)))))))
 refine qP  Y Y Y Y Y Y Y zbX zby Y (by rfl) (zQ Y) Y ?_
 refine zo (zn (zf (zg Y Y) (zo (zt (zn (zf (zK Y Y jF (by exact zLb Y)) (zf (zK Y Y zah (by exact zLb Y)) ?_)))))))
 refine zf (zB (av:=[_, _]) Y ⟨Y, Y, trivial⟩ h90) (zf (zI Y Y) (zf (zU Y Y Y) (zf (zU Y Y Y) (zf (qG Y Y) (zf (zg Y Y) (zo (zn (zf (zh Y Y) (zM ?_)))))))))
 refine zk (zA Y (fun h0=>?_) (fun h0=>?_))
 ·refine zn (zf (zg Y Y) (zo (zt ?_)))
  refine qp mixed (by kernel_rfl) Y ?_
  refine zu Y (qc Y Y Y ji (by omega) (by omega)) (zu Y (zl Y Y Y jH) (zu Y (qc Y Y Y ji (by omega) (by omega)) (zu Y (zl Y Y Y jH) (zu Y (zi Y Y jK) (zu Y (zl Y Y Y ty3) (zu Y (zD Y Y Y jV (by omega) (wO (by omega)) qH) (zu Y (zl Y Y Y ty3) (zu Y (qG Y Y) (zu Y (zg Y Y) (qF (zk ?_)))))))))))
  refine zt (zn (zf (zi Y Y jC) (zf (zl Y Y Y ty4) (zo (zA Y (fun h1=>?_) (fun h1=>?_))))))
  ·refine qp mixed (by kernel_rfl) Y ?_
   refine zu Y (qc Y Y Y ji (by omega) (by omega)) (zu Y (zl Y Y Y jH) (zu Y (qc Y Y Y ji (by omega) (by omega)) (zu Y (zl Y Y Y jH) (zu Y (zi Y Y jK) (zu Y (zl Y Y Y ty3) (zu Y (zD Y Y Y jV (by omega) (wO (by omega)) qH) (zu Y (zl Y Y Y ty3) (zu Y (qG Y Y) (zu Y (zg Y Y) (qF (zk ?_)))))))))))
   refine zn (zf (zh Y Y) (zf (zi Y Y jA) (zf (zl Y Y Y ty3) (zf (kG Y Y Y) (zf (zi Y Y jC) (zf (zl Y Y Y ty4) (zf (zhY Y Y Y Tryz.underlying4) (zf (zh Y Y) (zC Y (fun hg=>zK Y Y jF (by exact zLb Y)) (zC Y (fun hg=>zK Y Y zah (by exact zLb Y)) ?_))))))))))
   refine zC Y (fun hg=>zI Y Y) ?_
   refine zC Y (fun hg=>zB (av:=[_, _, _]) Y ⟨(by exact if_pos hg), (by exact if_pos hg), (by exact if_pos hg), trivial⟩ (f134 m p lvl true (his m) hm hp (by simp [los, his]))) ?_
   refine zf (jg Y Y Y Y) (zo (zA Y (fun h2=>?_) (fun h2=>?_)))
   ·have hW:wX m p lvl true = true:=h2
    refine zx (zf (zg Y Y) (zo (zn (zf (zh Y Y) (zf (zW Y Y Y ⟨by omega, by omega⟩) (zf (zg Y Y) (zo (zN ?_))))))))
    exact ⟨.inr Y, AVle.of (by rw [if_pos hW]; rfl)⟩
   ·have hW:wX m p lvl true = false:=h2
    refine zH (zk (zn (zf (zh Y Y) (zf (zW Y Y Y ⟨by omega, by omega⟩) (zf (zg Y Y) (zo (zN ?_)))))))
    exact ⟨.inr Y, AVle.of (by rw [if_neg (by rw [hW]; decide)]; rfl)⟩
  ·exfalso; cases h1
 ·exfalso; cases h0
theorem ziw (m:Mp) (p:Nat) (lvl:Int) (hm:okM m) (hp:p < npt m) (hv:1 <= lvl /\ lvl <= 99999) (V:AV) (h90:ACall Tryz.prog G 187 [.agg (qB m), .agg (yQ (p:Int) lvl false)] (.tup [V, .v (.bool false)])):ACall Tryz.prog G 90 [.agg (qB m), .agg (yQ (p:Int) lvl false)] (ei 1):=by
 have hn:=npt_bd hm
 have ho:=hm
 obtain ⟨m1, m2, m3, m4, m5, m6, m7, m8⟩:=ho
 have har:=area m1 m2 m3 m4
 have hlol:=wU m
 have hhil:=wS m
 refine zO Tryz.func90 Y (by kernel_rfl) Y ?_
 refine zn (zf (ql Y (zQ Y)) (zf (ql Y (zQ Y)) (zf (zg Y Y) (zo (zn (zf (zK Y Y jF (by exact zLb Y)) (zf (zB (av:=[_]) Y ⟨Y, trivial⟩ (f64 m hm)) ?_)))))))
 refine qP  Y Y Y Y Y Y Y zbX zby Y (by rfl) (zQ Y) Y ?_
 refine zo (zn (zf (zg Y Y) (zo (zt (zn (zf (zK Y Y jF (by exact zLb Y)) (zf (zK Y Y zah (by exact zLb Y)) ?_)))))))
 refine zf (zB (av:=[_, _]) Y ⟨Y, Y, trivial⟩ h90) (zf (zI Y Y) (zf (zU Y Y Y) (zf (zU Y Y Y) (zf (qG Y Y) (zf (zg Y Y) (zo (zn (zf (zh Y Y) (zM ?_)))))))))
 refine zk (zA Y (fun h0=>?_) (fun h0=>?_))
 ·exfalso; cases h0
 ·refine zH (zk (zn (zf (zh Y Y) (zf (zW Y Y Y ⟨by omega, by omega⟩) (zf (zg Y Y) (zo (zN ?_)))))))
  exact ⟨.inr Y, AVle.refl _⟩
theorem zgr (m:Mp) (p:Nat) (lvl:Int) (hm:okM m) (hp:p < npt m) (hv:1 <= lvl /\ lvl <= 99999) (V:AV) (h90:ACall Tryz.prog G 187 [.agg (qB m), .agg (yQ (p:Int) lvl false)] (.tup [V, .v (.bool true)])):ACall Tryz.prog G 90 [.agg (qB m), .agg (yQ (p:Int) lvl false)] (ei (if wX m p lvl false = true then 3 else 2)):=by
 have hn:=npt_bd hm
 have ho:=hm
 obtain ⟨m1, m2, m3, m4, m5, m6, m7, m8⟩:=ho
 have har:=area m1 m2 m3 m4
 have hlol:=wU m
 have hhil:=wS m
 refine zO Tryz.func90 Y (by kernel_rfl) Y ?_
 refine zn (zf (ql Y (zQ Y)) (zf (ql Y (zQ Y)) (zf (zg Y Y) (zo (zn (zf (zK Y Y jF (by exact zLb Y)) (zf (zB (av:=[_]) Y ⟨Y, trivial⟩ (f64 m hm)) ?_)))))))
 refine qP  Y Y Y Y Y Y Y zbX zby Y (by rfl) (zQ Y) Y ?_
 refine zo (zn (zf (zg Y Y) (zo (zt (zn (zf (zK Y Y jF (by exact zLb Y)) (zf (zK Y Y zah (by exact zLb Y)) ?_)))))))
 refine zf (zB (av:=[_, _]) Y ⟨Y, Y, trivial⟩ h90) (zf (zI Y Y) (zf (zU Y Y Y) (zf (zU Y Y Y) (zf (qG Y Y) (zf (zg Y Y) (zo (zn (zf (zh Y Y) (zM ?_)))))))))
 refine zk (zA Y (fun h0=>?_) (fun h0=>?_))
 ·refine zn (zf (zg Y Y) (zo (zt ?_)))
  refine qp mixed (by kernel_rfl) Y ?_
  refine zu Y (qc Y Y Y ji (by omega) (by omega)) (zu Y (zl Y Y Y jH) (zu Y (qc Y Y Y ji (by omega) (by omega)) (zu Y (zl Y Y Y jH) (zu Y (zi Y Y jK) (zu Y (zl Y Y Y ty3) (zu Y (zD Y Y Y jV (by omega) (wO (by omega)) qH) (zu Y (zl Y Y Y ty3) (zu Y (qG Y Y) (zu Y (zg Y Y) (qF (zk ?_)))))))))))
  refine zt (zn (zf (zi Y Y jC) (zf (zl Y Y Y ty4) (zo (zA Y (fun h1=>?_) (fun h1=>?_))))))
  ·exfalso; cases h1
  ·refine zH (zk (zn (zf (zh Y Y) (zf (zi Y Y jA) (zf (zl Y Y Y ty3) (zf (kG Y Y Y) (zf (zi Y Y jC) (zf (zl Y Y Y ty4) (zf (zhY Y Y Y Tryz.underlying4) (zf (zh Y Y) ?_))))))))))
   refine zC Y (fun hg=>zK Y Y jF (by exact zLb Y)) (zC Y (fun hg=>zK Y Y zah (by exact zLb Y)) (zC Y (fun hg=>zI Y Y) ?_))
   refine zC Y (fun hg=>zB (av:=[_, _, _]) Y ⟨(by exact if_pos hg), (by exact if_pos hg), (by exact if_pos hg), trivial⟩ (f134 m p lvl false (los m) hm hp (by simp [los, his]))) ?_
   refine zf (jg Y Y Y Y) (zo (zA Y (fun h2=>?_) (fun h2=>?_)))
   ·have hW:wX m p lvl false = true:=h2
    refine zx (zf (zg Y Y) (zo (zn (zf (zh Y Y) (zf (zW Y Y Y ⟨by omega, by omega⟩) (zf (zg Y Y) (zo (zN ?_))))))))
    exact ⟨.inr Y, AVle.of (by rw [if_pos hW]; rfl)⟩
   ·have hW:wX m p lvl false = false:=h2
    refine zH (zk (zn (zf (zh Y Y) (zf (zW Y Y Y ⟨by omega, by omega⟩) (zf (zg Y Y) (zo (zN ?_)))))))
    exact ⟨.inr Y, AVle.of (by rw [if_neg (by rw [hW]; decide)]; rfl)⟩
 ·exfalso; cases h0
theorem zrT (m:Mp) (p lvl wd:Int) (h88:ACall Tryz.prog G 89 [.agg (eMp m), .agg (yQ p lvl false)] (.tup [.agg (qB m), ei 0])) (h89:ACall Tryz.prog G 90 [.agg (qB m), .agg (yQ p lvl false)] (ei wd)):ACall Tryz.prog G 30 [.agg (eMp m), ei p, ei lvl] (.tup [ei wd, ei 0]):=by
 refine zO Tryz.func30 Y (by kernel_rfl) Y ?_
 refine zn (zf (ql Y (zQ Y)) (zf (zg Y Y) (zf (zg Y Y) (zo (zn (zf (zh Y Y) (zf (zh Y Y) ?_)))))))
 refine zf (yl (cs:=[_, _, _]) Y zrd Y ⟨_, _, Y, (qU Y), ⟨_, _, Y, (qU Y), ⟨_, _, Y, (qU Y), Y⟩⟩⟩ (by rfl) (by simp [ofV])) ?_
 refine qP  Y Y Y Y Y Y Y zrn zah Y (by rfl) (zQ Y) Y ?_
 refine zo (zn (zf (zK Y Y kN (by exact zLb Y)) (zf (zK Y Y zah (by exact zLb Y)) (zf (zB (av:=[_, _]) Y ⟨Y, Y, trivial⟩ h88) (zf (zI Y Y) (zf (zU Y Y Y) (zf (zU Y Y Y) ?_)))))))
 refine qP  Y Y Y Y Y Y Y zex jF Y (by rfl) (zQ Y) Y ?_
 refine zf (zg Y Y) (zo (zt (zn (zf (zh Y Y) (zf (wE Y Y Y) (zo (zA Y (fun h0=>?_) (fun h0=>?_))))))))
 ·exfalso; simp at h0
 ·refine zH (zk (zn (zf (zK Y Y jF (by exact zLb Y)) (zf (zK Y Y zah (by exact zLb Y)) (zf (zB (av:=[_, _]) Y ⟨Y, Y, trivial⟩ h89) (zf (zg Y Y) (zf (zg Y Y) (zo (zN ?_)))))))))
  exact ⟨.inr Y, ⟨_, Y, ⟨_, _, Y, AVle.refl _, ⟨_, _, Y, AVle.refl _, Y⟩⟩⟩⟩
theorem zsz (m:Mp) (p lvl wd:Int) (h88:ACall Tryz.prog G 89 [.agg (eMp m), .agg (yQ p lvl true)] (.tup [.agg (qB m), ei 0])) (h89:ACall Tryz.prog G 90 [.agg (qB m), .agg (yQ p lvl true)] (ei wd)):ACall Tryz.prog G 31 [.agg (eMp m), ei p, ei lvl] (.tup [ei wd, ei 0]):=by
 refine zO Tryz.func31 Y (by kernel_rfl) Y ?_
 refine zn (zf (ql Y (zQ Y)) (zf (zg Y Y) (zf (zg Y Y) (zo (zn (zf (zh Y Y) (zf (zh Y Y) ?_)))))))
 refine zf (yl (cs:=[_, _, _]) Y zrd Y ⟨_, _, Y, (qU Y), ⟨_, _, Y, (qU Y), ⟨_, _, Y, (qU Y), Y⟩⟩⟩ (by rfl) (by simp [ofV])) ?_
 refine qP  Y Y Y Y Y Y Y zrn zah Y (by rfl) (zQ Y) Y ?_
 refine zo (zn (zf (zK Y Y kN (by exact zLb Y)) (zf (zK Y Y zah (by exact zLb Y)) (zf (zB (av:=[_, _]) Y ⟨Y, Y, trivial⟩ h88) (zf (zI Y Y) (zf (zU Y Y Y) (zf (zU Y Y Y) ?_)))))))
 refine qP  Y Y Y Y Y Y Y zex jF Y (by rfl) (zQ Y) Y ?_
 refine zf (zg Y Y) (zo (zt (zn (zf (zh Y Y) (zf (wE Y Y Y) (zo (zA Y (fun h0=>?_) (fun h0=>?_))))))))
 ·exfalso; simp at h0
 ·refine zH (zk (zn (zf (zK Y Y jF (by exact zLb Y)) (zf (zK Y Y zah (by exact zLb Y)) (zf (zB (av:=[_, _]) Y ⟨Y, Y, trivial⟩ h89) (zf (zg Y Y) (zf (zg Y Y) (zo (zN ?_)))))))))
  exact ⟨.inr Y, ⟨_, Y, ⟨_, _, Y, AVle.refl _, ⟨_, _, Y, AVle.refl _, Y⟩⟩⟩⟩
end Ct
end Go.Av
end
section
namespace Go.Av.Pn.Ct
end Go.Av.Pn.Ct
namespace Go.Av.Ct
end Go.Av.Ct
namespace Go.Av.Pn
namespace Ct
open Go.Av.Ct
open Go.Av
set_option maxRecDepth 100000
theorem zgW {a b:Int}:vC a b = 0 ↔ a = b:=by unfold vC; omega
theorem zpp {w:Int} (hw:1 <= w) (a b:Nat) (c:Bool):zdU w (a:Int) c b = ((dist w (a:Int) (b:Int) == 1) || (c && zmK w (a:Int) (b:Int))):=by
 have ha:=Int.emod_add_mul_ediv (a:Int) w
 have hb:=Int.emod_add_mul_ediv (b:Int) w
 have hne:((a:Int) / w = (b:Int) / w /\ (a:Int) % w = (b:Int) % w) -> (a:Int) = (b:Int):=fun h=>by rw [h.1, h.2] at ha; omega
 have hcg:(a:Int) = (b:Int) -> (a:Int) / w = (b:Int) / w:=fun e=>by rw [e]
 unfold zdU zmK dist
 cases c with
 | false=>simp
 | true=>
  simp only[Bool.true_and]
  generalize (a:Int) / w = r1 at *
  generalize (b:Int) / w = r2 at *
  generalize (a:Int) % w = c1 at *
  generalize (b:Int) % w = c2 at *
  have k1:vC r1 r2 = 0 ↔ r1 = r2:=zgW
  have k2:vC c1 c2 = 0 ↔ c1 = c2:=zgW
  have k3:0 <= vC r1 r2:=by unfold vC; omega
  have k4:0 <= vC c1 c2:=by unfold vC; omega
  generalize vC r1 r2 = R at *
  generalize vC c1 c2 = C at *
  rw [Bool.eq_iff_iff]
  simp only[Bool.or_eq_true, zLa, beq_iff_eq, bne_iff_ne, ne_eq, decide_eq_true_eq]
  constructor
  ·rintro (h | h)
   ·exact .inl h
   ·right
    refine ⟨fun e=>?_, by omega, by omega⟩
    have e1:r1 = r2:=hcg e
    exact h.1.2 e1
  ·rintro (h | ⟨h1, h2, h3⟩)
   ·exact .inl h
   ·by_cases e1:r1 = r2
    ·by_cases e2:c1 = c2
     ·exact absurd (hne ⟨e1, e2⟩) h1
     ·left; omega
    ·by_cases e2:c1 = c2
     ·left; omega
     ·right; omega
theorem zqj {w r:Int} {vals:List Int} {lvl:Int} {hi:Bool} {p:Nat} (hw:1 <= w) (hr:1 <= r) (hl:(vals.length:Int) = w * r) (hp:p < vals.length):
  zgy w r vals lvl hi p = true ↔ inS vals lvl hi p = true /\ ∀ x, x < vals.length -> Rc (nbR ⟨w, vals⟩ hi) (inS vals lvl hi) p x -> zhM ⟨w, vals⟩ (x:Int) = false:=by
 have hN:(w * r).toNat = vals.length:=by omega
 have hdiv:(vals.length:Int) / w = r:=by rw [hl]; exact Int.mul_ediv_cancel_left _ (by omega)
 have hed:∀ x:Nat, xX w r (x:Int) = zhM ⟨w, vals⟩ (x:Int):=fun x=>by
  unfold xX zhM
  dsimp only
  rw [hdiv]; simp [Bool.or_assoc]
 have hnb:∀ a b:Nat, b ∈ nbs w r (a:Int) (!hi) ↔ nbR ⟨w, vals⟩ hi a b:=fun a b=>by
  rw [zcl, zpp hw, hN]; rfl
 have hrc:∀ x, Rc (fun a b=>b ∈ nbs w r (a:Int) (!hi)) (inS vals lvl hi) p x ↔ Rc (nbR ⟨w, vals⟩ hi) (inS vals lvl hi) p x:=fun x=>
  ⟨fun h=>h.sub fun a b h1 h2=>⟨(hnb a b).1 h1, h2⟩, fun h=>h.sub fun a b h1 h2=>⟨(hnb a b).2 h1, h2⟩⟩
 have hlt:∀ x, Rc (nbR ⟨w, vals⟩ hi) (inS vals lvl hi) p x -> x < vals.length:=fun x h=>by
  cases h with
  | base=>exact hp
  | step _ h3 _=>exact h3.1
 unfold zgy
 rw [zLa, Option.isNone_iff_eq_none]
 refine and_congr Iff.rfl ?_
 rw [zqN (N:=(w * r).toNat) (fun a q hq=>(zcl.1 hq).1) (by omega)]
 exact ⟨fun h x _ hx=>by rw [← hed]; exact h x ((hrc x).2 hx), fun h x hx=>by rw [hed]; exact h x (hlt x ((hrc x).1 hx)) ((hrc x).1 hx)⟩
theorem zhQ {w r:Int} {vals:List Int} {lvl:Int} {hi:Bool} {p:Nat} (hw:1 <= w) (hr:1 <= r) (hl:(vals.length:Int) = w * r) (hp:p < vals.length):zgy w r vals lvl hi p = closedR ⟨w, vals⟩ lvl hi p:=by
 rw [Bool.eq_iff_iff, zqj hw hr hl hp, zad (f:=⟨w, vals⟩) hp]
 exact Iff.rfl
theorem za3 {f g:Fld} {lvl:Int} {hi:Bool} {p:Nat} (hw:f.wide = g.wide) (hl:f.vals.length = g.vals.length) (hp:p < f.vals.length) (hS:∀ q, q < f.vals.length -> inS g.vals lvl hi q = true -> inS f.vals lvl hi q = true) (hg:inS g.vals lvl hi p = true) (h:closedR f lvl hi p = true):closedR g lvl hi p = true:=by
 have h1:=(zad hp).1 h
 refine (zad (by omega)).2 ⟨hg, fun x hx hr=>?_⟩
 have h2:=h1.2 x (by omega) (hr.sub fun a b h3 h4=>⟨⟨by have:=h3.1; omega, by have:=h3.2; rw [← hw] at this; exact this⟩, hS b (by have:=h3.1; omega) h4⟩)
 unfold zhM at h2 ⊢
 rw [← hw, ← hl]; exact h2
section
variable {m:Mp}
theorem ztB (a b:Int):maxL [a, b] = max a b:=by unfold maxL; simp
theorem zti (a b:Int):minL [a, b] = min a b:=by unfold minL; simp
theorem zoK {p i:Nat} {lvl:Int} (h:i < npt m):shG m p lvl true i = max (loG m i) (lvl - shD m p i):=by
 show maxL [(los m).getD i 0, _] = _
 rw [ztB]; unfold los loG; simp [List.getD, h]
theorem zos {p i:Nat} {lvl:Int} (h:i < npt m):shG m p lvl false i = zG m p (lvl - 1) i:=by
 show minL [(his m).getD i 0, _] = _
 rw [zti]; unfold his zG hiG shD; simp [List.getD, h]
end
end Ct
end Go.Av.Pn
end
section
namespace Go.Av.Pn.Ct
end Go.Av.Pn.Ct
namespace Go.Av.Ct
end Go.Av.Ct
namespace Go.Av
namespace Ct
open Go.Av.Pn Go.Proofs Go.Av.Pn.Ct
set_option maxRecDepth 100000
variable {G:Glob}
def ze8 (m:Mp) (p:Nat) (lvl:Int) (hi:Bool):Bool:=match hi with
 | true=>decide ((his m).getD p 0 < lvl)
 | false=>decide (lvl <= (los m).getD p 0)
def isP (m:Mp) (p:Nat) (lvl:Int) (hi:Bool):Bool:=!ze8 m p lvl hi && zgy m.wide m.rows (shL m p lvl hi) lvl hi p
def wdP (m:Mp) (p:Nat) (lvl:Int) (hi:Bool):Int:=if isP m p lvl hi = true then (if wX m p lvl hi = true then 3 else 2) else 1
theorem zpY (m:Mp) (p:Nat) (lvl:Int) (hi:Bool) (hm:okM m) (hp:p < npt m) (hv:1 <= lvl /\ lvl <= 99999):
  ∃ V:AV, ACall Tryz.prog G 187 [.agg (qB m), .agg (yQ (p:Int) lvl hi)] (.tup [V, .v (.bool (isP m p lvl hi))]) /\ (isP m p lvl hi = true -> V = eInts (shL m p lvl hi)):=by
 unfold isP
 cases hi with
 | true=>
  cases hn:ze8 m p lvl true with
  | true=>exact ⟨_, zgt m p lvl hm hp hv hn, fun h=>by cases h⟩
  | false=>exact ⟨_, zgJ m p lvl hm hp hv hn, fun _=>rfl⟩
 | false=>
  cases hn:ze8 m p lvl false with
  | true=>exact ⟨_, zgm m p lvl hm hp hv hn, fun h=>by cases h⟩
  | false=>exact ⟨_, zf1 m p lvl hm hp hv hn, fun _=>rfl⟩
theorem zmh (m:Mp) (p:Nat) (lvl:Int) (hi:Bool) (hm:okM m) (hp:p < npt m) (hv:1 <= lvl /\ lvl <= 99999):
  ACall Tryz.prog G 90 [.agg (qB m), .agg (yQ (p:Int) lvl hi)] (ei (wdP m p lvl hi)):=by
 obtain ⟨V, h90, _⟩:=zpY (G:=G) m p lvl hi hm hp hv
 unfold wdP
 cases hi with
 | true=>
  cases hn:isP m p lvl true with
  | true=>rw [hn] at h90; exact zit m p lvl hm hp hv V h90
  | false=>rw [hn] at h90; exact zjq m p lvl hm hp hv V h90
 | false=>
  cases hn:isP m p lvl false with
  | true=>rw [hn] at h90; exact zgr m p lvl hm hp hv V h90
  | false=>rw [hn] at h90; exact ziw m p lvl hm hp hv V h90
theorem zka {m:Mp} {p:Nat} {lvl:Int} (hm:okM m) (hp:p < npt m) (hv:1 <= lvl /\ lvl <= 99999):(inB (p:Int) 0 (m.wide * m.rows - 1) && inB lvl 1 99999) = true:=by
 have hn:=npt_bd hm
 rw [zLa, inB_iff, inB_iff]; omega
theorem low_ok (m:Mp) (p:Nat) (lvl:Int) (hm:okM m) (hc:y7 m = none) (hp:p < npt m) (hv:1 <= lvl /\ lvl <= 99999):ACall Tryz.prog G 30 [.agg (eMp m), ei (p:Int), ei lvl] (.tup [ei (wdP m p lvl false), ei 0]):=
 zrT m (p:Int) lvl _ (zow m (p:Int) lvl false hm (zka hm hp hv) hc) (zmh m p lvl false hm hp hv)
theorem high_ok (m:Mp) (p:Nat) (lvl:Int) (hm:okM m) (hc:y7 m = none) (hp:p < npt m) (hv:1 <= lvl /\ lvl <= 99999):ACall Tryz.prog G 31 [.agg (eMp m), ei (p:Int), ei lvl] (.tup [ei (wdP m p lvl true), ei 0]):=
 zsz m (p:Int) lvl _ (zow m (p:Int) lvl true hm (zka hm hp hv) hc) (zmh m p lvl true hm hp hv)
theorem zkQ {m:Mp} {p:Nat} (h:p < npt m):(los m).getD p 0 = loG m p:=by unfold los loG; simp [List.getD, h]
theorem zkk {m:Mp} {p:Nat} (h:p < npt m):(his m).getD p 0 = hiG m p:=by unfold his hiG; simp [List.getD, h]
theorem zkA (w:Int) (a:Int):dist w a a = 0:=by unfold dist vC; omega
theorem zeB {vals:List Int} {lvl:Int} {q:Nat}:inS vals lvl true q = true ↔ lvl <= vals.getD q 0:=by unfold inS; simp only[beq_true, decide_eq_true_eq]
theorem zel {vals:List Int} {lvl:Int} {q:Nat}:inS vals lvl false q = true ↔ vals.getD q 0 < lvl:=by unfold inS; simp only[beq_false, Bool.not_eq_true', decide_eq_false_iff_not]; omega
theorem zhP {m:Mp} {p:Nat} {lvl:Int} {hi:Bool}:(shL m p lvl hi).length = npt m:=by simp [shL]
theorem zlH {m:Mp} {p i:Nat} {lvl:Int} {hi:Bool} (h:i < npt m):(shL m p lvl hi).getD i 0 = shG m p lvl hi i:=by simp [shL, List.getD, h]
theorem zsU {m:Mp} (hm:okM m) {p:Nat} {lvl:Int} {hi:Bool} {f:Fld} (hF:FitsM m f) (hf:yb f = true) (hlen:f.vals.length = npt m) (hp:p < npt m) (hs:inS f.vals lvl hi p = true):∀ q, q < npt m -> match hi with
  | true=>shG m p lvl true q <= f.vals.getD q 0
  | false=>f.vals.getD q 0 <= shG m p lvl false q:=fun q hq=>by
 obtain ⟨_, _, hvb⟩:=fld_bd hf
 have hq2:q < f.vals.length:=by omega
 have hp2:p < f.vals.length:=by omega
 have hb:=hvb (f.vals[q]) (List.getElem_mem hq2)
 have hqv:vAt f q = f.vals[q]:=by simp [vAt, List.getD, hq2]
 have h1:=hF.lo hm hq2 (by rw [hqv]; exact hb.1)
 have h2:=hF.hi hm hq2 (by rw [hqv]; exact hb.2)
 have h3:=hF.lip hm hp2 hq2
 have h4:=hF.lip hm hq2 hp2
 have hcm:dist m.wide (q:Int) (p:Int) = dist m.wide (p:Int) (q:Int):=by unfold dist vC; omega
 rw [hcm] at h4
 unfold vAt at h1 h2 h3 h4
 cases hi with
 | true=>
  have h5:lvl <= f.vals.getD p 0:=zeB.1 hs
  show shG m p lvl true q <= _
  rw [zoK hq]
  unfold loG shD
  omega
 | false=>
  have h5:f.vals.getD p 0 < lvl:=zel.1 hs
  show _ <= shG m p lvl false q
  rw [zos hq]
  unfold zG hiG
  omega
theorem zs7 {m:Mp} (hm:okM m) {p:Nat} {lvl:Int} {hi:Bool} (hp:p < npt m):zgy m.wide m.rows (shL m p lvl hi) lvl hi p = closedR ⟨m.wide, shL m p lvl hi⟩ lvl hi p:=by
 have hn:=npt_bd hm
 obtain ⟨m1, m2, m3, m4, _⟩:=hm
 exact zhQ m1 m3 (by rw [zhP]; omega) (by rw [zhP]; exact hp)
theorem is_of {m:Mp} (hm:okM m) {p:Nat} {lvl:Int} {hi:Bool} {f:Fld} (hF:FitsM m f) (hf:yb f = true) (hlen:f.vals.length = npt m) (hp:p < npt m) (h:closedR f lvl hi p = true):isP m p lvl hi = true:=by
 have hs:=((zad (f:=f) (by omega)).1 h).1
 have hx:=zsU hm hF hf hlen hp hs
 obtain ⟨_, _, hvb⟩:=fld_bd hf
 have hp2:p < f.vals.length:=by omega
 have hb:=hvb (f.vals[p]) (List.getElem_mem hp2)
 have hqv:vAt f p = f.vals[p]:=by simp [vAt, List.getD, hp2]
 have h1:=hF.lo hm hp2 (by rw [hqv]; exact hb.1)
 have h2:=hF.hi hm hp2 (by rw [hqv]; exact hb.2)
 unfold vAt at h1 h2
 unfold isP
 rw [zs7 hm hp]
 have hself:=zkA m.wide (p:Int)
 cases hi with
 | true=>
  have h5:lvl <= f.vals.getD p 0:=zeB.1 hs
  rw [show ze8 m p lvl true = false from by unfold ze8; dsimp only; rw [zkk hp]; unfold hiG; simp; omega]
  refine za3 (f:=f) hF.wide (by rw [zhP, hlen]) (by omega) (fun q hq hx2=>?_) ?_ h
  ·have:=hx q (by omega)
   dsimp only at this
   rw [zeB, zlH (by omega)] at hx2
   rw [zeB]; omega
  ·rw [zeB, zlH hp, zoK hp]; unfold shD; rw [hself]; omega
 | false=>
  have h5:f.vals.getD p 0 < lvl:=zel.1 hs
  rw [show ze8 m p lvl false = false from by unfold ze8; dsimp only; rw [zkQ hp]; unfold loG; simp; omega]
  refine za3 (f:=f) hF.wide (by rw [zhP, hlen]) (by omega) (fun q hq hx2=>?_) ?_ h
  ·have:=hx q (by omega)
   dsimp only at this
   rw [zel, zlH (by omega)] at hx2
   rw [zel]; omega
  ·rw [zel, zlH hp, zos hp]; unfold zG; rw [hself]; omega
theorem sure_of {m:Mp} (hm:okM m) {p:Nat} {lvl:Int} {hi:Bool} {f:Fld} (hF:FitsM m f) (hf:yb f = true) (hlen:f.vals.length = npt m) (hp:p < npt m) (h:wX m p lvl hi = true):closedR f lvl hi p = true:=by
 obtain ⟨_, _, hvb⟩:=fld_bd hf
 have hn:=npt_bd hm
 have hb:∀ q, q < npt m -> loG m q <= f.vals.getD q 0 /\ f.vals.getD q 0 <= hiG m q:=fun q hq=>by
  have hq2:q < f.vals.length:=by omega
  have hb:=hvb (f.vals[q]) (List.getElem_mem hq2)
  have hqv:vAt f q = f.vals[q]:=by simp [vAt, List.getD, hq2]
  have h1:=hF.lo hm hq2 (by rw [hqv]; exact hb.1)
  have h2:=hF.hi hm hq2 (by rw [hqv]; exact hb.2)
  exact ⟨h1, h2⟩
 obtain ⟨m1, m2, m3, m4, _⟩:=hm
 cases hi with
 | true=>
  unfold wX at h
  dsimp only at h
  rw [zLa, zhQ m1 m3 (by rw [wS]; omega) (by rw [wS]; exact hp), zkQ hp] at h
  refine za3 (f:=⟨m.wide, his m⟩) hF.wide.symm (by rw [hlen]; exact wS m) (by rw [wS]; exact hp) (fun q hq hx2=>?_) ?_ h.2
  ·have hq2:q < npt m:=by rw [wS] at hq; exact hq
   have:=hb q hq2
   rw [zeB] at hx2
   rw [zeB, zkk hq2]; omega
  ·have:=hb p hp
   have h3:=h.1
   rw [zeB]; simp at h3; omega
 | false=>
  unfold wX at h
  dsimp only at h
  rw [zLa, zhQ m1 m3 (by rw [wU]; omega) (by rw [wU]; exact hp), zkk hp] at h
  refine za3 (f:=⟨m.wide, los m⟩) hF.wide.symm (by rw [hlen]; exact wU m) (by rw [wU]; exact hp) (fun q hq hx2=>?_) ?_ h.2
  ·have hq2:q < npt m:=by rw [wU] at hq; exact hq
   have:=hb q hq2
   rw [zel] at hx2
   rw [zel, zkQ hq2]; omega
  ·have:=hb p hp
   have h3:=h.1
   rw [zel]; simp at h3; omega
end Ct
end Go.Av
end
