import Derived.Test.YtgmbdadkbominaaGreatDoorHsC
set_option linter.unusedVariables false
set_option linter.unusedSimpArgs false
section
namespace Go.Av
namespace Hs
open Go.Proofs
set_option maxRecDepth 100000
set_option maxHeartbeats 1000000
variable {G:Glob}
theorem zFN {a b:Bool} (h:(a && b) = true):a = true:=by cases a <;> simp_all
theorem zEu {a b:Bool} (h:(a && b) = true):b = true:=by cases b <;> simp_all
def hoB (w:Wt) (ds:List Int) (i n t:Int):Bool:=zDr w && dlB w ds && inB i 0 (w.prts.length - 1) && inB n (ptW w i).ol (ptW w i).oh && inB t 0 20000
def zBS (w:Wt) (ds:List Int) (n t:Int):Bool:=zAB w ds (t - n)
theorem f158 {p:Int -> Rep -> Bool} (c:FuncId) (ds:List Int) (xs:List Rep) (hd:ds.length <= 1000000) (hx:xs.length <= 1000000) (hp:∀ d, ∀ x ∈ xs, ACall Tryz.prog G c [ei d, .agg (eRep x)] (.v (.bool (p d x)))):ACall Tryz.prog G 158 [eI ds, .sl (xs.map eRep), .fn c [] []] (.v (.bool (eqL p ds xs))):=by
 have hl1:(ds.map fun n=>[ei n]).length = ds.length:=by simp
 have hl2:(xs.map eRep).length = xs.length:=by simp
 refine zO Tryz.func158 rfl (by kernel_rfl) rfl ?_
 refine zn (jy rfl rfl (zg rfl rfl) (zo (zt (zn (jy rfl rfl (zI rfl rfl) (jy rfl rfl (qA rfl rfl rfl Tryz.underlying24) (jy rfl rfl (zI rfl rfl) (jy rfl rfl (qA rfl rfl rfl Tryz.underlying29) ?_))))))))
 refine jy rfl rfl (wE rfl rfl rfl) (zo (zA rfl (fun h0=>?_) (fun h0=>?_)))
 ·have hne:eqL p ds xs = false:=by unfold eqL; rw [Bool.and_eq_false_iff]; left; simp at h0; simp; omega
  refine zn (jy rfl rfl (zg rfl rfl) (zo (zN (zP ?_))))
  exact ⟨.inr rfl, AVle.of (by rw [hne])⟩
 ·have heq:ds.length = xs.length:=by simp at h0; omega
  refine zH (zk (zt (zn (jy rfl rfl (zI rfl rfl) (jy rfl rfl (qA rfl rfl rfl Tryz.underlying24) (jy rfl rfl (zh rfl rfl) (zo (zF ?_))))))))
  refine qm (ι:={ k:Nat // k <= ds.length /\ ∀ j (h1:j < ds.length) (h2:j < xs.length), j < k -> p ds[j] xs[j] = true }) (fun k=>⟨Tryz.f158.ntmps, frL [(1, .pub (.sl (xs.map eRep))), (2, .pub (.fn c [] [])), (15, .pub (eI ds)), (16, I (((ds.map fun n=>[ei n]).length:Nat):Int)), (17, I (k.1:Int))], []⟩) (fun k=>ds.length - k.1) (⟨0, by omega, fun j _ _ h=>absurd h (by omega)⟩) ?_ ?_
  ·exact zy _ ⟨rfl, rfl, rfl, rfl, rfl, trivial⟩ (rfl)
  ·rintro ⟨k, hk⟩
   dsimp only
   refine zn (jy rfl rfl (qx rfl rfl rfl) (zo (zt (zA rfl (fun h1=>?_) (fun h1=>?_)))))
   ·have hlt:k < ds.length:=by simpa using h1
    refine zH (zk (zt (zF (zn (jy rfl rfl (zh rfl rfl) ?_)))))
    refine jy rfl rfl (zD rfl rfl rfl zjc (by omega) (by exact zBm hlt) zBA) ?_
    refine jy rfl rfl (zl rfl rfl rfl ty3) (jy rfl rfl (zg rfl rfl) (jy rfl rfl (zg rfl rfl) (zo (zn (jy rfl rfl (zI rfl rfl) (jy rfl rfl (zh rfl rfl) ?_))))))
    refine jy rfl rfl (zD rfl rfl rfl zA1 (by omega) (by exact zBh (by omega)) (zz7 fun _=>rfl)) ?_
    refine jy rfl rfl (zK rfl rfl zAs (by exact zLb rfl)) ?_
    refine qP  rfl rfl rfl rfl rfl rfl rfl zFp zAs rfl (by rfl) (zQ rfl) rfl ?_
    refine zo (zn (jy rfl rfl (zI rfl rfl) (jy rfl rfl (zh rfl rfl) (jy rfl rfl (zK rfl rfl zAs (by exact zLb rfl)) (jy rfl rfl (vH (av:=[_, _]) rfl rfl ⟨rfl, rfl, trivial⟩ (hp _ _ (List.getElem_mem (by omega)))) (jy rfl rfl (qJ rfl rfl) (zo (zA rfl (fun h2=>?_) (fun h2=>?_)))))))))
    ·have hne:eqL p ds xs = false:=zFY hlt (by omega) (by simpa using h2)
     refine zn (jy rfl rfl (zg rfl rfl) (zo (zN (zZ (zP (zP (zZ (zP ?_))))))))
     exact ⟨.inr rfl, AVle.of (by rw [hne])⟩
    ·have hpk:p ds[k] (xs[k]'(by omega)) = true:=by simpa using h2
     refine zH (zJ (zk (zx (jy rfl rfl (zW rfl rfl rfl ⟨by omega, by omega⟩) (jy rfl rfl (zh rfl rfl) (zM ?_))))))
     exact ⟨⟨k + 1, by omega, fun j h1 h2 hj=>(Nat.lt_succ_iff_lt_or_eq.1 hj).elim (hk.2 j h1 h2) (fun e=>by subst e; exact hpk)⟩, by dsimp only; omega, zy _ ⟨rfl, rfl, rfl, rfl, rfl, trivial⟩ (rfl)⟩
   ·have hge:k = ds.length:=by simp at h1; omega
    refine zAj (zS (zS (zAi (zk (zn (jy rfl rfl (zg rfl rfl) (zo (zN ?_))))))))
    exact ⟨.inr rfl, AVle.of (by rw [zCh heq (fun j h1 h2=>hk.2 j h1 h2 (by omega))])⟩
theorem f159 (d:Int) (r:Rep):ACall Tryz.prog G 159 [ei d, .agg (eRep r)] (.v (.bool (inB d r.dl r.dh))):=by
 refine zO Tryz.func159 rfl (by kernel_rfl) rfl ?_
 refine zn (jy rfl rfl (ql rfl (zQ rfl)) (jy rfl rfl (zg rfl rfl) (zo (zn (jy rfl rfl (zh rfl rfl) (jy rfl rfl (zi rfl rfl zB7) (jy rfl rfl (zi rfl rfl zqK) (jy rfl rfl (zl rfl rfl rfl ty3) ?_))))))))
 refine jy rfl rfl (zi rfl rfl zB7) (jy rfl rfl (zi rfl rfl zqc) (jy rfl rfl (zl rfl rfl rfl ty3) (jy rfl rfl (zB (av:=[_, _, _]) rfl ⟨rfl, rfl, rfl, trivial⟩ (f148 _ _ _)) (jy rfl rfl (zg rfl rfl) (zo (zN ?_))))))
 exact ⟨.inr rfl, AVle.refl _⟩
theorem f59 {w:Wt} (hP:WtP w) (ds:List Int) (hl:ds.length <= 1000000):ACall Tryz.prog G 59 [.agg (eWt w), eI ds] (.v (.bool (dlB w ds))):=by
 refine zO Tryz.func59 rfl (by kernel_rfl) rfl ?_
 refine zn (jy rfl rfl (ql rfl (zQ rfl)) (jy rfl rfl (zg rfl rfl) (zo (zn (jy rfl rfl (zI rfl rfl) (jy rfl rfl (zi rfl rfl zzR) (jy rfl rfl (zl rfl rfl rfl zq0) ?_)))))))
 refine jy rfl rfl (zB (av:=[_, _, _]) rfl ⟨rfl, rfl, rfl, trivial⟩ (f158 159 ds w.reps hl (by have:=hP.lr; omega) (fun d x _=>f159 d x))) ?_
 refine jy rfl rfl (zg rfl rfl) (zo (zN ?_))
 exact ⟨.inr rfl, AVle.refl _⟩
theorem f12 (w:Wt) (ds:List Int) (hl:ds.length <= 1000000):ACall Tryz.prog G 12 [.agg (eWt w), eI ds] (.tup [ei (bif zDr w && dlB w ds then (zzX w ds).getD 0 else 0), ei (bif zDr w && dlB w ds then (if (zzX w ds).isSome then 0 else 5) else 2)]):=by
 refine zO Tryz.func12 rfl (by kernel_rfl) rfl ?_
 refine zn (jy rfl rfl (ql rfl (zQ rfl)) (jy rfl rfl (zg rfl rfl) (jy rfl rfl (zg rfl rfl) (zo (zt (zn (jy rfl rfl (zK rfl rfl zz8 (by exact zLb rfl)) (jy rfl rfl (zB (av:=[_]) rfl ⟨rfl, trivial⟩ (f58 w)) ?_))))))))
 refine jy rfl rfl (qJ rfl rfl) (jy rfl rfl (zh rfl rfl) (zjW rfl rfl rfl (fun hg=>zK rfl rfl zz8 (by exact zLb rfl)) (zjW rfl rfl rfl (fun hg=>zI rfl rfl) ?_)))
 refine zjW rfl rfl rfl (fun hg=>zB (av:=[_, _]) rfl ⟨((if_pos hg)), ((if_pos hg)), trivial⟩ (f59 (wtP (by have hw:=hg; simpa using hw)) ds hl)) ?_
 refine zjW rfl rfl rfl (fun hg=>qJ rfl (if_pos hg)) (jy rfl rfl (jf rfl rfl rfl rfl) (zo (zA rfl (fun h0=>?_) (fun h0=>?_))))
 ·have hno:(zDr w && dlB w ds) = false:=by simp at h0; cases h1:zDr w <;> simp_all
  refine zn (jy rfl rfl (zg rfl rfl) (jy rfl rfl (zg rfl rfl) (zo (zN (zP ?_)))))
  exact ⟨.inr rfl, ⟨_, rfl, ⟨_, _, rfl, AVle.of (by rw [hno]; rfl), ⟨_, _, rfl, AVle.of (by rw [hno]; rfl), rfl⟩⟩⟩⟩
 ·have hok:zDr w = true /\ dlB w ds = true:=by simp at h0; exact h0
  have hyes:(zDr w && dlB w ds) = true:=by simp [hok]
  have sp61 : ACall Tryz.prog G 61 [.agg (eLk w), eI ds] (.tup [ei ((zzX w ds).getD 0), .v (.bool (zzX w ds).isSome)]) := by
     cases hr:zzX w ds with
     | none=>exact zEC (wtP hok.1) (dlP (wtP hok.1) hok.2) hr
     | some x=>exact zEz (wtP hok.1) (dlP (wtP hok.1) hok.2) hr
  refine zH (zk (zn (jy rfl rfl (zK rfl rfl zz8 (by exact zLb rfl)) (jy rfl rfl (zB (av:=[_]) rfl ⟨rfl, trivial⟩ (f60 (wtP hok.1))) (jy rfl rfl (zI rfl rfl) (jy rfl rfl (zB (av:=[_, _]) rfl ⟨rfl, rfl, trivial⟩ sp61) (jy rfl rfl (zI rfl rfl) (jy rfl rfl (zU rfl rfl rfl) (jy rfl rfl (zU rfl rfl rfl) (jy rfl rfl (zg rfl rfl) ?_))))))))))
  refine jy rfl rfl (zg rfl rfl) (zo (zt (zn (jy rfl rfl (zh rfl rfl) (jy rfl rfl (qJ rfl rfl) (zo (zA rfl (fun h1=>?_) (fun h1=>?_))))))))
  ·have hs:(zzX w ds).isSome = false:=by simpa using h1
   have hg0 : (zzX w ds).getD 0 = 0 := by cases hr : zzX w ds with
      | none=>rfl
      | some x=>rw [hr] at hs; cases hs
   refine zn (jy rfl rfl (zg rfl rfl) (jy rfl rfl (zg rfl rfl) (zo (zN (zP ?_)))))
   exact ⟨.inr rfl, ⟨_, rfl, ⟨_, _, rfl, AVle.of (by rw [hyes, cond_true, hg0]), ⟨_, _, rfl, AVle.of (by rw [hyes, cond_true, hs]; rfl), rfl⟩⟩⟩⟩
  ·have hs:(zzX w ds).isSome = true:=by simpa using h1
   refine zH (zk (zn (jy rfl rfl (zh rfl rfl) (jy rfl rfl (zg rfl rfl) (jy rfl rfl (zg rfl rfl) (zo (zN ?_)))))))
   exact ⟨.inr rfl, ⟨_, rfl, ⟨_, _, rfl, AVle.of (by rw [hyes, cond_true]), ⟨_, _, rfl, AVle.of (by rw [hyes, cond_true, hs]; rfl), rfl⟩⟩⟩⟩
theorem f63 (w:Wt):ACall Tryz.prog G 63 [.agg (eWt w)] (.tup [ei (if zDr w then (zzX w (zz1 w)).getD 0 else 0), ei (if zDr w then (if (zzX w (zz1 w)).isSome then (zzX w (zzY w)).getD (-1) else 0) else 0), ei (if zDr w then (if (zzX w (zz1 w)).isSome then 0 else 5) else 2)]):=by
 refine zO Tryz.func63 rfl (by kernel_rfl) rfl ?_
 refine zn (jy rfl rfl (ql rfl (zQ rfl)) (jy rfl rfl (zg rfl rfl) (jy rfl rfl (zg rfl rfl) (jy rfl rfl (zg rfl rfl) (zo (zt (zn (jy rfl rfl (zK rfl rfl zz8 (by exact zLb rfl)) ?_))))))))
 refine jy rfl rfl (zB (av:=[_]) rfl ⟨rfl, trivial⟩ (f58 w)) (jy rfl rfl (qJ rfl rfl) (zo (zA rfl (fun h0=>?_) (fun h0=>?_))))
 ·have hno:zDr w = false:=by simpa using h0
  refine zn (jy rfl rfl (zg rfl rfl) (jy rfl rfl (zg rfl rfl) (jy rfl rfl (zg rfl rfl) (zo (zN (zP ?_))))))
  exact ⟨.inr rfl, ⟨_, rfl, ⟨_, _, rfl, AVle.of (by rw [hno]; rfl), ⟨_, _, rfl, AVle.of (by rw [hno]; rfl), ⟨_, _, rfl, AVle.of (by rw [hno]; rfl), rfl⟩⟩⟩⟩⟩
 ·have hok:zDr w = true:=by simpa using h0
  have sp61 : ∀ {ds : List Int}, DlP w ds -> ACall Tryz.prog G 61 [.agg (eLk w), eI ds] (.tup [ei ((zzX w ds).getD 0), .v (.bool (zzX w ds).isSome)]) := fun {ds} hd => by
     cases hr:zzX w ds with
     | none=>exact zEC (wtP hok) hd hr
     | some x=>exact zEz (wtP hok) hd hr
  refine zH (zk (zn (jy rfl rfl (zK rfl rfl zz8 (by exact zLb rfl)) (jy rfl rfl (zB (av:=[_]) rfl ⟨rfl, trivial⟩ (f60 (wtP hok))) ?_))))
  refine qP  rfl rfl rfl rfl rfl rfl rfl zFI zDy rfl (by rfl) (zQ rfl) rfl ?_
  refine zo (zn (jy rfl rfl (zK rfl rfl zDy (by exact zLb rfl)) (jy rfl rfl (zB (av:=[_]) rfl ⟨rfl, trivial⟩ (f163 (wtP hok))) ?_)))
  refine qP  rfl rfl rfl rfl rfl rfl rfl zEP zEt rfl (by rfl) (zQ rfl) rfl ?_
  refine zo (zn (jy rfl rfl (zK rfl rfl zDy (by exact zLb rfl)) (jy rfl rfl (zDv rfl rfl rfl zDK (by omega) (by omega)) (jy rfl rfl (zl rfl rfl rfl kN) (jy rfl rfl (zB (av:=[_, _]) rfl ⟨rfl, rfl, trivial⟩ (sp61 (zER (wtP hok)))) (jy rfl rfl (zI rfl rfl) (jy rfl rfl (zU rfl rfl rfl) (jy rfl rfl (zU rfl rfl rfl) (jy rfl rfl (zg rfl rfl) ?_)))))))))
  refine jy rfl rfl (zg rfl rfl) (zo (zt (zn (jy rfl rfl (zh rfl rfl) (jy rfl rfl (qJ rfl rfl) (zo (zA rfl (fun h1=>?_) (fun h1=>?_))))))))
  ·have hs:(zzX w (zz1 w)).isSome = false:=by simpa using h1
   have hg0 : (zzX w (zz1 w)).getD 0 = 0 := by cases hr : zzX w (zz1 w) with
      | none=>rfl
      | some x=>rw [hr] at hs; cases hs
   refine zn (jy rfl rfl (zg rfl rfl) (jy rfl rfl (zg rfl rfl) (jy rfl rfl (zg rfl rfl) (zo (zN (zP ?_))))))
   exact ⟨.inr rfl, ⟨_, rfl, ⟨_, _, rfl, AVle.of (by rw [if_pos hok, hg0]), ⟨_, _, rfl, AVle.of (by rw [if_pos hok, hs]; rfl), ⟨_, _, rfl, AVle.of (by rw [if_pos hok, hs]; rfl), rfl⟩⟩⟩⟩⟩
  ·have hs:(zzX w (zz1 w)).isSome = true:=by simpa using h1
   refine zH (zk (zn (jy rfl rfl (zK rfl rfl zDy (by exact zLb rfl)) (jy rfl rfl (zDv rfl rfl rfl zDK (by omega) (by omega)) (jy rfl rfl (zl rfl rfl rfl kN) (jy rfl rfl (zB (av:=[_, _]) rfl ⟨rfl, rfl, trivial⟩ (sp61 (zEG (wtP hok)))) (jy rfl rfl (zI rfl rfl) (jy rfl rfl (zU rfl rfl rfl) (jy rfl rfl (zU rfl rfl rfl) (jy rfl rfl (zg rfl rfl) ?_))))))))))
   refine jy rfl rfl (zg rfl rfl) (zo (zt (zn (jy rfl rfl (zh rfl rfl) (jy rfl rfl (qJ rfl rfl) (zo (zA rfl (fun h2=>?_) (fun h2=>?_))))))))
   ·have hs2 : (zzX w (zzY w)).getD (-1) = -1 := by cases hr : zzX w (zzY w) with
       | none=>rfl
       | some x=>simp [hr] at h2
    refine zx (jy rfl rfl (zg rfl rfl) (zo (zn (jy rfl rfl (zh rfl rfl) (jy rfl rfl (zh rfl rfl) (jy rfl rfl (zg rfl rfl) (jy rfl rfl (zg rfl rfl) (jy rfl rfl (zg rfl rfl) (zM ?_)))))))))
    refine zk (zN ?_)
    exact ⟨.inr rfl, ⟨_, rfl, ⟨_, _, rfl, AVle.of (by rw [if_pos hok]), ⟨_, _, rfl, AVle.of (by rw [if_pos hok, if_pos hs, hs2]), ⟨_, _, rfl, AVle.of (by rw [if_pos hok, if_pos hs]), rfl⟩⟩⟩⟩⟩
   ·have hs2 : (zzX w (zzY w)).getD (-1) = (zzX w (zzY w)).getD 0 := by cases hr : zzX w (zzY w) with
       | none=>simp [hr] at h2
       | some x=>rfl
    refine zH (zk (zn (jy rfl rfl (zh rfl rfl) (jy rfl rfl (zh rfl rfl) (jy rfl rfl (zg rfl rfl) (jy rfl rfl (zg rfl rfl) (jy rfl rfl (zg rfl rfl) (zo (zN ?_)))))))))
    exact ⟨.inr rfl, ⟨_, rfl, ⟨_, _, rfl, AVle.of (by rw [if_pos hok]), ⟨_, _, rfl, AVle.of (by rw [if_pos hok, if_pos hs, hs2]), ⟨_, _, rfl, AVle.of (by rw [if_pos hok, if_pos hs]), rfl⟩⟩⟩⟩⟩
theorem f64 (w:Wt) (ds:List Int) (hl:ds.length <= 1000000) (i n t:Int):ACall Tryz.prog G 64 [.agg (eWt w), eI ds, ei i, ei n, ei t] (.v (.bool (hoB w ds i n t))):=by
 have hlm:(w.prts.map ePrt).length = w.prts.length:=by simp
 refine zO Tryz.func64 rfl (by kernel_rfl) rfl ?_
 refine zn (jy rfl rfl (ql rfl (zQ rfl)) (jy rfl rfl (zg rfl rfl) (zo (zt ?_))))
 refine qp mixed (by kernel_rfl) rfl ?_
 refine zu rfl (zK rfl rfl zz8 (by exact zLb rfl)) (zu rfl (zB (av:=[_]) rfl ⟨rfl, trivial⟩ (f58 w)) (zu rfl (zh rfl rfl) (zq rfl (fun hg=>zK rfl rfl zz8 (by exact zLb rfl)) (zq rfl (fun hg=>zI rfl rfl) (zq rfl (fun hg=>zB (av:=[_, _]) rfl ⟨((if_pos hg)), ((if_pos hg)), trivial⟩ (f59 (wtP hg) ds hl)) (zu rfl (jg rfl rfl rfl rfl) (zu rfl (zh rfl rfl) (zq rfl (fun hg=>zh rfl rfl) (zq rfl (fun hg=>zi rfl rfl zAa) (zq rfl (fun hg=>zl rfl (if_pos hg) rfl zBt) (zq rfl (fun hg=>qA rfl rfl (if_pos hg) Tryz.underlying31) ?_)))))))))))
 refine zq rfl (fun hg=>vN rfl (if_pos hg) rfl ⟨by have:=(wtP (zFN hg)).lp; omega, by have:=(wtP (zFN hg)).lp; omega⟩) ?_
 refine zq rfl (fun hg=>zB (av:=[_, _, _]) rfl ⟨((if_pos hg)), rfl, ((if_pos hg)), trivial⟩ (f148 _ _ _)) (zu rfl (jg rfl rfl rfl rfl) (zu rfl (zh rfl rfl) (zq rfl (fun hg=>zh rfl rfl) (zq rfl (fun hg=>zi rfl rfl zAa) (zq rfl (fun hg=>zl rfl (if_pos hg) rfl zBt) (zq rfl (fun hg=>zh rfl rfl) ?_))))))
 refine zq rfl (fun hg=>zD rfl (if_pos hg) (if_pos hg) zCn (by have:=zz6.1 (zEu hg); omega) (by exact zCo (by have:=zz6.1 (zEu hg); omega)) zBB) ?_
 refine zq rfl (fun hg=>zi rfl (if_pos hg) zBf) (zq rfl (fun hg=>zi rfl (if_pos hg) zqK) (zq rfl (fun hg=>zl rfl (if_pos hg) rfl ty3) (zq rfl (fun hg=>zi rfl rfl zAa) (zq rfl (fun hg=>zl rfl (if_pos hg) rfl zBt) (zq rfl (fun hg=>zh rfl rfl) ?_)))))
 refine zq rfl (fun hg=>zD rfl (if_pos hg) (if_pos hg) zCn (by have:=zz6.1 (zEu hg); omega) (by exact zCo (by have:=zz6.1 (zEu hg); omega)) zBB) ?_
 refine zq rfl (fun hg=>zi rfl (if_pos hg) zBf) (zq rfl (fun hg=>zi rfl (if_pos hg) zqc) (zq rfl (fun hg=>zl rfl (if_pos hg) rfl ty3) (zq rfl (fun hg=>zB (av:=[_, _, _]) rfl ⟨((if_pos hg)), ((if_pos hg)), ((if_pos hg)), trivial⟩ (f148 _ _ _)) (zu rfl (jg rfl rfl rfl rfl) (zu rfl (zh rfl rfl) (zq rfl (fun hg=>zh rfl rfl) (zq rfl (fun hg=>zB (av:=[_, _, _]) rfl ⟨((if_pos hg)), rfl, rfl, trivial⟩ (f148 _ _ _)) (zu rfl (jg rfl rfl rfl rfl) (zu rfl (zg rfl rfl) (qF (zk ?_)))))))))))
 refine zN ?_
 exact ⟨.inr rfl, AVle.of (by simp [hoB, Bool.and_assoc])⟩
end Hs
end Go.Av
end
section
namespace Go.Av
namespace Hs
open Go.Proofs
set_option maxRecDepth 100000
set_option maxHeartbeats 1000000
variable {G:Glob}
theorem zDl {a:Bool} (h:(!!a) = true):a = true:=by cases a <;> simp_all
def zB2 (w:Wt) (i t:Int):Bool:=zDr w && inB i 0 (w.prts.length - 1) && inB t 0 20000
theorem zFA {w:Wt} {ds:List Int} {i n t:Int} (h:hoB w ds i n t = true):zDr w = true /\ dlB w ds = true /\ (0 <= i /\ i < w.prts.length) /\ ((ptW w i).ol <= n /\ n <= (ptW w i).oh) /\ (0 <= t /\ t <= 20000):=by
 simp only[hoB, zLa, zz6] at h
 exact ⟨h.1.1.1.1, h.1.1.1.2, by omega, by omega, by omega⟩
theorem zFi {w:Wt} {i t:Int} (h:zB2 w i t = true):zDr w = true /\ (0 <= i /\ i < w.prts.length) /\ (0 <= t /\ t <= 20000):=by
 simp only[zB2, zLa, zz6] at h
 exact ⟨h.1.1, by omega, by omega⟩
theorem f14 (w:Wt) (ds:List Int) (hl:ds.length <= 1000000) (i n t:Int):ACall Tryz.prog G 14 [.agg (eWt w), eI ds, ei i, ei n, ei t] (.tup [.v (.bool (hoB w ds i n t && zBS w ds n t)), ei (if hoB w ds i n t then 0 else 2)]):=by
 refine zO Tryz.func14 rfl (by kernel_rfl) rfl ?_
 refine zn (jy rfl rfl (ql rfl (zQ rfl)) (jy rfl rfl (zg rfl rfl) (jy rfl rfl (zg rfl rfl) (zo (zt (zn (jy rfl rfl (zK rfl rfl zz8 (by exact zLb rfl)) (jy rfl rfl (zI rfl rfl) ?_))))))))
 refine jy rfl rfl (zh rfl rfl) (jy rfl rfl (zh rfl rfl) (jy rfl rfl (zh rfl rfl) (jy rfl rfl (zB (av:=[_, _, _, _, _]) rfl ⟨rfl, rfl, rfl, rfl, rfl, trivial⟩ (f64 w ds hl i n t)) (jy rfl rfl (qJ rfl rfl) (zo (zA rfl (fun h0=>?_) (fun h0=>?_)))))))
 ·have hno:hoB w ds i n t = false:=by simpa using h0
  refine zn (jy rfl rfl (zg rfl rfl) (jy rfl rfl (zg rfl rfl) (zo (zN (zP ?_)))))
  exact ⟨.inr rfl, ⟨_, rfl, ⟨_, _, rfl, AVle.of (by rw [hno]; rfl), ⟨_, _, rfl, AVle.of (by rw [hno]; rfl), rfl⟩⟩⟩⟩
 ·have hyes:hoB w ds i n t = true:=by simpa using h0
  have hok:=zFA hyes
  have hpb:=zCt (wtP hok.1) hok.2.2.1
  refine zH (zk (zn (jy rfl rfl (zK rfl rfl zz8 (by exact zLb rfl)) (jy rfl rfl (zB (av:=[_]) rfl ⟨rfl, trivial⟩ (f60 (wtP hok.1))) (jy rfl rfl (zI rfl rfl) (jy rfl rfl (zh rfl rfl) (jy rfl rfl (zh rfl rfl) (jy rfl rfl (vN rfl rfl rfl ⟨by omega, by omega⟩) (jy rfl rfl (zB (av:=[_, _, _]) rfl ⟨rfl, rfl, rfl, trivial⟩ (f65 (wtP hok.1) (dlP (wtP hok.1) hok.2.1) _)) (jy rfl rfl (zg rfl rfl) ?_))))))))))
  refine jy rfl rfl (zg rfl rfl) (zo (zN ?_))
  exact ⟨.inr rfl, ⟨_, rfl, ⟨_, _, rfl, AVle.of (by rw [hyes]; rfl), ⟨_, _, rfl, AVle.of (by rw [if_pos hyes]), rfl⟩⟩⟩⟩
theorem f66 (w:Wt) (i t:Int):ACall Tryz.prog G 66 [.agg (eWt w), ei i, ei t] (.tup [ei (if zB2 w i t then upV w i t else 0), ei (if zB2 w i t then 0 else 2)]):=by
 have hlm:(w.prts.map ePrt).length = w.prts.length:=by simp
 refine zO Tryz.func66 rfl (by kernel_rfl) rfl ?_
 refine zn (jy rfl rfl (ql rfl (zQ rfl)) (jy rfl rfl (zg rfl rfl) (jy rfl rfl (zg rfl rfl) (zo (zt (zn (jy rfl rfl (zK rfl rfl zz8 (by exact zLb rfl)) (jy rfl rfl (zB (av:=[_]) rfl ⟨rfl, trivial⟩ (f58 w)) ?_))))))))
 refine jy rfl rfl (qJ rfl rfl) (jy rfl rfl (zh rfl rfl) (zjW rfl rfl rfl (fun hg=>zh rfl rfl) (zjW rfl rfl rfl (fun hg=>zi rfl rfl zAa) (zjW rfl rfl rfl (fun hg=>zl rfl (if_pos hg) rfl zBt) (zjW rfl rfl rfl (fun hg=>qA rfl rfl (if_pos hg) Tryz.underlying31) ?_)))))
 refine zjW rfl rfl rfl (fun hg=>vN rfl (if_pos hg) rfl ⟨by have:=(wtP (zDl hg)).lp; omega, by have:=(wtP (zDl hg)).lp; omega⟩) ?_
 refine zjW rfl rfl rfl (fun hg=>zB (av:=[_, _, _]) rfl ⟨((if_pos hg)), rfl, ((if_pos hg)), trivial⟩ (f148 _ _ _)) (zjW rfl rfl rfl (fun hg=>qJ rfl (if_pos hg)) (jy rfl rfl (jf rfl rfl rfl rfl) (jy rfl rfl (zh rfl rfl) (zjW rfl rfl rfl (fun hg=>zh rfl rfl) (zjW rfl rfl rfl (fun hg=>zB (av:=[_, _, _]) rfl ⟨((if_pos hg)), rfl, rfl, trivial⟩ (f148 _ _ _)) (zjW rfl rfl rfl (fun hg=>qJ rfl (if_pos hg)) (jy rfl rfl (jf rfl rfl rfl rfl) (zo (zA rfl (fun h0=>?_) (fun h0=>?_))))))))))
 ·have hno:zB2 w i t = false:=by simp [zB2] at h0 ⊢; intro a b; simp_all
  refine zn (jy rfl rfl (zg rfl rfl) (jy rfl rfl (zg rfl rfl) (zo (zN (zP ?_)))))
  exact ⟨.inr rfl, ⟨_, rfl, ⟨_, _, rfl, AVle.of (by rw [hno]; rfl), ⟨_, _, rfl, AVle.of (by rw [hno]; rfl), rfl⟩⟩⟩⟩
 ·have hyes:zB2 w i t = true:=by simp [zB2] at h0 ⊢; simp_all
  have hok:=zFi hyes
  refine zH (zk (zn (jy rfl rfl (zK rfl rfl zz8 (by exact zLb rfl)) (jy rfl rfl (zB (av:=[_]) rfl ⟨rfl, trivial⟩ (f60 (wtP hok.1))) (jy rfl rfl (zh rfl rfl) (jy rfl rfl (zh rfl rfl) (jy rfl rfl (zB (av:=[_, _, _]) rfl ⟨rfl, rfl, rfl, trivial⟩ (f167 (wtP hok.1) i hok.2.1 t hok.2.2)) (jy rfl rfl (zU rfl rfl rfl) (jy rfl rfl (zU rfl rfl rfl) (jy rfl rfl (zB (av:=[_, _]) rfl ⟨rfl, rfl, trivial⟩ (f166 _ _)) ?_))))))))))
  refine jy rfl rfl (zg rfl rfl) (jy rfl rfl (zg rfl rfl) (zo (zN ?_)))
  exact ⟨.inr rfl, ⟨_, rfl, ⟨_, _, rfl, AVle.of (by rw [if_pos hyes]; unfold upV; cases upA w i t <;> cases upB w i t <;> rfl), ⟨_, _, rfl, AVle.of (by rw [if_pos hyes]), rfl⟩⟩⟩⟩
end Hs
end Go.Av
end
section
namespace Go.Av
namespace Hs
def tk0 (w:Wt):Prop:=∀ i, i < w.reps.length -> 0 <= (rpW w i).tk
theorem zDg {w:Wt} (hP:WtP w):tk0 w:=fun i h=>(zz4 (zBi hP h)).1.1
structure Srt (w:Wt) (ds es:List Int):Prop where
 le:∀ i, i < w.reps.length -> ds.getD i 0 <= es.getD i 0
 nn:∀ i, i < w.reps.length -> 0 <= ds.getD i 0
theorem zAm {w:Wt} {ds:List Int} (hn:∀ p ∈ zzV w, 0 <= seN w ds p):∀ (l:List (Nat × Nat)) (b:Int), (∀ p ∈ l, p ∈ zzV w) ->
  (l.foldl (bsN w ds) b = b ∨ ∃ p ∈ l, seN w ds p < enN w p /\ l.foldl (bsN w ds) b = seN w ds p) /\ (0 <= b -> l.foldl (bsN w ds) b <= b /\ 0 <= l.foldl (bsN w ds) b) /\
  (∀ p ∈ l, seN w ds p < enN w p -> 0 <= l.foldl (bsN w ds) b /\ l.foldl (bsN w ds) b <= seN w ds p)
 | [], b, _=>⟨.inl rfl, fun h=>⟨Int.le_refl _, h⟩, fun p hp=>by cases hp⟩
 | q :: l, b, hl=>by
  have hq:=hn q (hl q (List.mem_cons_self ..))
  obtain ⟨h1, h2, h3⟩:=zAm hn l (bsN w ds b q) (fun p hp=>hl p (List.mem_cons_of_mem _ hp))
  simp only[List.foldl_cons]
  cases hb:bsB w ds b q with
  | true=>
   have e:bsN w ds b q = seN w ds q:=by rw [bsN, hb]; rfl
   simp only[bsB, zLa, Bool.or_eq_true, decide_eq_true_eq] at hb
   rw [e] at h1 h2 h3 ⊢
   have h4:=h2 hq
   refine ⟨.inr ?_, fun h=>⟨by omega, h4.2⟩, fun p hp hs=>?_⟩
   ·rcases h1 with h1 | ⟨p, hp, hs, h1⟩
    ·exact ⟨q, List.mem_cons_self .., hb.1, h1⟩
    ·exact ⟨p, List.mem_cons_of_mem _ hp, hs, h1⟩
   ·rcases List.mem_cons.1 hp with hp | hp
    ·subst hp; exact ⟨h4.2, h4.1⟩
    ·exact h3 p hp hs
  | false=>
   have e:bsN w ds b q = b:=by rw [bsN, hb]; rfl
   rw [e] at h1 h2 h3 ⊢
   refine ⟨?_, h2, fun p hp hs=>?_⟩
   ·rcases h1 with h1 | ⟨p, hp, hs, h1⟩
    ·exact .inl h1
    ·exact .inr ⟨p, List.mem_cons_of_mem _ hp, hs, h1⟩
   ·rcases List.mem_cons.1 hp with hp | hp
    ·subst hp
     simp only[bsB, Bool.and_eq_false_iff, Bool.or_eq_false_iff, decide_eq_false_iff_not] at hb
     have h5:¬ b < 0 /\ ¬ seN w ds p < b:=hb.resolve_left (fun h=>h hs)
     have:=h2 (by omega)
     omega
    ·exact h3 p hp hs
theorem zAH {w:Wt} {ds:List Int} (ht:tk0 w) (hd:∀ i, i < w.reps.length -> 0 <= ds.getD i 0):∀ p ∈ zzV w, 0 <= seN w ds p:=fun p hp=>by
 have h1:=zAD.1 hp
 have:=ht p.1 h1.1
 have:=hd p.1 h1.1
 unfold seN; omega
theorem zAr {w:Wt} {ds:List Int} {x:Int} (hn:∀ p ∈ zzV w, 0 <= seN w ds p) (h:zzX w ds = some x):0 <= x /\ ∃ p ∈ zzV w, seN w ds p < enN w p /\ seN w ds p = x:=by
 obtain ⟨h1, _, _⟩:=zAm hn (zzV w) (-1) (fun _ h=>h)
 unfold zzX zBx at h
 split at h
 ·cases h
 ·rename_i h0
  injection h with h
  rcases h1 with h1 | ⟨p, hp, hs, h1⟩
  ·omega
  ·exact ⟨by omega, p, hp, hs, by omega⟩
theorem zCA {w:Wt} {ds:List Int} (hn:∀ p ∈ zzV w, 0 <= seN w ds p) {p:Nat × Nat} (hp:p ∈ zzV w) (hs:seN w ds p < enN w p):∃ x, zzX w ds = some x /\ x <= seN w ds p:=by
 obtain ⟨_, _, h3⟩:=zAm hn (zzV w) (-1) (fun _ h=>h)
 have:=h3 p hp hs
 exact ⟨_, zBw (by unfold zBx; omega), this.2⟩
theorem zBN {w:Wt} {ds es:List Int} (h:Srt w ds es) {p:Nat × Nat} (hp:p ∈ zzV w):seN w ds p <= seN w es p:=by
 have h1:=zAD.1 hp
 have:=h.le p.1 h1.1
 have:=h.le p.2 h1.2.1
 unfold seN; omega
theorem zAw {w:Wt} {ds es:List Int} (ht:tk0 w) (h:Srt w ds es) {y:Int} (hy:zzX w es = some y):∃ x, zzX w ds = some x /\ x <= y:=by
 have hn:=zAH ht h.nn
 have hn2:=zAH (ds:=es) ht (fun i hi=>by have:=h.le i hi; have:=h.nn i hi; omega)
 obtain ⟨_, p, hp, hs, rfl⟩:=zAr hn2 hy
 have hl:=zBN h hp
 obtain ⟨x, hx, hxl⟩:=zCA hn hp (by omega)
 exact ⟨x, hx, by omega⟩
theorem zBk {w:Wt} {ds es:List Int} (ht:tk0 w) (h:Srt w ds es) {y:Int} (hy:zzX w es = some y):zAB w ds y = true:=by
 have hn2:=zAH (ds:=es) ht (fun i hi=>by have:=h.le i hi; have:=h.nn i hi; omega)
 obtain ⟨_, p, hp, hs, rfl⟩:=zAr hn2 hy
 have hl:=zBN h hp
 exact List.any_eq_true.2 ⟨p, hp, by simp; omega⟩
theorem zBg {w:Wt} {i:Nat} (h:i < w.reps.length):(zz1 w).getD i 0 = (rpW w i).dl:=by rw [List.getD_eq_getElem?_getD, zCV h]; rfl
theorem zBP {w:Wt} {i:Nat} (h:i < w.reps.length):(zzY w).getD i 0 = (rpW w i).dh:=by rw [List.getD_eq_getElem?_getD, zB8 h]; rfl
theorem zBe {w:Wt} {ds:List Int} (h:dlB w ds = true):ds.length = w.reps.length /\ ∀ i, i < w.reps.length -> (rpW w i).dl <= ds.getD i 0 /\ ds.getD i 0 <= (rpW w i).dh:=by
 unfold dlB eqL at h
 rw [zLa, decide_eq_true_eq, List.all_eq_true] at h
 refine ⟨h.1, fun i hi=>?_⟩
 have h2:i < ds.length:=by rw [h.1]; exact hi
 have:=h.2 (ds[i], w.reps[i]) (List.mem_iff_getElem.2 ⟨i, by simp; omega, by simp⟩)
 rw [zz6] at this
 rw [← zAI hi, List.getD_eq_getElem?_getD, List.getElem?_eq_getElem h2]
 exact this
theorem zBF {w:Wt} {ds:List Int} (hP:WtP w) (h:dlB w ds = true):Srt w ds ds:=⟨fun _ _=>Int.le_refl _, fun i hi=>by
 have:=(zBe h).2 i hi; have:=zz4 (zBi hP hi); omega⟩
theorem zBq {w:Wt} {ds:List Int} (hP:WtP w) (h:dlB w ds = true):Srt w (zz1 w) ds:=⟨fun i hi=>by
 have:=(zBe h).2 i hi; rw [zBg hi]; omega, fun i hi=>by have:=zz4 (zBi hP hi); rw [zBg hi]; omega⟩
theorem zAM {w:Wt} {ds:List Int} (hP:WtP w) (h:dlB w ds = true):Srt w ds (zzY w):=⟨fun i hi=>by
 have:=(zBe h).2 i hi; rw [zBP hi]; omega, fun i hi=>by have:=(zBe h).2 i hi; have:=zz4 (zBi hP hi); omega⟩
theorem zCk {w:Wt} {ds:List Int} (hw:zDr w = true) (hd:dlB w ds = true):
  (zzX w ds = none -> zzX w (zzY w) = none) /\
  (∀ a, zzX w ds = some a -> 0 <= a /\ (∃ x, zzX w (zz1 w) = some x /\ x <= a) /\ (∀ y, zzX w (zzY w) = some y -> a <= y) /\ zAB w ds a = true /\ zAB w (zz1 w) a = true):=by
 have hP:=wtP hw
 have ht:=zDg hP
 have h0:=zBF hP hd
 refine ⟨fun hn=>?_, fun a ha=>⟨(zAr (zAH ht h0.nn) ha).1, zAw ht (zBq hP hd) ha, fun y hy=>?_, zBk ht h0 ha, zBk ht (zBq hP hd) ha⟩⟩
 ·cases hy:zzX w (zzY w) with
  | none=>rfl
  | some y=>obtain ⟨x, hx, _⟩:=zAw ht (zAM hP hd) hy; rw [hn] at hx; cases hx
 ·obtain ⟨x, hx, hl⟩:=zAw ht (zAM hP hd) hy
  rw [ha] at hx; injection hx with hx; omega
end Hs
end Go.Av
end
