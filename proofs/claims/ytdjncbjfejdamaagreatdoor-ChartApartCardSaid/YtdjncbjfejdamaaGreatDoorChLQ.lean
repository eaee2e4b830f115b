import Derived.Test.YtdjncbjfejdamaaGreatDoorChLP
import Derived.Test.YtdjncbjfejdamaaGreatDoorChLB
import Derived.Test.YtdjncbjfejdamaaGreatDoorChLO
set_option linter.unusedVariables false
set_option linter.unusedSimpArgs false
section
namespace Go.Av
open Go.Proofs Go.Gr
set_option maxRecDepth 100000
def atJ (w p:Nat) (x:Cr) (g:Bool):Int:=match atL (zPq w p) x g 4 with | some n=>(n:Int) | none=>-1
theorem zUd (c:List Nat) (x:Cr) (g:Bool) {k:Nat} (hk:k < 4):atL c x g (4 - k) = (bif c.getD k 0 == x.1 && c.getD ((k + 1) % 4) 0 == x.2 then some (bif g then 10 * k + 6 else 10 * k + 3)
  else bif c.getD k 0 == x.2 && c.getD ((k + 1) % 4) 0 == x.1 then some (bif g then 10 * k + 3 else 10 * k + 6) else atL c x g (4 - (k + 1))):=by
 have:k = 0 ∨ k = 1 ∨ k = 2 ∨ k = 3:=by omega
 rcases this with rfl | rfl | rfl | rfl <;> rfl
theorem zUt {w p k:Nat}:cnR w p (k:Int) = (zPq w p).getD k 0:=rfl
theorem zUx {w p k:Nat} (hk:k < 4):cnR w p (((k:Int) + 1) % 4) = (zPq w p).getD ((k + 1) % 4) 0:=by
 have:k = 0 ∨ k = 1 ∨ k = 2 ∨ k = 3:=by omega
 rcases this with rfl | rfl | rfl | rfl <;> rfl
section
variable {w p k:Nat} {x:Cr} {g:Bool}
theorem zUw (hk:k < 4) (hi:atL (zPq w p) x g 4 = atL (zPq w p) x g (4 - k)) (h:((((cnR w p (k:Int):Nat):Int) == (x.1:Int)) && (((cnR w p (((k:Int) + 1) % 4):Nat):Int) == (x.2:Int))) = true):atJ w p x g = 10 * (k:Int) + (if g = true then 6 else 3):=by
 rw [zI5, zI5, zUt, zUx hk] at h
 unfold atJ
 rw [hi, zUd _ _ _ hk, h]
 cases g <;> simp
theorem zUq (hk:k < 4) (hi:atL (zPq w p) x g 4 = atL (zPq w p) x g (4 - k)) (hn:((((cnR w p (k:Int):Nat):Int) == (x.1:Int)) && (((cnR w p (((k:Int) + 1) % 4):Nat):Int) == (x.2:Int))) = false)
  (h:((((cnR w p (k:Int):Nat):Int) == (x.2:Int)) && (((cnR w p (((k:Int) + 1) % 4):Nat):Int) == (x.1:Int))) = true):atJ w p x g = 10 * (k:Int) + (if g = true then 3 else 6):=by
 rw [zI5, zI5, zUt, zUx hk] at h hn
 unfold atJ
 rw [hi, zUd _ _ _ hk, hn, h]
 cases g <;> simp
theorem zUz (hk:k < 4) (hi:atL (zPq w p) x g 4 = atL (zPq w p) x g (4 - k)) (hn:((((cnR w p (k:Int):Nat):Int) == (x.1:Int)) && (((cnR w p (((k:Int) + 1) % 4):Nat):Int) == (x.2:Int))) = false)
  (h:((((cnR w p (k:Int):Nat):Int) == (x.2:Int)) && (((cnR w p (((k:Int) + 1) % 4):Nat):Int) == (x.1:Int))) = false):atL (zPq w p) x g 4 = atL (zPq w p) x g (4 - (k + 1)):=by
 rw [zI5, zI5, zUt, zUx hk] at h hn
 rw [hi, zUd _ _ _ hk, hn, h]; rfl
theorem zUr (hi:atL (zPq w p) x g 4 = atL (zPq w p) x g (4 - 4)):atJ w p x g = -1:=by
 unfold atJ; rw [hi]; rfl
end
section
variable {h:Nat -> Bool} {w r:Nat}
def JOK (h:Nat -> Bool) (w r:Nat) (q:Nat × Cr × Cr):Prop:=q.1 < (wP w r).length /\ ptO h w ((wP w r).getD q.1 0) q.2.1 = some q.2.2
theorem zUe (hw6:w <= 6) (hr:r <= 5) {x y:Cr} (hy:y ∈ nbC h w r x):JOK h w r (zTc w r x y, x, y):=by
 obtain ⟨p, hp, h0, h1, h2, hu⟩:=zTw hw6 hr hy
 have hs:=zTR hp h1 h2
 unfold JOK zTc
 cases e:zSY w r x y with
 | none=>rw [e] at hs; cases hs
 | some c=>
  have e2:=e
  unfold zSY at e2
  have m1:=zS7.1 (List.mem_of_find?_eq_some e2)
  have m2:=zS7.1 (List.contains_iff_mem.1 (List.find?_some e2))
  have hm:(wP w r).getD c 0 ∈ wP w r:=by rw [show (wP w r).getD c 0 = (wP w r)[c] from by simp [List.getD, m1.1]]; exact List.getElem_mem m1.1
  have:=hu _ hm m1.2 m2.2
  exact ⟨m1.1, by show ptO h w ((wP w r).getD c 0) x = some y; rw [this]; exact h0⟩
theorem zUn (hw6:w <= 6) (hr:r <= 5):∀ q ∈ joT w r (zHT h w r) (zHT h w r).length, JOK h w r q:=fun q hq=>by
 unfold joT at hq
 rw [List.take_length] at hq
 obtain ⟨l, hl, hm⟩:=List.mem_flatMap.1 hq
 have H:=zS0 hw6 hr hl
 unfold joL at hm
 rcases List.mem_append.1 hm with hm | hm
 ·
  unfold joP at hm
  obtain ⟨i, hi, rfl⟩:=List.mem_map.1 hm
  rw [List.mem_range] at hi
  unfold jP1
  rw [gd (show i < l.length by omega), gd (show i + 1 < l.length by omega)]
  exact zUe hw6 hr (H.pth.st i (by omega))
 ·
  unfold joE at hm
  split at hm
  ·
   rename_i hB
   rw [List.mem_singleton] at hm
   subst hm
   unfold joB at hB
   rw [gd H.pos] at hB
   simp only[zLa, decide_eq_true_eq, beq_iff_eq] at hB
   have hc:=zTg hw6 hr H hB.1 (cellI_cellX.symm.trans hB.2)
   unfold joX
   rw [gd H.pos, gd (show l.length - 1 < l.length by omega)]
   exact zUe hw6 hr hc
  ·
   cases hm
theorem zUo {h2:Nat -> Bool} (hle:∀ k, h2 k = true -> h k = true) {q s:Nat × Cr × Cr} (hq:JOK h w r q) (hs:JOK h2 w r s) (hc:q.1 = s.1):
  ∃ z:Nat × Nat × Nat × Nat, atJ w ((wP w r).getD q.1 0) q.2.1 false = (z.1:Int) /\ atJ w ((wP w r).getD q.1 0) q.2.2 false = (z.2.1:Int) /\ atJ w ((wP w r).getD q.1 0) s.2.1 true = (z.2.2.1:Int) /\ atJ w ((wP w r).getD q.1 0) s.2.2 true = (z.2.2.2:Int) /\ zVq z.1 z.2.1 z.2.2.1 z.2.2.2 = true:=by
 have hw:1 < w:=by
  apply Classical.byContradiction
  intro hw
  have:=hq.1
  rw [cells_one (by omega)] at this
  simp at this
 have e2:=hs.2
 rw [← hc] at e2
 obtain ⟨a, b, r', s', e1, e2, e3, e4, e5⟩:=zU2 hw hle hq.2 e2
 refine ⟨(a, b, r', s'), ?_, ?_, ?_, ?_, e5⟩
 ·
  unfold atJ; rw [e1]
 ·
  unfold atJ; rw [e2]
 ·
  unfold atJ; rw [e3]
 ·
  unfold atJ; rw [e4]
theorem zUs {a b r s:Nat} (hs:zVq a b r s = true):((((decide ((a:Int) < 0) || decide ((b:Int) < 0)) || decide ((r:Int) < 0)) || decide ((s:Int) < 0)) || ((decide ((r:Int) > min (a:Int) b) && decide ((r:Int) < max (a:Int) b)) != (decide ((s:Int) > min (a:Int) b) && decide ((s:Int) < max (a:Int) b)))) = false:=by
 have h1:decide ((a:Int) < 0) = false:=decide_eq_false (by omega)
 have h2:decide ((b:Int) < 0) = false:=decide_eq_false (by omega)
 have h3:decide ((r:Int) < 0) = false:=decide_eq_false (by omega)
 have h4:decide ((s:Int) < 0) = false:=decide_eq_false (by omega)
 have h5:∀ n:Nat, decide ((n:Int) > min (a:Int) b) = decide (min a b < n):=fun n=>decide_eq_decide.2 (by omega)
 have h6:∀ n:Nat, decide ((n:Int) < max (a:Int) b) = decide (n < max a b):=fun n=>decide_eq_decide.2 (by omega)
 rw [h1, h2, h3, h4, h5, h5, h6, h6]
 unfold zVq at hs
 rw [beq_iff_eq] at hs
 rw [hs]; simp
end
end Go.Av
end
section
namespace Go.Av
open Go.Proofs
set_option maxRecDepth 100000
set_option maxHeartbeats 1000000
variable {G:Glob}
theorem zUb:fldIs Tryz.prog 55 0 0 = true:=by kernel_rfl
theorem f36 (f:Fld) (c:Nat) (x:Cr) (g:Bool) (hf:zHz f = true) (hc:c < (wP (wF f) (rF f)).length):ACall Tryz.prog G 36 [.agg (zHF f), ei (c:Int), .agg (eCr x), .v (.bool g)] (ei (atJ (wF f) ((wP (wF f) (rF f)).getD c 0) x g)):=by
 obtain ⟨zw, w1, w6, r1, r5, hlen⟩:=zNh hf
 have hwr:=zKu w6 r5
 obtain ⟨b1, b2, b3⟩:=zJI hf
 have h87:=f87 (G:=G) f hf
 unfold zNN at h87
 generalize wF f = w at zw w1 w6 hlen hwr h87 hc ⊢
 generalize rF f = r at r1 r5 hlen hwr h87 hc ⊢
 have hcl:=zJz hwr
 have hcin:=fun p (hp:p ∈ wP w r)=>zSj hp
 generalize wP w r = cs at h87 hcl hc hcin ⊢
 have hpin:=hcin (cs.getD c 0) (by rw [show cs.getD c 0 = cs[c] by simp [List.getD, hc]]; exact List.getElem_mem hc)
 refine zS Tryz.func36 rfl (by kernel_rfl) rfl ?_
 refine zuy (zh ?_)
 refine zg rfl rfl (jf rfl (zY rfl)) ?_
 refine zg rfl rfl (jf rfl (zY rfl)) ?_
 refine zg rfl rfl (zn rfl rfl) ?_
 refine zo (zf (zuy (zh ?_)))
 refine zg rfl rfl (zZ rfl rfl zHQ (by exact zLb rfl)) ?_
 refine zg rfl rfl (zy (av:=[_]) rfl ⟨rfl, trivial⟩ h87) ?_
 refine zg rfl rfl (zW rfl rfl) ?_
 refine zo (zf (zuy (zuy (zh ?_))))
 refine zg rfl rfl (zn rfl rfl) ?_
 refine zo (zf (zB ?_))
 refine qy (ι:={ k:Nat // k <= 4 /\ atL (zPq w (cs.getD c 0)) x g 4 = atL (zPq w (cs.getD c 0)) x g (4 - k) }) (fun k=>⟨Tryz.f36.ntmps, frL [(1, I (c:Int)), (3, B g), (6, .pub (.ptr (eCr x))), (9, .pub (.sl (cs.map (eC4 w)))), (10, I (k.1:Int))], []⟩) (fun k=>4 - k.1) (⟨0, by omega, rfl⟩) ?_ ?_
 ·
  exact zt _ ⟨rfl, rfl, rfl, rfl, rfl, trivial⟩ (rfl)
 ·
  rintro ⟨k, hk⟩
  dsimp only
  refine zuy (zuy (zh ?_))
  refine zg rfl rfl (zi rfl rfl) ?_
  refine zg rfl rfl (zUB rfl rfl rfl) ?_
  refine zo (zf (zx rfl (fun h0=>?_) (fun h0=>?_)))
  ·
   have hk4:k < 4:=by simp at h0; omega
   refine zC (zf (zuy (zB (zuy ?_))))
   refine qY mixed (by kernel_rfl) rfl ?_
   refine zH rfl (zq rfl rfl) ?_
   refine zH rfl (zi rfl rfl) ?_
   refine zH rfl (zi rfl rfl) ?_
   refine zH rfl (zG rfl rfl rfl zNS (by omega) (zOd hc) zOE) ?_
   refine zH rfl (vP rfl rfl rfl zR8 (by omega) (by omega)) ?_
   refine zH rfl (zA rfl rfl (zOu (by omega) (by omega)) ty3) ?_
   refine zH rfl (zq rfl rfl) ?_
   refine zH rfl (zi rfl rfl) ?_
   refine zH rfl (zi rfl rfl) ?_
   refine zH rfl (zV rfl rfl rfl ⟨(by omega), (by omega)⟩) ?_
   refine zH rfl (yA rfl rfl rfl ⟨(by omega), (by omega)⟩) ?_
   refine zH rfl (zG rfl rfl rfl zNS (by omega) (zOd hc) zOE) ?_
   refine zH rfl (vP rfl rfl rfl zR8 (by omega) (by omega)) ?_
   refine zH rfl (zA rfl rfl (zOu (by omega) (by omega)) ty3) ?_
   refine zH rfl (zn rfl rfl) ?_
   refine zH rfl (zn rfl rfl) ?_
   refine jw (zf (zuy (zuy (zh ?_))))
   refine zg rfl rfl (zi rfl rfl) ?_
   refine zg rfl rfl (zu rfl rfl zJn) ?_
   refine zg rfl rfl (zA rfl rfl rfl ty3) ?_
   refine zg rfl rfl (qJ rfl rfl rfl) ?_
   refine zg rfl rfl (zi rfl rfl) ?_
   refine zk rfl rfl rfl (fun hg=>zi rfl rfl) ?_
   refine zk rfl rfl rfl (fun hg=>zu rfl rfl zJ2) ?_
   refine zk rfl rfl rfl (fun hg=>zA rfl (if_pos hg) rfl ty3) ?_
   refine zk rfl rfl rfl (fun hg=>qJ rfl (if_pos hg) (if_pos hg)) ?_
   refine zg rfl rfl (qI rfl rfl rfl rfl) ?_
   refine zo (zf (zx rfl (fun h1=>?_) (fun h1=>?_)))
   ·
    have hr:=zUw hk4 hk.2 h1
    refine zuy (zuy (zh ?_))
    refine zg rfl rfl (zi rfl rfl) ?_
    refine zo (zf (zx rfl (fun h2=>?_) (fun h2=>?_)))
    ·
     have hg1:g = true:=h2
     rw [if_pos hg1] at hr
     refine zuy (zh ?_)
     refine zg rfl rfl (zi rfl rfl) ?_
     refine zg rfl rfl (zcY rfl rfl rfl ⟨(by omega), (by omega)⟩) ?_
     refine zg rfl rfl (zV rfl rfl rfl ⟨(by omega), (by omega)⟩) ?_
     refine zg rfl rfl (zn rfl rfl) ?_
     refine zo (zf (zP (zQ (zQ (qF (zQ (zQ (qF (zQ ?_)))))))))
     exact ⟨.inr rfl, AVle.of (by rw [hr]; rfl)⟩
    ·
     have hg1:¬ g = true:=by rw [show g = false from h2]; decide
     rw [if_neg hg1] at hr
     refine zC (zf (zuy (zh ?_)))
     refine zg rfl rfl (zi rfl rfl) ?_
     refine zg rfl rfl (zcY rfl rfl rfl ⟨(by omega), (by omega)⟩) ?_
     refine zg rfl rfl (zV rfl rfl rfl ⟨(by omega), (by omega)⟩) ?_
     refine zg rfl rfl (zn rfl rfl) ?_
     refine zo (zf (zP (zQ (qF (zQ (zQ (qF (zQ ?_))))))))
     exact ⟨.inr rfl, AVle.of (by rw [hr]; rfl)⟩
   ·
    refine zC (zf (zuy (zh ?_)))
    refine zg rfl rfl (zi rfl rfl) ?_
    refine zg rfl rfl (zu rfl rfl zJ2) ?_
    refine zg rfl rfl (zA rfl rfl rfl ty3) ?_
    refine zg rfl rfl (qJ rfl rfl rfl) ?_
    refine zg rfl rfl (zi rfl rfl) ?_
    refine zk rfl rfl rfl (fun hg=>zi rfl rfl) ?_
    refine zk rfl rfl rfl (fun hg=>zu rfl rfl zJn) ?_
    refine zk rfl rfl rfl (fun hg=>zA rfl (if_pos hg) rfl ty3) ?_
    refine zk rfl rfl rfl (fun hg=>qJ rfl (if_pos hg) (if_pos hg)) ?_
    refine zg rfl rfl (qI rfl rfl rfl rfl) ?_
    refine zo (zf (zx rfl (fun h3=>?_) (fun h3=>?_)))
    ·
     have hr:=zUq hk4 hk.2 h1 h3
     refine zuy (zuy (zh ?_))
     refine zg rfl rfl (zi rfl rfl) ?_
     refine zo (zf (zx rfl (fun h4=>?_) (fun h4=>?_)))
     ·
      have hg1:g = true:=h4
      rw [if_pos hg1] at hr
      refine zuy (zh ?_)
      refine zg rfl rfl (zi rfl rfl) ?_
      refine zg rfl rfl (zcY rfl rfl rfl ⟨(by omega), (by omega)⟩) ?_
      refine zg rfl rfl (zV rfl rfl rfl ⟨(by omega), (by omega)⟩) ?_
      refine zg rfl rfl (zn rfl rfl) ?_
      refine zo (zf (zP (zQ (qF (zQ (zQ (qF (zQ ?_))))))))
      exact ⟨.inr rfl, AVle.of (by rw [hr]; rfl)⟩
     ·
      have hg1:¬ g = true:=by rw [show g = false from h4]; decide
      rw [if_neg hg1] at hr
      refine zC (zf (zuy (zh ?_)))
      refine zg rfl rfl (zi rfl rfl) ?_
      refine zg rfl rfl (zcY rfl rfl rfl ⟨(by omega), (by omega)⟩) ?_
      refine zg rfl rfl (zV rfl rfl rfl ⟨(by omega), (by omega)⟩) ?_
      refine zg rfl rfl (zn rfl rfl) ?_
      refine zo (zf (zP (qF (zQ (zQ (qF (zQ ?_)))))))
      exact ⟨.inr rfl, AVle.of (by rw [hr]; rfl)⟩
    ·
     have hno:=zUz hk4 hk.2 h1 h3
     refine zC (zD (zf (zh ?_)))
     refine zg rfl rfl (zi rfl rfl) ?_
     refine zg rfl rfl (zV rfl rfl rfl ⟨(by omega), (by omega)⟩) ?_
     refine zg rfl rfl (zn rfl rfl) ?_
     refine zo ?_
     exact ⟨⟨k + 1, by omega, hno⟩, by dsimp only; omega, zt _ ⟨rfl, rfl, rfl, rfl, rfl, trivial⟩ (rfl)⟩
  ·
   have hk4:k = 4:=by simp at h0; omega
   subst hk4
   refine qp (zRQ (zRQ (qw (zf (zuy (zh ?_))))))
   refine zg rfl rfl (zn rfl rfl) ?_
   refine zo (zf (zP ?_))
   exact ⟨.inr rfl, AVle.of (by rw [zUr hk.2]; rfl)⟩
theorem zUv (hkn:KN GT) (f:Fld) (lvl mo:Int) (hl:¬ f.vals.length <= 40):ACall Tryz.prog GT 6 [.agg (zHF f), ei lvl, ei mo] (.v (.bool true)):=by
 refine zS Tryz.func6 rfl (by kernel_rfl) rfl ?_
 refine zuy (zh ?_)
 refine zg rfl rfl (jf rfl (zY rfl)) ?_
 refine zg rfl rfl (zn rfl rfl) ?_
 refine zo (zf (zuy (zuy (zh ?_))))
 refine zg rfl rfl (zZ rfl rfl zHQ (by exact zLb rfl)) ?_
 refine zg rfl rfl (zy (av:=[_]) rfl ⟨rfl, trivial⟩ (f26 f)) ?_
 refine zg rfl rfl (je rfl rfl) ?_
 refine zg rfl rfl (zi rfl rfl) ?_
 refine zk rfl rfl rfl (fun hg=>zZ rfl rfl zHQ (by exact zLb rfl)) ?_
 refine zk rfl rfl rfl (fun hg=>zy (av:=[_]) rfl ⟨(by exact if_pos hg), trivial⟩ (f28 f (by simp at hg; omega))) ?_
 refine zk rfl rfl rfl (fun hg=>je rfl (if_pos hg)) ?_
 refine zg rfl rfl (qU rfl rfl rfl rfl) ?_
 refine zg rfl rfl (zi rfl rfl) ?_
 refine zk rfl rfl rfl (fun hg=>zi rfl rfl) ?_
 refine zk rfl rfl rfl (fun hg=>zy (av:=[_]) rfl ⟨(by exact if_pos hg), trivial⟩ (f29 lvl)) ?_
 refine zk rfl rfl rfl (fun hg=>je rfl (if_pos hg)) ?_
 refine zg rfl rfl (qU rfl rfl rfl rfl) ?_
 refine zg rfl rfl (zi rfl rfl) ?_
 refine zk rfl rfl rfl (fun hg=>zi rfl rfl) ?_
 refine zk rfl rfl rfl (fun hg=>zy (av:=[_]) rfl ⟨(by exact if_pos hg), trivial⟩ (f29 mo)) ?_
 refine zk rfl rfl rfl (fun hg=>je rfl (if_pos hg)) ?_
 refine zg rfl rfl (qU rfl rfl rfl rfl) ?_
 refine zg rfl rfl (zi rfl rfl) ?_
 refine zk rfl rfl rfl (fun hg=>zi rfl rfl) ?_
 refine zk rfl rfl rfl (fun hg=>zi rfl rfl) ?_
 refine zk rfl rfl rfl (fun hg=>zaq rfl (if_pos hg) (if_pos hg)) ?_
 refine zg rfl rfl (qU rfl rfl rfl rfl) ?_
 refine zo (zf (zx rfl (fun h0=>?_) (fun h0=>?_)))
 ·
  refine zuy (zh ?_)
  refine zg rfl rfl (zy (av:=[]) rfl trivial hkn) ?_
  refine zg rfl rfl (zn rfl rfl) ?_
  refine zo (zf (zP (zQ ?_)))
  exact ⟨.inr rfl, AVle.refl _⟩
 ·
  exfalso; simp at h0; omega
theorem zUu (hkn:KN GT) (f:Fld) (lvl mo:Int) (hl:f.vals.length <= 40) (hb:zHz f = false ∨ inB lvl 1 99999 = false ∨ inB mo 1 99999 = false ∨ mo <= lvl):ACall Tryz.prog GT 6 [.agg (zHF f), ei lvl, ei mo] (.v (.bool true)):=by
 refine zS Tryz.func6 rfl (by kernel_rfl) rfl ?_
 refine zuy (zh ?_)
 refine zg rfl rfl (jf rfl (zY rfl)) ?_
 refine zg rfl rfl (zn rfl rfl) ?_
 refine zo (zf (zuy (zuy (zh ?_))))
 refine zg rfl rfl (zZ rfl rfl zHQ (by exact zLb rfl)) ?_
 refine zg rfl rfl (zy (av:=[_]) rfl ⟨rfl, trivial⟩ (f26 f)) ?_
 refine zg rfl rfl (je rfl rfl) ?_
 refine zg rfl rfl (zi rfl rfl) ?_
 refine zk rfl rfl rfl (fun hg=>zZ rfl rfl zHQ (by exact zLb rfl)) ?_
 refine zk rfl rfl rfl (fun hg=>zy (av:=[_]) rfl ⟨(by exact if_pos hg), trivial⟩ (f28 f (by omega))) ?_
 refine zk rfl rfl rfl (fun hg=>je rfl (if_pos hg)) ?_
 refine zg rfl rfl (qU rfl rfl rfl rfl) ?_
 refine zg rfl rfl (zi rfl rfl) ?_
 refine zk rfl rfl rfl (fun hg=>zi rfl rfl) ?_
 refine zk rfl rfl rfl (fun hg=>zy (av:=[_]) rfl ⟨(by exact if_pos hg), trivial⟩ (f29 lvl)) ?_
 refine zk rfl rfl rfl (fun hg=>je rfl (if_pos hg)) ?_
 refine zg rfl rfl (qU rfl rfl rfl rfl) ?_
 refine zg rfl rfl (zi rfl rfl) ?_
 refine zk rfl rfl rfl (fun hg=>zi rfl rfl) ?_
 refine zk rfl rfl rfl (fun hg=>zy (av:=[_]) rfl ⟨(by exact if_pos hg), trivial⟩ (f29 mo)) ?_
 refine zk rfl rfl rfl (fun hg=>je rfl (if_pos hg)) ?_
 refine zg rfl rfl (qU rfl rfl rfl rfl) ?_
 refine zg rfl rfl (zi rfl rfl) ?_
 refine zk rfl rfl rfl (fun hg=>zi rfl rfl) ?_
 refine zk rfl rfl rfl (fun hg=>zi rfl rfl) ?_
 refine zk rfl rfl rfl (fun hg=>zaq rfl (if_pos hg) (if_pos hg)) ?_
 refine zg rfl rfl (qU rfl rfl rfl rfl) ?_
 refine zo (zf (zx rfl (fun h0=>?_) (fun h0=>?_)))
 ·
  refine zuy (zh ?_)
  refine zg rfl rfl (zy (av:=[]) rfl trivial hkn) ?_
  refine zg rfl rfl (zn rfl rfl) ?_
  refine zo (zf (zP (zQ ?_)))
  exact ⟨.inr rfl, AVle.refl _⟩
 ·
  exfalso; simp at h0; rcases hb with h | h | h | h <;> first | (simp [h] at h0; done) | omega
theorem zUy (hkn:KN GT) (f:Fld) (lvl mo:Int) (hl:f.vals.length <= 40) (hf:zHz f = true) (hv:inB lvl 1 99999 = true) (hm:inB mo 1 99999 = true) (hlm:lvl < mo):ACall Tryz.prog GT 6 [.agg (zHF f), ei lvl, ei mo] (.v (.bool true)):=by
 obtain ⟨zw, w1, w6, r1, r5, hlen⟩:=zNh hf
 have hwr:=zKu w6 r5
 obtain ⟨b1, b2, b3⟩:=zJI hf
 have h27a:=zQD (G:=GT) f lvl (by omega) hf hv
 have h27b:=zQD (G:=GT) f mo (by omega) hf hm
 have hLLa:=zNs (h:=hiF f lvl) (w:=wF f) (r:=rF f) w6 r5 hwr
 have h60a:=zTE (h:=hiF f lvl) (w:=wF f) (r:=rF f) w1 w6 r5 hwr
 have hcoma:=fun l hl=>zTG (h:=hiF f lvl) (w:=wF f) (r:=rF f) w6 r5 (l:=l) hl
 have hoka:=zUn (h:=hiF f lvl) (w:=wF f) (r:=rF f) w6 r5
 generalize zHT (hiF f lvl) (wF f) (rF f) = La at h27a hLLa h60a hcoma hoka
 have h32a:=f32 (G:=GT) La (fun l hl=>(hcoma l hl).1) h60a (by omega)
 have h33a:=f33 (G:=GT) f La hf (by omega) (fun l hl=>by have:=hLLa.2 l hl; omega) hcoma
 have hjla:=zT2 (w:=wF f) (r:=rF f) (L:=La) (k:=La.length) (by omega) (fun l hl=>by have:=hLLa.2 l hl; omega)
 have hLLb:=zNs (h:=hiF f mo) (w:=wF f) (r:=rF f) w6 r5 hwr
 have h60b:=zTE (h:=hiF f mo) (w:=wF f) (r:=rF f) w1 w6 r5 hwr
 have hcomb:=fun l hl=>zTG (h:=hiF f mo) (w:=wF f) (r:=rF f) w6 r5 (l:=l) hl
 have hokb:=zUn (h:=hiF f mo) (w:=wF f) (r:=rF f) w6 r5
 generalize zHT (hiF f mo) (wF f) (rF f) = Lb at h27b hLLb h60b hcomb hokb
 have h32b:=f32 (G:=GT) Lb (fun l hl=>(hcomb l hl).1) h60b (by omega)
 have h33b:=f33 (G:=GT) f Lb hf (by omega) (fun l hl=>by have:=hLLb.2 l hl; omega) hcomb
 have hjlb:=zT2 (w:=wF f) (r:=rF f) (L:=Lb) (k:=Lb.length) (by omega) (fun l hl=>by have:=hLLb.2 l hl; omega)
 have hap:=fun q (hq:q ∈ joT (wF f) (rF f) La La.length) s (hs:s ∈ joT (wF f) (rF f) Lb Lb.length) (hc:q.1 = s.1)=>zUo (h:=hiF f lvl) (h2:=hiF f mo) (fun k hk=>by unfold hiF at hk ⊢; rw [decide_eq_true_iff] at hk ⊢; omega) (hoka q hq) (hokb s hs) hc
 have hin:=fun q (hq:q ∈ joT (wF f) (rF f) La La.length)=>(hoka q hq).1
 generalize joT (wF f) (rF f) La La.length = X at h33a hjla hap hin
 generalize joT (wF f) (rF f) Lb Lb.length = Y at h33b hjlb hap
 have h36:=fun c x g hc=>f36 (G:=GT) f c x g hf hc
 refine zS Tryz.func6 rfl (by kernel_rfl) rfl ?_
 refine zuy (zh ?_)
 refine zg rfl rfl (jf rfl (zY rfl)) ?_
 refine zg rfl rfl (zn rfl rfl) ?_
 refine zo (zf (zuy (zuy (zh ?_))))
 refine zg rfl rfl (zZ rfl rfl zHQ (by exact zLb rfl)) ?_
 refine zg rfl rfl (zy (av:=[_]) rfl ⟨rfl, trivial⟩ (f26 f)) ?_
 refine zg rfl rfl (je rfl rfl) ?_
 refine zg rfl rfl (zi rfl rfl) ?_
 refine zk rfl rfl rfl (fun hg=>zZ rfl rfl zHQ (by exact zLb rfl)) ?_
 refine zk rfl rfl rfl (fun hg=>zy (av:=[_]) rfl ⟨(by exact if_pos hg), trivial⟩ (f28 f (by omega))) ?_
 refine zk rfl rfl rfl (fun hg=>je rfl (if_pos hg)) ?_
 refine zg rfl rfl (qU rfl rfl rfl rfl) ?_
 refine zg rfl rfl (zi rfl rfl) ?_
 refine zk rfl rfl rfl (fun hg=>zi rfl rfl) ?_
 refine zk rfl rfl rfl (fun hg=>zy (av:=[_]) rfl ⟨(by exact if_pos hg), trivial⟩ (f29 lvl)) ?_
 refine zk rfl rfl rfl (fun hg=>je rfl (if_pos hg)) ?_
 refine zg rfl rfl (qU rfl rfl rfl rfl) ?_
 refine zg rfl rfl (zi rfl rfl) ?_
 refine zk rfl rfl rfl (fun hg=>zi rfl rfl) ?_
 refine zk rfl rfl rfl (fun hg=>zy (av:=[_]) rfl ⟨(by exact if_pos hg), trivial⟩ (f29 mo)) ?_
 refine zk rfl rfl rfl (fun hg=>je rfl (if_pos hg)) ?_
 refine zg rfl rfl (qU rfl rfl rfl rfl) ?_
 refine zg rfl rfl (zi rfl rfl) ?_
 refine zk rfl rfl rfl (fun hg=>zi rfl rfl) ?_
 refine zk rfl rfl rfl (fun hg=>zi rfl rfl) ?_
 refine zk rfl rfl rfl (fun hg=>zaq rfl (if_pos hg) (if_pos hg)) ?_
 refine zg rfl rfl (qU rfl rfl rfl rfl) ?_
 refine zo (zf (zx rfl (fun h0=>?_) (fun h0=>?_)))
 ·
  exfalso; simp [hf, hv, hm] at h0; omega
 ·
  refine zC (zf (zuy (zh ?_)))
  refine zg rfl rfl (zZ rfl rfl zHQ (by exact zLb rfl)) ?_
  refine zg rfl rfl (zi rfl rfl) ?_
  refine zg rfl rfl (zy (av:=[_, _]) rfl ⟨rfl, rfl, trivial⟩ h27a) ?_
  refine zg rfl rfl (zq rfl rfl) ?_
  refine zg rfl rfl (zN rfl rfl rfl) ?_
  refine zg rfl rfl (zN rfl rfl rfl) ?_
  refine zg rfl rfl (zW rfl rfl) ?_
  refine zg rfl rfl (zn rfl rfl) ?_
  refine zo (zf (zuy (zh ?_)))
  refine zg rfl rfl (zZ rfl rfl zHQ (by exact zLb rfl)) ?_
  refine zg rfl rfl (zi rfl rfl) ?_
  refine zg rfl rfl (zy (av:=[_, _]) rfl ⟨rfl, rfl, trivial⟩ h27b) ?_
  refine zg rfl rfl (zq rfl rfl) ?_
  refine zg rfl rfl (zN rfl rfl rfl) ?_
  refine zg rfl rfl (zN rfl rfl rfl) ?_
  refine zg rfl rfl (zW rfl rfl) ?_
  refine zg rfl rfl (zn rfl rfl) ?_
  refine zo (zf (zuy (zuy (zh ?_))))
  refine zg rfl rfl (zi rfl rfl) ?_
  refine zg rfl rfl (vg rfl rfl rfl) ?_
  refine zg rfl rfl (zi rfl rfl) ?_
  refine zk rfl rfl rfl (fun hg=>zi rfl rfl) ?_
  refine zk rfl rfl rfl (fun hg=>vg rfl (rfl) rfl) ?_
  refine zg rfl rfl (qU rfl rfl rfl rfl) ?_
  refine zg rfl rfl (zi rfl rfl) ?_
  refine zk rfl rfl rfl (fun hg=>zq rfl rfl) ?_
  refine zk rfl rfl rfl (fun hg=>zy (av:=[_]) rfl ⟨(rfl), trivial⟩ h32a) ?_
  refine zk rfl rfl rfl (fun hg=>je rfl (rfl)) ?_
  refine zg rfl rfl (qU rfl rfl rfl rfl) ?_
  refine zg rfl rfl (zi rfl rfl) ?_
  refine zk rfl rfl rfl (fun hg=>zq rfl rfl) ?_
  refine zk rfl rfl rfl (fun hg=>zy (av:=[_]) rfl ⟨(rfl), trivial⟩ h32b) ?_
  refine zk rfl rfl rfl (fun hg=>je rfl (rfl)) ?_
  refine zg rfl rfl (qU rfl rfl rfl rfl) ?_
  refine zo (zf (zx rfl (fun h1=>?_) (fun h1=>?_)))
  ·
   exfalso; simp at h1
  ·
   refine zC (zf (zuy (zh ?_)))
   refine zg rfl rfl (zZ rfl rfl zHQ (by exact zLb rfl)) ?_
   refine zg rfl rfl (zq rfl rfl) ?_
   refine zg rfl rfl (zy (av:=[_, _]) rfl ⟨rfl, rfl, trivial⟩ h33a) ?_
   refine zg rfl rfl (zq rfl rfl) ?_
   refine zg rfl rfl (zN rfl rfl rfl) ?_
   refine zg rfl rfl (zN rfl rfl rfl) ?_
   refine zg rfl rfl (zW rfl rfl) ?_
   refine zg rfl rfl (zn rfl rfl) ?_
   refine zo (zf (zuy (zh ?_)))
   refine zg rfl rfl (zZ rfl rfl zHQ (by exact zLb rfl)) ?_
   refine zg rfl rfl (zq rfl rfl) ?_
   refine zg rfl rfl (zy (av:=[_, _]) rfl ⟨rfl, rfl, trivial⟩ h33b) ?_
   refine zg rfl rfl (zq rfl rfl) ?_
   refine zg rfl rfl (zN rfl rfl rfl) ?_
   refine zg rfl rfl (zN rfl rfl rfl) ?_
   refine zg rfl rfl (zW rfl rfl) ?_
   refine zg rfl rfl (zn rfl rfl) ?_
   refine zo (zf (zuy (zuy (zh ?_))))
   refine zg rfl rfl (zi rfl rfl) ?_
   refine zg rfl rfl (je rfl rfl) ?_
   refine zg rfl rfl (zi rfl rfl) ?_
   refine zk rfl rfl rfl (fun hg=>zi rfl rfl) ?_
   refine zk rfl rfl rfl (fun hg=>je rfl (rfl)) ?_
   refine zg rfl rfl (qU rfl rfl rfl rfl) ?_
   refine zo (zf (zx rfl (fun h2=>?_) (fun h2=>?_)))
   ·
    exfalso; simp at h2
   ·
    refine zC (zf (zuy (zuy (zh ?_))))
    refine zg rfl rfl (zn rfl rfl) ?_
    refine zo (zf (zB ?_))
    refine qy (ι:={ k:Nat // k <= X.length }) (fun k=>⟨Tryz.f6.ntmps, frL [(3, .pub (.ptr (zHF f))), (11, .pub (.sl (X.map eJn))), (13, .pub (.sl (Y.map eJn))), (15, I (k.1:Int))], []⟩) (fun k=>X.length - k.1) (⟨0, by simp⟩) ?_ ?_
    ·
     exact zt _ ⟨rfl, rfl, rfl, rfl, trivial⟩ (rfl)
    ·
     rintro ⟨k, hk⟩
     dsimp only
     refine zuy (zuy (zh ?_))
     refine zg rfl rfl (zi rfl rfl) ?_
     refine zg rfl rfl (zq rfl rfl) ?_
     refine zg rfl rfl (zuB rfl rfl Tryz.underlying45) ?_
     refine zg rfl rfl (zUB rfl rfl rfl) ?_
     refine zo (zf (zx rfl (fun h3=>?_) (fun h3=>?_)))
     ·
      have hlt:k < X.length:=by simpa using h3
      refine zC (zf (zuy (zB (zuy (zh ?_)))))
      refine zg rfl rfl (zn rfl rfl) ?_
      refine zo (zf (zB ?_))
      refine qy (ι:={ j:Nat // j <= Y.length }) (fun j=>⟨Tryz.f6.ntmps, frL [(3, .pub (.ptr (zHF f))), (11, .pub (.sl (X.map eJn))), (13, .pub (.sl (Y.map eJn))), (15, I (k:Int)), (16, I (j.1:Int))], []⟩) (fun j=>Y.length - j.1) (⟨0, by simp⟩) ?_ ?_
      ·
       exact zt _ ⟨rfl, rfl, rfl, rfl, rfl, trivial⟩ (rfl)
      ·
       rintro ⟨j, hj⟩
       dsimp only
       refine zuy (zuy (zh ?_))
       refine zg rfl rfl (zi rfl rfl) ?_
       refine zg rfl rfl (zq rfl rfl) ?_
       refine zg rfl rfl (zuB rfl rfl Tryz.underlying45) ?_
       refine zg rfl rfl (zUB rfl rfl rfl) ?_
       refine zo (zf (zx rfl (fun h4=>?_) (fun h4=>?_)))
       ·
        have hjl:j < Y.length:=by simpa using h4
        refine zC (zf (zuy (zB (zuy (zuy ?_)))))
        refine qY mixed (by kernel_rfl) rfl ?_
        refine zH rfl (zq rfl rfl) ?_
        refine zH rfl (zi rfl rfl) ?_
        refine zH rfl (zG rfl rfl rfl zMC (by omega) (zK7 hlt) zJ0) ?_
        refine zH rfl (zu rfl rfl zUb) ?_
        refine zH rfl (zA rfl rfl rfl ty3) ?_
        refine zH rfl (zq rfl rfl) ?_
        refine zH rfl (zi rfl rfl) ?_
        refine zH rfl (zG rfl rfl rfl zMC (by omega) (zK7 hjl) zJ0) ?_
        refine zH rfl (zu rfl rfl zUb) ?_
        refine zH rfl (zA rfl rfl rfl ty3) ?_
        refine zH rfl (vg rfl rfl rfl) ?_
        refine jw (zf (zx rfl (fun h5=>?_) (fun h5=>?_)))
        ·
         refine qp (zRQ (qw (zf (zh ?_))))
         refine zg rfl rfl (zi rfl rfl) ?_
         refine zg rfl rfl (zV rfl rfl rfl ⟨(by omega), (by omega)⟩) ?_
         refine zg rfl rfl (zn rfl rfl) ?_
         refine zo ?_
         exact ⟨⟨j + 1, by omega⟩, by dsimp only; omega, zt _ ⟨rfl, rfl, rfl, rfl, rfl, trivial⟩ (rfl)⟩
        ·
         have hce:X[k].1 = Y[j].1:=by have:=h5; simp at this; omega
         refine Exists.elim (hap X[k] (List.getElem_mem hlt) Y[j] (List.getElem_mem hjl) hce) (fun z hz=>?_)
         have hck:=hin X[k] (List.getElem_mem hlt)
         have c1:=h36 X[k].1 X[k].2.1 false hck
         have c2:=h36 X[k].1 X[k].2.2 false hck
         have c3:=h36 X[k].1 Y[j].2.1 true hck
         have c4:=h36 X[k].1 Y[j].2.2 true hck
         rw [hz.1] at c1
         rw [hz.2.1] at c2
         rw [hz.2.2.1] at c3
         rw [hz.2.2.2.1] at c4
         have hsep:=zUs hz.2.2.2.2
         refine zC (zf (zuy (zh ?_)))
         refine zg rfl rfl (zq rfl rfl) ?_
         refine zg rfl rfl (zi rfl rfl) ?_
         refine zg rfl rfl (zG rfl rfl rfl zMC (by omega) (zK7 hlt) zJ0) ?_
         refine zg rfl rfl (zu rfl rfl zUb) ?_
         refine zg rfl rfl (zA rfl rfl rfl ty3) ?_
         refine zg rfl rfl (zn rfl rfl) ?_
         refine zo (zf (zuy ?_))
         refine qY mixed (by kernel_rfl) rfl ?_
         refine zH rfl (zZ rfl rfl zHQ (by exact zLb rfl)) ?_
         refine zH rfl (zi rfl rfl) ?_
         refine zH rfl (zq rfl rfl) ?_
         refine zH rfl (zi rfl rfl) ?_
         refine zH rfl (zG rfl rfl rfl zMC (by omega) (zK7 hlt) zJ0) ?_
         refine zH rfl (zu rfl rfl zMX) ?_
         refine zH rfl (zZ rfl rfl zHs (by exact zLb rfl)) ?_
         refine zH rfl (zy (av:=[.agg (zHF f), ei (X[k].1:Int), .agg (eCr X[k].2.1), .v (.bool false)]) rfl ⟨rfl, rfl, rfl, rfl, trivial⟩ c1) ?_
         refine zH rfl (zZ rfl rfl zHQ (by exact zLb rfl)) ?_
         refine zH rfl (zi rfl rfl) ?_
         refine zH rfl (zq rfl rfl) ?_
         refine zH rfl (zi rfl rfl) ?_
         refine zH rfl (zG rfl rfl rfl zMC (by omega) (zK7 hlt) zJ0) ?_
         refine zH rfl (zu rfl rfl zMZ) ?_
         refine zH rfl (zZ rfl rfl zHs (by exact zLb rfl)) ?_
         refine zH rfl (zy (av:=[.agg (zHF f), ei (X[k].1:Int), .agg (eCr X[k].2.2), .v (.bool false)]) rfl ⟨rfl, rfl, rfl, rfl, trivial⟩ c2) ?_
         refine zH rfl (zn rfl rfl) ?_
         refine zH rfl (zn rfl rfl) ?_
         refine jw (zf (zuy ?_))
         refine qY mixed (by kernel_rfl) rfl ?_
         refine zH rfl (zZ rfl rfl zHQ (by exact zLb rfl)) ?_
         refine zH rfl (zi rfl rfl) ?_
         refine zH rfl (zq rfl rfl) ?_
         refine zH rfl (zi rfl rfl) ?_
         refine zH rfl (zG rfl rfl rfl zMC (by omega) (zK7 hjl) zJ0) ?_
         refine zH rfl (zu rfl rfl zMX) ?_
         refine zH rfl (zZ rfl rfl zHs (by exact zLb rfl)) ?_
         refine zH rfl (zy (av:=[.agg (zHF f), ei (X[k].1:Int), .agg (eCr Y[j].2.1), .v (.bool true)]) rfl ⟨rfl, rfl, rfl, rfl, trivial⟩ c3) ?_
         refine zH rfl (zZ rfl rfl zHQ (by exact zLb rfl)) ?_
         refine zH rfl (zi rfl rfl) ?_
         refine zH rfl (zq rfl rfl) ?_
         refine zH rfl (zi rfl rfl) ?_
         refine zH rfl (zG rfl rfl rfl zMC (by omega) (zK7 hjl) zJ0) ?_
         refine zH rfl (zu rfl rfl zMZ) ?_
         refine zH rfl (zZ rfl rfl zHs (by exact zLb rfl)) ?_
         refine zH rfl (zy (av:=[.agg (zHF f), ei (X[k].1:Int), .agg (eCr Y[j].2.2), .v (.bool true)]) rfl ⟨rfl, rfl, rfl, rfl, trivial⟩ c4) ?_
         refine zH rfl (zn rfl rfl) ?_
         refine zH rfl (zn rfl rfl) ?_
         refine jw (zf (zuy (zh ?_)))
         refine zg rfl rfl (zi rfl rfl) ?_
         refine zg rfl rfl (zi rfl rfl) ?_
         refine zg rfl rfl (zPN rfl rfl rfl) ?_
         refine zg rfl rfl (zi rfl rfl) ?_
         refine zg rfl rfl (zi rfl rfl) ?_
         refine zg rfl rfl (zq3 rfl rfl rfl) ?_
         refine zg rfl rfl (zn rfl rfl) ?_
         refine zg rfl rfl (zn rfl rfl) ?_
         refine zo (zf (zuy (zh ?_)))
         refine zg rfl rfl (zi rfl rfl) ?_
         refine zg rfl rfl (zUB rfl rfl rfl) ?_
         refine zg rfl rfl (zi rfl rfl) ?_
         refine zk rfl rfl rfl (fun hg=>zi rfl rfl) ?_
         refine zk rfl rfl rfl (fun hg=>zUB rfl (rfl) rfl) ?_
         refine zg rfl rfl (qU rfl rfl rfl rfl) ?_
         refine zg rfl rfl (zi rfl rfl) ?_
         refine zk rfl rfl rfl (fun hg=>zi rfl rfl) ?_
         refine zk rfl rfl rfl (fun hg=>zUB rfl (rfl) rfl) ?_
         refine zg rfl rfl (qU rfl rfl rfl rfl) ?_
         refine zg rfl rfl (zi rfl rfl) ?_
         refine zk rfl rfl rfl (fun hg=>zi rfl rfl) ?_
         refine zk rfl rfl rfl (fun hg=>zUB rfl (rfl) rfl) ?_
         refine zg rfl rfl (qU rfl rfl rfl rfl) ?_
         refine zg rfl rfl (zi rfl rfl) ?_
         refine zk rfl rfl rfl (fun hg=>zi rfl rfl) ?_
         refine zk rfl rfl rfl (fun hg=>zi rfl rfl) ?_
         refine zk rfl rfl rfl (fun hg=>qR rfl (rfl) (rfl)) ?_
         refine zk rfl rfl rfl (fun hg=>zi rfl (rfl)) ?_
         refine zk rfl rfl rfl (fun hg=>zi rfl rfl) ?_
         refine zk rfl rfl rfl (fun hg=>zi rfl rfl) ?_
         refine zk (x:=B (decide ((z.2.2.1:Int) < max (z.1:Int) z.2.1))) rfl (jH (t:=178) (c:=bif false then (((decide ((z.1:Int) < 0) || decide ((z.2.1:Int) < 0)) || decide ((z.2.2.1:Int) < 0)) || decide ((z.2.2.2:Int) < 0)) else !(((decide ((z.1:Int) < 0) || decide ((z.2.1:Int) < 0)) || decide ((z.2.2.1:Int) < 0)) || decide ((z.2.2.2:Int) < 0))) (b:=decide ((z.2.2.1:Int) > min (z.1:Int) z.2.1)) rfl rfl rfl) rfl (fun hg=>zUB rfl (if_pos hg) (if_pos hg)) ?_
         refine zk rfl rfl rfl (fun hg=>qI rfl (rfl) (zha hg) rfl) ?_
         refine zk rfl rfl rfl (fun hg=>zi rfl rfl) ?_
         refine zk rfl rfl rfl (fun hg=>zi rfl rfl) ?_
         refine zk rfl rfl rfl (fun hg=>qR rfl (rfl) (rfl)) ?_
         refine zk rfl rfl rfl (fun hg=>zi rfl (rfl)) ?_
         refine zk rfl rfl rfl (fun hg=>zi rfl rfl) ?_
         refine zk rfl rfl rfl (fun hg=>zi rfl rfl) ?_
         refine zk (x:=B (decide ((z.2.2.2:Int) < max (z.1:Int) z.2.1))) rfl (jH (t:=186) (c:=bif false then (((decide ((z.1:Int) < 0) || decide ((z.2.1:Int) < 0)) || decide ((z.2.2.1:Int) < 0)) || decide ((z.2.2.2:Int) < 0)) else !(((decide ((z.1:Int) < 0) || decide ((z.2.1:Int) < 0)) || decide ((z.2.2.1:Int) < 0)) || decide ((z.2.2.2:Int) < 0))) (b:=decide ((z.2.2.2:Int) > min (z.1:Int) z.2.1)) rfl rfl rfl) rfl (fun hg=>zUB rfl (if_pos hg) (if_pos hg)) ?_
         refine zk rfl rfl rfl (fun hg=>qI rfl (rfl) (zha hg) rfl) ?_
         refine zk rfl rfl rfl (fun hg=>zwJ rfl (rfl) (rfl) Tryz.underlying4) ?_
         refine zg rfl rfl (qU rfl rfl rfl rfl) ?_
         refine zo (zf (zx rfl (fun h6=>?_) (fun h6=>?_)))
         ·
          exfalso; exact Bool.noConfusion (hsep.symm.trans h6)
         ·
          refine zC (zD (zf (zh ?_)))
          refine zg rfl rfl (zi rfl rfl) ?_
          refine zg rfl rfl (zV rfl rfl rfl ⟨(by omega), (by omega)⟩) ?_
          refine zg rfl rfl (zn rfl rfl) ?_
          refine zo ?_
          exact ⟨⟨j + 1, by omega⟩, by dsimp only; omega, zt _ ⟨rfl, rfl, rfl, rfl, rfl, trivial⟩ (rfl)⟩
       ·
        have hge:j = Y.length:=by have:=h4; simp at this; omega
        subst hge
        refine qp (zRQ (zRQ (qw (zD (zf (zh ?_))))))
        refine zg rfl rfl (zi rfl rfl) ?_
        refine zg rfl rfl (zV rfl rfl rfl ⟨(by omega), (by omega)⟩) ?_
        refine zg rfl rfl (zn rfl rfl) ?_
        refine zo ?_
        exact ⟨⟨k + 1, by omega⟩, by dsimp only; omega, zt _ ⟨rfl, rfl, rfl, rfl, trivial⟩ (rfl)⟩
     ·
      have hge:k = X.length:=by have:=h3; simp at this; omega
      subst hge
      refine qp (zRQ (zRQ (qw (zf (zuy (zh ?_))))))
      refine zg rfl rfl (zy (av:=[]) rfl trivial hkn) ?_
      refine zg rfl rfl (zn rfl rfl) ?_
      refine zo (zf (zP ?_))
      exact ⟨.inr rfl, AVle.refl _⟩
theorem f6 (hkn:KN GT) (f:Fld) (lvl mo:Int):ACall Tryz.prog GT 6 [.agg (zHF f), ei lvl, ei mo] (.v (.bool true)):=by
 by_cases hl:f.vals.length <= 40
 ·
  by_cases hb:zHz f = false ∨ inB lvl 1 99999 = false ∨ inB mo 1 99999 = false ∨ mo <= lvl
  ·
   exact zUu hkn f lvl mo hl hb
  ·
   simp only[not_or, Bool.not_eq_false] at hb
   exact zUy hkn f lvl mo hl hb.1 hb.2.1 hb.2.2.1 (by omega)
 ·
  exact zUv hkn f lvl mo hl
end Go.Av
end
