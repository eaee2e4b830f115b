import Derived.Test.YtaphehlgijlfeaaGreatDoorWiX5
import Derived.Test.YtaphehlgijlfeaaGreatDoorWiW
import Derived.Test.YtaphehlgijlfeaaGreatDoorWiJ
set_option linter.unusedVariables false
set_option linter.unusedSimpArgs false
section
namespace Go.Av
open Go.Proofs
set_option maxRecDepth 100000
set_option maxHeartbeats 1000000
variable {G:Glob}
theorem f41 (l:List (List (List UInt8))) (x:List Int) (hxl:x.length <= 1000) (hbd:∀ y ∈ x, 0 <= y /\ y < (l.length:Int)):ACall Tryz.prog G 41 [qO l, zO x] (qO (zuT l x)):=by
 refine zS Tryz.func41 Y (by kernel_rfl) Y ?_
 refine zuy (zh (zE8 (zn Y Y) (zo (zf (zuy (zh (zE8 (zn Y Y) (zo (zf (zuy (zuy ?_)))))))))))
 refine zh (zE8 (zn Y Y) (zo (zf (zB ?_))))
 refine qx (kG 5 Y) ?_
 refine qy (ι:={ i:Nat // i <= x.length }) (fun i=>⟨Tryz.f41.ntmps, frL [(0, .pub (qO l)), (1, .pub (zO x)), (5, .psl 0 i.1), (6, I (i.1:Int))], [.row ((x.take i.1).map fun j=>[EV.pub (jD (l.getD j.toNat []))])]⟩) (fun i=>x.length - i.1) (⟨0, Nat.zero_le _⟩) ?_ ?_
 ·
  exact zt _ ⟨Y, Y, Y, Y, trivial⟩ (Y)
 ·
  rintro ⟨i, hi⟩
  dsimp only
  refine zuy (zuy (zh (zE8 (zi Y Y) (zE8 (zq Y Y) (zE8 (zuB Y Y Tryz.underlying23) (zE8 (qi Y Y Y) (zo (zf (zx Y (fun h_0=>?_) (fun h_0=>?_))))))))))
  ·
   have hi2:i < x.length:=by simp only[decide_eq_true_eq] at h_0; omega
   have hb2:=hbd (x.getD i 0) (by simp [hi2])
   have hrow:((x.take i).map fun j=>[EV.pub (jD (l.getD j.toNat []))]) ++ [[EV.pub (jD (l.getD (x.getD i 0).toNat []))]] = ((x.take (i + 1)).map fun j=>[EV.pub (jD (l.getD j.toNat []))]):=zwY _ x 0 hi2
   have hln:((x.take i).map fun j=>[EV.pub (jD (l.getD j.toNat []))]).length = i:=by rw [List.length_map, List.length_take]; omega
   have hr1:∀ r ∈ ((x.take i).map fun j=>[EV.pub (jD (l.getD j.toNat []))]), r.length = 1:=fun r hr=>by obtain ⟨z, _, rfl⟩:=List.mem_map.1 hr; rfl
   refine zC (zf (zuy (zB (zh (zE8 (zI Y Y) (zE8 (zq Y Y) (zE8 (zq Y Y) (zE8 (zi Y Y) (zE8 (zG Y Y Y jv (by omega) (ztu (k:=i) hi2) jC) (zE8 (zA Y Y Y ty3) ?_))))))))))
   refine zE8 (zG Y Y Y zbo hb2.1 (zym hb2) (by simp)) ?_
   refine zE8 (zA Y Y Y zfC) ?_
   refine zE8 (qg (size:=1) (rows:=[[_]]) Y Tryz.underlying26 zj9 Y (by decide) Y (by decide) ⟨_, _, Y, (kQ Y), Y⟩ (by rfl) (by simp [ofV]) Y (by simp)) ?_
   refine jb Y (vS Y Y Y Y hln Y zwh hr1 (by simp) (by simp; omega) (by unfold maxLen; simp; omega)) ?_
   refine zE8 (qo Y Y) (zo (zD (zf (zh (zE8 (zi Y Y) (zE8 (zV Y Y Y ⟨(by omega), (by omega)⟩) (zE8 (zn Y Y) (zo ?_))))))))
   exact ⟨⟨i + 1, by omega⟩, by dsimp only; omega, zt _ ⟨Y, Y, Y, Y, trivial⟩ (congrArg (fun z:List (List EV)=>[PO.row z]) hrow)⟩
  ·
   have hi2:i = x.length:=by simp only[decide_eq_false_iff_not] at h_0; omega
   have hpx:((x.take i).map fun j=>[EV.pub (jD (l.getD j.toNat []))]) = ((zuT l x).map fun s=>[EV.pub (jD s)]):=by rw [hi2, List.take_length]; simp [zuT]
   refine qp (zL (zL (qw (zf (zuy (zh (zE8 (zI Y Y) (zE8 (qo Y Y) (zo (zf (zP ?_)))))))))))
   exact ⟨.inr Y, ⟨(zuT l x).map fun s=>[jD s], by show some (PO.row _) = some (PO.row _); rw [hpx, zxj], by rw [zxq, hi2], Y⟩⟩
theorem zF2 {c:Cod} {l:List (List (List UInt8))} {m x:List Int} (hc:jA c = true) (hl:l.length <= 3) (hcp:∀ g ∈ l, jX c g = true) (hx:Inc l.length 0 x) (hm:m ∈ kC c l):m ∈ kC c (zuT l x):=by
 have hbd:=zCu (by omega) hx
 have hxl:=zyu (by omega) hx
 have hM:=(zc0 hc hl hcp).1 hm
 refine (zc0 hc (by simp only[zuT, List.length_map]; omega) (zBM hbd hcp)).2 ⟨hM.1, fun g hg=>?_⟩
 obtain ⟨y, hy, rfl⟩:=List.mem_map.1 hg
 have hv:y.toNat < l.length:=by have:=hbd y hy; omega
 simp only[List.getD_eq_getElem?_getD, List.getElem?_eq_getElem hv, Option.getD_some]
 exact hM.2 _ (List.getElem_mem hv)
def zFs:Nat -> Int -> List Int
 | 0, _=>[]
 | k + 1, lo=>lo :: zFs k (lo + 1)
theorem zFy {b:Nat}:∀ (k:Nat) (lo:Int), lo + (k:Int) <= (b:Int) -> Inc b lo (zFs k lo)
 | 0, _, _=>trivial
 | k + 1, lo, h=>⟨Int.le_refl _, by omega, zFy k (lo + 1) (by omega)⟩
theorem zFo (l:List (List (List UInt8))):∀ (k j:Nat), j + k <= l.length -> zuT l (zFs k (j:Int)) = (l.drop j).take k
 | 0, j, _=>by simp [zFs, zuT]
 | k + 1, j, h=>by
  have hj:j < l.length:=by omega
  have:=zFo l k (j + 1) (by omega)
  have e:((j:Int) + 1) = ((j + 1:Nat):Int):=by omega
  simp only[zuT, zFs, List.map_cons] at this ⊢
  rw [e, this, List.drop_eq_getElem_cons hj, List.take_succ_cons]
  simp [hj]
theorem zF4 {c:Cod} {l:List (List (List UInt8))} (h0:0 < l.length) (hN:kC c l = []):zw1 (zvZ c l) l.length ≠ [] /\ zvZ c l (zw1 (zvZ c l) l.length) = true /\ zw1 (zvZ c l) l.length ∈ lists l.length /\ ∀ y ∈ lists l.length, zvZ c l y = true -> y = zw1 (zvZ c l) l.length ∨ Fst (zw1 (zvZ c l) l.length) y:=by
 have hf:zFs l.length 0 ∈ lists l.length:=zzM.2 (zFy _ _ (by omega))
 have hb:zvZ c l (zFs l.length 0) = true:=by
  have hp:=zFo l l.length 0 (by omega)
  simp only[List.drop_zero, List.take_length] at hp
  unfold zvZ
  rw [show ((0:Nat):Int) = 0 from rfl] at hp
  rw [hp, hN]
  cases hl:l.length with
  | zero=>omega
  | succ k=>rfl
 unfold zw1
 simp only[zAj]
 cases hfd:(lists l.length).find? (zvZ c l) with
 | none=>exact absurd hb (by simpa using List.find?_eq_none.1 hfd _ hf)
 | some z=>
  have hz:=List.find?_some hfd
  refine ⟨?_, hz, List.mem_of_find?_eq_some hfd, fun y hy hp=>zFn (zFF _) hfd y hy hp⟩
  show z ≠ []
  intro e; subst e; simp [zvZ] at hz
theorem zGd {c:Cod} {l:List (List (List UInt8))} (hA:yT c l = 0) (hN:kC c l ≠ []):clE c l = 5 /\ clR c l = []:=by
 unfold clE clR; rw [if_pos hA, if_neg hN]; exact ⟨rfl, if_neg fun e=>hN e.2⟩
theorem zGg {c:Cod} {l:List (List (List UInt8))} (hA:yT c l = 0) (hN:kC c l = []):clE c l = 0 /\ clR c l = zw1 (zvZ c l) l.length:=by
 unfold clE clR; rw [if_pos hA, if_pos hN]; exact ⟨rfl, if_pos ⟨hA, hN⟩⟩
end Go.Av
end
