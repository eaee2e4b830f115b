import Derived.Test.YtaphehlgijlfeaaGreatDoorWiE
set_option linter.unusedVariables false
set_option linter.unusedSimpArgs false
section
namespace Go.Av
open Go.Proofs
set_option maxRecDepth 100000
set_option maxHeartbeats 1000000
variable {G:Glob}
def zlV (g:G5):List Int:=[g.a, g.b, g.c, g.d, g.e]
def zqk (g:G5) (k:Nat):Int:=(zlV g).getD k 0
def five (g:G5) (w:List UInt8):List (Int × Int):=(w.map fun b=>(b.toNat:Int)).zip (zlV g)
theorem zfg {g:G5} {w:List UInt8} (h:w.length = 5):(five g w).length = 5:=by simp [five, zlV, h]
theorem zpv {g:G5} {w:List UInt8} (h:w.length = 5) {k:Nat} (hk:k < 5):(five g w)[k]'(by rw [zfg h]; exact hk) = ((w[k].toNat:Int), zqk g k):=by
 have e:(zlV g)[k]'(by simp [zlV]; omega) = zqk g k:=by
  unfold zqk
  rw [List.getD_eq_getElem?_getD, List.getElem?_eq_getElem (by simp [zlV]; omega)]; rfl
 simp [five, e]
def okP (c:Cod) (x:Int × Int):Bool:=rgt x.1 x.2 || wrg c x.1 x.2
def wrN (x:Int × Int):Int:=if rgt x.1 x.2 then 0 else 1
def zjL (xs:List (Int × Int)):Int:=xs.foldl (fun s x=>s + wrN x) 0
def zkI (l:List (List (Int × Int))):Int:=l.foldl (fun s xs=>s + zjL xs) 0
theorem zmI {xs:List (Int × Int)} {k:Nat} (h:k < xs.length):zjL (xs.take (k + 1)) = zjL (xs.take k) + wrN xs[k]:=by
 unfold zjL; rw [List.take_succ_eq_append_getElem h, List.foldl_append]; rfl
theorem zmK {l:List (List (Int × Int))} {k:Nat} (h:k < l.length):zkI (l.take (k + 1)) = zkI (l.take k) + zjL l[k]:=by
 unfold zkI; rw [List.take_succ_eq_append_getElem h, List.foldl_append]; rfl
def prs (m:List Int) (l:List (List UInt8)):List (List (Int × Int)):=((vV m).zip l).map fun p=>five p.1 p.2
def zmV (c:Cod) (m:List Int) (l:List (List UInt8)):Bool:=((prs m l).all fun xs=>xs.all (okP c)) && decide (zkI (prs m l) <= c.most)
theorem zrG {m:List Int} {l:List (List UInt8)} {q:Nat} (h1:q < (vV m).length) (h2:q < l.length):(prs m l)[q]'(by simp [prs]; omega) = five (vV m)[q] l[q]:=by simp [prs]
theorem zdK {c:Cod} {l:List (List UInt8)} (h:jX c l = true):(l.length:Int) = (c.fields.length:Int) + 1 /\ ∀ w ∈ l, ofB xq w = true:=by
 simp only[jX, zLa, List.all_eq_true, beq_iff_eq] at h
 exact ⟨h.2.1, h.1⟩
theorem wU {c:Cod} {m:List Int} (h:wS c m = true):m.length = c.fields.length:=by simp [wS, eqF] at h; exact h.1
theorem zbv (x:Int × Int):0 <= wrN x /\ wrN x <= 1:=by unfold wrN; split <;> omega
def zjc (l:List (List UInt8)):Bool:=decide (l.length <= 12) && l.all fun w=>decide (w.length <= 9)
theorem f65 (l:List (List UInt8)):ACall Tryz.prog G 65 [jD l] (.v (.bool (zjc l))):=by
 refine zS Tryz.func65 Y (by kernel_rfl) Y ?_
 refine zuy (zh (zE8 (zn Y Y) (zo (zf (zuy (zuy (zh (zE8 (zn Y Y) (zo (zf (zB ?_)))))))))))
 refine qy (ι:={ q:Nat // q <= l.length /\ q <= 12 /\ (l.take q).all (fun w=>decide (w.length <= 9)) = true }) (fun q=>⟨Tryz.f65.ntmps, frL [(0, .pub (jD l)), (3, I (q.1:Int))], []⟩) (fun q=>l.length - q.1) (⟨0, by simp⟩) ?_ ?_
 ·
  exact zt _ ⟨Y, Y, trivial⟩ (Y)
 ·
  rintro ⟨q, hq⟩
  dsimp only
  refine zuy (zuy (zh (zE8 (zi Y Y) (zE8 (zq Y Y) (zE8 (qh Y Y Y Tryz.underlying34) (zE8 (qi Y Y Y) (zE8 (zi Y Y) (zE9 Y (fun hg=>zi Y Y) (zE9 Y (fun hg=>qi Y (if_pos hg) Y) (zE8 (qI Y Y Y Y) (zo ?_)))))))))))
  refine zf (zx Y (fun h0=>?_) (fun h0=>?_))
  ·
   have hlt:q < l.length:=by simp [jD] at h0; omega
   have hl12:q < 12:=by simp [jD] at h0; omega
   refine zC (zf (zuy (zB (zuy (zh (zE8 (zq Y Y) (zE8 (zi Y Y) (zE8 (zG Y Y Y yJ (by omega) (xI hlt) vZ) (zE8 (zA Y Y Y ty9) (zE8 (wE Y Y Tryz.underlying9) (zE8 (qR Y Y Y) ?_)))))))))))
   refine zo (zf (zx Y (fun h1=>?_) (fun h1=>?_)))
   ·
    have hb:decide (l[q].length <= 9) = false:=by simp at h1 ⊢; omega
    refine zuy (zh (zE8 (zn Y Y) (zo (zf (zP (qF (zQ (zQ (qF (zQ ?_))))))))))
    exact ⟨.inr Y, AVle.of (by rw [zjc, zaW (p:=fun w:List UInt8=>decide (w.length <= 9)) hlt hb, Bool.and_false])⟩
   ·
    have hb:decide (l[q].length <= 9) = true:=by simp at h1 ⊢; omega
    refine zC (zD (zf (zh (zE8 (zi Y Y) (zE8 (zV Y Y Y ⟨(by omega), (by omega)⟩) (zE8 (zn Y Y) (zo ?_)))))))
    exact ⟨⟨q + 1, by omega, by omega, xQ hq.2.2 hlt hb⟩, by dsimp only; omega, zt _ ⟨Y, Y, trivial⟩ (Y)⟩
  ·
   have hge:l.length <= q ∨ 12 <= q:=by simp [jD] at h0; omega
   refine qp (zL (zL (qw (zf (zuy (zh (zE8 (zq Y Y) (zE8 (qh Y Y Y Tryz.underlying34) (zE8 (zaq Y Y Y) (zE8 (zn Y Y) (zo ?_)))))))))))
   refine zf (zP ?_)
   exact ⟨.inr Y, AVle.of (congrArg (fun x:Bool=>AV.v (Value.bool x)) (by rw [Bool.eq_iff_iff]; simp only[zjc, jD, List.length_map, zLa, decide_eq_true_eq, List.all_eq_true]; constructor; exact fun h=>⟨by omega, fun w hw=>by have h3:=hq.2.2; rw [List.take_of_length_le (by omega), List.all_eq_true] at h3; exact of_decide_eq_true (h3 w hw)⟩; exact fun h=>by omega))⟩
end Go.Av
end
