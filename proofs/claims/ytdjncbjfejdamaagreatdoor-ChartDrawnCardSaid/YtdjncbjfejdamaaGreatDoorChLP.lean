import Derived.Test.YtdjncbjfejdamaaGreatDoorChLO
set_option linter.unusedVariables false
set_option linter.unusedSimpArgs false
section
namespace Go.Av
open Go.Proofs Go.Gr
set_option maxRecDepth 100000
theorem zTS {l:List Nat} {q:Nat -> Bool}:((List.range l.length).filter fun c=>q (l.getD c 0)).length = (l.filter q).length:=by
 have e:(List.range l.length).map (fun c=>l.getD c 0) = l:=by
  apply List.ext_getElem
  ·
   simp
  ·
   intro i h1 h2
   simp [List.getD, h2]
 have h:=congrArg (fun z=>(List.filter q z).length) e
 simp only[List.filter_map, List.length_map] at h
 exact h
def zTN (w r:Nat):List (Nat × Nat):=(List.range (w * r)).flatMap fun k=>[(k, k + 1), (k, k + w)]
def mm (x:Cr):Nat × Nat:=(min x.1 x.2, max x.1 x.2)
theorem zTQ {w a b:Nat} (hw:1 <= w) (h:zIn w a b = true):max a b = min a b + 1 ∨ max a b = min a b + w:=by
 unfold zIn at h
 rw [decide_eq_true_iff] at h
 have ha:=Nat.div_add_mod a w
 have hb:=Nat.div_add_mod b w
 have hc:(a / w = b / w /\ (a % w = b % w + 1 ∨ b % w = a % w + 1)) ∨ (a % w = b % w /\ (a / w = b / w + 1 ∨ b / w = a / w + 1)):=by omega
 rcases hc with ⟨e, e2 | e2⟩ | ⟨e, e2 | e2⟩
 ·
  rw [e] at ha; left; omega
 ·
  rw [e] at ha; left; omega
 ·
  rw [e2, Nat.mul_add] at ha; right; omega
 ·
  rw [e2, Nat.mul_add] at hb; right; omega
section
variable {h:Nat -> Bool} {w r:Nat}
theorem zS0 (hw6:w <= 6) (hr:r <= 5) {l:List Cr} (hl:l ∈ zHT h w r):LOK (nbC h w r) (zH1 h w r) l:=(zN4 hw6 hr).1 l (lines_perm.mem_iff.1 hl)
theorem cellI_cellX {x:Cr}:(zSR w r x).length = (zSZ w r x).length:=by
 unfold zSR zSS zSZ
 rw [show zTb w (wP w r) x = fun c=>zSU w x ((wP w r).getD c 0) from funext fun c=>zTv]
 exact zTS
theorem zS7 {x:Cr} {c:Nat}:c ∈ zSR w r x ↔ c < (wP w r).length /\ zSU w x ((wP w r).getD c 0) = true:=by
 unfold zSR zSS
 rw [List.mem_filter, List.mem_range, zTv]
theorem zTR {x y:Cr} {p:Nat} (hp:p ∈ wP w r) (hx:zSU w x p = true) (hy:zSU w y p = true):(zSY w r x y).isSome = true:=by
 obtain ⟨i, hi, e⟩:=List.getElem_of_mem hp
 have e2:(wP w r).getD i 0 = p:=by simp [List.getD, hi, e]
 unfold zSY
 rw [List.find?_isSome]
 exact ⟨i, zS7.2 ⟨hi, e2.symm ▸ hx⟩, List.contains_iff_mem.2 (zS7.2 ⟨hi, e2.symm ▸ hy⟩)⟩
theorem zTG (hw6:w <= 6) (hr:r <= 5) {l:List Cr} (hl:l ∈ zHT h w r):zT7 w r l:=by
 have H:=zS0 hw6 hr hl
 refine ⟨H.pos, fun i hi=>?_, fun hB=>?_⟩
 ·
  obtain ⟨p, hp, _, h1, h2, _⟩:=zTw hw6 hr (H.pth.st i hi)
  exact zTR hp h1 h2
 ·
  unfold joB at hB
  rw [gd H.pos] at hB
  simp only[zLa, decide_eq_true_eq, beq_iff_eq] at hB
  have hc:=zTg hw6 hr H hB.1 (cellI_cellX.symm.trans hB.2)
  rw [gd H.pos, gd (show l.length - 1 < l.length by omega)]
  obtain ⟨p, hp, _, h1, h2, _⟩:=zTw hw6 hr hc
  exact zTR hp h1 h2
theorem zTj (hw6:w <= 6) (hr:r <= 5):(zHT h w r).flatten.Nodup:=(List.Perm.flatten lines_perm).nodup_iff.2 (zN4 hw6 hr).2.1
theorem zST (hw6:w <= 6) (hr:r <= 5) (x:Cr):x ∈ (zHT h w r).flatten ↔ x ∈ zH1 h w r:=(List.Perm.flatten lines_perm).mem_iff.trans ((zN4 hw6 hr).2.2 x)
theorem zTE (hw:1 <= w) (hw6:w <= 6) (hr:r <= 5) (hwr:w * r <= 30):(zHT h w r).flatten.length <= 60:=by
 have hnd:=zTj (h:=h) hw6 hr
 have hmm:((zHT h w r).flatten.map mm).Nodup:=by
  rw [List.nodup_iff_pairwise_ne, List.pairwise_map]
  rw [List.nodup_iff_pairwise_ne] at hnd
  refine List.Pairwise.imp_of_mem (fun {a b} ha hb hab e=>hab ?_) hnd
  obtain ⟨_, _, _, a1, a2⟩:=zOr.1 ((zST hw6 hr a).1 ha)
  obtain ⟨_, _, _, b1, b2⟩:=zOr.1 ((zST hw6 hr b).1 hb)
  unfold mm at e
  simp only[zLp] at e
  have hc:(a.1 = b.1 /\ a.2 = b.2) ∨ (a.1 = b.2 /\ a.2 = b.1):=by omega
  rcases hc with ⟨e1, e2⟩ | ⟨e1, e2⟩
  ·
   exact Prod.ext e1 e2
  ·
   rw [e1, b2] at a1; cases a1
 have hsub:(zHT h w r).flatten.map mm ⊆ zTN w r:=fun e he=>by
  obtain ⟨x, hx, rfl⟩:=List.mem_map.1 he
  obtain ⟨h1, h2, h3, _, _⟩:=zOr.1 ((zST hw6 hr x).1 hx)
  unfold zTN
  rw [List.mem_flatMap]
  refine ⟨min x.1 x.2, List.mem_range.2 (by omega), ?_⟩
  unfold mm
  rcases zTQ hw h3 with e | e
  ·
   rw [e]; simp
  ·
   rw [e]; simp
 have h4:=List.Nodup.length_le_of_subset hmm hsub
 have h5:=zTq (g:=fun k=>[(k, k + 1), (k, k + w)]) (m:=2) (L:=List.range (w * r)) fun l _=>by simp
 rw [List.length_range] at h5
 rw [List.length_map] at h4
 unfold zTN at h4
 omega
theorem zTu (hw6:w <= 6) (hr:r <= 5) {l:List Cr} (hl:l ∈ zHT h w r) {k:Nat} (hk:k < l.length):l[k] ∈ zH1 h w r:=(zS0 hw6 hr hl).sub _ (List.getElem_mem hk)
end
end Go.Av
end
section
namespace Go.Av
open Go.Proofs
set_option maxRecDepth 100000
set_option maxHeartbeats 1000000
variable {G:Glob}
end Go.Av
end
