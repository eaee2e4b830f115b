import Derived.Test.YtdjncbjfejdamaaGreatDoorChLO
set_option linter.unusedVariables false
set_option linter.unusedSimpArgs false
section
namespace Go.Av
open Go.Proofs Go.Gr
set_option maxRecDepth 100000
theorem zTS {l:List Nat} {q:Nat -> Bool}:((List.range l.length).filter fun c=>q (l.getD c 0)).length = (l.filter q).length:=by
 have e:(List.range l.length).map (fun c=>l.getD c 0) = l:=by
  apply List.ext_getElem
  ·
   simp
  ·
   intro i h1 h2
   simp [List.getD, h2]
 have h:=congrArg (fun z=>(List.filter q z).length) e
 simp only[List.filter_map, List.length_map] at h
 exact h
def zTN (w r:Nat):List (Nat × Nat):=(List.range (w * r)).flatMap fun k=>[(k, k + 1), (k, k + w)]
def mm (x:Cr):Nat × Nat:=(min x.1 x.2, max x.1 x.2)
theorem zTQ {w a b:Nat} (hw:1 <= w) (h:zIn w a b = true):max a b = min a b + 1 ∨ max a b = min a b + w:=by
 unfold zIn at h
 rw [decide_eq_true_iff] at h
 have ha:=Nat.div_add_mod a w
 have hb:=Nat.div_add_mod b w
 have hc:(a / w = b / w /\ (a % w = b % w + 1 ∨ b % w = a % w + 1)) ∨ (a % w = b % w /\ (a / w = b / w + 1 ∨ b / w = a / w + 1)):=by omega
 rcases hc with ⟨e, e2 | e2⟩ | ⟨e, e2 | e2⟩
 ·
  rw [e] at ha; left; omega
 ·
  rw [e] at ha; left; omega
 ·
  rw [e2, Nat.mul_add] at ha; right; omega
 ·
  rw [e2, Nat.mul_add] at hb; right; omega
section
variable {h:Nat -> Bool} {w r:Nat}
theorem zS0 (hw6:w <= 6) (hr:r <= 5) {l:List Cr} (hl:l ∈ zHT h w r):LOK (nbC h w r) (zH1 h w r) l:=(zN4 hw6 hr).1 l (lines_perm.mem_iff.1 hl)
theorem cellI_cellX {x:Cr}:(zSR w r x).length = (zSZ w r x).length:=by
 unfold zSR zSS zSZ
 rw [show zTb w (wP w r) x = fun c=>zSU w x ((wP w r).getD c 0) from funext fun c=>zTv]
 exact zTS
theorem zTk {x:Cr} (hw6:w <= 6) (hr:r <= 5) (hx:x ∈ zH1 h w r):(zSR w r x).length = (nbC h w r x).length:=cellI_cellX.trans (zSX hw6 hr hx)
theorem zS7 {x:Cr} {c:Nat}:c ∈ zSR w r x ↔ c < (wP w r).length /\ zSU w x ((wP w r).getD c 0) = true:=by
 unfold zSR zSS
 rw [List.mem_filter, List.mem_range, zTv]
theorem zTR {x y:Cr} {p:Nat} (hp:p ∈ wP w r) (hx:zSU w x p = true) (hy:zSU w y p = true):(zSY w r x y).isSome = true:=by
 obtain ⟨i, hi, e⟩:=List.getElem_of_mem hp
 have e2:(wP w r).getD i 0 = p:=by simp [List.getD, hi, e]
 unfold zSY
 rw [List.find?_isSome]
 exact ⟨i, zS7.2 ⟨hi, e2.symm ▸ hx⟩, List.contains_iff_mem.2 (zS7.2 ⟨hi, e2.symm ▸ hy⟩)⟩
theorem zTG (hw6:w <= 6) (hr:r <= 5) {l:List Cr} (hl:l ∈ zHT h w r):zT7 w r l:=by
 have H:=zS0 hw6 hr hl
 refine ⟨H.pos, fun i hi=>?_, fun hB=>?_⟩
 ·
  obtain ⟨p, hp, _, h1, h2, _⟩:=zTw hw6 hr (H.pth.st i hi)
  exact zTR hp h1 h2
 ·
  unfold joB at hB
  rw [gd H.pos] at hB
  simp only[zLa, decide_eq_true_eq, beq_iff_eq] at hB
  have hc:=zTg hw6 hr H hB.1 (cellI_cellX.symm.trans hB.2)
  rw [gd H.pos, gd (show l.length - 1 < l.length by omega)]
  obtain ⟨p, hp, _, h1, h2, _⟩:=zTw hw6 hr hc
  exact zTR hp h1 h2
theorem zTj (hw6:w <= 6) (hr:r <= 5):(zHT h w r).flatten.Nodup:=(List.Perm.flatten lines_perm).nodup_iff.2 (zN4 hw6 hr).2.1
theorem zST (hw6:w <= 6) (hr:r <= 5) (x:Cr):x ∈ (zHT h w r).flatten ↔ x ∈ zH1 h w r:=(List.Perm.flatten lines_perm).mem_iff.trans ((zN4 hw6 hr).2.2 x)
theorem zTE (hw:1 <= w) (hw6:w <= 6) (hr:r <= 5) (hwr:w * r <= 30):(zHT h w r).flatten.length <= 60:=by
 have hnd:=zTj (h:=h) hw6 hr
 have hmm:((zHT h w r).flatten.map mm).Nodup:=by
  rw [List.nodup_iff_pairwise_ne, List.pairwise_map]
  rw [List.nodup_iff_pairwise_ne] at hnd
  refine List.Pairwise.imp_of_mem (fun {a b} ha hb hab e=>hab ?_) hnd
  obtain ⟨_, _, _, a1, a2⟩:=zOr.1 ((zST hw6 hr a).1 ha)
  obtain ⟨_, _, _, b1, b2⟩:=zOr.1 ((zST hw6 hr b).1 hb)
  unfold mm at e
  simp only[zLp] at e
  have hc:(a.1 = b.1 /\ a.2 = b.2) ∨ (a.1 = b.2 /\ a.2 = b.1):=by omega
  rcases hc with ⟨e1, e2⟩ | ⟨e1, e2⟩
  ·
   exact Prod.ext e1 e2
  ·
   rw [e1, b2] at a1; cases a1
 have hsub:(zHT h w r).flatten.map mm ⊆ zTN w r:=fun e he=>by
  obtain ⟨x, hx, rfl⟩:=List.mem_map.1 he
  obtain ⟨h1, h2, h3, _, _⟩:=zOr.1 ((zST hw6 hr x).1 hx)
  unfold zTN
  rw [List.mem_flatMap]
  refine ⟨min x.1 x.2, List.mem_range.2 (by omega), ?_⟩
  unfold mm
  rcases zTQ hw h3 with e | e
  ·
   rw [e]; simp
  ·
   rw [e]; simp
 have h4:=List.Nodup.length_le_of_subset hmm hsub
 have h5:=zTq (g:=fun k=>[(k, k + 1), (k, k + w)]) (m:=2) (L:=List.range (w * r)) fun l _=>by simp
 rw [List.length_range] at h5
 rw [List.length_map] at h4
 unfold zTN at h4
 omega
def zS3 (L:List (List Cr)) (x:Cr) (k:Nat):Nat:=(L.take k).flatten.count x
def zSV (L:List (List Cr)) (x:Cr) (k j:Nat):Nat:=zS3 L x k + ((L.getD k []).take j).count x
theorem cntJ_0 {L:List (List Cr)} {x:Cr} {k:Nat}:zSV L x k 0 = zS3 L x k:=by unfold zSV; simp
theorem zTF {L:List (List Cr)} {x:Cr} {k j:Nat} (hk:k < L.length) (hj:j < L[k].length) (e:(L[k][j] == x) = true):zSV L x k (j + 1) = zSV L x k j + 1:=by
 unfold zSV
 rw [show L.getD k [] = L[k] by simp [List.getD, hk], List.take_succ_eq_append_getElem hj, List.count_append]
 simp only[List.count_cons, List.count_nil, e]; simp; omega
theorem zTW {L:List (List Cr)} {x:Cr} {k j:Nat} (hk:k < L.length) (hj:j < L[k].length) (e:(L[k][j] == x) = false):zSV L x k (j + 1) = zSV L x k j:=by
 unfold zSV
 rw [show L.getD k [] = L[k] by simp [List.getD, hk], List.take_succ_eq_append_getElem hj, List.count_append]
 simp only[List.count_cons, List.count_nil, e]; simp
theorem zTT {L:List (List Cr)} {x:Cr} {k:Nat} (hk:k < L.length):zSV L x k L[k].length = zS3 L x (k + 1):=by
 unfold zSV zS3
 rw [show L.getD k [] = L[k] by simp [List.getD, hk], List.take_length, List.take_succ_eq_append_getElem hk, List.flatten_append, List.count_append]; simp
theorem zTt {L:List (List Cr)} {x:Cr} {k:Nat}:zS3 L x k <= L.flatten.length:=by
 unfold zS3
 refine Nat.le_trans List.count_le_length ?_
 conv=>rhs; rw [← List.take_append_drop k L, List.flatten_append, List.length_append]
 omega
theorem zTY (hw6:w <= 6) (hr:r <= 5) (x:Cr):zS3 (zHT h w r) x (zHT h w r).length = if x ∈ zH1 h w r then 1 else 0:=by
 unfold zS3
 rw [List.take_length, List.Nodup.count (zTj hw6 hr)]
 by_cases e:x ∈ zH1 h w r
 ·
  rw [if_pos e, if_pos ((zST hw6 hr x).2 e)]
 ·
  rw [if_neg e, if_neg fun hx=>e ((zST hw6 hr x).1 hx)]
theorem zTu (hw6:w <= 6) (hr:r <= 5) {l:List Cr} (hl:l ∈ zHT h w r) {k:Nat} (hk:k < l.length):l[k] ∈ zH1 h w r:=(zS0 hw6 hr hl).sub _ (List.getElem_mem hk)
theorem zTl (hw6:w <= 6) (hr:r <= 5) {l:List Cr} (hl:l ∈ zHT h w r) {k:Nat} (h0:0 < k) (hk:k + 1 < l.length):(zSR w r (l[k]'(by omega))).length = 2:=cellI_cellX.trans (zTz hw6 hr (zS0 hw6 hr hl) h0 hk)
theorem zTA (hw6:w <= 6) (hr:r <= 5) {l:List Cr} (hl:l ∈ zHT h w r) (hp:0 < l.length):(zSR w r l[0]).length < 2 ↔ (zSR w r (l[l.length - 1]'(by omega))).length < 2:=by
 rw [zTk hw6 hr (zTu hw6 hr hl hp), zTk hw6 hr (zTu hw6 hr hl (show l.length - 1 < l.length by omega))]
 exact (zS0 hw6 hr hl).ends
end
end Go.Av
end
section
namespace Go.Av
open Go.Proofs
set_option maxRecDepth 100000
set_option maxHeartbeats 1000000
variable {G:Glob}
theorem zT3 (hkn:KN GT) (f:Fld) (lvl a b:Int) (hl:¬ f.vals.length <= 40):ACall Tryz.prog GT 5 [.agg (zHF f), ei lvl, ei a, ei b] (.v (.bool true)):=by
 refine zS Tryz.func5 rfl (by kernel_rfl) rfl ?_
 refine zuy (zh ?_)
 refine zg rfl rfl (jf rfl (zY rfl)) ?_
 refine zg rfl rfl (zn rfl rfl) ?_
 refine zo (zf (zuy (zuy (zh ?_))))
 refine zg rfl rfl (zZ rfl rfl zHQ (by exact zLb rfl)) ?_
 refine zg rfl rfl (zy (av:=[_]) rfl ⟨rfl, trivial⟩ (f26 f)) ?_
 refine zg rfl rfl (je rfl rfl) ?_
 refine zg rfl rfl (zi rfl rfl) ?_
 refine zk rfl rfl rfl (fun hg=>zZ rfl rfl zHQ (by exact zLb rfl)) ?_
 refine zk rfl rfl rfl (fun hg=>zy (av:=[_]) rfl ⟨(by exact if_pos hg), trivial⟩ (f28 f (by simp at hg; omega))) ?_
 refine zk rfl rfl rfl (fun hg=>je rfl (if_pos hg)) ?_
 refine zg rfl rfl (qU rfl rfl rfl rfl) ?_
 refine zg rfl rfl (zi rfl rfl) ?_
 refine zk rfl rfl rfl (fun hg=>zi rfl rfl) ?_
 refine zk rfl rfl rfl (fun hg=>zy (av:=[_]) rfl ⟨(by exact if_pos hg), trivial⟩ (f29 lvl)) ?_
 refine zk rfl rfl rfl (fun hg=>je rfl (if_pos hg)) ?_
 refine zg rfl rfl (qU rfl rfl rfl rfl) ?_
 refine zg rfl rfl (zi rfl rfl) ?_
 refine zk rfl rfl rfl (fun hg=>zi rfl rfl) ?_
 refine zk rfl rfl rfl (fun hg=>qi rfl (if_pos hg) rfl) ?_
 refine zg rfl rfl (qU rfl rfl rfl rfl) ?_
 refine zg rfl rfl (zi rfl rfl) ?_
 refine zk rfl rfl rfl (fun hg=>zi rfl rfl) ?_
 refine zk rfl rfl rfl (fun hg=>zu rfl rfl zHx) ?_
 refine zk rfl rfl rfl (fun hg=>zA rfl (if_pos hg) rfl zHR) ?_
 refine zk rfl rfl rfl (fun hg=>zuB rfl (if_pos hg) Tryz.underlying27) ?_
 refine zk rfl rfl rfl (fun hg=>zbe rfl (if_pos hg) (if_pos hg)) ?_
 refine zg rfl rfl (qU rfl rfl rfl rfl) ?_
 refine zg rfl rfl (zi rfl rfl) ?_
 refine zk rfl rfl rfl (fun hg=>zi rfl rfl) ?_
 refine zk rfl rfl rfl (fun hg=>qi rfl (if_pos hg) rfl) ?_
 refine zg rfl rfl (qU rfl rfl rfl rfl) ?_
 refine zg rfl rfl (zi rfl rfl) ?_
 refine zk rfl rfl rfl (fun hg=>zi rfl rfl) ?_
 refine zk rfl rfl rfl (fun hg=>zu rfl rfl zHx) ?_
 refine zk rfl rfl rfl (fun hg=>zA rfl (if_pos hg) rfl zHR) ?_
 refine zk rfl rfl rfl (fun hg=>zuB rfl (if_pos hg) Tryz.underlying27) ?_
 refine zk rfl rfl rfl (fun hg=>zbe rfl (if_pos hg) (if_pos hg)) ?_
 refine zg rfl rfl (qU rfl rfl rfl rfl) ?_
 refine zo (zf (zx rfl (fun h0=>?_) (fun h0=>?_)))
 ·
  refine zuy (zh ?_)
  refine zg rfl rfl (zy (av:=[]) rfl trivial hkn) ?_
  refine zg rfl rfl (zn rfl rfl) ?_
  refine zo (zf (zP (zQ ?_)))
  exact ⟨.inr rfl, AVle.refl _⟩
 ·
  exfalso; simp at h0; omega
theorem zT4 (hkn:KN GT) (f:Fld) (lvl a b:Int) (hl:f.vals.length <= 40) (hb:zHz f = false ∨ inB lvl 1 99999 = false ∨ a < 0 ∨ (f.vals.length:Int) <= a ∨ b < 0 ∨ (f.vals.length:Int) <= b):ACall Tryz.prog GT 5 [.agg (zHF f), ei lvl, ei a, ei b] (.v (.bool true)):=by
 refine zS Tryz.func5 rfl (by kernel_rfl) rfl ?_
 refine zuy (zh ?_)
 refine zg rfl rfl (jf rfl (zY rfl)) ?_
 refine zg rfl rfl (zn rfl rfl) ?_
 refine zo (zf (zuy (zuy (zh ?_))))
 refine zg rfl rfl (zZ rfl rfl zHQ (by exact zLb rfl)) ?_
 refine zg rfl rfl (zy (av:=[_]) rfl ⟨rfl, trivial⟩ (f26 f)) ?_
 refine zg rfl rfl (je rfl rfl) ?_
 refine zg rfl rfl (zi rfl rfl) ?_
 refine zk rfl rfl rfl (fun hg=>zZ rfl rfl zHQ (by exact zLb rfl)) ?_
 refine zk rfl rfl rfl (fun hg=>zy (av:=[_]) rfl ⟨(by exact if_pos hg), trivial⟩ (f28 f (by omega))) ?_
 refine zk rfl rfl rfl (fun hg=>je rfl (if_pos hg)) ?_
 refine zg rfl rfl (qU rfl rfl rfl rfl) ?_
 refine zg rfl rfl (zi rfl rfl) ?_
 refine zk rfl rfl rfl (fun hg=>zi rfl rfl) ?_
 refine zk rfl rfl rfl (fun hg=>zy (av:=[_]) rfl ⟨(by exact if_pos hg), trivial⟩ (f29 lvl)) ?_
 refine zk rfl rfl rfl (fun hg=>je rfl (if_pos hg)) ?_
 refine zg rfl rfl (qU rfl rfl rfl rfl) ?_
 refine zg rfl rfl (zi rfl rfl) ?_
 refine zk rfl rfl rfl (fun hg=>zi rfl rfl) ?_
 refine zk rfl rfl rfl (fun hg=>qi rfl (if_pos hg) rfl) ?_
 refine zg rfl rfl (qU rfl rfl rfl rfl) ?_
 refine zg rfl rfl (zi rfl rfl) ?_
 refine zk rfl rfl rfl (fun hg=>zi rfl rfl) ?_
 refine zk rfl rfl rfl (fun hg=>zu rfl rfl zHx) ?_
 refine zk rfl rfl rfl (fun hg=>zA rfl (if_pos hg) rfl zHR) ?_
 refine zk rfl rfl rfl (fun hg=>zuB rfl (if_pos hg) Tryz.underlying27) ?_
 refine zk rfl rfl rfl (fun hg=>zbe rfl (if_pos hg) (if_pos hg)) ?_
 refine zg rfl rfl (qU rfl rfl rfl rfl) ?_
 refine zg rfl rfl (zi rfl rfl) ?_
 refine zk rfl rfl rfl (fun hg=>zi rfl rfl) ?_
 refine zk rfl rfl rfl (fun hg=>qi rfl (if_pos hg) rfl) ?_
 refine zg rfl rfl (qU rfl rfl rfl rfl) ?_
 refine zg rfl rfl (zi rfl rfl) ?_
 refine zk rfl rfl rfl (fun hg=>zi rfl rfl) ?_
 refine zk rfl rfl rfl (fun hg=>zu rfl rfl zHx) ?_
 refine zk rfl rfl rfl (fun hg=>zA rfl (if_pos hg) rfl zHR) ?_
 refine zk rfl rfl rfl (fun hg=>zuB rfl (if_pos hg) Tryz.underlying27) ?_
 refine zk rfl rfl rfl (fun hg=>zbe rfl (if_pos hg) (if_pos hg)) ?_
 refine zg rfl rfl (qU rfl rfl rfl rfl) ?_
 refine zo (zf (zx rfl (fun h0=>?_) (fun h0=>?_)))
 ·
  refine zuy (zh ?_)
  refine zg rfl rfl (zy (av:=[]) rfl trivial hkn) ?_
  refine zg rfl rfl (zn rfl rfl) ?_
  refine zo (zf (zP (zQ ?_)))
  exact ⟨.inr rfl, AVle.refl _⟩
 ·
  exfalso; simp at h0; rcases hb with h | h | h | h | h | h <;> first | (simp [h] at h0; done) | omega
theorem zT6 (hkn:KN GT) (f:Fld) (lvl:Int) (a b:Nat) (hl:f.vals.length <= 40) (hf:zHz f = true) (hv:inB lvl 1 99999 = true) (ha:a < f.vals.length) (hb:b < f.vals.length):ACall Tryz.prog GT 5 [.agg (zHF f), ei lvl, ei (a:Int), ei (b:Int)] (.v (.bool true)):=by
 obtain ⟨zw, w1, w6, r1, r5, hlen⟩:=zNh hf
 have hwr:=zKu w6 r5
 obtain ⟨b1, b2, b3⟩:=zJI hf
 have h27:=zQD (G:=GT) f lvl (by omega) hf hv
 have hLL:=zNs (h:=hiF f lvl) (w:=wF f) (r:=rF f) w6 r5 hwr
 have h60:=zTE (h:=hiF f lvl) (w:=wF f) (r:=rF f) w1 w6 r5 hwr
 have hcom:=fun l hl=>zTG (h:=hiF f lvl) (w:=wF f) (r:=rF f) w6 r5 (l:=l) hl
 have hin:=fun l hl k h0 hk=>zTl (h:=hiF f lvl) (w:=wF f) (r:=rF f) w6 r5 (l:=l) hl (k:=k) h0 hk
 have hen:=fun l hl hp=>zTA (h:=hiF f lvl) (w:=wF f) (r:=rF f) w6 r5 (l:=l) hl hp
 have hcnt:=zTY (h:=hiF f lvl) (w:=wF f) (r:=rF f) w6 r5 (a, b)
 have h34:=fun x=>f34 (G:=GT) f x hf
 generalize zHT (hiF f lvl) (wF f) (rF f) = L at h27 hLL h60 hcom hin hen hcnt
 have h32:=f32 (G:=GT) L (fun l hl=>(hcom l hl).1) h60 (by omega)
 have h33:=f33 (G:=GT) f L hf (by omega) (fun l hl=>by have:=hLL.2 l hl; omega) hcom
 have hmA:=zOr (h:=hiF f lvl) (w:=wF f) (r:=rF f) (x:=(a, b))
 have hna:=zKe (w:=wF f) a b
 rw [zw] at hna
 generalize wF f = w at zw w1 w6 hlen hwr h34 h33 hcom hin hen hcnt hmA hna
 generalize rF f = r at r1 r5 hlen hwr h34 h33 hcom hin hen hcnt hmA
 refine zS Tryz.func5 rfl (by kernel_rfl) rfl ?_
 refine zuy (zh ?_)
 refine zg rfl rfl (jf rfl (zY rfl)) ?_
 refine zg rfl rfl (zn rfl rfl) ?_
 refine zo (zf (zuy (zuy (zh ?_))))
 refine zg rfl rfl (zZ rfl rfl zHQ (by exact zLb rfl)) ?_
 refine zg rfl rfl (zy (av:=[_]) rfl ⟨rfl, trivial⟩ (f26 f)) ?_
 refine zg rfl rfl (je rfl rfl) ?_
 refine zg rfl rfl (zi rfl rfl) ?_
 refine zk rfl rfl rfl (fun hg=>zZ rfl rfl zHQ (by exact zLb rfl)) ?_
 refine zk rfl rfl rfl (fun hg=>zy (av:=[_]) rfl ⟨(by exact if_pos hg), trivial⟩ (f28 f (by omega))) ?_
 refine zk rfl rfl rfl (fun hg=>je rfl (if_pos hg)) ?_
 refine zg rfl rfl (qU rfl rfl rfl rfl) ?_
 refine zg rfl rfl (zi rfl rfl) ?_
 refine zk rfl rfl rfl (fun hg=>zi rfl rfl) ?_
 refine zk rfl rfl rfl (fun hg=>zy (av:=[_]) rfl ⟨(by exact if_pos hg), trivial⟩ (f29 lvl)) ?_
 refine zk rfl rfl rfl (fun hg=>je rfl (if_pos hg)) ?_
 refine zg rfl rfl (qU rfl rfl rfl rfl) ?_
 refine zg rfl rfl (zi rfl rfl) ?_
 refine zk rfl rfl rfl (fun hg=>zi rfl rfl) ?_
 refine zk rfl rfl rfl (fun hg=>qi rfl (if_pos hg) rfl) ?_
 refine zg rfl rfl (qU rfl rfl rfl rfl) ?_
 refine zg rfl rfl (zi rfl rfl) ?_
 refine zk rfl rfl rfl (fun hg=>zi rfl rfl) ?_
 refine zk rfl rfl rfl (fun hg=>zu rfl rfl zHx) ?_
 refine zk rfl rfl rfl (fun hg=>zA rfl (if_pos hg) rfl zHR) ?_
 refine zk rfl rfl rfl (fun hg=>zuB rfl (if_pos hg) Tryz.underlying27) ?_
 refine zk rfl rfl rfl (fun hg=>zbe rfl (if_pos hg) (if_pos hg)) ?_
 refine zg rfl rfl (qU rfl rfl rfl rfl) ?_
 refine zg rfl rfl (zi rfl rfl) ?_
 refine zk rfl rfl rfl (fun hg=>zi rfl rfl) ?_
 refine zk rfl rfl rfl (fun hg=>qi rfl (if_pos hg) rfl) ?_
 refine zg rfl rfl (qU rfl rfl rfl rfl) ?_
 refine zg rfl rfl (zi rfl rfl) ?_
 refine zk rfl rfl rfl (fun hg=>zi rfl rfl) ?_
 refine zk rfl rfl rfl (fun hg=>zu rfl rfl zHx) ?_
 refine zk rfl rfl rfl (fun hg=>zA rfl (if_pos hg) rfl zHR) ?_
 refine zk rfl rfl rfl (fun hg=>zuB rfl (if_pos hg) Tryz.underlying27) ?_
 refine zk rfl rfl rfl (fun hg=>zbe rfl (if_pos hg) (if_pos hg)) ?_
 refine zg rfl rfl (qU rfl rfl rfl rfl) ?_
 refine zo (zf (zx rfl (fun h0=>?_) (fun h0=>?_)))
 ·
  exfalso; simp [hf, hv] at h0; omega
 ·
  refine zC (zf (zuy (zh ?_)))
  refine zg rfl rfl (zZ rfl rfl zHQ (by exact zLb rfl)) ?_
  refine zg rfl rfl (zi rfl rfl) ?_
  refine zg rfl rfl (zy (av:=[_, _]) rfl ⟨rfl, rfl, trivial⟩ h27) ?_
  refine zg rfl rfl (zq rfl rfl) ?_
  refine zg rfl rfl (zN rfl rfl rfl) ?_
  refine zg rfl rfl (zN rfl rfl rfl) ?_
  refine zg rfl rfl (zW rfl rfl) ?_
  refine zg rfl rfl (zn rfl rfl) ?_
  refine zo (zf (zuy (zuy (zh ?_))))
  refine zg rfl rfl (zi rfl rfl) ?_
  refine zg rfl rfl (vg rfl rfl rfl) ?_
  refine zg rfl rfl (zi rfl rfl) ?_
  refine zk rfl rfl rfl (fun hg=>zq rfl rfl) ?_
  refine zk rfl rfl rfl (fun hg=>zy (av:=[_]) rfl ⟨(rfl), trivial⟩ h32) ?_
  refine zk rfl rfl rfl (fun hg=>je rfl (rfl)) ?_
  refine zg rfl rfl (qU rfl rfl rfl rfl) ?_
  refine zo (zf (zx rfl (fun h1=>?_) (fun h1=>?_)))
  ·
   exfalso; simp at h1
  ·
   refine zC (zf (zuy (zh ?_)))
   refine zg rfl rfl (zZ rfl rfl zHQ (by exact zLb rfl)) ?_
   refine zg rfl rfl (zq rfl rfl) ?_
   refine zg rfl rfl (zy (av:=[_, _]) rfl ⟨rfl, rfl, trivial⟩ h33) ?_
   refine zg rfl rfl (zq rfl rfl) ?_
   refine zg rfl rfl (zN rfl rfl rfl) ?_
   refine zg rfl rfl (zN rfl rfl rfl) ?_
   refine zg rfl rfl (zW rfl rfl) ?_
   refine zg rfl rfl (zn rfl rfl) ?_
   refine zo (zf (zuy (zuy (zh ?_))))
   refine zg rfl rfl (zi rfl rfl) ?_
   refine zg rfl rfl (je rfl rfl) ?_
   refine zo (zf (zx rfl (fun h2=>?_) (fun h2=>?_)))
   ·
    exfalso; simp at h2
   ·
    refine zC (zf (zuy (zh ?_)))
    refine zg rfl rfl (zn rfl rfl) ?_
    refine zo (zf (zuy (zuy (zh ?_))))
    refine zg rfl rfl (zn rfl rfl) ?_
    refine zo (zf (zB ?_))
    refine qy (ι:={ k:Nat // k <= L.length }) (fun k=>⟨Tryz.f5.ntmps, frL [(1, I lvl), (2, I (a:Int)), (3, I (b:Int)), (4, .pub (.ptr (zHF f))), (9, .pub (zH7 L)), (13, I ((zS3 L (a, b) k.1):Int)), (14, I (k.1:Int))], []⟩) (fun k=>L.length - k.1) (⟨0, by simp⟩) ?_ ?_
    ·
     exact zt _ ⟨rfl, rfl, rfl, rfl, rfl, rfl, rfl, trivial⟩ (rfl)
    ·
     rintro ⟨k, hk⟩
     dsimp only
     refine zuy (zuy (zh ?_))
     refine zg rfl rfl (zi rfl rfl) ?_
     refine zg rfl rfl (zq rfl rfl) ?_
     refine zg rfl rfl (zuB rfl rfl Tryz.underlying37) ?_
     refine zg rfl rfl (qi rfl rfl rfl) ?_
     refine zo (zf (zx rfl (fun h3=>?_) (fun h3=>?_)))
     ·
      have hlt:k < L.length:=by simpa using h3
      have hlk:=hLL.2 _ (List.getElem_mem hlt)
      have hpos:=(hcom _ (List.getElem_mem hlt)).1
      have hcl:=zTt (L:=L) (x:=(a, b)) (k:=k + 1)
      refine zC (zf (zuy (zB (zuy (zuy (zh ?_))))))
      refine zg rfl rfl (zn rfl rfl) ?_
      refine zo (zf (zB ?_))
      refine qy (ι:={ j:Nat // j <= L[k].length }) (fun j=>⟨Tryz.f5.ntmps, frL [(1, I lvl), (2, I (a:Int)), (3, I (b:Int)), (4, .pub (.ptr (zHF f))), (9, .pub (zH7 L)), (13, I ((zSV L (a, b) k j.1):Int)), (14, I (k:Int)), (15, I (j.1:Int))], []⟩) (fun j=>L[k].length - j.1) (⟨0, by simp⟩) ?_ ?_
      ·
       exact zt _ ⟨rfl, rfl, rfl, rfl, rfl, (congrArg (fun n:Nat=>I (n:Int)) cntJ_0.symm), rfl, rfl, trivial⟩ (rfl)
      ·
       rintro ⟨j, hj⟩
       dsimp only
       refine zuy (zuy (zh ?_))
       refine zg rfl rfl (zi rfl rfl) ?_
       refine zg rfl rfl (zq rfl rfl) ?_
       refine zg rfl rfl (zi rfl rfl) ?_
       refine zg rfl rfl (zG rfl rfl rfl zJQ (by omega) (zSs hlt) zIb) ?_
       refine zg rfl rfl (zA rfl rfl rfl zKE) ?_
       refine zg rfl rfl (zuB rfl rfl Tryz.underlying48) ?_
       refine zg rfl rfl (qi rfl rfl rfl) ?_
       refine zo (zf (zx rfl (fun h4=>?_) (fun h4=>?_)))
       ·
        have hjl:j < L[k].length:=by simpa using h4
        have hcj:(zSV L (a, b) k j) <= 930 + L.flatten.length:=by unfold zSV; have h1:=zTt (L:=L) (x:=(a, b)) (k:=k); have h2:=List.count_le_length (a:=(a, b)) (l:=(L.getD k []).take j); rw [List.length_take, show L.getD k [] = L[k] by simp [List.getD, hlt]] at h2; rw [show L.getD k [] = L[k] by simp [List.getD, hlt]]; omega
        refine zC (zf (zuy (zB (zuy (zuy (zh ?_))))))
        refine zg rfl rfl (zq rfl rfl) ?_
        refine zg rfl rfl (zi rfl rfl) ?_
        refine zg rfl rfl (zG rfl rfl rfl zJQ (by omega) (zSs hlt) zIb) ?_
        refine zg rfl rfl (zA rfl rfl rfl zKE) ?_
        refine zg rfl rfl (zi rfl rfl) ?_
        refine zg rfl rfl (zG rfl rfl rfl zt9 (by omega) (zIU hjl) zH4) ?_
        refine zg rfl rfl (zZ rfl rfl zHs (by exact zLb rfl)) ?_
        refine zg rfl rfl (zi rfl rfl) ?_
        refine zg rfl rfl (zi rfl rfl) ?_
        refine zg rfl rfl (zb3 (cs:=[_, _]) rfl zNx rfl ⟨_, _, rfl, (jF rfl), ⟨_, _, rfl, (jF rfl), rfl⟩⟩ (by rfl) (by simp [ofV])) ?_
        refine zg rfl rfl (zNG (b:=(a, b)) rfl rfl rfl) ?_
        refine zo (zf (zx rfl (fun h5=>?_) (fun h5=>?_)))
        ·
         have hcs:=zTF hlt hjl h5
         have hcI:I (((zSV L (a, b) k j):Int) + 1) = I ((zSV L (a, b) k (j + 1):Nat):Int):=by rw [hcs]; rfl
         refine zh ?_
         refine zg rfl rfl (zi rfl rfl) ?_
         refine zg rfl rfl (zV rfl rfl rfl ⟨(by omega), (by omega)⟩) ?_
         refine zg rfl rfl (zn rfl rfl) ?_
         refine zo (zf (zuy ?_))
         refine qY mixed (by kernel_rfl) rfl ?_
         refine zH rfl (zZ rfl rfl zHQ (by exact zLb rfl)) ?_
         refine zH rfl (zq rfl rfl) ?_
         refine zH rfl (zi rfl rfl) ?_
         refine zH rfl (zG rfl rfl rfl zJQ (by omega) (zSs hlt) zIb) ?_
         refine zH rfl (zA rfl rfl rfl zKE) ?_
         refine zH rfl (zi rfl rfl) ?_
         refine zH rfl (zG rfl rfl rfl zt9 (by omega) (zIU hjl) zH4) ?_
         refine zH rfl (zZ rfl rfl zHs (by exact zLb rfl)) ?_
         refine zH rfl (zy (av:=[_, _]) rfl ⟨rfl, rfl, trivial⟩ (h34 L[k][j])) ?_
         refine zH rfl (zuB rfl rfl Tryz.underlying27) ?_
         refine zH rfl (zn rfl rfl) ?_
         refine jw (zf (zuy (zh ?_)))
         refine zg rfl rfl (zi rfl rfl) ?_
         refine zg rfl rfl (qi rfl rfl rfl) ?_
         refine zg rfl rfl (zi rfl rfl) ?_
         refine zk rfl rfl rfl (fun hg=>zi rfl rfl) ?_
         refine zk rfl rfl rfl (fun hg=>qR rfl (if_pos hg) rfl) ?_
         refine zg rfl rfl (qI rfl rfl rfl rfl) ?_
         refine zg rfl rfl (zi rfl rfl) ?_
         refine zk rfl rfl rfl (fun hg=>zi rfl rfl) ?_
         refine zk rfl rfl rfl (fun hg=>zq rfl rfl) ?_
         refine zk rfl rfl rfl (fun hg=>zi rfl rfl) ?_
         refine zk rfl rfl rfl (fun hg=>zG rfl (ifp hg) (ifp hg) zJQ (by omega) (zSs hlt) zIb) ?_
         refine zk rfl rfl rfl (fun hg=>zA rfl (if_pos hg) rfl zKE) ?_
         refine zk rfl rfl rfl (fun hg=>zuB rfl (if_pos hg) Tryz.underlying48) ?_
         refine zk rfl rfl rfl (fun hg=>ze5 rfl (if_pos hg) rfl ⟨(by first | omega | (simp at hg; omega)), (by first | omega | (simp at hg; omega))⟩) ?_
         refine zk rfl rfl rfl (fun hg=>qi rfl (if_pos hg) (if_pos hg)) ?_
         refine zg rfl rfl (qI rfl rfl rfl rfl) ?_
         refine zo (zf (zx rfl (fun h6=>?_) (fun h6=>?_)))
         ·
          exfalso; simp at h6; have:=hin L[k] (List.getElem_mem hlt) j (by omega) (by omega); omega
         ·
          refine zC (zD (zf (zh ?_)))
          refine zg rfl rfl (zi rfl rfl) ?_
          refine zg rfl rfl (zV rfl rfl rfl ⟨(by omega), (by omega)⟩) ?_
          refine zg rfl rfl (zn rfl rfl) ?_
          refine zo ?_
          exact ⟨⟨j + 1, by omega⟩, by dsimp only; omega, zt _ ⟨rfl, rfl, rfl, rfl, rfl, hcI, rfl, rfl, trivial⟩ (rfl)⟩
        ·
         have hcs:=zTW hlt hjl h5
         have hcI:I ((zSV L (a, b) k j):Int) = I ((zSV L (a, b) k (j + 1):Nat):Int):=by rw [hcs]
         refine zC (zf (zuy ?_))
         refine qY mixed (by kernel_rfl) rfl ?_
         refine zH rfl (zZ rfl rfl zHQ (by exact zLb rfl)) ?_
         refine zH rfl (zq rfl rfl) ?_
         refine zH rfl (zi rfl rfl) ?_
         refine zH rfl (zG rfl rfl rfl zJQ (by omega) (zSs hlt) zIb) ?_
         refine zH rfl (zA rfl rfl rfl zKE) ?_
         refine zH rfl (zi rfl rfl) ?_
         refine zH rfl (zG rfl rfl rfl zt9 (by omega) (zIU hjl) zH4) ?_
         refine zH rfl (zZ rfl rfl zHs (by exact zLb rfl)) ?_
         refine zH rfl (zy (av:=[_, _]) rfl ⟨rfl, rfl, trivial⟩ (h34 L[k][j])) ?_
         refine zH rfl (zuB rfl rfl Tryz.underlying27) ?_
         refine zH rfl (zn rfl rfl) ?_
         refine jw (zf (zuy (zh ?_)))
         refine zg rfl rfl (zi rfl rfl) ?_
         refine zg rfl rfl (qi rfl rfl rfl) ?_
         refine zg rfl rfl (zi rfl rfl) ?_
         refine zk rfl rfl rfl (fun hg=>zi rfl rfl) ?_
         refine zk rfl rfl rfl (fun hg=>qR rfl (if_pos hg) rfl) ?_
         refine zg rfl rfl (qI rfl rfl rfl rfl) ?_
         refine zg rfl rfl (zi rfl rfl) ?_
         refine zk rfl rfl rfl (fun hg=>zi rfl rfl) ?_
         refine zk rfl rfl rfl (fun hg=>zq rfl rfl) ?_
         refine zk rfl rfl rfl (fun hg=>zi rfl rfl) ?_
         refine zk rfl rfl rfl (fun hg=>zG rfl (ifp hg) (ifp hg) zJQ (by omega) (zSs hlt) zIb) ?_
         refine zk rfl rfl rfl (fun hg=>zA rfl (if_pos hg) rfl zKE) ?_
         refine zk rfl rfl rfl (fun hg=>zuB rfl (if_pos hg) Tryz.underlying48) ?_
         refine zk rfl rfl rfl (fun hg=>ze5 rfl (if_pos hg) rfl ⟨(by first | omega | (simp at hg; omega)), (by first | omega | (simp at hg; omega))⟩) ?_
         refine zk rfl rfl rfl (fun hg=>qi rfl (if_pos hg) (if_pos hg)) ?_
         refine zg rfl rfl (qI rfl rfl rfl rfl) ?_
         refine zo (zf (zx rfl (fun h6=>?_) (fun h6=>?_)))
         ·
          exfalso; simp at h6; have:=hin L[k] (List.getElem_mem hlt) j (by omega) (by omega); omega
         ·
          refine zC (zD (zf (zh ?_)))
          refine zg rfl rfl (zi rfl rfl) ?_
          refine zg rfl rfl (zV rfl rfl rfl ⟨(by omega), (by omega)⟩) ?_
          refine zg rfl rfl (zn rfl rfl) ?_
          refine zo ?_
          exact ⟨⟨j + 1, by omega⟩, by dsimp only; omega, zt _ ⟨rfl, rfl, rfl, rfl, rfl, hcI, rfl, rfl, trivial⟩ (rfl)⟩
       ·
        have hge:j = L[k].length:=by have:=h4; simp at this; omega
        subst hge
        have hce:=zTT (L:=L) (x:=(a, b)) hlt
        refine qp (zRQ (zRQ (qw (zf (zuy ?_)))))
        refine qY mixed (by kernel_rfl) rfl ?_
        refine zH rfl (zZ rfl rfl zHQ (by exact zLb rfl)) ?_
        refine zH rfl (zq rfl rfl) ?_
        refine zH rfl (zi rfl rfl) ?_
        refine zH rfl (zG rfl rfl rfl zJQ (by omega) (zSs hlt) zIb) ?_
        refine zH rfl (zA rfl rfl rfl zKE) ?_
        refine zH rfl (zG rfl rfl rfl zt9 (by omega) (show (L[k].map eCr)[((0:Int)).toNat]? = some (eCr L[k][0]) from zIU hpos) zH4) ?_
        refine zH rfl (zZ rfl rfl zHs (by exact zLb rfl)) ?_
        refine zH rfl (zy (av:=[_, _]) rfl ⟨rfl, rfl, trivial⟩ (h34 L[k][0])) ?_
        refine zH rfl (zuB rfl rfl Tryz.underlying27) ?_
        refine zH rfl (zZ rfl rfl zHQ (by exact zLb rfl)) ?_
        refine zH rfl (zq rfl rfl) ?_
        refine zH rfl (zi rfl rfl) ?_
        refine zH rfl (zG rfl rfl rfl zJQ (by omega) (zSs hlt) zIb) ?_
        refine zH rfl (zA rfl rfl rfl zKE) ?_
        refine zH rfl (zq rfl rfl) ?_
        refine zH rfl (zi rfl rfl) ?_
        refine zH rfl (zG rfl rfl rfl zJQ (by omega) (zSs hlt) zIb) ?_
        refine zH rfl (zA rfl rfl rfl zKE) ?_
        refine zH rfl (zuB rfl rfl Tryz.underlying48) ?_
        refine zH rfl (ze5 rfl rfl rfl ⟨(by omega), (by omega)⟩) ?_
        refine zH rfl (zG rfl rfl rfl zt9 (by omega) (show (L[k].map eCr)[((L[k].length:Int) - 1).toNat]? = some (eCr (L[k][L[k].length - 1]'(by omega))) by rw [show ((L[k].length:Int) - 1).toNat = L[k].length - 1 by omega]; exact zIU (by omega)) zH4) ?_
        refine zH rfl (zZ rfl rfl zHs (by exact zLb rfl)) ?_
        refine zH rfl (zy (av:=[_, _]) rfl ⟨rfl, rfl, trivial⟩ (h34 (L[k][L[k].length - 1]'(by omega)))) ?_
        refine zH rfl (zuB rfl rfl Tryz.underlying27) ?_
        refine zH rfl (zn rfl rfl) ?_
        refine zH rfl (zn rfl rfl) ?_
        refine jw (zf (zuy (zh ?_)))
        refine zg rfl rfl (zi rfl rfl) ?_
        refine zg rfl rfl (qi rfl rfl rfl) ?_
        refine zg rfl rfl (zi rfl rfl) ?_
        refine zg rfl rfl (qi rfl rfl rfl) ?_
        refine zg rfl rfl (zwJ rfl rfl rfl Tryz.underlying4) ?_
        refine zo (zf (zx rfl (fun h7=>?_) (fun h7=>?_)))
        ·
         exfalso; have he:=hen L[k] (List.getElem_mem hlt) hpos; rw [show decide (((zSR w r L[k][0]).length:Int) < 2) = decide (((zSR w r (L[k][L[k].length - 1]'(by omega))).length:Int) < 2) from decide_eq_decide.2 (by omega)] at h7; simp at h7
        ·
         refine zC (zD (zf (zh ?_)))
         refine zg rfl rfl (zi rfl rfl) ?_
         refine zg rfl rfl (zV rfl rfl rfl ⟨(by omega), (by omega)⟩) ?_
         refine zg rfl rfl (zn rfl rfl) ?_
         refine zo ?_
         exact ⟨⟨k + 1, by omega⟩, by dsimp only; omega, zt _ ⟨rfl, rfl, rfl, rfl, rfl, (congrArg (fun n:Nat=>I (n:Int)) hce), rfl, trivial⟩ (rfl)⟩
     ·
      have hge:k = L.length:=by have:=h3; simp at this; omega
      subst hge
      refine qp (zRQ (zRQ (qw (zf (zuy (zh ?_))))))
      refine zg rfl rfl (zn rfl rfl) ?_
      refine zo (zf (zuy (zuy (zh ?_))))
      refine zg rfl rfl (zu rfl rfl zHB) ?_
      refine zg rfl rfl (zA rfl rfl rfl ty3) ?_
      refine zg rfl rfl (zi rfl rfl) ?_
      refine zg rfl rfl (zi rfl rfl) ?_
      refine zg rfl rfl (zy (av:=[_, _, _]) rfl ⟨rfl, rfl, rfl, trivial⟩ (f35 f.wide (a:Int) (b:Int) (by omega) (by omega) (by omega))) ?_
      refine zg rfl rfl (zi rfl rfl) ?_
      refine zk rfl rfl rfl (fun hg=>zu rfl rfl zHx) ?_
      refine zk rfl rfl rfl (fun hg=>zA rfl (if_pos hg) rfl zHR) ?_
      refine zk rfl rfl rfl (fun hg=>zi rfl rfl) ?_
      refine zk rfl rfl rfl (fun hg=>zG rfl (ifp hg) (ifp hg) zIz (by omega) (wu ha) jC) ?_
      refine zk rfl rfl rfl (fun hg=>zA rfl (if_pos hg) rfl ty3) ?_
      refine zk rfl rfl rfl (fun hg=>zi rfl rfl) ?_
      refine zk rfl rfl rfl (fun hg=>qi rfl (if_pos hg) (if_pos hg)) ?_
      refine zg rfl rfl (qI rfl rfl rfl rfl) ?_
      refine zg rfl rfl (zi rfl rfl) ?_
      refine zk rfl rfl rfl (fun hg=>zu rfl rfl zHx) ?_
      refine zk rfl rfl rfl (fun hg=>zA rfl (if_pos hg) rfl zHR) ?_
      refine zk rfl rfl rfl (fun hg=>zi rfl rfl) ?_
      refine zk rfl rfl rfl (fun hg=>zG rfl (ifp hg) (ifp hg) zIz (by omega) (wu hb) jC) ?_
      refine zk rfl rfl rfl (fun hg=>zA rfl (if_pos hg) rfl ty3) ?_
      refine zk rfl rfl rfl (fun hg=>zi rfl rfl) ?_
      refine zk rfl rfl rfl (fun hg=>zbe rfl (if_pos hg) (if_pos hg)) ?_
      refine zg rfl rfl (qI rfl rfl rfl rfl) ?_
      refine zo (zf (zx rfl (fun h8=>?_) (fun h8=>?_)))
      ·
       have hone:zS3 L (a, b) L.length = 1:=by rw [hcnt, if_pos (hmA.2 ?_)]; simp at h8; exact ⟨by omega, by omega, by rw [← hna]; simpa using h8.1.1, by unfold hiF; rw [getD_at ha]; simp; omega, by unfold hiF; rw [getD_at hb]; simp; omega⟩
       refine zh ?_
       refine zg rfl rfl (zn rfl rfl) ?_
       refine zo (zf (zuy (zh ?_)))
       refine zg rfl rfl (zi rfl rfl) ?_
       refine zg rfl rfl (zi rfl rfl) ?_
       refine zg rfl rfl (qJ rfl rfl rfl) ?_
       refine zg rfl rfl (zi rfl rfl) ?_
       refine zk rfl rfl rfl (fun hg=>zy (av:=[]) rfl trivial hkn) ?_
       refine zg rfl rfl (qI rfl rfl rfl rfl) ?_
       refine zg rfl rfl (zn rfl rfl) ?_
       refine zo (zf (zP ?_))
       exact ⟨.inr rfl, AVle.of (by rw [hone]; rfl)⟩
      ·
       have hone:zS3 L (a, b) L.length = 0:=by
        rw [hcnt, if_neg fun hm=>?_]
        obtain ⟨_, _, m3, m4, m5⟩:=hmA.1 hm
        dsimp only at m3 m4 m5
        rw [← hna] at m3
        unfold hiF at m4 m5
        rw [getD_at ha] at m4
        rw [getD_at hb] at m5
        rw [m3] at h8
        simp at m4 m5 h8
        omega
       refine zC (zf (zuy (zh ?_)))
       refine zg rfl rfl (zi rfl rfl) ?_
       refine zg rfl rfl (zi rfl rfl) ?_
       refine zg rfl rfl (qJ rfl rfl rfl) ?_
       refine zg rfl rfl (zi rfl rfl) ?_
       refine zk rfl rfl rfl (fun hg=>zy (av:=[]) rfl trivial hkn) ?_
       refine zg rfl rfl (qI rfl rfl rfl rfl) ?_
       refine zg rfl rfl (zn rfl rfl) ?_
       refine zo (zf (zP ?_))
       exact ⟨.inr rfl, AVle.of (by rw [hone]; rfl)⟩
theorem f5 (hkn:KN GT) (f:Fld) (lvl a b:Int):ACall Tryz.prog GT 5 [.agg (zHF f), ei lvl, ei a, ei b] (.v (.bool true)):=by
 by_cases hl:f.vals.length <= 40
 ·
  by_cases hb:zHz f = false ∨ inB lvl 1 99999 = false ∨ a < 0 ∨ (f.vals.length:Int) <= a ∨ b < 0 ∨ (f.vals.length:Int) <= b
  ·
   exact zT4 hkn f lvl a b hl hb
  ·
   simp only[not_or, Bool.not_eq_false] at hb
   obtain ⟨h1, h2, h3, h4, h5, h6⟩:=hb
   have e1:((a.toNat:Nat):Int) = a:=by omega
   have e2:((b.toNat:Nat):Int) = b:=by omega
   have:=zT6 hkn f lvl a.toNat b.toNat hl h1 h2 (by omega) (by omega)
   rw [e1, e2] at this
   exact this
 ·
  exact zT3 hkn f lvl a b hl
end Go.Av
end
