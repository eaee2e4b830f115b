import Derived.Test.YtdjncbjfejdamaaGreatDoorChLN
set_option linter.unusedVariables false
set_option linter.unusedSimpArgs false
section
namespace Go.Av
open Go.Proofs
set_option maxRecDepth 100000
set_option maxHeartbeats 1000000
variable {G:Glob}
def zTe (w p a n:Nat):Bool:=(List.range n).any fun i=>cnR w p (i:Int) == a
theorem zS8 {w p a n:Nat}:(zTe w p a n || (((cnR w p (n:Int):Nat):Int) == (a:Int))) = zTe w p a (n + 1):=by
 unfold zTe; rw [List.range_succ, List.any_append, zI5]; simp
theorem zTP {w p a:Nat}:zTe w p a 4 = (zSW w p).contains a:=by
 have h0:cnR w p ((0:Nat):Int) = p:=rfl
 have h1:cnR w p ((1:Nat):Int) = p + 1:=rfl
 have h2:cnR w p ((2:Nat):Int) = p + w + 1:=rfl
 have h3:cnR w p ((3:Nat):Int) = p + w:=rfl
 unfold zTe zSW
 rw [show List.range 4 = [0, 1, 2, 3] from rfl, Bool.eq_iff_iff]
 simp only[List.any_cons, List.any_nil, Bool.or_false, Bool.or_eq_true, beq_iff_eq, h0, h1, h2, h3, List.contains_cons, List.contains_nil]
 constructor
 ·
  rintro (h | h | h | h) <;> simp [h]
 ·
  rintro (h | h | h | h) <;> simp [h]
def zTb (w:Nat) (cs:List Nat) (x:Cr) (c:Nat):Bool:=zTe w (cs.getD c 0) x.1 4 && zTe w (cs.getD c 0) x.2 4
theorem zTv {w:Nat} {cs:List Nat} {x:Cr} {c:Nat}:zTb w cs x c = zSU w x (cs.getD c 0):=by unfold zTb zSU; rw [zTP, zTP]
def zSS (w:Nat) (cs:List Nat) (x:Cr) (k:Nat):List Nat:=(List.range k).filter (zTb w cs x)
def rNn (c:Nat):List EV:=[I (c:Int)]
def eNs (l:List Nat):AV:=.sl (l.map fun c:Nat=>[ei (c:Int)])
theorem zT1 (l:List Nat):l.map rNn = (l.map fun c:Nat=>[ei (c:Int)]).map (·.map .pub):=by simp [rNn]; exact fun _ _=>rfl
theorem zTX {l:List Nat}:∀ q ∈ l.map rNn, q.length = 1:=fun q h=>by obtain ⟨c, _, rfl⟩:=List.mem_map.1 h; rfl
theorem zTd {l:List Nat}:∀ q ∈ l.map (fun c:Nat=>[ei (c:Int)]), q.length = 1:=fun q h=>by obtain ⟨c, _, rfl⟩:=List.mem_map.1 h; rfl
theorem zTs {l:List Nat} {k:Nat} (h:k < l.length):(l.map fun c:Nat=>[ei (c:Int)])[k]? = some [ei ((l[k]:Nat):Int)]:=by simp [h]
theorem zS1 {w:Nat} {cs:List Nat} {x:Cr} {k:Nat}:(zSS w cs x k).length <= k:=by
 unfold zSS; have:=List.length_filter_le (zTb w cs x) (List.range k); rw [List.length_range] at this; exact this
theorem zTK {w:Nat} {cs:List Nat} {x:Cr} {k:Nat} (h:zTb w cs x k = true):zSS w cs x (k + 1) = zSS w cs x k ++ [k]:=by
 unfold zSS; rw [List.range_succ, List.filter_append]; simp [h]
theorem zT0 {w:Nat} {cs:List Nat} {x:Cr} {k:Nat} (h:zTb w cs x k = false):zSS w cs x (k + 1) = zSS w cs x k:=by
 unfold zSS; rw [List.range_succ, List.filter_append]; simp [h]
def zSR (w r:Nat) (x:Cr):List Nat:=zSS w (wP w r) x (wP w r).length
def zSY (w r:Nat) (x y:Cr):Option Nat:=(zSR w r x).find? fun c=>(zSR w r y).contains c
def zTr (w r:Nat) (x y:Cr):Int:=match zSY w r x y with | some c=>(c:Int) | none=>-1
theorem zTC {w r:Nat} {x y:Cr} {k:Nat} (hk:k < (zSR w r x).length) (hb:(zSR w r x)[k] ∈ zSR w r y) (hn:∀ i (hi:i < (zSR w r x).length), i < k -> ¬ (zSR w r x)[i] ∈ zSR w r y):zTr w r x y = (((zSR w r x)[k]:Nat):Int):=by
 have:zSY w r x y = some (zSR w r x)[k]:=by
  unfold zSY
  rw [List.find?_eq_some_iff_getElem]
  refine ⟨List.contains_iff_mem.2 hb, k, hk, rfl, fun j hj=>?_⟩
  rw [Bool.not_eq_true', ← Bool.not_eq_true, List.contains_iff_mem]
  exact hn j (by omega) hj
 unfold zTr; rw [this]
theorem zTx {w r:Nat} {x y:Cr} (hn:∀ i (hi:i < (zSR w r x).length), ¬ (zSR w r x)[i] ∈ zSR w r y):zTr w r x y = -1:=by
 have:zSY w r x y = none:=by
  unfold zSY
  rw [List.find?_eq_none]
  intro c hc
  rw [List.contains_iff_mem]
  obtain ⟨i, hi, rfl⟩:=List.getElem_of_mem hc
  exact hn i hi
 unfold zTr; rw [this]
theorem zS9 {w r:Nat} {x:Cr} (hwr:w * r <= 30):(zSR w r x).length <= 30:=Nat.le_trans zS1 (zJz hwr)
theorem f34 (f:Fld) (x:Cr) (hf:zHz f = true):ACall Tryz.prog G 34 [.agg (zHF f), .agg (eCr x)] (eNs (zSR (wF f) (rF f) x)):=by
 obtain ⟨zw, w1, w6, r1, r5, hlen⟩:=zNh hf
 have hwr:=zKu w6 r5
 obtain ⟨b1, b2, b3⟩:=zJI hf
 have h87:=f87 (G:=G) f hf
 unfold zNN at h87
 unfold zSR
 generalize wF f = w at zw w1 w6 hlen hwr h87 ⊢
 generalize rF f = r at r1 r5 hlen hwr h87 ⊢
 have hcl:=zJz hwr
 generalize wP w r = cs at h87 hcl ⊢
 refine zS Tryz.func34 rfl (by kernel_rfl) rfl ?_
 refine zuy (zh ?_)
 refine zg rfl rfl (jf rfl (zY rfl)) ?_
 refine zg rfl rfl (jf rfl (zY rfl)) ?_
 refine zg rfl rfl (zn rfl rfl) ?_
 refine zo (zf (zuy (zh ?_)))
 refine zg rfl rfl (zn rfl rfl) ?_
 refine zo (zf (zuy (zh ?_)))
 refine zg rfl rfl (zZ rfl rfl zHQ (by exact zLb rfl)) ?_
 refine zg rfl rfl (zy (av:=[_]) rfl ⟨rfl, trivial⟩ h87) ?_
 refine zg rfl rfl (zW rfl rfl) ?_
 refine zo (zf (zuy (zuy (zh ?_))))
 refine zg rfl rfl (zn rfl rfl) ?_
 refine zo (zf (zB ?_))
 refine qx (kG 5 rfl) ?_
 refine qy (ι:={ k:Nat // k <= cs.length }) (fun k=>⟨Tryz.f34.ntmps, frL [(3, .pub (.ptr (eCr x))), (5, .psl 0 (zSS w cs x k.1).length), (6, .pub (.sl (cs.map (eC4 w)))), (7, I (k.1:Int))], [.row ((zSS w cs x k.1).map rNn)]⟩) (fun k=>cs.length - k.1) (⟨0, by omega⟩) ?_ ?_
 ·
  exact zt _ ⟨rfl, rfl, rfl, rfl, trivial⟩ (rfl)
 ·
  rintro ⟨k, hk⟩
  dsimp only
  refine zuy (zuy (zh ?_))
  refine zg rfl rfl (zi rfl rfl) ?_
  refine zg rfl rfl (zq rfl rfl) ?_
  refine zg rfl rfl (zuB rfl rfl Tryz.underlying133) ?_
  refine zg rfl rfl (zUB rfl rfl rfl) ?_
  refine zo (zf (zx rfl (fun h0=>?_) (fun h0=>?_)))
  ·
   have hlt:k < cs.length:=by simpa using h0
   refine zC (zf (zuy (zB (zuy (zh ?_)))))
   refine zg rfl rfl (zn rfl rfl) ?_
   refine zg rfl rfl (zn rfl rfl) ?_
   refine zo (zf (zuy (zuy (zh ?_))))
   refine zg rfl rfl (zn rfl rfl) ?_
   refine zo (zf (zB ?_))
   refine qy (ι:={ n:Nat // n <= 4 }) (fun n=>⟨Tryz.f34.ntmps, frL [(3, .pub (.ptr (eCr x))), (5, .psl 0 (zSS w cs x k).length), (6, .pub (.sl (cs.map (eC4 w)))), (7, I (k:Int)), (8, B (zTe w (cs.getD k 0) x.1 n.1)), (9, B (zTe w (cs.getD k 0) x.2 n.1)), (10, I (n.1:Int))], [.row ((zSS w cs x k).map rNn)]⟩) (fun n=>4 - n.1) (⟨0, by omega⟩) ?_ ?_
   ·
    exact zt _ ⟨rfl, rfl, rfl, rfl, rfl, rfl, rfl, trivial⟩ (rfl)
   ·
    rintro ⟨n, hn⟩
    dsimp only
    refine zuy (zuy (zh ?_))
    refine zg rfl rfl (zi rfl rfl) ?_
    refine zg rfl rfl (zUB rfl rfl rfl) ?_
    refine zo (zf (zx rfl (fun h1=>?_) (fun h1=>?_)))
    ·
     have hn4:n < 4:=by simp at h1; omega
     refine zC (zf (zuy (zB ?_)))
     refine qY mixed (by kernel_rfl) rfl ?_
     refine zH rfl (zi rfl rfl) ?_
     refine zH rfl (zi rfl rfl) ?_
     refine jm rfl (fun hg=>zq rfl rfl) ?_
     refine jm rfl (fun hg=>zi rfl rfl) ?_
     refine jm rfl (fun hg=>zi rfl rfl) ?_
     refine jm rfl (fun hg=>zG rfl (ifp hg) (ifp hg) zNS (by omega) (zOd hlt) zOE) ?_
     refine jm rfl (fun hg=>vP rfl (if_pos hg) (if_pos hg) zR8 (by omega) (by omega)) ?_
     refine jm rfl (fun hg=>zA rfl (ifp hg) (zOu (by omega) (by omega)) ty3) ?_
     refine jm rfl (fun hg=>zu rfl rfl zJn) ?_
     refine jm rfl (fun hg=>zA rfl (if_pos hg) rfl ty3) ?_
     refine jm rfl (fun hg=>qJ rfl (if_pos hg) (if_pos hg)) ?_
     refine zH rfl (qU rfl rfl rfl rfl) ?_
     refine zH rfl (zi rfl rfl) ?_
     refine zH rfl (zi rfl rfl) ?_
     refine jm rfl (fun hg=>zq rfl rfl) ?_
     refine jm rfl (fun hg=>zi rfl rfl) ?_
     refine jm rfl (fun hg=>zi rfl rfl) ?_
     refine jm rfl (fun hg=>zG rfl (ifp hg) (ifp hg) zNS (by omega) (zOd hlt) zOE) ?_
     refine jm rfl (fun hg=>vP rfl (if_pos hg) (if_pos hg) zR8 (by omega) (by omega)) ?_
     refine jm rfl (fun hg=>zA rfl (ifp hg) (zOu (by omega) (by omega)) ty3) ?_
     refine jm rfl (fun hg=>zu rfl rfl zJ2) ?_
     refine jm rfl (fun hg=>zA rfl (if_pos hg) rfl ty3) ?_
     refine jm rfl (fun hg=>qJ rfl (if_pos hg) (if_pos hg)) ?_
     refine zH rfl (qU rfl rfl rfl rfl) ?_
     refine zH rfl (zn rfl rfl) ?_
     refine zH rfl (zn rfl rfl) ?_
     refine jw (zD (zf (zh ?_)))
     refine zg rfl rfl (zi rfl rfl) ?_
     refine zg rfl rfl (zV rfl rfl rfl ⟨(by omega), (by omega)⟩) ?_
     refine zg rfl rfl (zn rfl rfl) ?_
     refine zo ?_
     exact ⟨⟨n + 1, by omega⟩, by dsimp only; omega, zt _ ⟨rfl, rfl, rfl, rfl, (congrArg B zS8), (congrArg B zS8), rfl, trivial⟩ (rfl)⟩
    ·
     have hn4:n = 4:=by simp at h1; omega
     subst hn4
     refine qp (zRQ (zRQ (qw (zf (zuy (zh ?_))))))
     refine zg rfl rfl (zi rfl rfl) ?_
     refine zg rfl rfl (zi rfl rfl) ?_
     refine zk rfl rfl rfl (fun hg=>zi rfl rfl) ?_
     refine zg rfl rfl (qI rfl rfl rfl rfl) ?_
     refine zo (zf (zx rfl (fun h2=>?_) (fun h2=>?_)))
     ·
      have hck:=zTK (w:=w) (cs:=cs) (x:=x) (k:=k) h2
      have hpE:EV.psl 0 ((zSS w cs x k).length + 1) = EV.psl 0 (zSS w cs x (k + 1)).length:=by rw [hck]; simp
      have hmE:([.row ((zSS w cs x k).map rNn ++ [[I (k:Int)]])]:List PO) = [.row ((zSS w cs x (k + 1)).map rNn)]:=by rw [hck, List.map_append]; rfl
      refine zh ?_
      refine zg rfl rfl (zI rfl rfl) ?_
      refine zg rfl rfl (zi rfl rfl) ?_
      refine zg rfl rfl (qg (size:=1) (rows:=[[_]]) rfl Tryz.underlying27 ti3 rfl (by decide) rfl (by decide) ⟨_, _, rfl, (jF rfl), rfl⟩ (by rfl) (by simp [ofV]) rfl (by simp)) ?_
      refine jb rfl (vS rfl rfl rfl rfl (List.length_map _) rfl zPI zTX (by simp) (by have:=zS1 (w:=w) (cs:=cs) (x:=x) (k:=k); show ((zSS w cs x k).length + 1) * 8 <= 140737488355328; omega) (by have:=zS1 (w:=w) (cs:=cs) (x:=x) (k:=k); show (zSS w cs x k).length + 1 <= maxLen; unfold maxLen; omega)) ?_
      refine zg rfl rfl (qo rfl rfl) ?_
      refine zo (zD (zf (zh ?_)))
      refine zg rfl rfl (zi rfl rfl) ?_
      refine zg rfl rfl (zV rfl rfl rfl ⟨(by omega), (by omega)⟩) ?_
      refine zg rfl rfl (zn rfl rfl) ?_
      refine zo ?_
      exact ⟨⟨k + 1, by omega⟩, by dsimp only; omega, zt _ ⟨rfl, hpE, rfl, rfl, trivial⟩ (hmE)⟩
     ·
      have hck:=zT0 (w:=w) (cs:=cs) (x:=x) (k:=k) h2
      have hpE:EV.psl 0 (zSS w cs x k).length = EV.psl 0 (zSS w cs x (k + 1)).length:=by rw [hck]
      have hmE:([.row ((zSS w cs x k).map rNn)]:List PO) = [.row ((zSS w cs x (k + 1)).map rNn)]:=by rw [hck]
      refine zC (zD (zf (zh ?_)))
      refine zg rfl rfl (zi rfl rfl) ?_
      refine zg rfl rfl (zV rfl rfl rfl ⟨(by omega), (by omega)⟩) ?_
      refine zg rfl rfl (zn rfl rfl) ?_
      refine zo ?_
      exact ⟨⟨k + 1, by omega⟩, by dsimp only; omega, zt _ ⟨rfl, hpE, rfl, rfl, trivial⟩ (hmE)⟩
  ·
   have hge:cs.length <= k:=by simpa using h0
   have hk2:k = cs.length:=by omega
   subst hk2
   refine qp (zRQ (zRQ (qw (zf (zuy (zh ?_))))))
   refine zg rfl rfl (zI rfl rfl) ?_
   refine zg rfl rfl (qo rfl rfl) ?_
   refine zo (zf (zP ?_))
   exact ⟨.inr rfl, ⟨(zSS w cs x cs.length).map fun c:Nat=>[ei (c:Int)], by show some (PO.row _) = some (PO.row _); rw [← zT1], by simp, rfl⟩⟩
theorem f86 (f:Fld) (x y:Cr) (hf:zHz f = true):ACall Tryz.prog G 86 [.agg (zHF f), .agg (eCr x), .agg (eCr y)] (ei (zTr (wF f) (rF f) x y)):=by
 obtain ⟨zw, w1, w6, r1, r5, hlen⟩:=zNh hf
 have hwr:=zKu w6 r5
 obtain ⟨b1, b2, b3⟩:=zJI hf
 have h34:=fun x=>f34 (G:=G) f x hf
 generalize wF f = w at zw w1 w6 hlen hwr h34 ⊢
 generalize rF f = r at r1 r5 hlen hwr h34 ⊢
 have hla:=zS9 (x:=x) hwr
 have hlb:=zS9 (x:=y) hwr
 refine zS Tryz.func86 rfl (by kernel_rfl) rfl ?_
 refine zuy (zh ?_)
 refine zg rfl rfl (jf rfl (zY rfl)) ?_
 refine zg rfl rfl (jf rfl (zY rfl)) ?_
 refine zg rfl rfl (jf rfl (zY rfl)) ?_
 refine zg rfl rfl (zn rfl rfl) ?_
 refine zo (zf (zuy ?_))
 refine qY mixed (by kernel_rfl) rfl ?_
 refine zH rfl (zZ rfl rfl zHQ (by exact zLb rfl)) ?_
 refine zH rfl (zZ rfl rfl zHs (by exact zLb rfl)) ?_
 refine zH rfl (zy (av:=[_, _]) rfl ⟨rfl, rfl, trivial⟩ (h34 x)) ?_
 refine zH rfl (zZ rfl rfl zHQ (by exact zLb rfl)) ?_
 refine zH rfl (zZ rfl rfl zHs (by exact zLb rfl)) ?_
 refine zH rfl (zy (av:=[_, _]) rfl ⟨rfl, rfl, trivial⟩ (h34 y)) ?_
 refine zH rfl (zW rfl rfl) ?_
 refine zH rfl (zW rfl rfl) ?_
 refine jw (zf (zuy (zuy (zh ?_))))
 refine zg rfl rfl (zn rfl rfl) ?_
 refine zo (zf (zB ?_))
 refine qy (ι:={ k:Nat // k <= (zSR w r x).length /\ ∀ i (hi:i < (zSR w r x).length), i < k -> ¬ (zSR w r x)[i] ∈ (zSR w r y) }) (fun k=>⟨Tryz.f86.ntmps, frL [(7, .pub (eNs (zSR w r x))), (8, .pub (eNs (zSR w r y))), (9, I (k.1:Int))], []⟩) (fun k=>(zSR w r x).length - k.1) (⟨0, by omega, fun i _ h=>absurd h (by omega)⟩) ?_ ?_
 ·
  exact zt _ ⟨rfl, rfl, rfl, trivial⟩ (rfl)
 ·
  rintro ⟨k, hk⟩
  dsimp only
  refine zuy (zuy (zh ?_))
  refine zg rfl rfl (zi rfl rfl) ?_
  refine zg rfl rfl (zq rfl rfl) ?_
  refine zg rfl rfl (zuB rfl rfl Tryz.underlying27) ?_
  refine zg rfl rfl (zUB rfl rfl rfl) ?_
  refine zo (zf (zx rfl (fun h0=>?_) (fun h0=>?_)))
  ·
   have hlt:k < (zSR w r x).length:=by simpa using h0
   refine zC (zf (zuy (zB (zuy (zh ?_)))))
   refine zg rfl rfl (zn rfl rfl) ?_
   refine zo (zf (zB ?_))
   refine qy (ι:={ j:Nat // j <= (zSR w r y).length /\ ∀ i (hi:i < (zSR w r y).length), i < j -> ¬ (zSR w r x)[k] = (zSR w r y)[i] }) (fun j=>⟨Tryz.f86.ntmps, frL [(7, .pub (eNs (zSR w r x))), (8, .pub (eNs (zSR w r y))), (9, I (k:Int)), (10, I (j.1:Int))], []⟩) (fun j=>(zSR w r y).length - j.1) (⟨0, by omega, fun i _ h=>absurd h (by omega)⟩) ?_ ?_
   ·
    exact zt _ ⟨rfl, rfl, rfl, rfl, trivial⟩ (rfl)
   ·
    rintro ⟨j, hj⟩
    dsimp only
    refine zuy (zuy (zh ?_))
    refine zg rfl rfl (zi rfl rfl) ?_
    refine zg rfl rfl (zq rfl rfl) ?_
    refine zg rfl rfl (zuB rfl rfl Tryz.underlying27) ?_
    refine zg rfl rfl (zUB rfl rfl rfl) ?_
    refine zo (zf (zx rfl (fun h1=>?_) (fun h1=>?_)))
    ·
     have hlj:j < (zSR w r y).length:=by simpa using h1
     refine zC (zf (zuy (zB (zuy ?_))))
     refine qY mixed (by kernel_rfl) rfl ?_
     refine zH rfl (zq rfl rfl) ?_
     refine zH rfl (zi rfl rfl) ?_
     refine zH rfl (zG rfl rfl rfl zIz (by omega) (zTs hlt) zTd) ?_
     refine zH rfl (zA rfl rfl rfl ty3) ?_
     refine zH rfl (zq rfl rfl) ?_
     refine zH rfl (zi rfl rfl) ?_
     refine zH rfl (zG rfl rfl rfl zIz (by omega) (zTs hlj) zTd) ?_
     refine zH rfl (zA rfl rfl rfl ty3) ?_
     refine zH rfl (qJ rfl rfl rfl) ?_
     refine jw (zf (zx rfl (fun h2=>?_) (fun h2=>?_)))
     ·
      have he:(zSR w r x)[k] = (zSR w r y)[j]:=by have:=h2; rw [zI5, beq_iff_eq] at this; exact this
      refine zuy (zh ?_)
      refine zg rfl rfl (zq rfl rfl) ?_
      refine zg rfl rfl (zi rfl rfl) ?_
      refine zg rfl rfl (zG rfl rfl rfl zIz (by omega) (zTs hlt) zTd) ?_
      refine zg rfl rfl (zA rfl rfl rfl ty3) ?_
      refine zg rfl rfl (zn rfl rfl) ?_
      refine zo (zf (zP (qF (zQ (zQ (qF (qF (zQ (zQ (qF (zQ ?_)))))))))))
      exact ⟨.inr rfl, AVle.of (by rw [zTC hlt (he ▸ List.getElem_mem hlj) hk.2]; rfl)⟩
     ·
      have hne:¬ (zSR w r x)[k] = (zSR w r y)[j]:=by have:=h2; rw [zI5, beq_eq_false_iff_ne] at this; exact this
      refine zC (zD (zf (zh ?_)))
      refine zg rfl rfl (zi rfl rfl) ?_
      refine zg rfl rfl (zV rfl rfl rfl ⟨(by omega), (by omega)⟩) ?_
      refine zg rfl rfl (zn rfl rfl) ?_
      refine zo ?_
      exact ⟨⟨j + 1, by omega, fun i hi h=>(if e:i = j then by subst e; exact hne else hj.2 i hi (by omega))⟩, by dsimp only; omega, zt _ ⟨rfl, rfl, rfl, rfl, trivial⟩ (rfl)⟩
    ·
     have hgj:(zSR w r y).length <= j:=by simpa using h1
     refine qp (zRQ (zRQ (qw (zD (zf (zh ?_))))))
     refine zg rfl rfl (zi rfl rfl) ?_
     refine zg rfl rfl (zV rfl rfl rfl ⟨(by omega), (by omega)⟩) ?_
     refine zg rfl rfl (zn rfl rfl) ?_
     refine zo ?_
     exact ⟨⟨k + 1, by omega, fun i hi h=>(if e:i = k then by subst e; intro hm; obtain ⟨q, hq, e2⟩:=List.getElem_of_mem hm; exact hj.2 q hq (by omega) e2.symm else hk.2 i hi (by omega))⟩, by dsimp only; omega, zt _ ⟨rfl, rfl, rfl, trivial⟩ (rfl)⟩
  ·
   have hge:(zSR w r x).length <= k:=by simpa using h0
   refine qp (zRQ (zRQ (qw (zf (zuy (zh ?_))))))
   refine zg rfl rfl (zn rfl rfl) ?_
   refine zo (zf (zP ?_))
   exact ⟨.inr rfl, AVle.of (by rw [zTx fun i hi=>hk.2 i hi (by omega)]; rfl)⟩
end Go.Av
end
section
namespace Go.Av
open Go.Proofs
set_option maxRecDepth 100000
set_option maxHeartbeats 1000000
variable {G:Glob}
def zTc (w r:Nat) (x y:Cr):Nat:=(zSY w r x y).getD 0
theorem zTI {w r:Nat} {x y:Cr} (h:(zSY w r x y).isSome = true):zTr w r x y = ((zTc w r x y:Nat):Int):=by
 unfold zTr zTc
 cases e:zSY w r x y with
 | none=>rw [e] at h; cases h
 | some c=>rfl
def jP1 (w r:Nat) (l:List Cr) (i:Nat):Nat × Cr × Cr:=(zTc w r (l.getD i (0, 0)) (l.getD (i + 1) (0, 0)), l.getD i (0, 0), l.getD (i + 1) (0, 0))
def joP (w r:Nat) (l:List Cr) (n:Nat):List (Nat × Cr × Cr):=(List.range n).map (jP1 w r l)
def joB (w r:Nat) (l:List Cr):Bool:=decide (2 < l.length) && ((zSR w r (l.getD 0 (0, 0))).length == 2)
def joX (w r:Nat) (l:List Cr):Nat × Cr × Cr:=(zTc w r (l.getD (l.length - 1) (0, 0)) (l.getD 0 (0, 0)), l.getD (l.length - 1) (0, 0), l.getD 0 (0, 0))
def joE (w r:Nat) (l:List Cr):List (Nat × Cr × Cr):=if joB w r l = true then [joX w r l] else []
def joL (w r:Nat) (l:List Cr):List (Nat × Cr × Cr):=joP w r l (l.length - 1) ++ joE w r l
def joT (w r:Nat) (L:List (List Cr)) (k:Nat):List (Nat × Cr × Cr):=(L.take k).flatMap (joL w r)
theorem zTD {w r:Nat} {l:List Cr} {n:Nat}:joP w r l (n + 1) = joP w r l n ++ [jP1 w r l n]:=by
 unfold joP; rw [List.range_succ, List.map_append]; rfl
theorem zTJ {w r:Nat} {L:List (List Cr)} {k:Nat} (hk:k < L.length):joT w r L (k + 1) = joT w r L k ++ joL w r L[k]:=by
 unfold joT
 rw [List.take_succ_eq_append_getElem hk, List.flatMap_append]; simp
theorem zTV {w r:Nat} {l:List Cr}:(joL w r l).length <= l.length + 1:=by
 unfold joL joE joP
 rw [List.length_append, List.length_map, List.length_range]
 split <;> simp <;> omega
theorem zTq {α β:Type} {g:α -> List β} {m:Nat}:∀ {L:List α}, (∀ l ∈ L, (g l).length <= m) -> (L.flatMap g).length <= L.length * m
 | [], _=>by simp
 | a :: t, h=>by
  rw [List.flatMap_cons, List.length_append, List.length_cons, Nat.add_mul]
  have h1:=h a (List.mem_cons_self ..)
  have h2:=zTq (L:=t) fun l hl=>h l (List.mem_cons_of_mem _ hl)
  omega
theorem zT2 {w r:Nat} {L:List (List Cr)} {k:Nat} (hL:L.length <= 1000) (hl:∀ l ∈ L, l.length <= 999):(joT w r L k).length <= 1000000:=by
 have h:=zTq (g:=joL w r) (m:=1000) (L:=L.take k) fun l hm=>Nat.le_trans zTV (by have:=hl l (List.mem_of_mem_take hm); omega)
 rw [List.length_take] at h
 unfold joT
 have:min k L.length * 1000 <= 1000 * 1000:=Nat.mul_le_mul_right _ (by omega)
 omega
theorem gd {l:List Cr} {i:Nat} (h:i < l.length):l.getD i (0, 0) = l[i]:=by simp [List.getD, h]
def zT7 (w r:Nat) (l:List Cr):Prop:=0 < l.length /\ (∀ i (h:i + 1 < l.length), (zSY w r l[i] l[i + 1]).isSome = true) /\ (joB w r l = true -> (zSY w r (l.getD (l.length - 1) (0, 0)) (l.getD 0 (0, 0))).isSome = true)
def zjh (L:List (List Cr)) (k:Nat):Nat:=((L.take k).map List.length).sum
theorem zTB {L:List (List Cr)} {k:Nat} (hk:k < L.length):zjh L (k + 1) = zjh L k + L[k].length:=by
 unfold zjh
 rw [List.take_succ_eq_append_getElem hk, List.map_append, List.sum_append]; simp
theorem zTZ {L:List (List Cr)} {k:Nat}:zjh L k <= L.flatten.length:=by
 unfold zjh
 rw [List.length_flatten]
 conv=>rhs; rw [← List.take_append_drop k L, List.map_append, List.sum_append]
 omega
theorem f32 (L:List (List Cr)) (hne:∀ l ∈ L, 0 < l.length) (hs:L.flatten.length <= 60) (hL:L.length <= 1000):ACall Tryz.prog G 32 [zH7 L] (.v (.bool true)):=by
 refine zS Tryz.func32 rfl (by kernel_rfl) rfl ?_
 refine zuy (zh ?_)
 refine zg rfl rfl (zn rfl rfl) ?_
 refine zo (zf (zuy (zh ?_)))
 refine zg rfl rfl (zn rfl rfl) ?_
 refine zo (zf (zuy (zuy (zh ?_))))
 refine zg rfl rfl (zn rfl rfl) ?_
 refine zo (zf (zB ?_))
 refine qy (ι:={ k:Nat // k <= L.length }) (fun k=>⟨Tryz.f32.ntmps, frL [(0, .pub (zH7 L)), (3, I (zjh L k.1:Int)), (4, I (k.1:Int))], []⟩) (fun k=>L.length - k.1) (⟨0, by simp⟩) ?_ ?_
 ·
  exact zt _ ⟨rfl, rfl, rfl, trivial⟩ (rfl)
 ·
  rintro ⟨k, hk⟩
  dsimp only
  refine zuy (zuy (zh ?_))
  refine zg rfl rfl (zi rfl rfl) ?_
  refine zg rfl rfl (zq rfl rfl) ?_
  refine zg rfl rfl (zuB rfl rfl Tryz.underlying37) ?_
  refine zg rfl rfl (zUB rfl rfl rfl) ?_
  refine zo (zf (zx rfl (fun h0=>?_) (fun h0=>?_)))
  ·
   have hlt:k < L.length:=by simpa using h0
   have hlk:=hne _ (List.getElem_mem hlt)
   have hsu:=zTB hlt
   have hsl:=zTZ (L:=L) (k:=k + 1)
   refine zC (zf (zuy (zB (zuy (zh ?_)))))
   refine zg rfl rfl (zi rfl rfl) ?_
   refine zg rfl rfl (zq rfl rfl) ?_
   refine zg rfl rfl (zi rfl rfl) ?_
   refine zg rfl rfl (zG rfl rfl rfl zJQ (by omega) (zSs hlt) zIb) ?_
   refine zg rfl rfl (zA rfl rfl rfl zKE) ?_
   refine zg rfl rfl (zuB rfl rfl Tryz.underlying48) ?_
   refine zg rfl rfl (zV rfl rfl rfl ⟨(by omega), (by omega)⟩) ?_
   refine zg rfl rfl (zn rfl rfl) ?_
   refine zo (zf (zuy (zh ?_)))
   refine zg rfl rfl (zi rfl rfl) ?_
   refine zg rfl rfl (qR rfl rfl rfl) ?_
   refine zg rfl rfl (zi rfl rfl) ?_
   refine zk rfl rfl rfl (fun hg=>zq rfl rfl) ?_
   refine zk rfl rfl rfl (fun hg=>zi rfl rfl) ?_
   refine zk rfl rfl rfl (fun hg=>zG rfl (ifp hg) (ifp hg) zJQ (by omega) (zSs hlt) zIb) ?_
   refine zk rfl rfl rfl (fun hg=>zA rfl (if_pos hg) rfl zKE) ?_
   refine zk rfl rfl rfl (fun hg=>zuB rfl (if_pos hg) Tryz.underlying48) ?_
   refine zk rfl rfl rfl (fun hg=>qJ rfl (if_pos hg) rfl) ?_
   refine zg rfl rfl (qU rfl rfl rfl rfl) ?_
   refine zo (zf (zx rfl (fun h1=>?_) (fun h1=>?_)))
   ·
    exfalso; have hne2:L[k] ≠ []:=List.ne_nil_of_length_pos hlk; simp [hne2] at h1; omega
   ·
    refine zC (zD (zf (zh ?_)))
    refine zg rfl rfl (zi rfl rfl) ?_
    refine zg rfl rfl (zV rfl rfl rfl ⟨(by omega), (by omega)⟩) ?_
    refine zg rfl rfl (zn rfl rfl) ?_
    refine zo ?_
    exact ⟨⟨k + 1, by omega⟩, by dsimp only; omega, zt _ ⟨rfl, (congrArg I (show ((zjh L k:Nat):Int) + (L[k].length:Int) = ((zjh L (k + 1):Nat):Int) by omega)), rfl, trivial⟩ (rfl)⟩
  ·
   have hge:L.length <= k:=by simpa using h0
   refine qp (zRQ (zRQ (qw (zf (zuy (zh ?_))))))
   refine zg rfl rfl (zn rfl rfl) ?_
   refine zo (zf (zP ?_))
   exact ⟨.inr rfl, AVle.refl _⟩
theorem f33 (f:Fld) (L:List (List Cr)) (hf:zHz f = true) (hL:L.length <= 1000) (hl:∀ l ∈ L, l.length <= 999) (hc:∀ l ∈ L, zT7 (wF f) (rF f) l):ACall Tryz.prog G 33 [.agg (zHF f), zH7 L] (.tup [.sl ((joT (wF f) (rF f) L L.length).map eJn), .v (.bool true)]):=by
 obtain ⟨zw, w1, w6, r1, r5, hlen⟩:=zNh hf
 have hwr:=zKu w6 r5
 obtain ⟨b1, b2, b3⟩:=zJI hf
 have h34:=fun x=>f34 (G:=G) f x hf
 have h86:=fun x y (hx:(zSY (wF f) (rF f) x y).isSome = true)=>zTI hx ▸ f86 (G:=G) f x y hf
 generalize wF f = w at zw w1 w6 hlen hwr h34 h86 hc ⊢
 generalize rF f = r at r1 r5 hlen hwr h34 h86 hc ⊢
 refine zS Tryz.func33 rfl (by kernel_rfl) rfl ?_
 refine zuy (zh ?_)
 refine zg rfl rfl (jf rfl (zY rfl)) ?_
 refine zg rfl rfl (zn rfl rfl) ?_
 refine zg rfl rfl (zn rfl rfl) ?_
 refine zo (zf (zuy (zh ?_)))
 refine zg rfl rfl (zn rfl rfl) ?_
 refine zo (zf (zuy (zuy (zh ?_))))
 refine zg rfl rfl (zn rfl rfl) ?_
 refine zo (zf (zB ?_))
 refine qx (kG 6 rfl) ?_
 refine qy (ι:={ k:Nat // k <= L.length }) (fun k=>⟨Tryz.f33.ntmps, frL [(1, .pub (zH7 L)), (2, .pub (.ptr (zHF f))), (6, .psl 0 (joT w r L k.1).length), (7, I (k.1:Int))], [.row ((joT w r L k.1).map rJn)]⟩) (fun k=>L.length - k.1) (⟨0, by simp⟩) ?_ ?_
 ·
  exact zt _ ⟨rfl, rfl, rfl, rfl, trivial⟩ (rfl)
 ·
  rintro ⟨k, hk⟩
  dsimp only
  refine zuy (zuy (zh ?_))
  refine zg rfl rfl (zi rfl rfl) ?_
  refine zg rfl rfl (zq rfl rfl) ?_
  refine zg rfl rfl (zuB rfl rfl Tryz.underlying37) ?_
  refine zg rfl rfl (zUB rfl rfl rfl) ?_
  refine zo (zf (zx rfl (fun h0=>?_) (fun h0=>?_)))
  ·
   have hlt:k < L.length:=by simpa using h0
   have hck:=hc _ (List.getElem_mem hlt)
   have hlk:=hl _ (List.getElem_mem hlt)
   have hpos:=hck.1
   have hjt:=zT2 (w:=w) (r:=r) (k:=k) hL hl
   have hjs:=zTJ (w:=w) (r:=r) hlt
   refine zC (zf (zuy (zB (zuy (zh ?_)))))
   refine zg rfl rfl (zq rfl rfl) ?_
   refine zg rfl rfl (zi rfl rfl) ?_
   refine zg rfl rfl (zG rfl rfl rfl zJQ (by omega) (zSs hlt) zIb) ?_
   refine zg rfl rfl (zA rfl rfl rfl zKE) ?_
   refine zg rfl rfl (zW rfl rfl) ?_
   refine zo (zf (zuy (zuy (zh ?_))))
   refine zg rfl rfl (zn rfl rfl) ?_
   refine zo (zf (zB ?_))
   refine qy (ι:={ j:Nat // j <= L[k].length - 1 }) (fun j=>⟨Tryz.f33.ntmps, frL [(1, .pub (zH7 L)), (2, .pub (.ptr (zHF f))), (6, .psl 0 ((joT w r L k) ++ (joP w r L[k] j.1)).length), (7, I (k:Int)), (8, .pub (zHA L[k])), (9, I (j.1:Int))], [.row (((joT w r L k) ++ (joP w r L[k] j.1)).map rJn)]⟩) (fun j=>L[k].length - j.1) (⟨0, by simp⟩) ?_ ?_
   ·
    exact zt _ ⟨rfl, rfl, (congrArg (fun z:List (Nat × Cr × Cr)=>EV.psl 0 z.length) (List.append_nil (joT w r L k)).symm), rfl, rfl, rfl, trivial⟩ ((congrArg (fun z:List (Nat × Cr × Cr)=>[PO.row (z.map rJn)]) (List.append_nil (joT w r L k)).symm))
   ·
    rintro ⟨j, hj⟩
    dsimp only
    refine zuy (zuy (zh ?_))
    refine zg rfl rfl (zi rfl rfl) ?_
    refine zg rfl rfl (zV rfl rfl rfl ⟨(by omega), (by omega)⟩) ?_
    refine zg rfl rfl (zq rfl rfl) ?_
    refine zg rfl rfl (zuB rfl rfl Tryz.underlying48) ?_
    refine zg rfl rfl (zUB rfl rfl rfl) ?_
    refine zo (zf (zx rfl (fun h1=>?_) (fun h1=>?_)))
    ·
     have hj2:j + 1 < L[k].length:=by have:=h1; simp at this; omega
     have hj1:j < L[k].length:=by omega
     have hjp:(joP w r L[k] j).length = j:=by unfold joP; simp
     have hpj:=zTD (w:=w) (r:=r) (l:=L[k]) (n:=j)
     have hp1:jP1 w r L[k] j = (zTc w r L[k][j] L[k][j + 1], L[k][j], L[k][j + 1]):=by unfold jP1; rw [gd hj1, gd hj2]
     have hpE:EV.psl 0 (((joT w r L k) ++ (joP w r L[k] j)).length + 1) = EV.psl 0 ((joT w r L k) ++ joP w r L[k] (j + 1)).length:=by rw [hpj]; simp; omega
     have hmE:([.row (((joT w r L k) ++ (joP w r L[k] j)).map rJn ++ [rJn (zTc w r L[k][j] L[k][j + 1], L[k][j], L[k][j + 1])])]:List PO) = [.row (((joT w r L k) ++ joP w r L[k] (j + 1)).map rJn)]:=by rw [hpj, hp1, ← List.append_assoc]; simp only[List.map_append, List.map_cons, List.map_nil]
     refine zC (zf (zuy (zB (zuy ?_))))
     refine qY mixed (by kernel_rfl) rfl ?_
     refine zH rfl (zZ rfl rfl zHQ (by exact zLb rfl)) ?_
     refine zH rfl (zq rfl rfl) ?_
     refine zH rfl (zi rfl rfl) ?_
     refine zH rfl (zG rfl rfl rfl zt9 (by omega) (zIU hj1) zH4) ?_
     refine zH rfl (zZ rfl rfl zHs (by exact zLb rfl)) ?_
     refine zH rfl (zq rfl rfl) ?_
     refine zH rfl (zi rfl rfl) ?_
     refine zH rfl (zV rfl rfl rfl ⟨(by omega), (by omega)⟩) ?_
     refine zH rfl (zG rfl rfl rfl zt9 (by omega) (show (L[k].map eCr)[((j:Int) + 1).toNat]? = some (eCr L[k][j + 1]) from zIU hj2) zH4) ?_
     refine zH rfl (zZ rfl rfl zHs (by exact zLb rfl)) ?_
     refine zH rfl (zy (av:=[_, _, _]) rfl ⟨rfl, rfl, rfl, trivial⟩ (h86 _ _ (hck.2.1 j hj2))) ?_
     refine zH rfl (zn rfl rfl) ?_
     refine jw (zf (zuy (zuy (zh ?_))))
     refine zg rfl rfl (zi rfl rfl) ?_
     refine zg rfl rfl (zUB rfl rfl rfl) ?_
     refine zo (zf (zx rfl (fun h2=>?_) (fun h2=>?_)))
     ·
      exfalso; simp at h2; omega
     ·
      refine zC (zf ?_)
      refine wR (fun _=>True) (fun k=>match k with | 1=>.stable | 2=>.stable | 3=>.stable | 4=>.stable | 5=>.stable | 6=>.stable | 7=>.stable | 8=>.stable | 9=>.stable | 10=>.stable | 11=>.stable | 13=>.rw [] (0) | 14=>.stable | _=>.here) mixed (by kernel_rfl) rfl (by kernel_rfl) trivial ?_
      refine zX rfl rfl (zI rfl rfl) ?_
      refine zuC rfl rfl (fun m hm=>zi rfl rfl) ?_
      refine zuC rfl rfl (fun m hm=>zq rfl rfl) ?_
      refine zuC rfl rfl (fun m hm=>zi rfl rfl) ?_
      refine zuC rfl rfl (fun m hm=>zG rfl rfl rfl zt9 (by omega) (zIU hj1) zH4) ?_
      refine zuC rfl rfl (fun m hm=>zZ rfl rfl zHs (by exact zLb rfl)) ?_
      refine zuC rfl rfl (fun m hm=>zq rfl rfl) ?_
      refine zuC rfl rfl (fun m hm=>zi rfl rfl) ?_
      refine zuC rfl rfl (fun m hm=>zV rfl rfl rfl ⟨(by omega), (by omega)⟩) ?_
      refine zuC rfl rfl (fun m hm=>zG rfl rfl rfl zt9 (by omega) (show (L[k].map eCr)[((j:Int) + 1).toNat]? = some (eCr L[k][j + 1]) from zIU hj2) zH4) ?_
      refine zuC rfl rfl (fun m hm=>zZ rfl rfl zHs (by exact zLb rfl)) ?_
      refine zuC rfl rfl (fun m hm=>zb3 (cs:=[_, _, _, _, _]) rfl zRM rfl ⟨_, _, rfl, (jF rfl), ⟨_, _, rfl, (zY rfl), ⟨_, _, rfl, (zY rfl), rfl⟩⟩⟩ (by rfl) (by simp [ofV])) ?_
      refine zX rfl rfl (qg (size:=5) (rows:=[[_, _, _, _, _]]) rfl Tryz.underlying45 zRH rfl (by decide) rfl (by decide) ⟨_, _, rfl, (zY rfl), rfl⟩ (by rfl) (by simp [ofV]) rfl (by simp)) ?_
      refine zsL [] (0) rfl rfl (fun _=>trivial) (fun m hm=>zj3 rfl rfl ((hm.one 0 rfl).trans rfl) (List.length_map _) rfl zRr zPt (by simp) (by have:=hjt; show (((joT w r L k) ++ (joP w r L[k] j)).length + 1) * 40 <= 140737488355328; rw [List.length_append]; omega) (by have:=hjt; show ((joT w r L k) ++ (joP w r L[k] j)).length + 1 <= maxLen; unfold maxLen; rw [List.length_append]; omega)) ?_
      refine zuC rfl rfl (fun m hm=>qo rfl rfl) ?_
      refine wQ (zD (zf (zh ?_)))
      refine zg rfl rfl (zi rfl rfl) ?_
      refine zg rfl rfl (zV rfl rfl rfl ⟨(by omega), (by omega)⟩) ?_
      refine zg rfl rfl (zn rfl rfl) ?_
      refine zo ?_
      exact ⟨⟨j + 1, by omega⟩, by dsimp only; omega, zt _ ⟨rfl, rfl, hpE, rfl, rfl, rfl, trivial⟩ (hmE)⟩
    ·
     have hje:j = L[k].length - 1:=by have:=h1; simp at this; omega
     subst hje
     have hjp:(joP w r L[k] (L[k].length - 1)).length = L[k].length - 1:=by unfold joP; simp
     refine qp (zRQ (zRQ (qw (zf (zuy ?_)))))
     refine qY mixed (by kernel_rfl) rfl ?_
     refine zH rfl (zq rfl rfl) ?_
     refine zH rfl (zuB rfl rfl Tryz.underlying48) ?_
     refine zH rfl (qR rfl rfl rfl) ?_
     refine zH rfl (zi rfl rfl) ?_
     refine jm rfl (fun hg=>zZ rfl rfl zHQ (by exact zLb rfl)) ?_
     refine jm rfl (fun hg=>zq rfl rfl) ?_
     refine jm rfl (fun hg=>zG rfl (ifp hg) rfl zt9 (by omega) (show (L[k].map eCr)[((0:Int)).toNat]? = some (eCr L[k][0]) from zIU hpos) zH4) ?_
     refine jm rfl (fun hg=>zZ rfl (if_pos hg) zHs (by exact zLb rfl)) ?_
     refine jm rfl (fun hg=>zy (av:=[_, _]) rfl ⟨(by exact if_pos hg), (by exact if_pos hg), trivial⟩ (h34 L[k][0])) ?_
     refine jm rfl (fun hg=>zuB rfl (if_pos hg) Tryz.underlying27) ?_
     refine jm rfl (fun hg=>qJ rfl (if_pos hg) rfl) ?_
     refine zH rfl (qI rfl rfl rfl rfl) ?_
     refine jw (zf (zx rfl (fun h3=>?_) (fun h3=>?_)))
     ·
      have hB:joB w r L[k] = true:=by unfold joB; rw [gd hpos]; have:=h3; simp at this ⊢; omega
      have hl1:L[k].length - 1 < L[k].length:=by omega
      have hcl2:=hck.2.2 hB
      rw [gd hpos, gd hl1] at hcl2
      have hX:joX w r L[k] = (zTc w r L[k][L[k].length - 1] L[k][0], L[k][L[k].length - 1], L[k][0]):=by unfold joX; rw [gd hpos, gd hl1]
      have hjL:joT w r L (k + 1) = ((joT w r L k) ++ joP w r L[k] (L[k].length - 1)) ++ [(zTc w r L[k][L[k].length - 1] L[k][0], L[k][L[k].length - 1], L[k][0])]:=by rw [hjs]; unfold joL joE; rw [if_pos hB, hX, List.append_assoc]
      have hpF:EV.psl 0 (((joT w r L k) ++ joP w r L[k] (L[k].length - 1)).length + 1) = EV.psl 0 (joT w r L (k + 1)).length:=by rw [hjL]; simp; omega
      have hmF:([.row (((joT w r L k) ++ joP w r L[k] (L[k].length - 1)).map rJn ++ [rJn (zTc w r L[k][L[k].length - 1] L[k][0], L[k][L[k].length - 1], L[k][0])])]:List PO) = [.row ((joT w r L (k + 1)).map rJn)]:=by rw [hjL]; simp only[List.map_append, List.map_cons, List.map_nil]
      refine zuy ?_
      refine qY mixed (by kernel_rfl) rfl ?_
      refine zH rfl (zZ rfl rfl zHQ (by exact zLb rfl)) ?_
      refine zH rfl (zq rfl rfl) ?_
      refine zH rfl (zq rfl rfl) ?_
      refine zH rfl (zuB rfl rfl Tryz.underlying48) ?_
      refine zH rfl (ze5 rfl rfl rfl ⟨(by omega), (by omega)⟩) ?_
      refine zH rfl (zG rfl rfl rfl zt9 (by omega) (show (L[k].map eCr)[((L[k].length:Int) - 1).toNat]? = some (eCr (L[k][L[k].length - 1]'(by omega))) by rw [show ((L[k].length:Int) - 1).toNat = L[k].length - 1 by omega]; exact zIU (by omega)) zH4) ?_
      refine zH rfl (zZ rfl rfl zHs (by exact zLb rfl)) ?_
      refine zH rfl (zq rfl rfl) ?_
      refine zH rfl (zG rfl rfl rfl zt9 (by omega) (show (L[k].map eCr)[((0:Int)).toNat]? = some (eCr L[k][0]) from zIU hpos) zH4) ?_
      refine zH rfl (zZ rfl rfl zHs (by exact zLb rfl)) ?_
      refine zH rfl (zy (av:=[_, _, _]) rfl ⟨rfl, rfl, rfl, trivial⟩ (h86 _ _ hcl2)) ?_
      refine zH rfl (zn rfl rfl) ?_
      refine jw (zf (zuy (zuy (zh ?_))))
      refine zg rfl rfl (zi rfl rfl) ?_
      refine zg rfl rfl (zUB rfl rfl rfl) ?_
      refine zo (zf (zx rfl (fun h4=>?_) (fun h4=>?_)))
      ·
       exfalso; simp at h4; omega
      ·
       refine zC (zf ?_)
       refine wR (fun _=>True) (fun k=>match k with | 1=>.stable | 2=>.stable | 3=>.stable | 4=>.stable | 5=>.stable | 6=>.stable | 7=>.stable | 8=>.stable | 9=>.stable | 10=>.stable | 11=>.stable | 13=>.rw [] (0) | 14=>.stable | _=>.here) mixed (by kernel_rfl) rfl (by kernel_rfl) trivial ?_
       refine zX rfl rfl (zI rfl rfl) ?_
       refine zuC rfl rfl (fun m hm=>zi rfl rfl) ?_
       refine zuC rfl rfl (fun m hm=>zq rfl rfl) ?_
       refine zuC rfl rfl (fun m hm=>zq rfl rfl) ?_
       refine zuC rfl rfl (fun m hm=>zuB rfl rfl Tryz.underlying48) ?_
       refine zuC rfl rfl (fun m hm=>ze5 rfl rfl rfl ⟨(by omega), (by omega)⟩) ?_
       refine zuC rfl rfl (fun m hm=>zG rfl rfl rfl zt9 (by omega) (show (L[k].map eCr)[((L[k].length:Int) - 1).toNat]? = some (eCr (L[k][L[k].length - 1]'(by omega))) by rw [show ((L[k].length:Int) - 1).toNat = L[k].length - 1 by omega]; exact zIU (by omega)) zH4) ?_
       refine zuC rfl rfl (fun m hm=>zZ rfl rfl zHs (by exact zLb rfl)) ?_
       refine zuC rfl rfl (fun m hm=>zq rfl rfl) ?_
       refine zuC rfl rfl (fun m hm=>zG rfl rfl rfl zt9 (by omega) (show (L[k].map eCr)[((0:Int)).toNat]? = some (eCr L[k][0]) from zIU hpos) zH4) ?_
       refine zuC rfl rfl (fun m hm=>zZ rfl rfl zHs (by exact zLb rfl)) ?_
       refine zuC rfl rfl (fun m hm=>zb3 (cs:=[_, _, _, _, _]) rfl zRM rfl ⟨_, _, rfl, (jF rfl), ⟨_, _, rfl, (zY rfl), ⟨_, _, rfl, (zY rfl), rfl⟩⟩⟩ (by rfl) (by simp [ofV])) ?_
       refine zX rfl rfl (qg (size:=5) (rows:=[[_, _, _, _, _]]) rfl Tryz.underlying45 zRH rfl (by decide) rfl (by decide) ⟨_, _, rfl, (zY rfl), rfl⟩ (by rfl) (by simp [ofV]) rfl (by simp)) ?_
       refine zsL [] (0) rfl rfl (fun _=>trivial) (fun m hm=>zj3 rfl rfl ((hm.one 0 rfl).trans rfl) (List.length_map _) rfl zRr zPt (by simp) (by have:=hjt; show (((joT w r L k) ++ joP w r L[k] (L[k].length - 1)).length + 1) * 40 <= 140737488355328; rw [List.length_append]; omega) (by have:=hjt; show ((joT w r L k) ++ joP w r L[k] (L[k].length - 1)).length + 1 <= maxLen; unfold maxLen; rw [List.length_append]; omega)) ?_
       refine zuC rfl rfl (fun m hm=>qo rfl rfl) ?_
       refine wQ (zD (zf (zh ?_)))
       refine zg rfl rfl (zi rfl rfl) ?_
       refine zg rfl rfl (zV rfl rfl rfl ⟨(by omega), (by omega)⟩) ?_
       refine zg rfl rfl (zn rfl rfl) ?_
       refine zo ?_
       exact ⟨⟨k + 1, by omega⟩, by dsimp only; omega, zt _ ⟨rfl, rfl, hpF, rfl, trivial⟩ (hmF)⟩
     ·
      have hB:¬ joB w r L[k] = true:=by unfold joB; rw [gd hpos]; have:=h3; simp at this ⊢; omega
      have hjL:joT w r L (k + 1) = ((joT w r L k) ++ joP w r L[k] (L[k].length - 1)):=by rw [hjs]; unfold joL joE; rw [if_neg hB, List.append_nil]
      have hpF:EV.psl 0 ((joT w r L k) ++ joP w r L[k] (L[k].length - 1)).length = EV.psl 0 (joT w r L (k + 1)).length:=by rw [hjL]
      have hmF:([.row (((joT w r L k) ++ joP w r L[k] (L[k].length - 1)).map rJn)]:List PO) = [.row ((joT w r L (k + 1)).map rJn)]:=by rw [hjL]
      refine zC (zD (zf (zh ?_)))
      refine zg rfl rfl (zi rfl rfl) ?_
      refine zg rfl rfl (zV rfl rfl rfl ⟨(by omega), (by omega)⟩) ?_
      refine zg rfl rfl (zn rfl rfl) ?_
      refine zo ?_
      exact ⟨⟨k + 1, by omega⟩, by dsimp only; omega, zt _ ⟨rfl, rfl, hpF, rfl, trivial⟩ (hmF)⟩
  ·
   have hge:k = L.length:=by have:=h0; simp at this; omega
   subst hge
   refine qp (zRQ (zRQ (qw (zf (zuy (zh ?_))))))
   refine zg rfl rfl (zI rfl rfl) ?_
   refine zg rfl rfl (qo rfl rfl) ?_
   refine zg rfl rfl (zn rfl rfl) ?_
   refine zo (zf (zP ?_))
   exact ⟨.inr rfl, ⟨_, rfl, ⟨_, _, rfl, ⟨(joT w r L L.length).map eJn, (congrArg (fun z=>some (PO.row z)) (zM1 _)), List.length_map _, rfl⟩, ⟨_, _, rfl, AVle.refl _, rfl⟩⟩⟩⟩
end Go.Av
end
