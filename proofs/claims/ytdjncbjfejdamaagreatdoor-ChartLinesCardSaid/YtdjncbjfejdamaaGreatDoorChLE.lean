import Derived.Test.YtdjncbjfejdamaaGreatDoorChLD
import Derived.Test.YtdjncbjfejdamaaGreatDoorPlatQ
set_option linter.unusedVariables false
set_option linter.unusedSimpArgs false
section
namespace Go.Av
open Go.Proofs
set_option maxRecDepth 100000
set_option maxHeartbeats 1000000
variable {G:Glob}
theorem zNS:zau Tryz.prog 133 4 = true:=by kernel_rfl
theorem zR8:zgU Tryz.prog 120 4 1 = true:=by kernel_rfl
theorem zRM:xn Tryz.prog 55 [(0, 1), (1, 2), (3, 2)] [.int .i64 0, .int .i64 0, .int .i64 0, .int .i64 0, .int .i64 0]:=⟨_, Tryz.underlying55, by kernel_rfl, by kernel_rfl⟩
theorem zRH:Tryz.prog.info? 55 = some Tryz.t55:=by kernel_rfl
theorem zRr:elemIs Tryz.prog 45 55 5 40:=⟨Tryz.underlying45, Tryz.t55, _, by kernel_rfl, rfl, rfl, rfl, rfl, by decide⟩
theorem ifp {α:Type} {c:Prop} [Decidable c] {a b:α} (h:c):(if c then a else b) = a:=if_pos h
def jhJ (h:Nat -> Bool) (w:Nat) (cs:List Nat) (k i:Nat):List (Nat × Cr × Cr):=jnJ h w cs k ++ (hdP (zHr h w (cs.getD k 0)).length (zHr h w (cs.getD k 0)) i).map fun q=>(k, q)
theorem zPP (h:Nat -> Bool) (w:Nat) (cs:List Nat) (k i:Nat):jkJ h w cs k i (i + 1) = jhJ h w cs k i:=by unfold jkJ jhJ; rw [zQS]
theorem zPe {h:Nat -> Bool} {w:Nat} {cs:List Nat} {k i t:Nat} (e:t = (zHr h w (cs.getD k 0)).length):jkJ h w cs k i t = jhJ h w cs k (i + 1):=by subst e; unfold jkJ jhJ; rw [zPC]
theorem zPX (h:Nat -> Bool) (w:Nat) (cs:List Nat) (k:Nat):jhJ h w cs k 0 = jnJ h w cs k:=by simp [jhJ, hdP]
theorem zO5 {h:Nat -> Bool} {w:Nat} {cs:List Nat} {k i:Nat} (e:i = (zHr h w (cs.getD k 0)).length):jhJ h w cs k i = jnJ h w cs (k + 1):=by subst e; unfold jhJ; rw [zSa, zNT]; rfl
theorem zPB {h:Nat -> Bool} {w:Nat} {cs:List Nat} {k i t:Nat} (hi:i < (zHr h w (cs.getD k 0)).length) (ht:t < (zHr h w (cs.getD k 0)).length) (hit:i < t) (e:((zHr h w (cs.getD k 0)).length == 2 || (zHr h w (cs.getD k 0))[i].2 == (zHr h w (cs.getD k 0))[t].2) = true):
  jkJ h w cs k i (t + 1) = jkJ h w cs k i t ++ [(k, (zHr h w (cs.getD k 0))[i], (zHr h w (cs.getD k 0))[t])]:=by unfold jkJ; rw [zPF hi ht hit e]; simp
theorem zQf {h:Nat -> Bool} {w:Nat} {cs:List Nat} {k i t:Nat} (hi:i < (zHr h w (cs.getD k 0)).length) (ht:t < (zHr h w (cs.getD k 0)).length) (hit:i < t) (e:((zHr h w (cs.getD k 0)).length == 2 || (zHr h w (cs.getD k 0))[i].2 == (zHr h w (cs.getD k 0))[t].2) = false):
  jkJ h w cs k i (t + 1) = jkJ h w cs k i t:=by unfold jkJ; rw [zQJ hi ht hit e]
theorem zPo {h:Nat -> Bool} {w:Nat} {cs:List Nat} {k i t:Nat} (hk:k <= 30) (hi:i <= 4):(jkJ h w cs k i t).length <= 500:=by
 have h1:=zMV (h:=h) (w:=w) (cs:=cs) hk
 have h2:=zJu h w (cs.getD k 0) 4
 rw [zR6] at h2
 have h3:=zOZ (n:=(zHr h w (cs.getD k 0)).length) (t:=t) h2 hi
 unfold jkJ
 rw [List.length_append, List.length_map]; omega
theorem zQB {o:Option Cr} (h:o.isSome = true):o.toList = [o.getD (0, 0)]:=by cases o with
 | none=>cases h
 | some x=>rfl
theorem zRe {o:Option Cr} (h:o.isSome = false):o.toList = []:=by cases o with
 | none=>rfl
 | some x=>cases h
theorem zOd {l:List Nat} {w k:Nat} (h:k < l.length):(l.map (eC4 w))[k]? = some (eC4 w (l.getD k 0)):=by simp [List.getD, h]
theorem zPt {l:List (Nat × Cr × Cr)}:∀ q ∈ l.map rJn, q.length = 5:=fun q h=>by obtain ⟨c, _, rfl⟩:=List.mem_map.1 h; rfl
theorem zMe {k:Nat} (l:List (Nat × Cr × Cr)):PO.okL k (.row (l.map rJn)):=by rw [zM1]; exact zM7
theorem zHP {k:Nat} (l:List Cr):PO.okL k (.row (l.map rCr)):=by rw [zIg]; exact zM7
theorem f81 (f:Fld) (lvl:Int) (hf:zHz f = true):ACall Tryz.prog G 81 [.agg (zHF f), ei lvl] ((.sl ((zJg (hiF f lvl) (wF f) (rF f)).map eJn))):=by
 obtain ⟨zw, w1, w6, r1, r5, hlen⟩:=zNh hf
 have hwr:=zKu w6 r5
 obtain ⟨b1, b2, b3⟩:=zJI hf
 have h87:=f87 (G:=G) f hf
 have h132:=fun a b ha hb=>f132 (G:=G) f lvl a b ha hb (by omega)
 unfold zNN at h87
 unfold zJg
 generalize hiF f lvl = h at h132 ⊢
 generalize wF f = w at zw w1 w6 hlen hwr h87 ⊢
 generalize rF f = r at r1 r5 hlen hwr h87 ⊢
 have hcin:=fun p (hp:p ∈ wP w r)=>zSj hp
 have hcl:=zJz hwr
 generalize wP w r = cs at h87 hcin hcl ⊢
 refine zS Tryz.func81 rfl (by kernel_rfl) rfl ?_
 refine zuy (zh ?_)
 refine zg rfl rfl (jf rfl (zY rfl)) ?_
 refine zg rfl rfl (zn rfl rfl) ?_
 refine zo (zf (zuy (zh ?_)))
 refine zg rfl rfl (zn rfl rfl) ?_
 refine zo (zf (zuy (zh ?_)))
 refine zg rfl rfl (zZ rfl rfl zHQ (by exact zLb rfl)) ?_
 refine zg rfl rfl (zy (av:=[_]) rfl ⟨rfl, trivial⟩ h87) ?_
 refine zg rfl rfl (zW rfl rfl) ?_
 refine zo (zf (zuy (zuy (zh ?_))))
 refine zg rfl rfl (zn rfl rfl) ?_
 refine zo (zf (zB ?_))
 refine qx (kG 5 rfl) ?_
 refine qy (ι:={ k:Nat // k <= cs.length }) (fun k=>⟨Tryz.f81.ntmps, frL [(1, I lvl), (2, .pub (.ptr (zHF f))), (5, .psl 0 (jnJ h w cs k.1).length), (6, .pub (.sl (cs.map (eC4 w)))), (7, I (k.1:Int))], [.row ((jnJ h w cs k.1).map rJn)]⟩) (fun k=>cs.length - k.1) (⟨0, by omega⟩) ?_ ?_
 ·
  exact zt _ ⟨rfl, rfl, rfl, rfl, rfl, trivial⟩ (rfl)
 ·
  rintro ⟨k, hk⟩
  dsimp only
  refine zuy (zuy (zh ?_))
  refine zg rfl rfl (zi rfl rfl) ?_
  refine zg rfl rfl (zq rfl rfl) ?_
  refine zg rfl rfl (zuB rfl rfl Tryz.underlying133) ?_
  refine zg rfl rfl (qi rfl rfl rfl) ?_
  refine zo (zf (zx rfl (fun h0=>?_) (fun h0=>?_)))
  ·
   have hlt:k < cs.length:=by simpa using h0
   have hpin:=hcin (cs.getD k 0) (by rw [show cs.getD k 0 = cs[k] by simp [List.getD, hlt]]; exact List.getElem_mem hlt)
   have hL4:=zJu h w (cs.getD k 0) 4
   rw [zR6] at hL4
   refine zC (zf (zuy (zB (zuy (zh ?_)))))
   refine zg rfl rfl (zn rfl rfl) ?_
   refine zo (zf (zuy (zuy (zh ?_))))
   refine zg rfl rfl (zn rfl rfl) ?_
   refine zo (zf (zB ?_))
   refine qx (kG 8 rfl) ?_
   refine qy (ι:={ n:Nat // n <= 4 }) (fun n=>⟨Tryz.f81.ntmps, frL [(1, I lvl), (2, .pub (.ptr (zHF f))), (5, .psl 0 (jnJ h w cs k).length), (6, .pub (.sl (cs.map (eC4 w)))), (7, I (k:Int)), (8, .psl 1 (onR h w (cs.getD k 0) n.1).length), (9, I (n.1:Int))], [.row ((jnJ h w cs k).map rJn), .row ((onR h w (cs.getD k 0) n.1).map rCr)]⟩) (fun n=>4 - n.1) (⟨0, by omega⟩) ?_ ?_
   ·
    exact zt _ ⟨rfl, rfl, rfl, rfl, rfl, rfl, rfl, trivial⟩ (rfl)
   ·
    rintro ⟨n, hn⟩
    dsimp only
    refine zuy (zuy (zh ?_))
    refine zg rfl rfl (zi rfl rfl) ?_
    refine zg rfl rfl (qi rfl rfl rfl) ?_
    refine zo (zf (zx rfl (fun h1=>?_) (fun h1=>?_)))
    ·
     have hn4:n < 4:=by simp at h1; omega
     have hon:=zN0 (h:=h) (w:=w) (p:=(cs.getD k 0)) hn4
     refine zC (zf (zuy (zB (zuy ?_))))
     refine qx vz ?_
     refine wR (fun _=>True) (fun k=>match k with | 0=>.stable | 1=>.stable | 2=>.stable | 3=>.stable | 4=>.stable | 5=>.stable | 6=>.stable | 7=>.stable | 8=>.stable | 9=>.stable | 10=>.stable | 11=>.stable | 12=>.stable | 13=>.stable | 14=>.stable | 15=>.stable | 16=>.stable | 17=>.stable | 18=>.stable | 19=>.stable | 20=>.own 2 | 21=>.writes | 22=>.stable | _=>.here) mixed (by kernel_rfl) rfl (by kernel_rfl) trivial ?_
     refine zuC rfl rfl (fun m hm=>zZ rfl rfl zHQ (by exact zLb rfl)) ?_
     refine zuC rfl rfl (fun m hm=>zi rfl rfl) ?_
     refine zuC rfl rfl (fun m hm=>zq rfl rfl) ?_
     refine zuC rfl rfl (fun m hm=>zi rfl rfl) ?_
     refine zuC rfl rfl (fun m hm=>zi rfl rfl) ?_
     refine zuC rfl rfl (fun m hm=>zG rfl rfl rfl zNS (by omega) (zOd hlt) zOE) ?_
     refine zuC rfl rfl (fun m hm=>vP rfl rfl rfl zR8 (by omega) (by omega)) ?_
     refine zuC rfl rfl (fun m hm=>zA rfl rfl (zOu (by omega) (by omega)) ty3) ?_
     refine zuC rfl rfl (fun m hm=>zq rfl rfl) ?_
     refine zuC rfl rfl (fun m hm=>zi rfl rfl) ?_
     refine zuC rfl rfl (fun m hm=>zi rfl rfl) ?_
     refine zuC rfl rfl (fun m hm=>zV rfl rfl rfl ⟨(by omega), (by omega)⟩) ?_
     refine zuC rfl rfl (fun m hm=>yA rfl rfl rfl ⟨(by omega), (by omega)⟩) ?_
     refine zuC rfl rfl (fun m hm=>zG rfl rfl rfl zNS (by omega) (zOd hlt) zOE) ?_
     refine zuC rfl rfl (fun m hm=>vP rfl rfl rfl zR8 (by omega) (by omega)) ?_
     refine zuC rfl rfl (fun m hm=>zA rfl rfl (zOu (by omega) (by omega)) ty3) ?_
     refine zuC rfl rfl (fun m hm=>zy (av:=[_, _, _, _]) rfl ⟨rfl, rfl, rfl, rfl, trivial⟩ (h132 (cnR w (cs.getD k 0) (n:Int)) (cnR w (cs.getD k 0) (((n:Int) + 1) % 4)) (hlen ▸ zOs (by omega) (by omega) hpin) (hlen ▸ zOs (by omega) (by omega) hpin))) ?_
     refine zuC rfl rfl (fun m hm=>zq rfl rfl) ?_
     refine zuC rfl rfl (fun m hm=>zN rfl rfl rfl) ?_
     refine zuC rfl rfl (fun m hm=>zN rfl rfl rfl) ?_
     refine zgb rfl rfl (zb1 rfl zKI rfl rfl rfl) ?_
     refine zaw rfl rfl (jk rfl rfl rfl rfl rfl rfl (zY rfl) zHs (by rfl) (by rfl)) trivial ?_
     refine zuC rfl rfl (fun m hm=>zn rfl rfl) ?_
     refine wQ (zf (zuy (zh ?_)))
     refine zg rfl rfl (zi rfl rfl) ?_
     refine zo (zf (zx rfl (fun h2=>?_) (fun h2=>?_)))
     ·
      rw [zQB h2] at hon
      have hon2:(onR h w (cs.getD k 0) n).map rCr ++ [rCr ((crO h (cnR w (cs.getD k 0) (n:Int)) (cnR w (cs.getD k 0) (((n:Int) + 1) % 4))).getD (0, 0))] = (onR h w (cs.getD k 0) (n + 1)).map rCr:=by rw [hon, List.map_append]; rfl
      have hon3:(onR h w (cs.getD k 0) n).length + 1 = (onR h w (cs.getD k 0) (n + 1)).length:=by rw [hon]; simp
      refine zh ?_
      refine zg rfl rfl (zI rfl rfl) ?_
      refine zg rfl rfl (qN (cs:=[_, _]) rfl rfl rfl rfl rfl (by exact zLb rfl) rfl zHs) ?_
      refine zg rfl rfl (qg (size:=2) (rows:=[[_, _]]) rfl Tryz.underlying48 zKq rfl (by decide) rfl (by decide) ⟨_, _, rfl, (zY rfl), rfl⟩ (by rfl) (by simp [ofV]) rfl (by simp)) ?_
      refine jb rfl (vS rfl rfl rfl rfl (by simp) rfl zt5 zHv (by simp) (by have:=zJu h w (cs.getD k 0) n; show ((onR h w (cs.getD k 0) n).length + 1) * 16 <= 140737488355328; omega) (by have:=zJu h w (cs.getD k 0) n; show (onR h w (cs.getD k 0) n).length + 1 <= maxLen; unfold maxLen; omega)) ?_
      refine zg rfl rfl (qo rfl rfl) ?_
      refine zo (zD (zf (zh ?_)))
      refine zg rfl rfl (zi rfl rfl) ?_
      refine zg rfl rfl (zV rfl rfl rfl ⟨(by omega), (by omega)⟩) ?_
      refine zg rfl rfl (zn rfl rfl) ?_
      refine zo ?_
      exact ⟨⟨n + 1, by omega⟩, by dsimp only; omega, Weak.trans (zt (mem':=[.row ((jnJ h w cs k).map rJn), .row ((onR h w (cs.getD k 0) (n + 1)).map rCr), .row [rCr ((crO h (cnR w (cs.getD k 0) (n:Int)) (cnR w (cs.getD k 0) (((n:Int) + 1) % 4))).getD (0, 0))]]) [(1, I lvl), (2, .pub (.ptr (zHF f))), (5, .psl 0 (jnJ h w cs k).length), (6, .pub (.sl (cs.map (eC4 w)))), (7, I (k:Int)), (8, .psl 1 (onR h w (cs.getD k 0) (n + 1)).length), (9, I ((n + 1:Nat):Int))] ⟨rfl, rfl, rfl, rfl, rfl, (congrArg (EV.psl 1) hon3), rfl, trivial⟩ (congrArg (fun z=>[PO.row ((jnJ h w cs k).map rJn), PO.row z, PO.row [rCr ((crO h (cnR w (cs.getD k 0) (n:Int)) (cnR w (cs.getD k 0) (((n:Int) + 1) % 4))).getD (0, 0))]]) hon2)) (vO 2 ⟨trivial, trivial, (show 0 < 2 by omega), trivial, trivial, (show 1 < 2 by omega), trivial, trivial⟩ ⟨zMe _, zHP _, trivial⟩)⟩
     ·
      rw [zRe h2, List.append_nil] at hon
      have hon2:(onR h w (cs.getD k 0) n).map rCr = (onR h w (cs.getD k 0) (n + 1)).map rCr:=by rw [hon]
      have hon3:(onR h w (cs.getD k 0) n).length = (onR h w (cs.getD k 0) (n + 1)).length:=by rw [hon]
      refine zC (zD (zf (zh ?_)))
      refine zg rfl rfl (zi rfl rfl) ?_
      refine zg rfl rfl (zV rfl rfl rfl ⟨(by omega), (by omega)⟩) ?_
      refine zg rfl rfl (zn rfl rfl) ?_
      refine zo ?_
      exact ⟨⟨n + 1, by omega⟩, by dsimp only; omega, Weak.trans (zt (mem':=[.row ((jnJ h w cs k).map rJn), .row ((onR h w (cs.getD k 0) (n + 1)).map rCr), .row [rCr ((crO h (cnR w (cs.getD k 0) (n:Int)) (cnR w (cs.getD k 0) (((n:Int) + 1) % 4))).getD (0, 0))]]) [(1, I lvl), (2, .pub (.ptr (zHF f))), (5, .psl 0 (jnJ h w cs k).length), (6, .pub (.sl (cs.map (eC4 w)))), (7, I (k:Int)), (8, .psl 1 (onR h w (cs.getD k 0) (n + 1)).length), (9, I ((n + 1:Nat):Int))] ⟨rfl, rfl, rfl, rfl, rfl, (congrArg (EV.psl 1) hon3), rfl, trivial⟩ (congrArg (fun z=>[PO.row ((jnJ h w cs k).map rJn), PO.row z, PO.row [rCr ((crO h (cnR w (cs.getD k 0) (n:Int)) (cnR w (cs.getD k 0) (((n:Int) + 1) % 4))).getD (0, 0))]]) hon2)) (vO 2 ⟨trivial, trivial, (show 0 < 2 by omega), trivial, trivial, (show 1 < 2 by omega), trivial, trivial⟩ ⟨zMe _, zHP _, trivial⟩)⟩
    ·
     have hn4:n = 4:=by simp at h1; omega
     subst hn4
     refine qp (zRQ (zRQ (qw (zf (zuy (zh ?_))))))
     refine zg rfl rfl (zn rfl rfl) ?_
     refine zo (zf (zB ?_))
     refine qy (ι:={ i:Nat // i <= (zHr h w (cs.getD k 0)).length }) (fun i=>⟨Tryz.f81.ntmps, frL [(1, I lvl), (2, .pub (.ptr (zHF f))), (5, .psl 0 (jhJ h w cs k i.1).length), (6, .pub (.sl (cs.map (eC4 w)))), (7, I (k:Int)), (8, .psl 1 (zHr h w (cs.getD k 0)).length), (12, I (i.1:Int))], [.row ((jhJ h w cs k i.1).map rJn), .row ((zHr h w (cs.getD k 0)).map rCr)]⟩) (fun i=>(zHr h w (cs.getD k 0)).length - i.1) (⟨0, by omega⟩) ?_ ?_
     ·
      exact zt _ ⟨rfl, rfl, (congrArg (fun z:List (Nat × Cr × Cr)=>EV.psl 0 z.length) (zPX h w cs k).symm), rfl, rfl, rfl, rfl, trivial⟩ (congrArg (fun z=>[PO.row (List.map rJn z), PO.row ((zHr h w (cs.getD k 0)).map rCr)]) (zPX h w cs k).symm)
     ·
      rintro ⟨i, hi⟩
      dsimp only
      refine zuy (zuy (zh ?_))
      refine zg rfl rfl (zi rfl rfl) ?_
      refine zg rfl rfl (zI rfl rfl) ?_
      refine zg rfl rfl (jE rfl rfl rfl (by simp) Tryz.underlying48) ?_
      refine zg rfl rfl (qi rfl rfl rfl) ?_
      refine zo (zf (zx rfl (fun h3=>?_) (fun h3=>?_)))
      ·
       have hil:i < (zHr h w (cs.getD k 0)).length:=by simpa using h3
       refine zC (zf (zuy (zB (zuy (zh ?_)))))
       refine zg rfl rfl (zi rfl rfl) ?_
       refine zg rfl rfl (zV rfl rfl rfl ⟨(by omega), (by omega)⟩) ?_
       refine zg rfl rfl (zn rfl rfl) ?_
       refine zo (zf (zB ?_))
       refine qy (ι:={ t:Nat // i + 1 + t <= (zHr h w (cs.getD k 0)).length }) (fun t=>⟨Tryz.f81.ntmps, frL [(1, I lvl), (2, .pub (.ptr (zHF f))), (5, .psl 0 (jkJ h w cs k i (i + 1 + t.1)).length), (6, .pub (.sl (cs.map (eC4 w)))), (7, I (k:Int)), (8, .psl 1 (zHr h w (cs.getD k 0)).length), (12, I (i:Int)), (13, I ((i + 1 + t.1:Nat):Int))], [.row ((jkJ h w cs k i (i + 1 + t.1)).map rJn), .row ((zHr h w (cs.getD k 0)).map rCr)]⟩) (fun t=>(zHr h w (cs.getD k 0)).length - t.1) (⟨0, by omega⟩) ?_ ?_
       ·
        exact zt _ ⟨rfl, rfl, (congrArg (fun z:List (Nat × Cr × Cr)=>EV.psl 0 z.length) (zPP h w cs k i).symm), rfl, rfl, rfl, rfl, (congrArg I (show ((i:Int) + 1) = ((i + 1 + 0:Nat):Int) by omega)), trivial⟩ (congrArg (fun z=>[PO.row (List.map rJn z), PO.row ((zHr h w (cs.getD k 0)).map rCr)]) (zPP h w cs k i).symm)
       ·
        rintro ⟨t, ht⟩
        dsimp only
        refine zuy (zuy (zh ?_))
        refine zg rfl rfl (zi rfl rfl) ?_
        refine zg rfl rfl (zI rfl rfl) ?_
        refine zg rfl rfl (jE rfl rfl rfl (by simp) Tryz.underlying48) ?_
        refine zg rfl rfl (qi rfl rfl rfl) ?_
        refine zo (zf (zx rfl (fun h4=>?_) (fun h4=>?_)))
        ·
         have htl:i + 1 + t < (zHr h w (cs.getD k 0)).length:=by simp only[decide_eq_true_eq, List.length_map] at h4; omega
         have hjl:=zPo (h:=h) (w:=w) (cs:=cs) (k:=k) (i:=i) (t:=i + 1 + t) (by omega) (by omega)
         refine zC (zf (zuy (zB (zuy ?_))))
         refine qY mixed (by kernel_rfl) rfl ?_
         refine zH rfl (zI rfl rfl) ?_
         refine zH rfl (jE rfl rfl rfl (by simp) Tryz.underlying48) ?_
         refine zH rfl (qJ rfl rfl rfl) ?_
         refine zH rfl (zi rfl rfl) ?_
         refine jm rfl (fun hg=>zI rfl rfl) ?_
         refine jm rfl (fun hg=>zi rfl rfl) ?_
         refine jm rfl (fun hg=>qc rfl (if_pos hg) (if_pos hg) rfl (by simp) zt9 (by omega) (by omega) zHv) ?_
         refine jm rfl (fun hg=>qE rfl (if_pos hg) rfl (by simp) zJ2) ?_
         refine jm rfl (fun hg=>zK (r:=rCr (zHr h w (cs.getD k 0))[i]) rfl (ifp hg) rfl (List.length_map _) (zJD hil) rfl ty3) ?_
         refine jm rfl (fun hg=>zI rfl rfl) ?_
         refine jm rfl (fun hg=>zi rfl rfl) ?_
         refine jm rfl (fun hg=>qc rfl (if_pos hg) (if_pos hg) rfl (by simp) zt9 (by omega) (by omega) zHv) ?_
         refine jm rfl (fun hg=>qE rfl (if_pos hg) rfl (by simp) zJ2) ?_
         refine jm rfl (fun hg=>zK (r:=rCr (zHr h w (cs.getD k 0))[i + 1 + t]) rfl (ifp hg) rfl (List.length_map _) (zJD htl) rfl ty3) ?_
         refine jm rfl (fun hg=>qJ rfl (if_pos hg) (if_pos hg)) ?_
         refine zH rfl (qU rfl rfl rfl rfl) ?_
         refine jw (zf (zx rfl (fun h5=>?_) (fun h5=>?_)))
         ·
          have hjy:=zPB hil htl (by omega) (by rw [← zI5, ← zI5]; exact h5)
          refine wR (fun _=>True) (fun k=>match k with | 1=>.stable | 2=>.stable | 3=>.stable | 4=>.rd [1] | 5=>.rd [1] | 6=>.stable | 7=>.stable | 8=>.rd [1] | 9=>.rd [1] | 10=>.stable | 12=>.rw [] 0 | 13=>.stable | _=>.here) mixed (by kernel_rfl) rfl (by kernel_rfl) trivial ?_
          refine zX rfl rfl (zI rfl rfl) ?_
          refine zuC rfl rfl (fun m hm=>zi rfl rfl) ?_
          refine zuC rfl rfl (fun m hm=>zI rfl rfl) ?_
          refine zuC rfl rfl (fun m hm=>zi rfl rfl) ?_
          refine zkx [1] rfl rfl (fun m hm hC=>qc rfl rfl rfl ((hm.one 1 rfl).trans rfl) (List.length_map _) zt9 (by omega) (by omega) zHv) ?_
          refine zkx [1] rfl rfl (fun m hm hC=>qN (cs:=eCr (zHr h w (cs.getD k 0))[i]) rfl rfl ((hm.one 1 rfl).trans rfl) (List.length_map _) (zJD hil) (show 0 + 2 <= (rCr _).length from Nat.le_refl 2) rfl zHs) ?_
          refine zuC rfl rfl (fun m hm=>zI rfl rfl) ?_
          refine zuC rfl rfl (fun m hm=>zi rfl rfl) ?_
          refine zkx [1] rfl rfl (fun m hm hC=>qc rfl rfl rfl ((hm.one 1 rfl).trans rfl) (List.length_map _) zt9 (by omega) (by omega) zHv) ?_
          refine zkx [1] rfl rfl (fun m hm hC=>qN (cs:=eCr (zHr h w (cs.getD k 0))[i + 1 + t]) rfl rfl ((hm.one 1 rfl).trans rfl) (List.length_map _) (zJD htl) (show 0 + 2 <= (rCr _).length from Nat.le_refl 2) rfl zHs) ?_
          refine zuC rfl rfl (fun m hm=>zb3 (cs:=[_, _, _, _, _]) rfl zRM rfl ⟨_, _, rfl, (jF rfl), ⟨_, _, rfl, (zY rfl), ⟨_, _, rfl, (zY rfl), rfl⟩⟩⟩ (by rfl) (by simp [ofV])) ?_
          refine zX rfl rfl (qg (size:=5) (rows:=[[_, _, _, _, _]]) rfl Tryz.underlying45 zRH rfl (by decide) rfl (by decide) ⟨_, _, rfl, (zY rfl), rfl⟩ (by rfl) (by simp [ofV]) rfl (by simp)) ?_
          refine zsL [] 0 rfl rfl (fun _=>trivial) (fun m hm=>zj3 rfl rfl ((hm.one 0 rfl).trans rfl) (by simp) rfl zRr zPt (by simp) (by have:=hjl; show ((jkJ h w cs k i (i + 1 + t)).length + 1) * 40 <= 140737488355328; omega) (by have:=hjl; show (jkJ h w cs k i (i + 1 + t)).length + 1 <= maxLen; unfold maxLen; omega)) ?_
          refine zuC rfl rfl (fun m hm=>qo rfl rfl) ?_
          refine wQ (zD (zf (zh ?_)))
          refine zg rfl rfl (zi rfl rfl) ?_
          refine zg rfl rfl (zV rfl rfl rfl ⟨(by omega), (by omega)⟩) ?_
          refine zg rfl rfl (zn rfl rfl) ?_
          refine zo ?_
          exact ⟨⟨t + 1, by omega⟩, by dsimp only; omega, zt _ ⟨rfl, rfl, (by show EV.psl 0 _ = EV.psl 0 _; rw [show i + 1 + (t + 1) = i + 1 + t + 1 from rfl, hjy] <;> simp), rfl, rfl, rfl, rfl, (congrArg I (show (((i + 1 + t:Nat):Int) + 1) = ((i + 1 + (t + 1):Nat):Int) by omega)), trivial⟩ (congrArg (fun z=>[PO.row z, PO.row ((zHr h w (cs.getD k 0)).map rCr)]) (by first | (rw [show i + 1 + (t + 1) = i + 1 + t + 1 from rfl, hjy, List.map_append]; rfl) | rw [show i + 1 + (t + 1) = i + 1 + t + 1 from rfl, hjy]))⟩
         ·
          have hjy:=zQf hil htl (by omega) (by rw [← zI5, ← zI5]; exact h5)
          refine zC (zD (zf (zh ?_)))
          refine zg rfl rfl (zi rfl rfl) ?_
          refine zg rfl rfl (zV rfl rfl rfl ⟨(by omega), (by omega)⟩) ?_
          refine zg rfl rfl (zn rfl rfl) ?_
          refine zo ?_
          exact ⟨⟨t + 1, by omega⟩, by dsimp only; omega, zt _ ⟨rfl, rfl, (by show EV.psl 0 _ = EV.psl 0 _; rw [show i + 1 + (t + 1) = i + 1 + t + 1 from rfl, hjy] <;> simp), rfl, rfl, rfl, rfl, (congrArg I (show (((i + 1 + t:Nat):Int) + 1) = ((i + 1 + (t + 1):Nat):Int) by omega)), trivial⟩ (congrArg (fun z=>[PO.row z, PO.row ((zHr h w (cs.getD k 0)).map rCr)]) (by first | (rw [show i + 1 + (t + 1) = i + 1 + t + 1 from rfl, hjy, List.map_append]; rfl) | rw [show i + 1 + (t + 1) = i + 1 + t + 1 from rfl, hjy]))⟩
        ·
         have htl:(zHr h w (cs.getD k 0)).length <= i + 1 + t:=by simp only[decide_eq_false_iff_not, List.length_map] at h4; omega
         have hend:=zPe (h:=h) (w:=w) (cs:=cs) (k:=k) (i:=i) (t:=i + 1 + t) (by omega)
         refine qp (zRQ (zRQ (qw (zD (zf (zh ?_))))))
         refine zg rfl rfl (zi rfl rfl) ?_
         refine zg rfl rfl (zV rfl rfl rfl ⟨(by omega), (by omega)⟩) ?_
         refine zg rfl rfl (zn rfl rfl) ?_
         refine zo ?_
         exact ⟨⟨i + 1, by omega⟩, by dsimp only; omega, zt _ ⟨rfl, rfl, (congrArg (fun z:List (Nat × Cr × Cr)=>EV.psl 0 z.length) hend), rfl, rfl, rfl, rfl, trivial⟩ (congrArg (fun z=>[PO.row (List.map rJn z), PO.row ((zHr h w (cs.getD k 0)).map rCr)]) hend)⟩
      ·
       have hil:(zHr h w (cs.getD k 0)).length <= i:=by simpa using h3
       have hall:=zO5 (h:=h) (w:=w) (cs:=cs) (k:=k) (i:=i) (by omega)
       refine qp (zRQ (zRQ (qw (zD (zf (zh ?_))))))
       refine zg rfl rfl (zi rfl rfl) ?_
       refine zg rfl rfl (zV rfl rfl rfl ⟨(by omega), (by omega)⟩) ?_
       refine zg rfl rfl (zn rfl rfl) ?_
       refine zo ?_
       exact ⟨⟨k + 1, by omega⟩, by dsimp only; omega, Weak.trans (zt (mem':=[.row ((jnJ h w cs (k + 1)).map rJn), .row ((zHr h w (cs.getD k 0)).map rCr)]) [(1, I lvl), (2, .pub (.ptr (zHF f))), (5, .psl 0 (jnJ h w cs (k + 1)).length), (6, .pub (.sl (cs.map (eC4 w)))), (7, I ((k + 1:Nat):Int))] ⟨rfl, rfl, (congrArg (fun z:List (Nat × Cr × Cr)=>EV.psl 0 z.length) hall), rfl, rfl, trivial⟩ (congrArg (fun z=>[PO.row (z.map rJn), PO.row ((zHr h w (cs.getD k 0)).map rCr)]) hall)) (vO 1 ⟨trivial, trivial, (show 0 < 1 by omega), trivial, trivial, trivial⟩ ⟨zMe _, trivial⟩)⟩
  ·
   have hge:cs.length <= k:=by simpa using h0
   have hk2:k = cs.length:=by omega
   subst hk2
   refine qp (zRQ (zRQ (qw (zf (zuy (zh ?_))))))
   refine zg rfl rfl (zI rfl rfl) ?_
   refine zg rfl rfl (qo rfl rfl) ?_
   refine zo (zf (zP ?_))
   exact ⟨.inr rfl, ⟨(jnJ h w cs cs.length).map eJn, by show some (PO.row _) = some (PO.row _); rw [← zM1], by simp, rfl⟩⟩
end Go.Av
end
section
namespace Go.Av
open Go.Proofs
set_option maxRecDepth 100000
set_option maxHeartbeats 1000000
variable {G:Glob}
theorem zMC:zau Tryz.prog 45 5 = true:=by kernel_rfl
theorem zMX:fldIs Tryz.prog 55 1 1 = true:=by kernel_rfl
theorem zMZ:fldIs Tryz.prog 55 2 3 = true:=by kernel_rfl
def nxJ (c:Cr) (js:List (Nat × Cr × Cr)):List Cr:=js.flatMap fun q=>prt c q.2
theorem zO0 {c:Cr} {js:List (Nat × Cr × Cr)} {k:Nat} (hk:k < js.length):nxJ c (js.take (k + 1)) = nxJ c (js.take k) ++ prt c js[k].2:=by
 unfold nxJ; rw [List.take_add_one, List.getElem?_eq_getElem hk, Option.toList_some, List.flatMap_append]; simp
theorem zeB (c:Cr) (p:Cr × Cr):(prt c p).length <= 1:=by unfold prt; split <;> (try split) <;> simp
theorem zOb (c:Cr) (js:List (Nat × Cr × Cr)):(nxJ c js).length <= js.length:=by
 have:=zH9 (g:=fun q:Nat × Cr × Cr=>prt c q.2) (m:=1) (fun q=>zeB c q.2) js
 unfold nxJ; omega
theorem zK7 {l:List (Nat × Cr × Cr)} {k:Nat} (h:k < l.length):(l.map eJn)[k]? = some (eJn l[k]):=by simp [h]
theorem zJ0 {l:List (Nat × Cr × Cr)}:∀ q ∈ l.map eJn, q.length = 5:=fun q h=>by obtain ⟨c, _, rfl⟩:=List.mem_map.1 h; rfl
theorem zIr {l:List Cr} {k:Nat} (h:k < l.length):(l.map rCr)[k]? = some (rCr (l.getD k (0, 0))):=by simp [List.getD, h]
theorem zP4 {α:Type} {l:List α} (h:l.length = 2):∃ x y, l = [x, y]:=match l, h with
 | [x, y], _=>⟨x, y, rfl⟩
theorem zNg {l:List Cr} (h:l.length = 2) (e:ltC (l.getD 1 (0, 0)) (l.getD 0 (0, 0)) = true):sort2 l = [l.getD 1 (0, 0), l.getD 0 (0, 0)]:=by
 obtain ⟨x, y, rfl⟩:=zP4 h
 have e':ltC y x = true:=e
 simp [sort2, e', List.getD]
theorem zOn {l:List Cr} (e:(l.length == 2 && ltC (l.getD 1 (0, 0)) (l.getD 0 (0, 0))) = false):sort2 l = l:=by
 unfold sort2
 split
 ·
  rename_i a b
  have e':ltC b a = false:=by simpa [List.getD] using e
  rw [e']; rfl
 ·
  rfl
theorem zRo {l:List Cr} (h:l.length = 2):l.map rCr = [rCr (l.getD 0 (0, 0)), rCr (l.getD 1 (0, 0))]:=by
 obtain ⟨x, y, rfl⟩:=zP4 h
 rfl
theorem f83 (js:List (Nat × Cr × Cr)) (c:Cr) (hl:js.length <= 1000):ACall Tryz.prog G 83 [.sl (js.map eJn), .agg (eCr c)] ((zHA (sort2 (nxJ c js)))):=by
 refine zS Tryz.func83 rfl (by kernel_rfl) rfl ?_
 refine zuy (zh ?_)
 refine zg rfl rfl (jf rfl (zY rfl)) ?_
 refine zg rfl rfl (zn rfl rfl) ?_
 refine zo (zf (zuy (zh ?_)))
 refine zg rfl rfl (zn rfl rfl) ?_
 refine zo (zf (zuy (zuy (zh ?_))))
 refine zg rfl rfl (zn rfl rfl) ?_
 refine zo (zf (zB ?_))
 refine qx (kG 5 rfl) ?_
 refine qy (ι:={ k:Nat // k <= js.length }) (fun k=>⟨Tryz.f83.ntmps, frL [(0, .pub (.sl (js.map eJn))), (3, .pub (.ptr (eCr c))), (5, .psl 0 (nxJ c (js.take k.1)).length), (6, I (k.1:Int))], [.row ((nxJ c (js.take k.1)).map rCr)]⟩) (fun k=>js.length - k.1) (⟨0, by omega⟩) ?_ ?_
 ·
  exact zt _ ⟨rfl, rfl, rfl, rfl, trivial⟩ (rfl)
 ·
  rintro ⟨k, hk⟩
  dsimp only
  refine zuy (zuy (zh ?_))
  refine zg rfl rfl (zi rfl rfl) ?_
  refine zg rfl rfl (zq rfl rfl) ?_
  refine zg rfl rfl (zuB rfl rfl Tryz.underlying45) ?_
  refine zg rfl rfl (qi rfl rfl rfl) ?_
  refine zo (zf (zx rfl (fun h0=>?_) (fun h0=>?_)))
  ·
   have hlt:k < js.length:=by simpa using h0
   have hnl:=zOb c (js.take k)
   rw [List.length_take] at hnl
   have hns:=zO0 (c:=c) hlt
   refine zC (zf (zuy (zB (zuy ?_))))
   refine qY mixed (by kernel_rfl) rfl ?_
   refine zH rfl (zq rfl rfl) ?_
   refine zH rfl (zi rfl rfl) ?_
   refine zH rfl (zG rfl rfl rfl zMC (by omega) (zK7 hlt) zJ0) ?_
   refine zH rfl (zu rfl rfl zMX) ?_
   refine zH rfl (zZ rfl rfl zHs (by exact zLb rfl)) ?_
   refine zH rfl (zZ rfl rfl zHs (by exact zLb rfl)) ?_
   refine zH rfl (zNG (a:=js[k].2.1) (b:=c) rfl rfl rfl) ?_
   refine jw (zf (zx rfl (fun h1=>?_) (fun h1=>?_)))
   ·
    have hpr:prt c js[k].2 = [js[k].2.2]:=by unfold prt; rw [if_pos (by simpa using h1)]
    rw [hpr] at hns
    refine zh ?_
    refine zg rfl rfl (zI rfl rfl) ?_
    refine zg rfl rfl (zq rfl rfl) ?_
    refine zg rfl rfl (zi rfl rfl) ?_
    refine zg rfl rfl (zG rfl rfl rfl zMC (by omega) (zK7 hlt) zJ0) ?_
    refine zg rfl rfl (zu rfl rfl zMZ) ?_
    refine zg rfl rfl (zZ rfl rfl zHs (by exact zLb rfl)) ?_
    refine zg rfl rfl (qg (size:=2) (rows:=[[_, _]]) rfl Tryz.underlying48 zKq rfl (by decide) rfl (by decide) ⟨_, _, rfl, (zY rfl), rfl⟩ (by rfl) (by simp [ofV, ei]) rfl (by simp)) ?_
    refine jb rfl (vS rfl rfl rfl rfl (List.length_map _) rfl zt5 zHv (by simp) (by have:=hnl; show ((nxJ c (js.take k)).length + 1) * 16 <= 140737488355328; omega) (by have:=hnl; show (nxJ c (js.take k)).length + 1 <= maxLen; unfold maxLen; omega)) ?_
    refine zg rfl rfl (qo rfl rfl) ?_
    refine zo (zD (zf (zh ?_)))
    refine zg rfl rfl (zi rfl rfl) ?_
    refine zg rfl rfl (zV rfl rfl rfl ⟨(by omega), (by omega)⟩) ?_
    refine zg rfl rfl (zn rfl rfl) ?_
    refine zo ?_
    exact ⟨⟨k + 1, by omega⟩, by dsimp only; omega, zt _ ⟨rfl, rfl, (congrArg (EV.psl 0) (by rw [hns] <;> simp)), rfl, trivial⟩ (congrArg (fun z=>[PO.row z]) (by first | (rw [hns, List.map_append]; rfl) | rw [hns]))⟩
   ·
    refine zuy ?_
    refine qY mixed (by kernel_rfl) rfl ?_
    refine zH rfl (zq rfl rfl) ?_
    refine zH rfl (zi rfl rfl) ?_
    refine zH rfl (zG rfl rfl rfl zMC (by omega) (zK7 hlt) zJ0) ?_
    refine zH rfl (zu rfl rfl zMZ) ?_
    refine zH rfl (zZ rfl rfl zHs (by exact zLb rfl)) ?_
    refine zH rfl (zZ rfl rfl zHs (by exact zLb rfl)) ?_
    refine zH rfl (zNG (a:=js[k].2.2) (b:=c) rfl rfl rfl) ?_
    refine jw (zf (zx rfl (fun h2=>?_) (fun h2=>?_)))
    ·
     have hpr:prt c js[k].2 = [js[k].2.1]:=by unfold prt; rw [if_neg (by simpa using h1), if_pos (by simpa using h2)]
     rw [hpr] at hns
     refine zh ?_
     refine zg rfl rfl (zI rfl rfl) ?_
     refine zg rfl rfl (zq rfl rfl) ?_
     refine zg rfl rfl (zi rfl rfl) ?_
     refine zg rfl rfl (zG rfl rfl rfl zMC (by omega) (zK7 hlt) zJ0) ?_
     refine zg rfl rfl (zu rfl rfl zMX) ?_
     refine zg rfl rfl (zZ rfl rfl zHs (by exact zLb rfl)) ?_
     refine zg rfl rfl (qg (size:=2) (rows:=[[_, _]]) rfl Tryz.underlying48 zKq rfl (by decide) rfl (by decide) ⟨_, _, rfl, (zY rfl), rfl⟩ (by rfl) (by simp [ofV, ei]) rfl (by simp)) ?_
     refine jb rfl (vS rfl rfl rfl rfl (List.length_map _) rfl zt5 zHv (by simp) (by have:=hnl; show ((nxJ c (js.take k)).length + 1) * 16 <= 140737488355328; omega) (by have:=hnl; show (nxJ c (js.take k)).length + 1 <= maxLen; unfold maxLen; omega)) ?_
     refine zg rfl rfl (qo rfl rfl) ?_
     refine zo (zD (zf (zh ?_)))
     refine zg rfl rfl (zi rfl rfl) ?_
     refine zg rfl rfl (zV rfl rfl rfl ⟨(by omega), (by omega)⟩) ?_
     refine zg rfl rfl (zn rfl rfl) ?_
     refine zo ?_
     exact ⟨⟨k + 1, by omega⟩, by dsimp only; omega, zt _ ⟨rfl, rfl, (congrArg (EV.psl 0) (by rw [hns] <;> simp)), rfl, trivial⟩ (congrArg (fun z=>[PO.row z]) (by first | (rw [hns, List.map_append]; rfl) | rw [hns]))⟩
    ·
     have hpr:prt c js[k].2 = []:=by unfold prt; rw [if_neg (by simpa using h1), if_neg (by simpa using h2)]
     rw [hpr, List.append_nil] at hns
     refine zC (zD (zf (zh ?_)))
     refine zg rfl rfl (zi rfl rfl) ?_
     refine zg rfl rfl (zV rfl rfl rfl ⟨(by omega), (by omega)⟩) ?_
     refine zg rfl rfl (zn rfl rfl) ?_
     refine zo ?_
     exact ⟨⟨k + 1, by omega⟩, by dsimp only; omega, zt _ ⟨rfl, rfl, (congrArg (EV.psl 0) (by rw [hns] <;> simp)), rfl, trivial⟩ (congrArg (fun z=>[PO.row z]) (by first | (rw [hns, List.map_append]; rfl) | rw [hns]))⟩
  ·
   have hge:js.length <= k:=by simpa using h0
   have hk2:k = js.length:=by omega
   subst hk2
   rw [List.take_length] at *
   refine qp (zRQ (zRQ (qw (zf (zuy (zuy ?_))))))
   refine qY mixed (by kernel_rfl) rfl ?_
   refine zH rfl (zI rfl rfl) ?_
   refine zH rfl (jE rfl rfl rfl (List.length_map _) Tryz.underlying48) ?_
   refine zH rfl (qJ rfl rfl rfl) ?_
   refine zH rfl (zi rfl rfl) ?_
   refine jm rfl (fun hg=>zI rfl rfl) ?_
   refine jm rfl (fun hg=>qc rfl (if_pos hg) rfl rfl (List.length_map _) zt9 (by omega) (by simp at hg; omega) zHv) ?_
   refine jm rfl (fun hg=>qN (cs:=eCr ((nxJ c js).getD 1 (0, 0))) rfl (ifp hg) rfl (List.length_map _) (zIr (by simp at hg; omega)) (show 0 + 2 <= (rCr _).length from Nat.le_refl 2) rfl zHs) ?_
   refine jm rfl (fun hg=>zI rfl rfl) ?_
   refine jm rfl (fun hg=>qc rfl (if_pos hg) rfl rfl (List.length_map _) zt9 (by omega) (by simp at hg; omega) zHv) ?_
   refine jm rfl (fun hg=>qN (cs:=eCr ((nxJ c js).getD 0 (0, 0))) rfl (ifp hg) rfl (List.length_map _) (zIr (by simp at hg; omega)) (show 0 + 2 <= (rCr _).length from Nat.le_refl 2) rfl zHs) ?_
   refine jm rfl (fun hg=>zy (av:=[_, _]) rfl ⟨(by exact if_pos hg), (by exact if_pos hg), trivial⟩ (f85 ((nxJ c js).getD 1 (0, 0)) ((nxJ c js).getD 0 (0, 0)))) ?_
   refine zH rfl (qI rfl rfl rfl rfl) ?_
   refine jw (zf (zx rfl (fun h3=>?_) (fun h3=>?_)))
   ·
    have hp2:(nxJ c js).length = 2 /\ ltC ((nxJ c js).getD 1 (0, 0)) ((nxJ c js).getD 0 (0, 0)) = true:=by have e:=h3; rw [zLa, beq_iff_eq] at e; exact ⟨by omega, e.2⟩
    have hs2:=zNg hp2.1 hp2.2
    refine qx (zt (mem':=[.row [rCr ((nxJ c js).getD 0 (0, 0)), rCr ((nxJ c js).getD 1 (0, 0))]]) [(5, .psl 0 2)] ?_ ?_) ?_
    ·
     exact ⟨congrArg (EV.psl 0) hp2.1, trivial⟩
    ·
     exact congrArg (fun z=>[PO.row z]) (zRo hp2.1)
    refine zGz (fun _=>True) (fun k=>match k with | 1=>.stable | 3=>.rd [0] | 4=>.rd [0] | 5=>.stable | 6=>.rd [0] | 7=>.rd [0] | 8=>.rd [0] | 9=>.rw [] 0 | 10=>.rd [0] | 11=>.rw [] 0 | _=>.here) mixed (by kernel_rfl) rfl (by kernel_rfl) trivial ?_
    refine zX rfl rfl (zI rfl rfl) ?_
    refine zuC rfl rfl (fun m hm=>zI rfl rfl) ?_
    refine zX rfl rfl (zI rfl rfl) ?_
    refine zkx [0] rfl rfl (fun m hm hC=>qc rfl rfl rfl ((hm.one 0 rfl).trans rfl) rfl zt9 (by decide) (by decide) (by simp [rCr, putCells, eCr])) ?_
    refine zkx [0] rfl rfl (fun m hm hC=>qN (cs:=eCr ((nxJ c js).getD 1 (0, 0))) rfl rfl ((hm.one 0 rfl).trans rfl) rfl rfl (by exact zLb rfl) rfl zHs) ?_
    refine zuC rfl rfl (fun m hm=>zI rfl rfl) ?_
    refine zkx [0] rfl rfl (fun m hm hC=>qc rfl rfl rfl ((hm.one 0 rfl).trans rfl) rfl zt9 (by decide) (by decide) (by simp [rCr, putCells, eCr])) ?_
    refine zkx [0] rfl rfl (fun m hm hC=>qN (cs:=eCr ((nxJ c js).getD 0 (0, 0))) rfl rfl ((hm.one 0 rfl).trans rfl) rfl rfl (by exact zLb rfl) rfl zHs) ?_
    refine zkx [0] rfl rfl (fun m hm hC=>qc rfl rfl rfl ((hm.one 0 rfl).trans rfl) rfl zt9 (by decide) (by decide) (by simp [rCr, putCells, eCr])) ?_
    refine zsL [] 0 rfl rfl (fun _=>trivial) (fun m hm=>jk (r:=rCr ((nxJ c js).getD 0 (0, 0))) rfl rfl rfl ((hm.one 0 rfl).trans rfl) rfl rfl (zY rfl) zHs (by rfl) (by rfl)) ?_
    refine zkx [0] rfl rfl (fun m hm hC=>qc rfl rfl rfl ((hm.one 0 rfl).trans rfl) rfl zt9 (by decide) (by decide) (by simp [rCr, putCells, eCr])) ?_
    refine zsL [] 0 rfl rfl (fun _=>trivial) (fun m hm=>jk (r:=rCr ((nxJ c js).getD 1 (0, 0))) rfl rfl rfl ((hm.one 0 rfl).trans rfl) rfl rfl (zY rfl) zHs (by rfl) (by rfl)) ?_
    refine wQ (zf (zuy (zh ?_)))
    refine zg rfl rfl (zI rfl rfl) ?_
    refine zg rfl rfl (qo rfl rfl) ?_
    refine zo (zf (zP ?_))
    exact ⟨.inr rfl, ⟨[eCr ((nxJ c js).getD 1 (0, 0)), eCr ((nxJ c js).getD 0 (0, 0))], rfl, rfl, by rw [hs2]; rfl⟩⟩
   ·
    have hs2:sort2 (nxJ c js) = nxJ c js:=zOn (by rw [← zI5]; exact h3)
    refine zC (zf (zuy (zh ?_)))
    refine zg rfl rfl (zI rfl rfl) ?_
    refine zg rfl rfl (qo rfl rfl) ?_
    refine zo (zf (zP ?_))
    exact ⟨.inr rfl, ⟨(nxJ c js).map eCr, by show some (PO.row _) = some (PO.row _); rw [← zIg], by simp, by rw [hs2]; rfl⟩⟩
end Go.Av
end
