import Derived.Test.YtdjncbjfejdamaaGreatDoorChLG
import Derived.Test.YtdjncbjfejdamaaGreatDoorPlatD
set_option linter.unusedVariables false
set_option linter.unusedSimpArgs false
section
namespace Go.Av
open Go.Proofs
set_option maxRecDepth 100000
set_option maxHeartbeats 1000000
variable {G:Glob}
theorem zKE:tyIs Tryz.prog 48 false 1 = true:=by kernel_rfl
theorem zQ7:Tryz.prog.info? 48 = some Tryz.t48:=by kernel_rfl
open Go.Gr
theorem slN {l:List (List AV)} {n:Nat} (h:∀ q ∈ l, q.length = n) {i j:Nat}:∀ r ∈ ((l.take i).drop j).map (fun r=>r.map EV.pub), r.length = n:=fun r hr=>by
 obtain ⟨q, hq, rfl⟩:=List.mem_map.1 hr
 rw [List.length_map]
 exact h q (List.mem_of_mem_take (List.mem_of_mem_drop hq))
theorem apN {n:Nat} {a b:List (List EV)} (h1:∀ r ∈ a, r.length = n) (h2:∀ r ∈ b, r.length = n):∀ r ∈ a ++ b, r.length = n:=fun r hr=>(List.mem_append.1 hr).elim (h1 r) (h2 r)
theorem zSL (cs:List Nat):(List.range cs.length).map (fun i=>cs.getD i 0) = cs:=by
 refine List.ext_getElem (by simp) fun i h1 h2=>?_
 simp [List.getD, h2]
theorem zO8 {h:Nat -> Bool} {w r:Nat} (hw6:w <= 6) (x:Cr):sort2 (nxJ x (zJg h w r)) = nbC h w r x:=by
 unfold nbC
 rw [← zNZ hw6 x]
 congr 1
 unfold nxJ zJg jnJ
 rw [List.flatMap_assoc]
 have e:∀ i, ((zIL h w ((wP w r).getD i 0)).map fun q=>(i, q)).flatMap (fun q=>prt x q.2) = (zIL h w ((wP w r).getD i 0)).flatMap (prt x):=fun i=>by rw [List.flatMap_map]
 simp only[e]
 rw [List.flatMap_assoc]
 have e2:=List.flatMap_map (fun i=>(wP w r).getD i 0) (fun p=>(zIL h w p).flatMap (prt x)) (List.range (wP w r).length)
 rw [zSL] at e2
 exact e2.symm
theorem zSN {h:Nat -> Bool} {w r:Nat} (hwr:w * r <= 30):(zJg h w r).length <= 1000:=by
 have:=zMV (h:=h) (w:=w) (cs:=wP w r) (k:=(wP w r).length) (zJz hwr)
 unfold zJg; omega
theorem zKi {h:Nat -> Bool} {w r:Nat} (hwr:w * r <= 30):(zH1 h w r).length <= 930:=by
 have:=zSu (h:=h) (w:=w) (r:=r) (k:=w * r) (j:=0) hwr hwr (by omega)
 rw [zJh] at this; exact this
section
variable {nb:Cr -> List Cr} {all:List Cr}
def stM (nb:Cr -> List Cr) (all:List Cr):Nat -> List Cr × List (List Cr)
 | 0=>([], [])
 | 1=>ph nb all.length 1 all ([], [])
 | _=>ph nb all.length 2 all (ph nb all.length 1 all ([], []))
def sK (nb:Cr -> List Cr) (all:List Cr) (m k:Nat):List Cr × List (List Cr):=phK nb all all.length (m + 1) (stM nb all m) k
theorem sK_0 {m:Nat}:sK nb all m 0 = stM nb all m:=zRc
theorem zKm {m:Nat} (hm:m < 2):sK nb all m all.length = stM nb all (m + 1):=by
 unfold sK
 rw [zPi]
 have:m = 0 ∨ m = 1:=by omega
 rcases this with rfl | rfl <;> rfl
theorem zMU (G:Gph nb all) {m:Nat} (hm:m < 2):SI nb all (stM nb all m) /\ (2 <= m + 1 -> ∀ x ∈ all, x ∉ (stM nb all m).1 -> (nb x).length = 2):=by
 have:m = 0 ∨ m = 1:=by omega
 rcases this with rfl | rfl
 ·
  exact ⟨SI.nil, fun h=>absurd h (by omega)⟩
 ·
  exact ⟨zKb G (Nat.le_refl _) (.inl (by omega)) all _ (fun _ h=>h) SI.nil (fun h=>absurd h (by omega)), fun _=>zPz G⟩
theorem zOS (G:Gph nb all) {m:Nat} (hm:m < 2) (k:Nat):SI nb all (sK nb all m k):=zPj G (Nat.le_refl _) (by omega) (zMU G hm).1 (zMU G hm).2 k
def skB (nb:Cr -> List Cr) (s:List Cr × List (List Cr)) (m:Nat) (c:Cr):Bool:=s.1.contains c || (((m:Int) == 0) && (((nb c).length:Int) == 2))
theorem zM5 (G:Gph nb all) {m:Nat} (hm:m < 2) {s:List Cr × List (List Cr)} {c:Cr} (hc:c ∈ all):skB nb s m c = true ↔ (c ∈ s.1 ∨ m + 1 < (nb c).length):=by
 have h2:=G.two c hc
 unfold skB
 simp only[Bool.or_eq_true, zLa, beq_iff_eq, List.contains_iff_mem]
 constructor
 ·
  rintro (h | h)
  ·
   exact .inl h
  ·
   exact .inr (by omega)
 ·
  rintro (h | h)
  ·
   exact .inl h
  ·
   exact .inr (by omega)
theorem zM4 (G:Gph nb all) {m k:Nat} (hm:m < 2) (hk:k < all.length) (h:skB nb (sK nb all m k) m all[k] = true):sK nb all m (k + 1) = sK nb all m k:=by
 have h':=(zM5 G hm (List.getElem_mem hk)).1 h
 unfold sK at h' ⊢
 rw [zSl hk]
 unfold phS
 rw [if_pos h']
theorem zPQ (G:Gph nb all) {m k:Nat} (hm:m < 2) (hk:k < all.length) (h:skB nb (sK nb all m k) m all[k] = false):
  all[k] ∉ (sK nb all m k).1 /\ sK nb all m (k + 1) = ((sK nb all m k).1 ++ goW nb (sK nb all m k).1 all.length [] all[k], (sK nb all m k).2 ++ [goW nb (sK nb all m k).1 all.length [] all[k]]) /\ goW nb (sK nb all m k).1 all.length [] all[k] = goW nb [] all.length [] all[k]:=by
 have h':¬ (all[k] ∈ (sK nb all m k).1 ∨ m + 1 < (nb all[k]).length):=fun e=>by
  rw [(zM5 G hm (List.getElem_mem hk)).2 e] at h; cases h
 have hn:all[k] ∉ (sK nb all m k).1:=fun e=>h' (.inl e)
 refine ⟨hn, ?_, zMA G (zOS G hm k).cl _ _ _ (List.getElem_mem hk) hn⟩
 unfold sK at h' ⊢
 rw [zSl hk]
 unfold phS
 rw [if_neg h']
theorem zJ7 (G:Gph nb all) {m:Nat} (hm:m < 2) (k:Nat):(sK nb all m k).1.length <= all.length /\ (sK nb all m k).2.length <= all.length /\ ∀ l ∈ (sK nb all m k).2, l ≠ []:=by
 have h:=zOS G hm k
 refine ⟨h.le, Nat.le_trans h.lines_le h.le, fun l hl e=>?_⟩
 have:=(h.lines l hl).pos
 subst e; simp at this
end
def insL (L:List (List Cr)):List (List Cr):=L.foldl (fun o x=>zIa ltF x o) []
theorem zKO (L:List (List Cr)) (R:List Cr):insL (L ++ [R]) = zIa ltF R (insL L):=by unfold insL; rw [List.foldl_append]; rfl
theorem zNF {L:List (List Cr)} {x:List Cr}:x ∈ insL L ↔ x ∈ L:=by
 unfold insL
 have:=(zII (lt:=ltF) L []).mem_iff (a:=x)
 simpa using this
theorem zOT (L:List (List Cr)):(insL L).length = L.length:=by
 unfold insL
 have:=(zII (lt:=ltF) L []).length_eq
 simpa using this
theorem zMR {R:List Cr}:∀ {o:List (List Cr)} {a:Nat}, a <= o.length -> (∀ i (h:i < o.length), i < a -> ltF o[i] R = true) -> (∀ h:a < o.length, ltF o[a] R = false) -> zIa ltF R o = o.take a ++ R :: o.drop a
 | [], a, ha, _, _=>by simp [zIa]
 | y :: o, 0, _, _, h2=>by
  have:=h2 (by simp)
  simp only[List.getElem_cons_zero] at this
  simp [zIa, this]
 | y :: o, a + 1, ha, h1, h2=>by
  have h0:=h1 0 (by simp) (by omega)
  simp only[List.getElem_cons_zero] at h0
  have ih:=zMR (R:=R) (o:=o) (a:=a) (by simpa using ha) (fun i h hi=>h1 (i + 1) (by simpa using h) (by omega)) (fun h=>h2 (by simpa using h))
  simp [zIa, h0, ih]
def zH7 (L:List (List Cr)):AV:=.sl (L.map fun x=>[zHA x])
def rLn (l:List Cr):List EV:=[.pub (zHA l)]
theorem zRU (L:List (List Cr)):L.map rLn = (L.map fun x=>[zHA x]).map (·.map .pub):=by simp [rLn]
theorem zPs {L:List (List Cr)}:∀ q ∈ L.map rLn, q.length = 1:=fun q h=>by obtain ⟨c, _, rfl⟩:=List.mem_map.1 h; rfl
theorem zIb {L:List (List Cr)}:∀ q ∈ L.map (fun x=>[zHA x]), q.length = 1:=fun q h=>by obtain ⟨c, _, rfl⟩:=List.mem_map.1 h; rfl
theorem zQl {L:List (List Cr)} {k:Nat} (h:k < L.length):(L.map fun x=>[zHA x])[k]? = some [zHA (L.getD k [])]:=by simp [List.getD, h]
theorem zPM {l:List Cr} (h:l ≠ []):(l.map eCr)[(0:Int).toNat]? = some (eCr (hdC l)):=by
 cases l with
 | nil=>exact absurd rfl h
 | cons x t=>rfl
theorem zO2 {L:List (List Cr)} {k:Nat} (h:k < L.length) (hL:∀ l ∈ L, l ≠ []):L.getD k [] ≠ []:=by
 have:L.getD k [] = L[k]:=by simp [List.getD, h]
 rw [this]; exact hL _ (List.getElem_mem h)
theorem zJp {L:List (List Cr)} {R:List Cr} {a:Nat} {Z:List (List Cr)} (hq:L.take a ++ R :: L.drop a = Z):
  ((((L.map fun x=>[zHA x]).take ((a:Int)).toNat).drop ((0:Int)).toNat).map (fun r=>r.map EV.pub) ++ [[.pub (zHA R)]] ++ (((L.map fun x=>[zHA x]).take ((((L.map fun x=>[zHA x]).length:Nat):Int)).toNat).drop ((a:Int)).toNat).map (fun r=>r.map EV.pub)) = Z.map rLn:=by
 subst hq
 rw [show ((((L.map fun x=>[zHA x]).length:Nat):Int)).toNat = (L.map fun x=>[zHA x]).length from by simp, List.take_length]
 have e:rLn = fun x=>[EV.pub (zHA x)]:=rfl
 rw [e]
 simp [List.map_take, List.map_drop, Function.comp_def]
theorem zJQ:zau Tryz.prog 37 1 = true:=by kernel_rfl
theorem zPx:elemIs Tryz.prog 37 48 1 24:=⟨Tryz.underlying37, Tryz.t48, _, by kernel_rfl, rfl, rfl, rfl, rfl, by decide⟩
theorem zQq {nb:Cr -> List Cr} {met:List Cr} {n:Nat} {c:Cr}:goW nb met n [] c ≠ []:=fun e=>by
 have:=zJ1 (nb:=nb) (met:=met) n [] c c (by simp)
 rw [e] at this; cases this
theorem f31 (f:Fld) (lvl:Int) (hf:zHz f = true):ACall Tryz.prog G 31 [.agg (zHF f), ei lvl] ((zH7 (zHT (hiF f lvl) (wF f) (rF f)))):=by
 obtain ⟨zw, w1, w6, r1, r5, hlen⟩:=zNh hf
 have hwr:=zKu w6 r5
 obtain ⟨b1, b2, b3⟩:=zJI hf
 have h80:=f80 (G:=G) f lvl hf
 have h81:=f81 (G:=G) f lvl hf
 have hjl:=zSN (h:=hiF f lvl) hwr
 have hal:=zKi (h:=hiF f lvl) hwr
 have hnb:=fun x=>zO8 (h:=hiF f lvl) (w:=wF f) (r:=rF f) w6 x
 have hG:=zMI (h:=hiF f lvl) w6 r5
 have hfin:insL (stM (nbC (hiF f lvl) (wF f) (rF f)) (zH1 (hiF f lvl) (wF f) (rF f)) 2).2 = zHT (hiF f lvl) (wF f) (rF f):=zND w6 r5
 generalize zHT (hiF f lvl) (wF f) (rF f) = LC at hfin ⊢
 generalize nbC (hiF f lvl) (wF f) (rF f) = nb at hnb hG hfin
 generalize zH1 (hiF f lvl) (wF f) (rF f) = all at h80 hal hG hfin
 generalize zJg (hiF f lvl) (wF f) (rF f) = js at h81 hjl hnb
 have h83:∀ x, ACall Tryz.prog G 83 [.sl (js.map eJn), .agg (eCr x)] (zHA (nb x)):=fun x=>by rw [← hnb x]; exact f83 js x hjl
 have hcl:=hG.cl
 have h84:=fun (c:Cr) (hc:c ∈ all) (hn2:∀ x, (nb x).length <= 1000)=>f84 (G:=G) js c nb all all.length hjl hnb hcl hc (Nat.le_refl _) (by omega) hn2
 have hn2:∀ x, (nb x).length <= 1000:=fun x=>by rw [← hnb x, zIA]; have:=zOb x js; omega
 refine zS Tryz.func31 rfl (by kernel_rfl) rfl ?_
 refine zuy (zh ?_)
 refine zg rfl rfl (jf rfl (zY rfl)) ?_
 refine zg rfl rfl (zn rfl rfl) ?_
 refine zo (zf (zuy ?_))
 refine qY mixed (by kernel_rfl) rfl ?_
 refine zH rfl (zZ rfl rfl zHQ (by exact zLb rfl)) ?_
 refine zH rfl (zi rfl rfl) ?_
 refine zH rfl (zy (av:=[_, _]) rfl ⟨rfl, rfl, trivial⟩ h80) ?_
 refine zH rfl (zZ rfl rfl zHQ (by exact zLb rfl)) ?_
 refine zH rfl (zi rfl rfl) ?_
 refine zH rfl (zy (av:=[_, _]) rfl ⟨rfl, rfl, trivial⟩ h81) ?_
 refine zH rfl (zW rfl rfl) ?_
 refine zH rfl (zW rfl rfl) ?_
 refine jw (zf (zuy (zh ?_)))
 refine zg rfl rfl (zn rfl rfl) ?_
 refine zo (zf (zuy (zh ?_)))
 refine zg rfl rfl (zn rfl rfl) ?_
 refine zo (zf (zuy (zuy (zh ?_))))
 refine zg rfl rfl (zn rfl rfl) ?_
 refine zo (zf (zB ?_))
 refine qx (kG 8 rfl) ?_
 refine qx (zOX 7 rfl AVle.nil) ?_
 refine qy (ι:={ p:Nat // p <= 2 }) (fun p=>⟨Tryz.f31.ntmps, frL [(5, .pub (zHA all)), (6, .pub (.sl (js.map eJn))), (7, .pub (zH7 (insL (stM nb all p.1).2))), (8, .psl 0 (stM nb all p.1).1.length), (9, I (p.1:Int))], [.row ((stM nb all p.1).1.map rCr)]⟩) (fun p=>2 - p.1) (⟨0, by omega⟩) ?_ ?_
 ·
  exact zt _ ⟨rfl, rfl, rfl, rfl, rfl, trivial⟩ (rfl)
 ·
  rintro ⟨p, hp⟩
  dsimp only
  refine zuy (zuy (zh ?_))
  refine zg rfl rfl (zi rfl rfl) ?_
  refine zg rfl rfl (qi rfl rfl rfl) ?_
  refine zo (zf (zx rfl (fun h0=>?_) (fun h0=>?_)))
  ·
   have hm2:p < 2:=by simp at h0; omega
   have hinv:=fun k=>zJ7 hG hm2 k
   have hme:=zKm (nb:=nb) (all:=all) hm2
   refine zC (zf (zuy (zB (zuy (zh ?_)))))
   refine zg rfl rfl (zn rfl rfl) ?_
   refine zo (zf (zB ?_))
   refine qy (ι:={ k:Nat // k <= all.length }) (fun k=>⟨Tryz.f31.ntmps, frL [(5, .pub (zHA all)), (6, .pub (.sl (js.map eJn))), (7, .pub (zH7 (insL (sK nb all p k.1).2))), (8, .psl 0 (sK nb all p k.1).1.length), (9, I (p:Int)), (10, I (k.1:Int))], [.row ((sK nb all p k.1).1.map rCr)]⟩) (fun k=>all.length - k.1) (⟨0, by omega⟩) ?_ ?_
   ·
    exact zt _ ⟨rfl, rfl, (congrArg (fun z:List Cr × List (List Cr)=>EV.pub (zH7 (insL z.2))) sK_0.symm), (congrArg (fun z:List Cr × List (List Cr)=>EV.psl 0 z.1.length) sK_0.symm), rfl, rfl, trivial⟩ (congrArg (fun z:List Cr × List (List Cr)=>[PO.row (z.1.map rCr)]) sK_0.symm)
   ·
    rintro ⟨k, hk⟩
    dsimp only
    refine zuy (zuy (zh ?_))
    refine zg rfl rfl (zi rfl rfl) ?_
    refine zg rfl rfl (zq rfl rfl) ?_
    refine zg rfl rfl (zuB rfl rfl Tryz.underlying48) ?_
    refine zg rfl rfl (qi rfl rfl rfl) ?_
    refine zo (zf (zx rfl (fun h1=>?_) (fun h1=>?_)))
    ·
     have hlt:k < all.length:=by simpa using h1
     have hk3:=hinv k
     refine zC (zf (zuy (zB (zuy (zuy (zh ?_))))))
     refine zg rfl rfl (zI rfl rfl) ?_
     refine zg rfl rfl (zq rfl rfl) ?_
     refine zg rfl rfl (zi rfl rfl) ?_
     refine zg rfl rfl (zG rfl rfl rfl zt9 (by omega) (zIU hlt) zH4) ?_
     refine zg rfl rfl (zZ rfl rfl zHs (by exact zLb rfl)) ?_
     refine zg rfl rfl (znB (av:=[zHA (sK nb all p k).1, .agg (eCr all[k])]) rfl ⟨⟨(sK nb all p k).1.map eCr, (show some (PO.row _) = some (PO.row _) by rw [zIg]), List.length_map _, rfl⟩, AVle.refl _, trivial⟩ rfl (f82 (sK nb all p k).1 all[k] (by omega))) ?_
     refine zg rfl rfl (zi rfl rfl) ?_
     refine zk rfl rfl rfl (fun hg=>zi rfl rfl) ?_
     refine zk rfl rfl rfl (fun hg=>qJ rfl (if_pos hg) rfl) ?_
     refine zk rfl rfl rfl (fun hg=>zi rfl (if_pos hg)) ?_
     refine zk rfl (jH rfl rfl rfl) rfl (fun hg=>zq rfl rfl) ?_
     refine zk rfl (jH rfl rfl rfl) rfl (fun hg=>zq rfl rfl) ?_
     refine zk rfl (jH rfl rfl rfl) rfl (fun hg=>zi rfl rfl) ?_
     refine zk rfl (jH rfl rfl rfl) rfl (fun hg=>zG rfl (if_pos hg) (if_pos hg) zt9 (by omega) (zIU hlt) zH4) ?_
     refine zk rfl (jH rfl rfl rfl) rfl (fun hg=>zZ rfl (if_pos hg) zHs (by exact zLb rfl)) ?_
     refine zk rfl (jH rfl rfl rfl) rfl (fun hg=>zy (av:=[_, _]) rfl ⟨(by exact if_pos hg), (by exact if_pos hg), trivial⟩ (h83 all[k])) ?_
     refine zk rfl (jH rfl rfl rfl) rfl (fun hg=>zuB rfl (if_pos hg) Tryz.underlying48) ?_
     refine zk rfl (jH rfl rfl rfl) rfl (fun hg=>qJ rfl (if_pos hg) rfl) ?_
     refine zk rfl rfl rfl (fun hg=>qI rfl (if_pos hg) (zha hg) rfl) ?_
     refine zg rfl rfl (qU rfl rfl rfl rfl) ?_
     refine zo (zf (zx rfl (fun h2=>?_) (fun h2=>?_)))
     ·
      have hsk:=zM4 hG hm2 hlt h2
      refine qp (zRQ (qw (zf (zh ?_))))
      refine zg rfl rfl (zi rfl rfl) ?_
      refine zg rfl rfl (zV rfl rfl rfl ⟨(by omega), (by omega)⟩) ?_
      refine zg rfl rfl (zn rfl rfl) ?_
      refine zo ?_
      first | exact ⟨⟨k + 1, by omega⟩, by dsimp only; omega, zt [(5, .pub (zHA all)), (6, .pub (.sl (js.map eJn))), (7, .pub (zH7 (insL (sK nb all p (k + 1)).2))), (8, .psl 0 (sK nb all p (k + 1)).1.length), (9, I (p:Int)), (10, I ((k + 1:Nat):Int))] ⟨rfl, rfl, (congrArg (fun z:List Cr × List (List Cr)=>EV.pub (zH7 (insL z.2))) hsk.symm), (congrArg (fun z:List Cr × List (List Cr)=>EV.psl 0 z.1.length) hsk.symm), rfl, rfl, trivial⟩ (congrArg (fun z:List Cr × List (List Cr)=>[PO.row (z.1.map rCr)]) hsk.symm)⟩ | exact ⟨⟨k + 1, by omega⟩, by dsimp only; omega, Weak.trans (zt (mem':=[.row (((sK nb all p k).1 ++ (goW nb [] all.length [] all[k])).map rCr), .row ((zIa ltF (goW nb [] all.length [] all[k]) (insL (sK nb all p k).2)).map rLn)]) [(5, .pub (zHA all)), (6, .pub (.sl (js.map eJn))), (7, .psl 1 (zIa ltF (goW nb [] all.length [] all[k]) (insL (sK nb all p k).2)).length), (8, .psl 0 ((sK nb all p k).1 ++ (goW nb [] all.length [] all[k])).length), (9, I (p:Int)), (10, I ((k + 1:Nat):Int))] ⟨rfl, rfl, (congrArg (EV.psl 1) (by have h:=congrArg List.length (zJp hq); simp at h ⊢; omega)), rfl, rfl, rfl, trivial⟩ (congrArg (fun z=>[PO.row (((sK nb all p k).1 ++ (goW nb [] all.length [] all[k])).map rCr), PO.row z]) (zJp hq))) (Weak.trans (zcT (k:=1) (rows:=(zIa ltF (goW nb [] all.length [] all[k]) (insL (sK nb all p k).2)).map fun x=>[zHA x]) [7] (congrArg (fun z=>some (PO.row z)) (zRU _)) (List.length_map _) (by intro d hd; rw [List.mem_singleton] at hd; subst hd; rfl)) (Weak.trans (zt (mem':=[.row (((sK nb all p k).1 ++ (goW nb [] all.length [] all[k])).map rCr), .dead]) [(5, .pub (zHA all)), (6, .pub (.sl (js.map eJn))), (7, .pub (zH7 (zIa ltF (goW nb [] all.length [] all[k]) (insL (sK nb all p k).2)))), (8, .psl 0 ((sK nb all p k).1 ++ (goW nb [] all.length [] all[k])).length), (9, I (p:Int)), (10, I ((k + 1:Nat):Int))] ⟨rfl, rfl, rfl, rfl, rfl, rfl, trivial⟩ rfl) (Weak.trans (vO 1 ⟨trivial, trivial, trivial, (show 0 < 1 by omega), trivial, trivial, trivial⟩ ⟨zHP _, trivial⟩) (zt [(5, .pub (zHA all)), (6, .pub (.sl (js.map eJn))), (7, .pub (zH7 (insL (sK nb all p (k + 1)).2))), (8, .psl 0 (sK nb all p (k + 1)).1.length), (9, I (p:Int)), (10, I ((k + 1:Nat):Int))] ⟨rfl, rfl, ((congrArg (fun z=>EV.pub (zH7 z)) (zKO _ _).symm).trans (congrArg (fun z:List Cr × List (List Cr)=>EV.pub (zH7 (insL z.2))) hgo.symm)), (congrArg (fun z:List Cr × List (List Cr)=>EV.psl 0 z.1.length) hgo.symm), rfl, rfl, trivial⟩ (congrArg (fun z:List Cr × List (List Cr)=>[PO.row (z.1.map rCr)]) hgo.symm)))))⟩
     ·
      have hsg:=zPQ hG hm2 hlt h2
      have hgo:=hsg.2.1
      rw [hsg.2.2] at hgo
      have hRl:(sK nb all p k).1.length + (goW nb [] all.length [] all[k]).length <= all.length:=by have:=(hinv (k + 1)).1; rw [hgo, List.length_append] at this; exact this
      have hil:=zOT (sK nb all p k).2
      have hne:∀ l ∈ insL (sK nb all p k).2, l ≠ []:=fun l hl=>hk3.2.2 l (zNF.1 hl)
      refine zC (zf (zuy (zh ?_)))
      refine zg rfl rfl (zq rfl rfl) ?_
      refine zg rfl rfl (zq rfl rfl) ?_
      refine zg rfl rfl (zi rfl rfl) ?_
      refine zg rfl rfl (zG rfl rfl rfl zt9 (by omega) (zIU hlt) zH4) ?_
      refine zg rfl rfl (zZ rfl rfl zHs (by exact zLb rfl)) ?_
      refine zg rfl rfl (zy (av:=[_, _]) rfl ⟨rfl, rfl, trivial⟩ (h84 all[k] (List.getElem_mem hlt) hn2)) ?_
      refine zg rfl rfl (zW rfl rfl) ?_
      refine zo (zf (zuy (zh ?_)))
      refine zg rfl rfl (zI rfl rfl) ?_
      refine zg rfl rfl (zq rfl rfl) ?_
      refine jb rfl (vS rfl rfl rfl rfl (List.length_map _) rfl zt5 zHv (fun r hr=>by rw [← zIg] at hr; exact zHv r hr) (by have:=hRl; rw [List.length_map, List.length_map]; omega) (by have:=hRl; rw [List.length_map, List.length_map]; unfold maxLen; omega)) ?_
      refine zg rfl rfl (qo rfl rfl) ?_
      refine zo (zf (zuy (zh ?_)))
      refine zg rfl rfl (zn rfl rfl) ?_
      refine zo (zf (zuy (zB ?_)))
      refine qy (ι:={ a:Nat // a <= (insL (sK nb all p k).2).length /\ ∀ i (h:i < (insL (sK nb all p k).2).length), i < a -> ltF (insL (sK nb all p k).2)[i] (goW nb [] all.length [] all[k]) = true }) (fun a=>⟨Tryz.f31.ntmps, frL [(5, .pub (zHA all)), (6, .pub (.sl (js.map eJn))), (7, .pub (zH7 (insL (sK nb all p k).2))), (8, .psl 0 ((sK nb all p k).1 ++ (goW nb [] all.length [] all[k])).length), (9, I (p:Int)), (10, I (k:Int)), (11, .pub (zHA (goW nb [] all.length [] all[k]))), (12, I (a.1:Int))], [.row (((sK nb all p k).1 ++ (goW nb [] all.length [] all[k])).map rCr)]⟩) (fun a=>(insL (sK nb all p k).2).length - a.1) (⟨0, by omega, fun i _ h=>absurd h (by omega)⟩) ?_ ?_
      ·
       exact zt _ ⟨rfl, rfl, rfl, (congrArg (EV.psl 0) (by rw [List.length_map, List.length_map, List.length_append])), rfl, rfl, rfl, rfl, trivial⟩ (congrArg (fun z=>[PO.row z]) (by rw [← zIg, ← List.map_append]))
      ·
       rintro ⟨a, ha⟩
       dsimp only
       refine zuy (zuy ?_)
       refine qY mixed (by kernel_rfl) rfl ?_
       refine zH rfl (zi rfl rfl) ?_
       refine zH rfl (zq rfl rfl) ?_
       refine zH rfl (zuB rfl rfl Tryz.underlying37) ?_
       refine zH rfl (qi rfl rfl rfl) ?_
       refine zH rfl (zi rfl rfl) ?_
       refine jm rfl (fun hg=>zq rfl rfl) ?_
       refine jm rfl (fun hg=>zi rfl rfl) ?_
       refine jm rfl (fun hg=>zG rfl (if_pos hg) (if_pos hg) zJQ (by omega) (zQl (L:=insL (sK nb all p k).2) (k:=a) (show a < (insL (sK nb all p k).2).length by have e:=hg; simp at e; omega)) zIb) ?_
       refine jm rfl (fun hg=>zA rfl (if_pos hg) rfl zKE) ?_
       refine jm rfl (fun hg=>zG rfl (if_pos hg) rfl zt9 (by omega) (zPM (zO2 (L:=insL (sK nb all p k).2) (k:=a) (show a < (insL (sK nb all p k).2).length by have e:=hg; simp at e; omega) hne)) zH4) ?_
       refine jm rfl (fun hg=>zZ rfl (if_pos hg) zHs (by exact zLb rfl)) ?_
       refine jm rfl (fun hg=>zq rfl rfl) ?_
       refine jm rfl (fun hg=>zG rfl (if_pos hg) rfl zt9 (by omega) (zPM zQq) zH4) ?_
       refine jm rfl (fun hg=>zZ rfl (if_pos hg) zHs (by exact zLb rfl)) ?_
       refine jm rfl (fun hg=>zy (av:=[_, _]) rfl ⟨(by exact if_pos hg), (by exact if_pos hg), trivial⟩ (f85 (hdC ((insL (sK nb all p k).2).getD a [])) (hdC (goW nb [] all.length [] all[k])))) ?_
       refine zH rfl (qI rfl rfl rfl rfl) ?_
       refine jw (zf (zx rfl (fun h3=>?_) (fun h3=>?_)))
       ·
        have h3b:a < (insL (sK nb all p k).2).length /\ ltF ((insL (sK nb all p k).2).getD a []) (goW nb [] all.length [] all[k]) = true:=by rw [zLa, decide_eq_true_eq] at h3; exact ⟨by omega, h3.2⟩
        refine zC (zf (zB (zh ?_)))
        refine zg rfl rfl (zi rfl rfl) ?_
        refine zg rfl rfl (zV rfl rfl rfl ⟨(by omega), (by omega)⟩) ?_
        refine zg rfl rfl (zn rfl rfl) ?_
        refine zo (zD ?_)
        exact ⟨⟨a + 1, by omega, fun i hi h=>(if e:i = a then by subst e; have:=h3b.2; simpa [List.getD, hi] using this else ha.2 i hi (by omega))⟩, by dsimp only; omega, zt _ ⟨rfl, rfl, rfl, rfl, rfl, rfl, rfl, rfl, trivial⟩ (rfl)⟩
       ·
        have hq:(insL (sK nb all p k).2).take a ++ (goW nb [] all.length [] all[k]) :: (insL (sK nb all p k).2).drop a = zIa ltF (goW nb [] all.length [] all[k]) (insL (sK nb all p k).2):=(zMR ha.1 ha.2 (fun hlt2=>by have e:=h3; rw [show (decide ((a:Int) < ((insL (sK nb all p k).2).length:Int))) = true by simp; omega, Bool.true_and] at e; simpa [ltF, List.getD, hlt2] using e)).symm
        refine qp (zRQ (zRQ (qw (zf ?_))))
        refine qx vz ?_
        refine zGz (fun _=>True) (fun k=>match k with | 0=>.stable | 1=>.stable | 2=>.stable | 3=>.writes | 4=>.stable | 5=>.stable | 6=>.writes | 7=>.stable | 8=>.stable | 9=>.stable | 10=>.writes | 11=>.stable | _=>.here) mixed (by kernel_rfl) rfl (by kernel_rfl) trivial ?_
        refine zuC rfl rfl (fun m hm=>zq rfl rfl) ?_
        refine zuC rfl rfl (fun m hm=>zi rfl rfl) ?_
        refine zuC rfl rfl (fun m hm=>zhU (l:=0) (h:=(a:Int)) rfl rfl rfl rfl zJQ zIb (by omega) (by omega) (by simp; omega)) ?_
        refine zaw rfl rfl (zGk (l:=1) rfl rfl rfl rfl rfl zPx (slN zIb) (by simp; omega) (by unfold maxLen; simp; omega)) trivial ?_
        refine zuC rfl rfl (fun m hm=>zq rfl rfl) ?_
        refine zuC rfl rfl (fun m hm=>qg (size:=1) (rows:=[[_]]) rfl Tryz.underlying37 zQ7 rfl (by decide) rfl (by decide) ⟨_, _, rfl, (kQ rfl), rfl⟩ (by rfl) (by simp [ofV]) rfl (by simp)) ?_
        refine zaw rfl rfl (zj3 rfl rfl rfl (by simp) rfl zPx (slN zIb) (fun r hr=>by simp at hr; subst hr; rfl) (by simp; omega) (by unfold maxLen; simp; omega)) trivial ?_
        refine zuC rfl rfl (fun m hm=>zq rfl rfl) ?_
        refine zuC rfl rfl (fun m hm=>zi rfl rfl) ?_
        refine zuC rfl rfl (fun m hm=>zhU (l:=(a:Int)) rfl rfl rfl rfl zJQ zIb (by omega) (by simp; omega) (by omega)) ?_
        refine zaw rfl rfl (zj3 rfl rfl rfl (by simp) rfl zPx (apN (slN zIb) (fun r hr=>by simp at hr; subst hr; rfl)) (slN zIb) (by simp; omega) (by unfold maxLen; simp; omega)) trivial ?_
        refine zuC rfl rfl (fun m hm=>qo rfl rfl) ?_
        refine wQ (zD (zf (zh ?_)))
        refine zg rfl rfl (zi rfl rfl) ?_
        refine zg rfl rfl (zV rfl rfl rfl ⟨(by omega), (by omega)⟩) ?_
        refine zg rfl rfl (zn rfl rfl) ?_
        refine zo ?_
        first | exact ⟨⟨k + 1, by omega⟩, by dsimp only; omega, zt [(5, .pub (zHA all)), (6, .pub (.sl (js.map eJn))), (7, .pub (zH7 (insL (sK nb all p (k + 1)).2))), (8, .psl 0 (sK nb all p (k + 1)).1.length), (9, I (p:Int)), (10, I ((k + 1:Nat):Int))] ⟨rfl, rfl, (congrArg (fun z:List Cr × List (List Cr)=>EV.pub (zH7 (insL z.2))) hsk.symm), (congrArg (fun z:List Cr × List (List Cr)=>EV.psl 0 z.1.length) hsk.symm), rfl, rfl, trivial⟩ (congrArg (fun z:List Cr × List (List Cr)=>[PO.row (z.1.map rCr)]) hsk.symm)⟩ | exact ⟨⟨k + 1, by omega⟩, by dsimp only; omega, Weak.trans (zt (mem':=[.row (((sK nb all p k).1 ++ (goW nb [] all.length [] all[k])).map rCr), .row ((zIa ltF (goW nb [] all.length [] all[k]) (insL (sK nb all p k).2)).map rLn)]) [(5, .pub (zHA all)), (6, .pub (.sl (js.map eJn))), (7, .psl 1 (zIa ltF (goW nb [] all.length [] all[k]) (insL (sK nb all p k).2)).length), (8, .psl 0 ((sK nb all p k).1 ++ (goW nb [] all.length [] all[k])).length), (9, I (p:Int)), (10, I ((k + 1:Nat):Int))] ⟨rfl, rfl, (congrArg (EV.psl 1) (by have h:=congrArg List.length (zJp hq); simp at h ⊢; omega)), rfl, rfl, rfl, trivial⟩ (congrArg (fun z=>[PO.row (((sK nb all p k).1 ++ (goW nb [] all.length [] all[k])).map rCr), PO.row z]) (zJp hq))) (Weak.trans (zcT (k:=1) (rows:=(zIa ltF (goW nb [] all.length [] all[k]) (insL (sK nb all p k).2)).map fun x=>[zHA x]) [7] (congrArg (fun z=>some (PO.row z)) (zRU _)) (List.length_map _) (by intro d hd; rw [List.mem_singleton] at hd; subst hd; rfl)) (Weak.trans (zt (mem':=[.row (((sK nb all p k).1 ++ (goW nb [] all.length [] all[k])).map rCr), .dead]) [(5, .pub (zHA all)), (6, .pub (.sl (js.map eJn))), (7, .pub (zH7 (zIa ltF (goW nb [] all.length [] all[k]) (insL (sK nb all p k).2)))), (8, .psl 0 ((sK nb all p k).1 ++ (goW nb [] all.length [] all[k])).length), (9, I (p:Int)), (10, I ((k + 1:Nat):Int))] ⟨rfl, rfl, rfl, rfl, rfl, rfl, trivial⟩ rfl) (Weak.trans (vO 1 ⟨trivial, trivial, trivial, (show 0 < 1 by omega), trivial, trivial, trivial⟩ ⟨zHP _, trivial⟩) (zt [(5, .pub (zHA all)), (6, .pub (.sl (js.map eJn))), (7, .pub (zH7 (insL (sK nb all p (k + 1)).2))), (8, .psl 0 (sK nb all p (k + 1)).1.length), (9, I (p:Int)), (10, I ((k + 1:Nat):Int))] ⟨rfl, rfl, ((congrArg (fun z=>EV.pub (zH7 z)) (zKO _ _).symm).trans (congrArg (fun z:List Cr × List (List Cr)=>EV.pub (zH7 (insL z.2))) hgo.symm)), (congrArg (fun z:List Cr × List (List Cr)=>EV.psl 0 z.1.length) hgo.symm), rfl, rfl, trivial⟩ (congrArg (fun z:List Cr × List (List Cr)=>[PO.row (z.1.map rCr)]) hgo.symm)))))⟩
    ·
     have hge:k = all.length:=by have:=h1; simp at this; omega
     subst hge
     refine qp (zRQ (zRQ (qw (zD (zf (zh ?_))))))
     refine zg rfl rfl (zi rfl rfl) ?_
     refine zg rfl rfl (zV rfl rfl rfl ⟨(by omega), (by omega)⟩) ?_
     refine zg rfl rfl (zn rfl rfl) ?_
     refine zo ?_
     exact ⟨⟨p + 1, by omega⟩, by dsimp only; omega, zt _ ⟨rfl, rfl, (congrArg (fun z:List Cr × List (List Cr)=>EV.pub (zH7 (insL z.2))) hme), (congrArg (fun z:List Cr × List (List Cr)=>EV.psl 0 z.1.length) hme), rfl, trivial⟩ (congrArg (fun z:List Cr × List (List Cr)=>[PO.row (z.1.map rCr)]) hme)⟩
  ·
   have hm2:p = 2:=by simp at h0; omega
   subst hm2
   refine qp (zRQ (zRQ (qw (zf (zuy (zh ?_))))))
   refine zg rfl rfl (zq rfl rfl) ?_
   refine zg rfl rfl (zW rfl rfl) ?_
   refine zo (zf (zP ?_))
   exact ⟨.inr rfl, AVle.of (congrArg zH7 hfin)⟩
end Go.Av
end
