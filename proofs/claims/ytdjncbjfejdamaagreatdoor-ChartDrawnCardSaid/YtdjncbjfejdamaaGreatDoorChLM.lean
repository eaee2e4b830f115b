import Derived.Test.YtdjncbjfejdamaaGreatDoorChLL
import Derived.Test.YtdjncbjfejdamaaGreatDoorChP
import Derived.Test.YtdjncbjfejdamaaGreatDoorChM
set_option linter.unusedVariables false
set_option linter.unusedSimpArgs false
section
namespace Go.Av
open Go.Proofs
set_option maxRecDepth 100000
set_option maxHeartbeats 1000000
variable {G:Glob}
theorem zQ0:xn Tryz.prog 112 [(0, 2), (2, 1), (3, 1), (4, 1), (5, 1)] [.int .i64 0, .int .i64 0, .slice none 0 0, .int .i64 0, .slice none 0 0, .map none]:=⟨_, Tryz.underlying112, by kernel_rfl, by kernel_rfl⟩
theorem zQ8:(Tryz.prog.info? 112).bind (·.zero) = some (.agg #[.int .i64 0, .int .i64 0, .slice none 0 0, .int .i64 0, .slice none 0 0, .map none]):=by kernel_rfl
theorem zSq:fldIs Tryz.prog 112 0 0 = true:=by kernel_rfl
theorem zJr:fldIs Tryz.prog 112 3 4 = true:=by kernel_rfl
theorem zQO:(Tryz.prog.info? 120).bind (·.zero) = some (.agg #[.int .i64 0, .int .i64 0, .int .i64 0, .int .i64 0]):=by kernel_rfl
theorem zPV:tyIs Tryz.prog 120 true 4 = true:=by kernel_rfl
theorem zOV:Go.Proofs.SlLaysF0.n6 Tryz.prog Tryz.sort1_ren:={
 mixed:=Tryz.sort1.mixed
 f6:=Tryz.sort1.f6
 f14:=Tryz.sort1.f14
 f15:=Tryz.sort1.f15
 f20:=Tryz.sort1.f20
 f21:=Tryz.sort1.f21
 f22:=Tryz.sort1.f22
 f23:=Tryz.sort1.f23
 f24:=Tryz.sort1.f24
 f25:=Tryz.sort1.f25
 f26:=Tryz.sort1.f26
 f27:=Tryz.sort1.f27
 f28:=Tryz.sort1.f28
 f29:=Tryz.sort1.f29
 f46:=Tryz.sort1.f46
 f47:=Tryz.sort1.f47
 f48:=Tryz.sort1.f48
 f49:=Tryz.sort1.f49
 f50:=Tryz.sort1.f50
 f57:=Tryz.sort1.f57
 t0:=Tryz.sort1.t0
 a0:=Tryz.sort1.a0
 z0:=Tryz.sort1.z0
 v0:=Tryz.sort1.v0
 t3:=Tryz.sort1.t3
 a3:=Tryz.sort1.a3
 z3:=Tryz.sort1.z3
 v3:=Tryz.sort1.v3
 t4:=Tryz.sort1.t4
 a4:=Tryz.sort1.a4
 z4:=Tryz.sort1.z4
 v4:=Tryz.sort1.v4
 t5:=Tryz.sort1.t5
 a5:=Tryz.sort1.a5
 z5:=Tryz.sort1.z5
 v5:=Tryz.sort1.v5
 t9:=Tryz.sort1.t9
 a9:=Tryz.sort1.a9
 z9:=Tryz.sort1.z9
 v9:=Tryz.sort1.v9
 t22:=Tryz.sort1.t22
 a22:=Tryz.sort1.a22
 z22:=Tryz.sort1.z22
 v22:=Tryz.sort1.v22
 t25:=Tryz.sort1.t25
 a25:=Tryz.sort1.a25
 z25:=Tryz.sort1.z25
 v25:=Tryz.sort1.v25
 t39:=Tryz.sort1.t39
 a39:=Tryz.sort1.a39
 z39:=Tryz.sort1.z39
 v39:=Tryz.sort1.v39
 t45:=Tryz.sort1.t45
 a45:=Tryz.sort1.a45
 z45:=Tryz.sort1.z45
 v45:=Tryz.sort1.v45
 t46:=Tryz.sort1.t46
 a46:=Tryz.sort1.a46
 z46:=Tryz.sort1.z46
 v46:=Tryz.sort1.v46
 t50:=Tryz.sort1.t50
 a50:=Tryz.sort1.a50
 z50:=Tryz.sort1.z50
 v50:=Tryz.sort1.v50
 t53:=Tryz.sort1.t53
 a53:=Tryz.sort1.a53
 z53:=Tryz.sort1.z53
 v53:=Tryz.sort1.v53
 t55:=Tryz.sort1.t55
 a55:=Tryz.sort1.a55
 z55:=Tryz.sort1.z55
 v55:=Tryz.sort1.v55
 t66:=Tryz.sort1.t66
 a66:=Tryz.sort1.a66
 z66:=Tryz.sort1.z66
 v66:=Tryz.sort1.v66
 t70:=Tryz.sort1.t70
 a70:=Tryz.sort1.a70
 z70:=Tryz.sort1.z70
 v70:=Tryz.sort1.v70
 t76:=Tryz.sort1.t76
 a76:=Tryz.sort1.a76
 z76:=Tryz.sort1.z76
 v76:=Tryz.sort1.v76
 t77:=Tryz.sort1.t77
 a77:=Tryz.sort1.a77
 z77:=Tryz.sort1.z77
 v77:=Tryz.sort1.v77 }
open Go.Shelf Go.Gr
theorem zQ9:Enters Tryz.prog 76:=⟨Tryz.f76, Tryz.func76, by kernel_rfl, by kernel_rfl⟩
theorem zQ2:Enters Tryz.prog 77:=⟨Tryz.f77, Tryz.func77, by kernel_rfl, by kernel_rfl⟩
theorem zQV (f:Fld) (hl:f.vals.length <= 1000):∃ n:Int, ACall Tryz.prog G 67 [.agg (zHF f)] (.tup [ei n, .v (.bool (zHz f))]) /\ (zHz f = true -> n = rowsOf f):=by
 cases hs:zH2 f with
 | false=>exact ⟨0, by rw [show zHz f = false from by unfold zHz; rw [hs]; rfl]; exact zPl f hl hs, fun h=>by unfold zHz at h; rw [hs] at h; cases h⟩
 | true=>exact ⟨rowsOf f, by rw [show zHz f = zJM f from by unfold zHz; rw [hs]; rfl]; exact zQm f hl hs, fun _=>rfl⟩
def zHU (h:Nat -> Bool) (w r k:Nat) (nl:List Nat) (j:Nat):List Cr:=(List.range k).flatMap (zJq h w r) ++ (nl.take j).filterMap fun q=>bif !h k && h q then some (k, q) else none
theorem zP9 {h:Nat -> Bool} {w r k:Nat} {nl:List Nat}:zHU h w r k nl 0 = zIm h w r k 0:=by unfold zHU zIm; simp
theorem zOH {h:Nat -> Bool} {w r k j q:Nat} {nl:List Nat} (hq:nl[j]? = some q) (e:(!h k && h q) = true):zHU h w r k nl (j + 1) = zHU h w r k nl j ++ [(k, q)]:=by
 unfold zHU; rw [List.take_add_one, hq, Option.toList_some, List.filterMap_append]; simp [e]
theorem zPf {h:Nat -> Bool} {w r k j q:Nat} {nl:List Nat} (hq:nl[j]? = some q) (e:(!h k && h q) = false):zHU h w r k nl (j + 1) = zHU h w r k nl j:=by
 unfold zHU; rw [List.take_add_one, hq, Option.toList_some, List.filterMap_append]; simp [e]
theorem zMO {w k q:Nat}:zR1 (w:Int) (k:Int) false q = zIn w k q:=by
 unfold zR1; rw [zKe]; simp
theorem zOQ {h:Nat -> Bool} {w r k:Nat} {W R:Int} (hw:(w:Int) = W) (hr:(r:Int) = R):zHU h w r k (nbs W R (k:Int) false) (nbs W R (k:Int) false).length = zIm h w r (k + 1) 0:=by
 subst hw; subst hr
 rw [zJh, List.range_succ, List.flatMap_append]
 unfold zHU
 rw [List.take_length]
 congr 1
 rw [List.flatMap_cons, List.flatMap_nil, List.append_nil]
 unfold nbs zJq
 rw [List.filterMap_filter]
 have e:((w:Int) * (r:Int)).toNat = w * r:=by rw [← Int.natCast_mul]; exact Int.toNat_natCast _
 rw [e]
 congr 1
 funext q
 rw [zMO]
 cases zIn w k q <;> simp
theorem zOB {h:Nat -> Bool} {w r k:Nat} {nl:List Nat} {j:Nat} (hk:k <= 30) (hn:w * r <= 30) (hj:nl.length <= 30):(zHU h w r k nl j).length <= 930:=by
 have h1:∀ p, (zJq h w r p).length <= 30:=fun p=>by
  unfold zJq
  have:=List.length_filterMap_le (fun q=>bif zIn w p q && (!h p && h q) then some (p, q) else none) (List.range (w * r))
  rw [List.length_range] at this; omega
 have h2:=zH9 h1 (List.range k)
 have h3:=List.length_filterMap_le (fun q=>bif !h k && h q then some (k, q) else none) (nl.take j)
 rw [List.length_range] at h2
 rw [List.length_take] at h3
 unfold zHU
 rw [List.length_append]; omega
theorem zOw {h:Nat -> Bool} {k q:Nat} (hne:q ≠ k):((h k != h q) && (((crP h k q).1:Int) == (k:Int))) = (!h k && h q):=by
 unfold crP
 cases h k <;> cases h q <;> simp [hne] <;> omega
theorem zQg {h:Nat -> Bool} {k q:Nat} (e:(!h k && h q) = true):crP h k q = (k, q):=by
 unfold crP
 cases hk:h k <;> simp [hk] at e ⊢
theorem zQK {w a b:Nat} (h:zIn w a b = true):b ≠ a:=fun e=>by
 subst e
 unfold zIn at h
 simp at h
def JJk (h:Nat -> Bool) (w r k:Nat):List (Cr × List Cr):=(((wP w r).take k).flatMap (zHO h w)).foldl jn2 []
def JJ (h:Nat -> Bool) (w r:Nat):List (Cr × List Cr):=JJk h w r (wP w r).length
theorem zNV {h:Nat -> Bool} {w r k p:Nat} (hp:(wP w r)[k]? = some p):(zHO h w p).foldl jn2 (JJk h w r k) = JJk h w r (k + 1):=by
 unfold JJk; rw [List.take_add_one, hp, Option.toList_some, List.flatMap_append, List.foldl_append]; simp
theorem zNC {h:Nat -> Bool} {w p:Nat}:(zHO h w p).length <= 2:=by
 unfold zHO zJ6
 have:∀ l:List Cr, (two l).length <= 2:=fun l=>by unfold two; split <;> simp
 exact this _
theorem zOM {h:Nat -> Bool} {w r k:Nat} (hw6:w <= 6) (hwr:w * r <= 30) (x:Cr):(zHu x [] (JJk h w r k)).length <= 900:=by
 by_cases hw:1 < w
 ·
  unfold JJk
  rw [zJe fun p hp=>by
   obtain ⟨c, _, hc⟩:=List.mem_flatMap.1 hp
   exact (zJA hw p hc).2.2]
  show (([]:List Cr) ++ _).length <= 900
  rw [List.nil_append]
  have h1:=zH9 (g:=prt x) (m:=1) (fun q=>zeB x q) (((wP w r).take k).flatMap (zHO h w))
  have h2:=zH9 (g:=zHO h w) (m:=2) (fun p=>zNC) ((wP w r).take k)
  have h3:=zJz hwr
  rw [List.length_take] at h2
  omega
 ·
  unfold JJk
  rw [cells_one (by omega)]
  simp [zHu]
theorem zOf {h:Nat -> Bool} {w r:Nat} {x:Cr} (hw6:w <= 6) (hr:r <= 5):(pts h w r x).length <= 2:=by
 by_cases hw:1 < w
 ·
  exact zM9 hw hw6 hr
 ·
  unfold pts; rw [cells_one (by omega)]; simp
theorem zRb {h:Nat -> Bool} {w r:Nat} (hw6:w <= 6) (hr:r <= 5) (x:Cr):(zHu x [] (JJ h w r)).length <= 2 /\ sort2 (zHu x [] (JJ h w r)) = nbC h w r x:=by
 unfold JJ JJk
 rw [List.take_length, zMj hw6]
 exact ⟨zOf hw6 hr, rfl⟩
theorem zPg {nb:Cr -> List Cr} {s:List Cr × List (List Cr)} {p:Nat} {c:Cr} {l:List Cr} (hp:p < 2) (h2:l.length <= 2) (e:sort2 l = nb c):(!s.1.contains c && decide ((((l.map rCr).length:Nat):Int) <= (p:Int) + 1)) = !skB nb s p c:=by
 unfold skB
 rw [← e, zIA, List.length_map, Bool.eq_iff_iff]
 simp only[zLa, Bool.not_eq_true', Bool.or_eq_false_iff, decide_eq_true_eq, Bool.and_eq_false_iff, beq_eq_false_iff_ne]
 constructor
 ·
  rintro ⟨h1, h3⟩
  exact ⟨h1, by omega⟩
 ·
  rintro ⟨h1, h3⟩
  exact ⟨h1, by omega⟩
theorem zRv (ok:Nat -> Prop) (W:World) (x y:List Cr) (u v:Value) (hx:x ≠ []) (hy:y ≠ []) (fu:Fits ok W (zHA x) u) (fv:Fits ok W (zHA y) v):
  Calls Tryz.prog 77 #[u, v] W fun e w'=>e = .returned (.int .i64 (zHV (pF x) (pF y))) /\ ∃ q os', w' = Sort.grow (W.drewN q) os':=by
 have key:∀ (l:List Cr) (z:Value), l ≠ [] -> Fits ok W (zHA l) z -> ∃ b off n c, z = .slice (some ⟨b, off, none⟩) n c /\ 0 < n /\ W.cell? ⟨b, off, none⟩ = some (.int .i64 (pF l).1) /\ W.cell? ⟨b, off + 1, none⟩ = some (.int .i64 (pF l).2):=fun l z hl hz=>by
  unfold zHA at hz
  simp only[Fits] at hz
  obtain ⟨a, c, size, rfl, h1, h2, h3, h4⟩:=hz
  cases l with
  | nil=>exact absurd rfl hl
  | cons q t=>
   obtain ⟨b, off, rfl, hb, hr⟩:=h4 (by simp)
   simp only[List.map_cons, FitsR] at hr
   have h5:=FitsC.get (i:=0) (x:=.v (.int .i64 (q.1:Int))) hr.1 rfl
   have h6:=FitsC.get (i:=1) (x:=.v (.int .i64 (q.2:Int))) hr.1 rfl
   obtain ⟨u1, g1, _, g2⟩:=h5
   obtain ⟨u2, g3, _, g4⟩:=h6
   simp only[Fits] at g2 g4
   rw [g2.1] at g1
   rw [g4.1] at g3
   exact ⟨b, off, _, c, rfl, by simp, g1, g3⟩
 obtain ⟨b, off, n, c, rfl, h1, h2, h3⟩:=key x u hx fu
 obtain ⟨b', off', n', c', rfl, h4, h5, h6⟩:=key y v hy fv
 exact x77 b off n c b' off' n' c' (pF x) (pF y) W h1 h4 h2 h3 h5 h6
theorem zOk {nb:Cr -> List Cr} {all:List Cr} (G:Gph nb all):∀ l ∈ (stM nb all 2).2, l ≠ []:=fun l hl=>by
 rw [← zKm (m:=1) (by omega)] at hl
 exact (zJ7 G (by omega) _).2.2 l hl
theorem zNW {k:Nat} (L:List (List Cr)):PO.okL k (.row (L.map rLn)):=fun r hr x hx=>by
 obtain ⟨c, _, rfl⟩:=List.mem_map.1 hr
 rw [List.mem_singleton.1 hx]; trivial
instance:Inhabited (List Cr):=⟨[]⟩
theorem hix2 {p:Nat} (h:p < 2):[ei 1, ei 2][((p:Nat):Int).toNat]? = some (ei ((p:Int) + 1)):=by
 have:p = 0 ∨ p = 1:=by omega
 rcases this with rfl | rfl <;> rfl
theorem zQD (f:Fld) (lvl:Int) (hl:f.vals.length <= 1000) (hf:zHz f = true) (hlv:inB lvl 1 99999 = true):ACall Tryz.prog G 27 [.agg (zHF f), ei lvl] (.tup [zH7 (zHT (hiF f lvl) (wF f) (rF f)), ei 0]):=by
 obtain ⟨zw, w1, w6, r1, r5, hlen⟩:=zNh hf
 have hwr:=zKu w6 r5
 obtain ⟨b1, b2, b3⟩:=zJI hf
 refine Exists.elim (zQV (G:=G) f hl) (fun R hR=>?_)
 have hRr:=hR.2 hf
 have zr:((rF f:Nat):Int) = R:=by rw [hRr]; unfold rF; have hq:=hf; unfold zHz at hq; simp only[zLa] at hq; have:=(zKT hq.1).2.2; omega
 have hw1:1 <= f.wide /\ f.wide <= 6:=by omega
 have hr1:1 <= R /\ R <= 5:=by omega
 have h70:=fun a b ha hb=>f70 (G:=G) f R lvl a b ha hb hl
 have h74:=fun J p hp hJ=>m74 (G:=G) f R lvl (.psl 2 (zH1 (hiF f lvl) (wF f) (rF f)).length) (zH1 (hiF f lvl) (wF f) (rF f)) J (wF f) p hp hl (show 2 < 3 by omega) rfl hJ
 have hgr:(.agg (zId f.wide R):AV) = .agg (zId ((wF f:Nat):Int) ((rF f:Nat):Int)):=by rw [zw, zr]
 generalize hiF f lvl = h at h70 h74 ⊢
 generalize wF f = w at zw w1 w6 hlen hwr h74 hgr ⊢
 generalize rF f = r at r1 r5 hlen hwr zr h74 hgr ⊢
 have hal:=zKi (h:=h) hwr
 have hG:=zMI (h:=h) w6 r5
 have hnbJ:=fun x=>zRb (h:=h) w6 r5 x
 have hca:zIm h w r (w * r) 0 = zH1 h w r:=by rw [zJh]; rfl
 have hsrt:=zQF h w r
 have huF:∀ m:List (List Cr), m.Perm (stM (nbC h w r) (zH1 h w r) 2).2 -> m.Pairwise (fun a b=>ltOf (fun x y:List Cr=>zHV (pF x) (pF y)) b a = false) -> m = zHT h w r:=uF w6 r5
 have hJF:JJk h w r (wP w r).length = JJ h w r:=rfl
 have hLn:(zHT h w r).length = (stM (nbC h w r) (zH1 h w r) 2).2.length:=(lines_perm).length_eq
 generalize JJ h w r = JF at hnbJ hJF
 generalize zHT h w r = LC at huF hLn ⊢
 generalize nbC h w r = nb at hnbJ hG huF hLn
 generalize zH1 h w r = all at h74 hal hG hca hsrt huF hLn
 have hcl:=hG.cl
 have hcin:=fun p (hp:p ∈ wP w r)=>zSj hp
 have hD5:∀ x ∈ [.pub (.v (.int .i64 f.wide)), .pub (ei R), .pub (zO f.vals), .pub (ei lvl), .psl 2 all.length], EV.lt 3 x:=fun x hx=>by
  simp only[List.mem_cons, List.not_mem_nil, or_false] at hx
  rcases hx with rfl | rfl | rfl | rfl | rfl <;> first | trivial | (simp [EV.lt])
 refine zS Tryz.func27 rfl (by kernel_rfl) rfl ?_
 refine zuy (zh ?_)
 refine zg rfl rfl (jf rfl (zY rfl)) ?_
 refine zg rfl rfl (zn rfl rfl) ?_
 refine zg rfl rfl (zn rfl rfl) ?_
 refine zo (zf (zuy (zh ?_)))
 refine zg rfl rfl (zZ rfl rfl zHQ (by exact zLb rfl)) ?_
 refine zg rfl rfl (zy (av:=[_]) rfl ⟨rfl, trivial⟩ hR.1) ?_
 refine zg rfl rfl (zq rfl rfl) ?_
 refine zg rfl rfl (zN rfl rfl rfl) ?_
 refine zg rfl rfl (zN rfl rfl rfl) ?_
 refine zg rfl rfl (zn rfl rfl) ?_
 refine zg rfl rfl (zn rfl rfl) ?_
 refine zo (zf (zuy (zuy (zh ?_))))
 refine zg rfl rfl (zi rfl rfl) ?_
 refine zg rfl rfl (je rfl rfl) ?_
 refine zg rfl rfl (zi rfl rfl) ?_
 refine zk rfl rfl rfl (fun hg=>zi rfl rfl) ?_
 refine zk rfl rfl rfl (fun hg=>zy (av:=[_, _, _]) rfl ⟨((if_pos hg)), rfl, rfl, trivial⟩ (f68 _ _ _)) ?_
 refine zk rfl rfl rfl (fun hg=>je rfl (ifp hg)) ?_
 refine zg rfl rfl (qU rfl rfl rfl rfl) ?_
 refine zo (zf (zx rfl (fun h0=>?_) (fun h0=>?_)))
 ·
  exfalso; simp [hf, hlv] at h0
 ·
  refine zC (zf (zuy (zh ?_)))
  refine zg rfl rfl (zu rfl rfl zHB) ?_
  refine zg rfl rfl (zA rfl rfl rfl ty3) ?_
  refine zg rfl rfl (zi rfl rfl) ?_
  refine zg rfl rfl (zb3 (cs:=[_, _]) rfl zRm rfl ⟨_, _, rfl, (jF rfl), ⟨_, _, rfl, (jF rfl), rfl⟩⟩ (by rfl) (by simp [ofV])) ?_
  refine zg rfl rfl (zu rfl rfl zHx) ?_
  refine zg rfl rfl (zA rfl rfl rfl zHR) ?_
  refine zg rfl rfl (zi rfl rfl) ?_
  refine jb rfl (zlZ rfl rfl) ?_
  refine zg rfl rfl (zfH (cs:=[_, _, _, _, _, _]) rfl zQ0 rfl ⟨_, _, rfl, zY rfl, ⟨_, _, rfl, (kQ rfl), ⟨_, _, rfl, jF rfl, ⟨_, _, rfl, zOg rfl rfl, rfl⟩⟩⟩⟩ (by rfl) (by simp [ofV])) ?_
  refine jb rfl (wJ rfl rfl zQ8 rfl rfl) ?_
  refine jb rfl (qG rfl rfl rfl rfl rfl rfl (zkN rfl) zJS (by rfl) (by exact zLb rfl)) ?_
  refine zo (zf (zuy (zuy ?_)))
  refine qx (zl2 (k:=1) (i:=0) (j:=4) rfl rfl rfl) ?_
  refine zh ?_
  refine zg rfl rfl (zu rfl rfl zHx) ?_
  refine zg rfl rfl (zA rfl rfl rfl zHR) ?_
  refine zg rfl rfl (zuB rfl rfl Tryz.underlying27) ?_
  refine zg rfl rfl (zi rfl rfl) ?_
  refine zo (zf (zB ?_))
  refine qx zKV ?_
  refine qy (ι:={ k:Nat // k <= w * r }) (fun k=>⟨(NS.of Tryz.f27.ntmps).marked, frL [(1, I lvl), (2, .pub (.ptr (zHF f))), (8, .pp 1 1 0 0), (44, I (f.vals.length:Int)), (45, I (k.1:Int))], [zlS zHG (zHq 3 []), .row [(DF f R lvl (.psl 2 (zIm h w r k.1 0).length))], .row ((zIm h w r k.1 0).map rCr)]⟩) (fun k=>w * r - k.1) (⟨0, by omega⟩) ?_ ?_
  ·
   exact zt _ ⟨rfl, rfl, rfl, rfl, rfl, trivial⟩ (rfl)
  ·
   rintro ⟨k, hk⟩
   dsimp only
   refine zuy (zh ?_)
   refine zg rfl rfl (zUB rfl rfl rfl) ?_
   refine zo (zf (zuy (zx rfl (fun h1=>?_) (fun h1=>?_))))
   ·
    have hlt:k < f.vals.length:=by simpa using h1
    have hnle:(nbs f.wide R (k:Int) false).length <= 30:=by unfold nbs; refine Nat.le_trans (List.length_filter_le _ _) ?_; rw [List.length_range, ← zw, ← zr, ← Int.natCast_mul, Int.toNat_natCast]; exact hwr
    refine zC (zf (zuy (zB (zuy (zh ?_)))))
    refine zg rfl rfl (zi rfl rfl) ?_
    refine vI (cs:=[_]) rfl rfl rfl rfl rfl rfl rfl zv3 ty3 rfl (by rfl) (jF rfl) rfl ?_
    refine zo (zf (zuy (zh ?_)))
    refine zg rfl rfl (qE rfl rfl rfl rfl zSq) ?_
    refine zg rfl rfl (qN (cs:=zId f.wide R) rfl rfl rfl rfl rfl (by exact zLb rfl) rfl zIO) ?_
    refine zg rfl rfl (zA rfl rfl rfl ty3) ?_
    refine zg rfl rfl (zy (av:=[_, _, _]) rfl ⟨rfl, rfl, rfl, trivial⟩ (f69 f.wide R (k:Int) false)) ?_
    refine zo (zf (zB ?_))
    refine zfU (nbs f.wide R (k:Int) false) (fun (q:Nat)=>[ei (q:Int)]) [1, 2, 8, 9, 44, 45] (fun j=>True) (fun j=>[zlS zHG (zHq 3 []), .row [(DF f R lvl (.psl 2 (zHU h w r k (nbs f.wide R (k:Int) false) j).length))], .row ((zHU h w r k (nbs f.wide R (k:Int) false) j).map rCr)]) (trivial) rfl (zQN f.wide R (k:Int) false hw1 hr1 (by omega)) (by rw [zP9]) (fun _=>rfl) rfl rfl ?_ ?_
    ·
     intro j q gh lp hd1 hd2 hq hV
     have hqm:=zPD.1 (List.mem_of_getElem? hq)
     have hql:q < f.vals.length:=by have:=hqm.1; rw [← zw, ← zr, ← Int.natCast_mul, Int.toNat_natCast] at this; omega
     have hqb:zIn w k q = true:=by have:=hqm.2; rw [← zw, zMO] at this; exact this
     have hqn:=zQK hqb
     have hcl2:=zOB (h:=h) (w:=w) (r:=r) (k:=k) (nl:=(nbs f.wide R (k:Int) false)) (j:=j) (by omega) hwr hnle
     refine zh ?_
     refine zg rfl rfl (zn rfl rfl) ?_
     refine zo ?_
     refine ⟨rfl, rfl, ?_⟩
     refine zB (zuy (zh ?_))
     refine zg rfl rfl (zuz (r:=(DF f R lvl (.psl 2 (zHU h w r k (nbs f.wide R (k:Int) false) j).length))) rfl rfl rfl rfl rfl (by exact zLb rfl) rfl zJS) ?_
     refine zg rfl rfl (zA rfl rfl rfl ty3) ?_
     refine zg rfl rfl (zi rfl rfl) ?_
     refine zg rfl rfl (zNb (av:=[.agg (eDr f R lvl), ei (k:Int), ei (q:Int)]) rfl ⟨_, _, rfl, zPR rfl, _, _, rfl, AVle.refl _, _, _, rfl, AVle.refl _, rfl⟩ (h70 k q hlt hql)) ?_
     refine zg rfl rfl (zq rfl rfl) ?_
     refine zg rfl rfl (zN rfl rfl rfl) ?_
     refine zg rfl rfl (zN rfl rfl rfl) ?_
     refine vI  rfl rfl rfl rfl rfl rfl rfl zKI zHs rfl (by rfl) (zY rfl) rfl ?_
     refine zg rfl rfl (zn rfl rfl) ?_
     refine zo (zf (zuy (zh ?_)))
     refine zg rfl rfl (zi rfl rfl) ?_
     refine zg rfl rfl (zi rfl rfl) ?_
     refine zk rfl rfl rfl (fun hg=>zu rfl rfl zJn) ?_
     refine zk rfl rfl rfl (fun hg=>zA rfl (ifp hg) rfl ty3) ?_
     refine zk rfl rfl rfl (fun hg=>zA rfl rfl rfl ty3) ?_
     refine zk rfl rfl rfl (fun hg=>qJ rfl (ifp hg) (ifp hg)) ?_
     refine zg rfl rfl (qI rfl rfl rfl rfl) ?_
     refine zo (zf (zx rfl (fun h2=>?_) (fun h2=>?_)))
     ·
      rw [zOw hqn] at h2
      have hcj:=zOH (h:=h) (w:=w) (r:=r) hq h2
      have hlc:=zQg h2
      have hmJ:[zlS zHG (zHq 3 []), PO.row [(DF f R lvl (.psl 2 ((zHU h w r k (nbs f.wide R (k:Int) false) j).length + 1)))], PO.row ((zHU h w r k (nbs f.wide R (k:Int) false) j).map rCr ++ [rCr (crP h k q)])] = [zlS zHG (zHq 3 []), .row [(DF f R lvl (.psl 2 (zHU h w r k (nbs f.wide R (k:Int) false) (j + 1)).length))], .row ((zHU h w r k (nbs f.wide R (k:Int) false) (j + 1)).map rCr)]:=by rw [hcj, hlc, List.map_append, List.length_append]; rfl
      refine zh ?_
      refine zg rfl rfl (qE rfl rfl rfl rfl zJr) ?_
      refine zg rfl rfl (zK rfl rfl rfl rfl rfl rfl zKE) ?_
      refine zg rfl rfl (zZ rfl rfl zHs (by exact zLb rfl)) ?_
      refine zg rfl rfl (qg (size:=2) (rows:=[[_, _]]) rfl Tryz.underlying48 zKq rfl (by decide) rfl (by decide) ⟨_, _, rfl, (zY rfl), rfl⟩ (by rfl) (by simp [ofV]) rfl (by simp)) ?_
      refine jb rfl (vS rfl rfl rfl rfl (List.length_map _) rfl zt5 zHv (by simp [rCr]) (by have:=hcl2; show ((zHU h w r k (nbs f.wide R (k:Int) false) j).length + 1) * 16 <= 140737488355328; omega) (by have:=hcl2; show (zHU h w r k (nbs f.wide R (k:Int) false) j).length + 1 <= maxLen; unfold maxLen; omega)) ?_
      refine zg rfl rfl (qE rfl rfl rfl rfl zJr) ?_
      refine jb rfl (qG rfl rfl rfl rfl rfl rfl (zbO rfl rfl (by simp)) zKE (by rfl) (by exact zLb rfl)) ?_
      refine zo (zD ?_)
      exact ⟨rfl, trivial, zt (mem':=[zlS zHG (zHq 3 []), .row [(DF f R lvl (.psl 2 (zHU h w r k (nbs f.wide R (k:Int) false) (j + 1)).length))], .row ((zHU h w r k (nbs f.wide R (k:Int) false) (j + 1)).map rCr)]) [] trivial hmJ⟩
     ·
      rw [zOw hqn] at h2
      have hcj:=zPf (h:=h) (w:=w) (r:=r) hq h2
      have hmJ:[zlS zHG (zHq 3 []), .row [(DF f R lvl (.psl 2 (zHU h w r k (nbs f.wide R (k:Int) false) j).length))], .row ((zHU h w r k (nbs f.wide R (k:Int) false) j).map rCr)] = [zlS zHG (zHq 3 []), .row [(DF f R lvl (.psl 2 (zHU h w r k (nbs f.wide R (k:Int) false) (j + 1)).length))], .row ((zHU h w r k (nbs f.wide R (k:Int) false) (j + 1)).map rCr)]:=by rw [hcj]
      refine zC (zD ?_)
      exact ⟨rfl, trivial, zt (mem':=[zlS zHG (zHq 3 []), .row [(DF f R lvl (.psl 2 (zHU h w r k (nbs f.wide R (k:Int) false) (j + 1)).length))], .row ((zHU h w r k (nbs f.wide R (k:Int) false) (j + 1)).map rCr)]) [] trivial hmJ⟩
    ·
     intro hVn
     have hce:=zOQ (h:=h) (w:=w) (r:=r) (k:=k) (W:=f.wide) (R:=R) zw zr
     skip
     refine zD (zD (zf (zh ?_)))
     refine zg rfl rfl (zV rfl rfl rfl ⟨(by omega), (by omega)⟩) ?_
     refine zg rfl rfl (zi rfl rfl) ?_
     refine zo ?_
     exact ⟨⟨k + 1, by omega⟩, by dsimp only; omega, zt _ ⟨rfl, rfl, rfl, rfl, rfl, trivial⟩ ((congrArg (fun z:List Cr=>([zlS zHG (zHq 3 []), .row [(DF f R lvl (.psl 2 z.length))], .row (z.map rCr)]:List PO)) hce))⟩
   ·
    have hge:k = w * r:=by have:=h1; simp at this; omega
    subst hge
    refine qp (zRQ (zRQ (qw (zf (zuy ?_)))))
    refine qx (zt (mem':=[zlS zHG (zHq 3 []), .row [(DF f R lvl (.psl 2 all.length))], .row (all.map rCr)]) [(1, I lvl), (2, .pub (.ptr (zHF f))), (8, .pp 1 1 0 0)] ?_ ?_) ?_
    ·
     exact ⟨rfl, rfl, rfl, trivial⟩
    ·
     exact (congrArg (fun z:List Cr=>([zlS zHG (zHq 3 []), .row [(DF f R lvl (.psl 2 z.length))], .row (z.map rCr)]:List PO)) hca)
    refine zh ?_
    refine zg rfl rfl (qE rfl rfl rfl rfl zJr) ?_
    refine zg rfl rfl (zK rfl rfl rfl rfl rfl rfl zKE) ?_
    refine jb rfl (zSb (k:=2) (ls:=all.map pI) (ls':=all.map pI) (cf:=zHV) Tryz.sortK rfl rfl rfl rfl rfl (congrArg (fun z=>some (PO.row z)) (zJy _)) (List.length_map _) (by rw [List.length_map]; omega) zOt zP2 Tryz.isAgg50 Tryz.sizeOf50 zSO x72 hsrt) ?_
    refine zo (zf (zuy (zuy ?_)))
    refine qx (zt (mem':=lM (DF f R lvl (.psl 2 all.length)) all (JJk h w r 0)) [(1, I lvl), (2, .pub (.ptr (zHF f))), (8, .pp 1 1 0 0)] ?_ ?_) ?_
    ·
     exact ⟨rfl, rfl, rfl, trivial⟩
    ·
     exact (by rw [← zJy]; rfl)
    refine zh ?_
    refine zg rfl rfl (qE rfl rfl rfl rfl zSq) ?_
    refine zg rfl rfl (qN (cs:=zId f.wide R) rfl rfl rfl rfl rfl (by exact zLb rfl) rfl zIO) ?_
    refine zg rfl rfl (zcA (fs:=[_]) (cs:=[]) rfl rfl rfl) ?_
    refine zo (zf (zB ?_))
    refine zfU (wP w r) (fun (p:Nat)=>[.agg (eP4 w p)]) [1, 2, 8] (fun k=>True) (fun k=>lM (DF f R lvl (.psl 2 all.length)) all (JJk h w r k)) (trivial) rfl (hgr ▸ zRN w r ⟨w1, w6⟩ ⟨r1, r5⟩) rfl (fun _=>rfl) rfl rfl ?_ ?_
    ·
     intro k p gh lp hd1 hd2 hq hV
     refine zh ?_
     refine vI  rfl rfl rfl rfl rfl rfl rfl zQO zPV rfl (by rfl) (zY rfl) rfl ?_
     refine zo ?_
     refine ⟨rfl, rfl, ?_⟩
     refine zB (zh ?_)
     refine zg rfl rfl (zuz (r:=(DF f R lvl (.psl 2 all.length))) rfl rfl rfl rfl rfl (by exact zLb rfl) rfl zJS) ?_
     refine zg rfl rfl (zZ rfl rfl zPV (by exact zLb rfl)) ?_
     refine jb rfl (zij (f:=74) (fs:=[]) (cs:=[]) (av:=[.mix (DF f R lvl (.psl 2 all.length)), .pub (.agg (eP4 w p))]) rfl rfl ⟨rfl, rfl, rfl⟩ ⟨rfl, rfl, trivial⟩ (h74 (JJk h w r k) p (by rw [hlen]; exact hcin p (List.mem_of_getElem? hq)) (zOM w6 hwr))) ?_
     refine zo (zD ?_)
     exact ⟨rfl, trivial, zt (mem':=lM (DF f R lvl (.psl 2 all.length)) all (JJk h w r (k + 1))) [] trivial (congrArg (fun J=>lM (DF f R lvl (.psl 2 all.length)) all J) (zNV hq))⟩
    ·
     intro hVn
     refine zD (zf (zuy (zh ?_)))
     refine jb rfl (zlZ rfl rfl) ?_
     refine zg rfl rfl (qV rfl rfl) ?_
     refine zo (zf (zuy (zh ?_)))
     refine zg rfl rfl (zn rfl rfl) ?_
     refine zo (zf (zuy (zuy ?_)))
     refine qx (kG 15 rfl) ?_
     refine qx (zt (mem':=wM (DF f R lvl (.psl 2 all.length)) all JF [] [.row []]) [(8, .pp 1 1 0 0), (14, .mpv (3 + JF.length)), (15, .psl (3 + JF.length + 1) 0)] ?_ ?_) ?_
     ·
      exact ⟨rfl, (congrArg EV.mpv (lM_len.trans (by rw [hJF]))), (congrArg (fun k=>EV.psl k 0) (by rw [List.length_append, lM_len, hJF]; rfl)), trivial⟩
     ·
      exact ((List.append_assoc _ _ _).trans (by rw [hJF]; rfl))
     refine zh ?_
     refine zg rfl rfl (znx (cs:=[_, _]) rfl zSf rfl ⟨_, _, rfl, (jF rfl), ⟨_, _, rfl, (jF rfl), rfl⟩⟩ (by rfl) (by simp [ofV])) ?_
     refine zg rfl rfl (zi rfl rfl) ?_
     refine zo (zf (zB ?_))
     refine qx zKV ?_
     refine qy (ι:={ p:Nat // p <= 2 }) (fun p=>⟨(NS.of Tryz.f27.ntmps).marked, frL [(8, .pp 1 1 0 0), (14, .mpv (3 + JF.length)), (15, .psl (3 + JF.length + 1) (stM nb all p.1).2.length), (85, .pub (.agg [ei 1, ei 2])), (86, I (p.1:Int))], wM (DF f R lvl (.psl 2 all.length)) all JF (stM nb all p.1).1 [.row ((stM nb all p.1).2.map rLn)]⟩) (fun p=>2 - p.1) (⟨0, by omega⟩) ?_ ?_
     ·
      exact zt _ ⟨rfl, rfl, rfl, rfl, rfl, trivial⟩ (rfl)
     ·
      rintro ⟨p, hp⟩
      dsimp only
      refine zuy (zh ?_)
      refine zg rfl rfl (zUB rfl rfl rfl) ?_
      refine zo (zf (zuy (zx rfl (fun h3=>?_) (fun h3=>?_))))
      ·
       have hp2:p < 2:=by simp at h3; omega
       have hme:=zKm (nb:=nb) (all:=all) hp2
       refine zC (zf (zuy (zB (zuy (zh ?_)))))
       refine zg rfl rfl (ztp rfl rfl rfl zMc (fun e he=>by rw [Tryz.underlying123] at he; cases he; exact ty3) (by omega) (by omega) (hix2 hp2)) ?_
       refine zg rfl rfl (zn rfl rfl) ?_
       refine zo (zf (zuy (zh ?_)))
       refine zg rfl rfl (qE rfl rfl rfl rfl zJr) ?_
       refine zg rfl rfl (zK rfl rfl rfl rfl rfl rfl zKE) ?_
       refine zg rfl rfl (jE rfl rfl rfl (List.length_map _) Tryz.underlying48) ?_
       refine zg rfl rfl (zi rfl rfl) ?_
       refine zo (zf (zB ?_))
       refine qy (ι:={ k:Nat // k <= all.length }) (fun k=>⟨(NS.of Tryz.f27.ntmps).marked, frL [(8, .pp 1 1 0 0), (14, .mpv (3 + JF.length)), (15, .psl (3 + JF.length + 1) (sK nb all p k.1).2.length), (17, I ((p:Int) + 1)), (85, .pub (.agg [ei 1, ei 2])), (86, I (p:Int)), (90, .psl 2 all.length), (91, I (all.length:Int)), (92, I (k.1:Int))], wM (DF f R lvl (.psl 2 all.length)) all JF (sK nb all p k.1).1 [.row ((sK nb all p k.1).2.map rLn)]⟩) (fun k=>all.length - k.1) (⟨0, by omega⟩) ?_ ?_
       ·
        exact zt _ ⟨rfl, rfl, (congrArg (fun z:List Cr × List (List Cr)=>EV.psl (3 + JF.length + 1) z.2.length) sK_0.symm), rfl, rfl, rfl, rfl, rfl, rfl, trivial⟩ ((congrArg (fun z:List Cr × List (List Cr)=>wM (DF f R lvl (.psl 2 all.length)) all JF z.1 [.row (z.2.map rLn)]) sK_0.symm))
       ·
        rintro ⟨k, hk⟩
        dsimp only
        refine zuy (zh ?_)
        refine zg rfl rfl (zUB rfl rfl rfl) ?_
        refine zo (zf (zuy (zx rfl (fun h4=>?_) (fun h4=>?_))))
        ·
         have hlt:k < all.length:=by simpa using h4
         have hk3:=(zJ7 hG hp2 k).2.1
         have hsn:=zPg (nb:=nb) (s:=(sK nb all p k)) (p:=p) (c:=all[k]) hp2 (hnbJ all[k]).1 (hnbJ all[k]).2
         refine zC (zf (zuy (zB (zuy (zh ?_)))))
         refine zg rfl rfl (qc rfl rfl rfl rfl (List.length_map _) zt9 (by omega) (by omega) zHv) ?_
         refine zg rfl rfl (qN (cs:=eCr all[k]) rfl rfl rfl (List.length_map _) (zJD hlt) (show 0 + 2 <= (rCr _).length from Nat.le_refl 2) rfl zHs) ?_
         refine vI  rfl rfl rfl rfl rfl rfl rfl zKI zHs rfl (by rfl) (zY rfl) rfl ?_
         refine zo (zf (zuy (zh ?_)))
         refine zg rfl rfl (zM rfl rfl) ?_
         refine zg rfl rfl (zZ rfl rfl zHs (by exact zLb rfl)) ?_
         refine zg rfl rfl (zM3 (zR2 all[k] (sK nb all p k).1) (zdD (enc:=zHG) (es:=zKC (sK nb all p k).1) (a:=all[k]) (z:=.bool false) rfl rfl zKo rfl (zeW (l:=[.int .i64 (all[k].1:Int), .int .i64 (all[k].2:Int)]) rfl) Tryz.underlying122 zSG zv4)) ?_
         refine zg rfl rfl (je rfl rfl) ?_
         refine zg rfl rfl (zi rfl rfl) ?_
         refine zk rfl rfl rfl (fun hg=>qE (rows:=[(DF f R lvl (.psl 2 all.length))]) rfl rfl rfl rfl zJk) ?_
         refine zk rfl rfl rfl (fun hg=>zK (r:=(DF f R lvl (.psl 2 all.length))) (c:=.mpv 0) rfl (ifp hg) rfl rfl rfl rfl zMM) ?_
         refine zk rfl rfl rfl (fun hg=>zZ rfl rfl zHs (by exact zLb rfl)) ?_
         refine zk (x:=zHu all[k] (.pub (.v (.slice none 0 0))) (zHq 3 JF)) rfl rfl rfl (fun hg=>?_) ?_
         ·
          refine zdD (enc:=zHG) (es:=zHq 3 JF) (a:=all[k]) (z:=.slice none 0 0) (l:=0) rfl ?_ ?_ (kx:=.agg (eCr all[k])) ?_ (zeW (l:=[.int .i64 (all[k].1:Int), .int .i64 (all[k].2:Int)]) rfl) Tryz.underlying110 zSG zOU
          ·
           exact ifp hg
          ·
           rfl
          ·
           exact ifp hg
         refine zk rfl rfl rfl (fun hg=>zQw rfl (ifp hg) (zRi rfl) Tryz.underlying48) ?_
         refine zk rfl rfl rfl (fun hg=>zi rfl rfl) ?_
         refine zk rfl rfl rfl (fun hg=>zaq rfl (ifp hg) (ifp hg)) ?_
         refine zg rfl rfl (qI rfl rfl rfl rfl) ?_
         refine zo (zf (zx rfl (fun h5=>?_) (fun h5=>?_)))
         ·
          rw [hsn] at h5
          have hsg:=zPQ hG hp2 hlt (by simpa using h5)
          have hDx:∀ x ∈ (DF f R lvl (.psl 2 all.length)), EV.lt 3 x:=fun x hx=>by
           rw [show (DF f R lvl (.psl 2 all.length)) = [.pub (.v (.int .i64 f.wide)), .pub (ei R), .pub (zO f.vals), .pub (ei lvl), .psl 2 all.length] ++ [.mpv 0] from rfl] at hx
           rcases List.mem_append.1 hx with hx | hx
           ·
            exact hD5 x hx
           ·
            rw [List.mem_singleton] at hx; subst hx; simp [EV.lt]
          have hp5:EV.psl (3 + JF.length + 1) ((sK nb all p k).2.length + 1) = EV.psl (3 + JF.length + 1) (sK nb all p (k + 1)).2.length:=by rw [hsg.2.1]; simp
          have hm5:(wM (DF f R lvl (.psl 2 all.length)) all JF ((sK nb all p k).1 ++ (goW nb (sK nb all p k).1 all.length [] all[k])) [.row ((sK nb all p k).2.map rLn)]).set (3 + JF.length + 1) (.row ((sK nb all p k).2.map rLn ++ [rLn (goW nb (sK nb all p k).1 all.length [] all[k])])) = wM (DF f R lvl (.psl 2 all.length)) all JF (sK nb all p (k + 1)).1 [.row ((sK nb all p (k + 1)).2.map rLn)]:=by rw [hsg.2.1]; refine (wM_set (Y:=[]) (Z:=[.row ((sK nb all p k).2.map rLn)]) (i:=0)).trans ?_; simp
          refine zuy (zh ?_)
          refine zg rfl rfl (zuz (r:=(DF f R lvl (.psl 2 all.length))) rfl rfl rfl rfl rfl (by exact zLb rfl) rfl zJS) ?_
          refine zg rfl rfl (zZ rfl rfl zHs (by exact zLb rfl)) ?_
          refine zg rfl rfl (zM rfl rfl) ?_
          refine jb rfl (zij (f:=75) (fs:=[]) (cs:=[]) (av:=[.mix (DF f R lvl (.psl 2 all.length)), .pub (.agg (eCr all[k])), .mpv (3 + JF.length)]) rfl rfl ⟨rfl, rfl, rfl⟩ ⟨rfl, rfl, rfl, trivial⟩ (m75 _ _ _ _ (.psl 2 all.length) all JF [.row ((sK nb all p k).2.map rLn)] (sK nb all p k).1 nb all all[k] all.length hD5 ⟨zNW _, trivial⟩ hnbJ hcl (List.getElem_mem hlt) hsg.1 (Nat.le_refl _) (by omega))) ?_
          refine zg rfl rfl (qo rfl rfl) ?_
          refine zo (zf ?_)
          refine qx (zcT (k:=3 + JF.length + 1 + 1 + 2) (rows:=(goW nb (sK nb all p k).1 all.length [] all[k]).map eCr) [20] ?_ (List.length_map _) ?_) ?_
          ·
           exact (zIj (Y:=[.row ((sK nb all p k).2.map rLn)]) (i:=2)).trans (congrArg (fun z=>some (PO.row z)) (zIg _))
          ·
           intro d hd; rw [List.mem_singleton] at hd; subst hd; rfl
          refine qx (zt (mem':=wM (DF f R lvl (.psl 2 all.length)) all JF ((sK nb all p k).1 ++ (goW nb (sK nb all p k).1 all.length [] all[k])) ([.row ((sK nb all p k).2.map rLn)] ++ [.row [(DF f R lvl (.psl 2 all.length))], .row [[.mpv (3 + JF.length)]], .dead])) [(8, .pp 1 1 0 0), (14, .mpv (3 + JF.length)), (15, .psl (3 + JF.length + 1) (sK nb all p k).2.length), (17, I ((p:Int) + 1)), (20, .pub (zHA (goW nb (sK nb all p k).1 all.length [] all[k]))), (85, .pub (.agg [ei 1, ei 2])), (86, I (p:Int)), (90, .psl 2 all.length), (91, I (all.length:Int)), (92, I (k:Int))] ?_ ?_) ?_
          ·
           exact ⟨rfl, rfl, rfl, rfl, rfl, rfl, rfl, rfl, rfl, rfl, trivial⟩
          ·
           exact wM_set (Y:=[.row ((sK nb all p k).2.map rLn)]) (i:=2)
          refine qx (vO (l:=[(8, .pp 1 1 0 0), (14, .mpv (3 + JF.length)), (15, .psl (3 + JF.length + 1) (sK nb all p k).2.length), (17, I ((p:Int) + 1)), (20, .pub (zHA (goW nb (sK nb all p k).1 all.length [] all[k]))), (85, .pub (.agg [ei 1, ei 2])), (86, I (p:Int)), (90, .psl 2 all.length), (91, I (all.length:Int)), (92, I (k:Int))]) (3 + JF.length + 1 + 1 + 0) ⟨(show 1 < 3 + JF.length + 1 + 1 + 0 by omega), (show 3 + JF.length < 3 + JF.length + 1 + 1 + 0 by omega), (show 3 + JF.length + 1 < 3 + JF.length + 1 + 1 + 0 by omega), trivial, trivial, trivial, trivial, (show 2 < 3 + JF.length + 1 + 1 + 0 by omega), trivial, trivial, trivial⟩ ?_) ?_
          ·
           rw [show 3 + JF.length + 1 + 1 + 0 = 3 + JF.length + 1 + ([.row ((sK nb all p k).2.map rLn)]:List PO).length + 0 from rfl, zJY]; exact zMK (by simp <;> omega) (fun x hx=>EV.lt_mono (by simp <;> omega) (hDx x hx)) ⟨zNW _, trivial⟩
          refine qx (zt (mem':=wM (DF f R lvl (.psl 2 all.length)) all JF ((sK nb all p k).1 ++ (goW nb (sK nb all p k).1 all.length [] all[k])) [.row ((sK nb all p k).2.map rLn)]) [(8, .pp 1 1 0 0), (14, .mpv (3 + JF.length)), (15, .psl (3 + JF.length + 1) (sK nb all p k).2.length), (17, I ((p:Int) + 1)), (20, .pub (zHA (goW nb (sK nb all p k).1 all.length [] all[k]))), (85, .pub (.agg [ei 1, ei 2])), (86, I (p:Int)), (90, .psl 2 all.length), (91, I (all.length:Int)), (92, I (k:Int))] ?_ ?_) ?_
          ·
           exact ⟨rfl, rfl, rfl, rfl, rfl, rfl, rfl, rfl, rfl, rfl, trivial⟩
          ·
           exact zJY (Y:=[.row ((sK nb all p k).2.map rLn)]) (i:=0)
          refine zh ?_
          refine zg rfl rfl (zI rfl rfl) ?_
          refine zg rfl rfl (zq rfl rfl) ?_
          refine zg rfl rfl (qg (size:=1) (rows:=[[_]]) rfl Tryz.underlying37 zQ7 rfl (by decide) rfl (by decide) ⟨_, _, rfl, (kQ rfl), rfl⟩ (by rfl) (by simp [ofV]) rfl (by simp)) ?_
          refine jb rfl (vS (k:=3 + JF.length + 1) (rows:=(sK nb all p k).2.map rLn) (ns:=[rLn (goW nb (sK nb all p k).1 all.length [] all[k])]) rfl rfl rfl (zIj (Y:=[]) (i:=0)) (List.length_map _) rfl zPx zPs (by simp [rLn]) (by have:=hk3; show ((sK nb all p k).2.length + 1) * 24 <= 140737488355328; omega) (by have:=hk3; show (sK nb all p k).2.length + 1 <= maxLen; unfold maxLen; omega)) ?_
          refine zg rfl rfl (qo rfl rfl) ?_
          refine zo (zD (zf (zh ?_)))
          refine zg rfl rfl (zV rfl rfl rfl ⟨(by omega), (by omega)⟩) ?_
          refine zg rfl rfl (zi rfl rfl) ?_
          refine zo ?_
          exact ⟨⟨k + 1, by omega⟩, by dsimp only; omega, zt _ ⟨rfl, rfl, hp5, rfl, rfl, rfl, rfl, rfl, rfl, trivial⟩ (hm5)⟩
         ·
          rw [hsn] at h5
          have hsk:=zM4 hG hp2 hlt (by simpa using h5)
          have hp5:EV.psl (3 + JF.length + 1) (sK nb all p k).2.length = EV.psl (3 + JF.length + 1) (sK nb all p (k + 1)).2.length:=by rw [hsk]
          have hm5:wM (DF f R lvl (.psl 2 all.length)) all JF (sK nb all p k).1 [.row ((sK nb all p k).2.map rLn)] = wM (DF f R lvl (.psl 2 all.length)) all JF (sK nb all p (k + 1)).1 [.row ((sK nb all p (k + 1)).2.map rLn)]:=by rw [hsk]
          refine zC (zD (zf (zh ?_)))
          refine zg rfl rfl (zV rfl rfl rfl ⟨(by omega), (by omega)⟩) ?_
          refine zg rfl rfl (zi rfl rfl) ?_
          refine zo ?_
          exact ⟨⟨k + 1, by omega⟩, by dsimp only; omega, zt _ ⟨rfl, rfl, hp5, rfl, rfl, rfl, rfl, rfl, rfl, trivial⟩ (hm5)⟩
        ·
         have hge:k = all.length:=by have:=h4; simp at this; omega
         subst hge
         refine qp (zRQ (zRQ (qw (zD (zf (zh ?_))))))
         refine zg rfl rfl (zV rfl rfl rfl ⟨(by omega), (by omega)⟩) ?_
         refine zg rfl rfl (zi rfl rfl) ?_
         refine zo ?_
         exact ⟨⟨p + 1, by omega⟩, by dsimp only; omega, zt _ ⟨rfl, rfl, (congrArg (fun z:List Cr × List (List Cr)=>EV.psl (3 + JF.length + 1) z.2.length) hme), rfl, rfl, trivial⟩ ((congrArg (fun z:List Cr × List (List Cr)=>wM (DF f R lvl (.psl 2 all.length)) all JF z.1 [.row (z.2.map rLn)]) hme))⟩
      ·
       have hp2:p = 2:=by simp at h3; omega
       subst hp2
       have hk4:(stM nb all 2).2.length <= 930:=by have hq:=(zJ7 hG (m:=1) (by omega) all.length).2.1; rw [zKm (by omega)] at hq; exact Nat.le_trans hq hal
       refine qp (zRQ (zRQ (qw (zf (zuy (zh ?_))))))
       refine zg rfl rfl (zI rfl rfl) ?_
       refine jb rfl (zPA (k:=3 + JF.length + 1) (av:=zHA) (ls:=(stM nb all 2).2) (ls':=LC) (cf:=fun x y:List Cr=>zHV (pF x) (pF y)) Tryz.sort1 zOV rfl rfl rfl rfl rfl (zIj (Y:=[]) (i:=0)) rfl (by have:=hk4; omega) zQ9 zQ2 zQR (fun ok w x y u v hx hy fu fv=>zRv ok w x y u v (zOk hG x hx) (zOk hG y hy) fu fv) huF) ?_
       refine zo (zf (zuy (zh ?_)))
       refine zg rfl rfl (zI rfl rfl) ?_
       refine zg rfl rfl (qo rfl rfl) ?_
       refine zg rfl rfl (zn rfl rfl) ?_
       refine zo (zf (zP ?_))
       exact ⟨.inr rfl, ⟨_, rfl, ⟨_, _, rfl, ⟨LC.map fun x=>[zHA x], (List.getElem?_set_self (by rw [zHM]; simp)).trans (congrArg (fun z=>some (PO.row z)) (zRU LC)), (List.length_map _).trans hLn, rfl⟩, ⟨_, _, rfl, AVle.refl _, rfl⟩⟩⟩⟩
end Go.Av
end
