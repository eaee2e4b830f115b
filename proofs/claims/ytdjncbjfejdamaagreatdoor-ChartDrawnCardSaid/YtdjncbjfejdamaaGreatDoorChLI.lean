import Derived.Test.YtdjncbjfejdamaaGreatDoorChLH
import Derived.Test.YtdjncbjfejdamaaGreatDoorPlatV
import Derived.Test.YtdjncbjfejdamaaGreatDoorPlatQ
set_option linter.unusedVariables false
set_option linter.unusedSimpArgs false
section
namespace Go.Av
open Go.Proofs
set_option maxRecDepth 100000
set_option maxHeartbeats 1000000
variable {G:Glob}
theorem zSi:fldIs Tryz.prog 112 1 2 = true:=by kernel_rfl
theorem zSJ:fldIs Tryz.prog 112 2 3 = true:=by kernel_rfl
theorem zOU:(Tryz.prog.info? 48).bind (·.zero) = some (.slice none 0 0):=by kernel_rfl
theorem zJk:fldIs Tryz.prog 112 4 5 = true:=by kernel_rfl
theorem zMM:tyIs Tryz.prog 110 false 1 = true:=by kernel_rfl
def crP (h:Nat -> Bool) (a b:Nat):Cr:=bif h a then (b, a) else (a, b)
def eDr (f:Fld) (R lvl:Int):List AV:=[.v (.int .i64 f.wide), ei R, zO f.vals, ei lvl, .top, .top]
theorem f70 (f:Fld) (R lvl:Int) (a b:Nat) (ha:a < f.vals.length) (hb:b < f.vals.length) (hl:f.vals.length <= 1000):ACall Tryz.prog G 70 [.agg (eDr f R lvl), ei (a:Int), ei (b:Int)] (.tup [.agg (eCr (crP (hiF f lvl) a b)), .v (.bool (hiF f lvl a != hiF f lvl b))]):=by
 have e1:decide (lvl <= f.vals[a]) = hiF f lvl a:=by unfold hiF; rw [getD_at ha]
 have e2:decide (lvl <= f.vals[b]) = hiF f lvl b:=by unfold hiF; rw [getD_at hb]
 refine zS Tryz.func70 rfl (by kernel_rfl) rfl ?_
 refine zuy (zh ?_)
 refine zg rfl rfl (jf rfl (zY rfl)) ?_
 refine jb rfl (wJ rfl rfl zKI rfl rfl) ?_
 refine zg rfl rfl (zn rfl rfl) ?_
 refine zo (zf (zuy ?_))
 refine qY mixed (by kernel_rfl) rfl ?_
 refine zH rfl (zu rfl rfl zSi) ?_
 refine zH rfl (zA rfl rfl rfl zHR) ?_
 refine zH rfl (zi rfl rfl) ?_
 refine zH rfl (zG rfl rfl rfl zIz (by omega) (wu ha) jC) ?_
 refine zH rfl (zA rfl rfl rfl ty3) ?_
 refine zH rfl (zu rfl rfl zSJ) ?_
 refine zH rfl (zA rfl rfl rfl ty3) ?_
 refine zH rfl (zbe rfl rfl rfl) ?_
 refine zH rfl (zu rfl rfl zSi) ?_
 refine zH rfl (zA rfl rfl rfl zHR) ?_
 refine zH rfl (zi rfl rfl) ?_
 refine zH rfl (zG rfl rfl rfl zIz (by omega) (wu hb) jC) ?_
 refine zH rfl (zA rfl rfl rfl ty3) ?_
 refine zH rfl (zu rfl rfl zSJ) ?_
 refine zH rfl (zA rfl rfl rfl ty3) ?_
 refine zH rfl (zbe rfl rfl rfl) ?_
 refine zH rfl (zn rfl rfl) ?_
 refine zH rfl (zn rfl rfl) ?_
 refine jw (zf (zuy (zuy (zh ?_))))
 refine zg rfl rfl (zi rfl rfl) ?_
 refine zo (zf (zx rfl (fun h0=>?_) (fun h0=>?_)))
 ·
  rw [e1] at h0
  have hcr:crP (hiF f lvl) a b = (b, a):=by unfold crP; rw [h0]; rfl
  refine zh ?_
  refine zg rfl rfl (zi rfl rfl) ?_
  refine zg rfl rfl (zi rfl rfl) ?_
  refine zg rfl rfl (zn rfl rfl) ?_
  refine zg rfl rfl (zn rfl rfl) ?_
  refine zo (zf (zuy (zh ?_)))
  refine zg rfl rfl (zi rfl rfl) ?_
  refine zg rfl rfl (zi rfl rfl) ?_
  refine zg rfl rfl (zb3 (cs:=[_, _]) rfl zNx rfl ⟨_, _, rfl, (jF rfl), ⟨_, _, rfl, (jF rfl), rfl⟩⟩ (by rfl) (by simp [ofV])) ?_
  refine zg rfl rfl (zi rfl rfl) ?_
  refine zg rfl rfl (zi rfl rfl) ?_
  refine zg rfl rfl (zwJ rfl rfl rfl Tryz.underlying4) ?_
  refine jb rfl (qG rfl rfl rfl rfl rfl rfl (zY rfl) zHs (by rfl) (by exact zLb rfl)) ?_
  refine zg rfl rfl (zn rfl rfl) ?_
  refine zo (zf (zP ?_))
  exact ⟨.inr rfl, ⟨_, rfl, ⟨_, _, rfl, (jK rfl rfl rfl rfl zHs rfl ⟨_, _, rfl, AVle.of (by rw [hcr]), ⟨_, _, rfl, AVle.of (by rw [hcr]), rfl⟩⟩), ⟨_, _, rfl, AVle.of (by rw [e1, e2]), rfl⟩⟩⟩⟩
 ·
  rw [e1] at h0
  have hcr:crP (hiF f lvl) a b = (a, b):=by unfold crP; rw [h0]; rfl
  refine zC (zf (zuy (zh ?_)))
  refine zg rfl rfl (zi rfl rfl) ?_
  refine zg rfl rfl (zi rfl rfl) ?_
  refine zg rfl rfl (zb3 (cs:=[_, _]) rfl zNx rfl ⟨_, _, rfl, (jF rfl), ⟨_, _, rfl, (jF rfl), rfl⟩⟩ (by rfl) (by simp [ofV])) ?_
  refine zg rfl rfl (zi rfl rfl) ?_
  refine zg rfl rfl (zi rfl rfl) ?_
  refine zg rfl rfl (zwJ rfl rfl rfl Tryz.underlying4) ?_
  refine jb rfl (qG rfl rfl rfl rfl rfl rfl (zY rfl) zHs (by rfl) (by exact zLb rfl)) ?_
  refine zg rfl rfl (zn rfl rfl) ?_
  refine zo (zf (zP ?_))
  exact ⟨.inr rfl, ⟨_, rfl, ⟨_, _, rfl, (jK rfl rfl rfl rfl zHs rfl ⟨_, _, rfl, AVle.of (by rw [hcr]), ⟨_, _, rfl, AVle.of (by rw [hcr]), rfl⟩⟩), ⟨_, _, rfl, AVle.of (by rw [e1, e2]), rfl⟩⟩⟩⟩
def A3 (D:List EV) (al:List Cr) (J:List (Cr × List Cr)):List PO:=[zlS zHG (zHq 3 J), .row [D], .row (al.map rCr)]
def lM (D:List EV) (al:List Cr) (J:List (Cr × List Cr)):List PO:=A3 D al J ++ zIk rCr J
def zHH (D:List EV) (al:List Cr) (T:Nat) (J:List (Cr × List Cr)) (X:List PO):List PO:=A3 D al J ++ (zIk rCr J ++ (List.replicate (T - J.length) (.row []) ++ X))
def ixJ (a:Cr) (J:List (Cr × List Cr)):Nat:=(kV a (J.map (·.1))).getD J.length
section
variable {D:List EV} {al:List Cr} {T:Nat} {J:List (Cr × List Cr)} {X:List PO} {a b:Cr}
theorem zIG:(A3 D al J).length = 3:=rfl
theorem zSm {i:Nat}:(zHH D al T J X)[3 + i]? = (zIk rCr J ++ (List.replicate (T - J.length) (.row []) ++ X))[i]?:=by
 unfold zHH
 rw [List.getElem?_append_right (by rw [zIG]; omega), zIG, show 3 + i - 3 = i by omega]
theorem zI6 (h:J.length < T):(zHH D al T J X)[3 + ixJ a J]? = some (.row ((zHu a [] J).map rCr)):=by
 rw [zSm]
 unfold ixJ
 cases hx:kV a (J.map (·.1)) with
 | none=>
  rw [Option.getD_none, List.getElem?_append_right (by rw [zHy]; omega), zHy, Nat.sub_self, (zJH (b:=a) 3 (.pub .top) hx).2.2.2, List.getElem?_append_left (by simp; omega), List.getElem?_replicate, if_pos (by omega)]
  rfl
 | some i=>
  obtain ⟨h1, _, _, _, h5⟩:=zJi (b:=a) 3 (.pub .top) hx
  rw [Option.getD_some, List.getElem?_append_left (by rw [zHy]; exact h5)]
  exact zSB h1
theorem zIi (h:J.length <= T):(zHH D al T J X).length = 3 + T + X.length:=by
 unfold zHH
 rw [List.length_append, List.length_append, List.length_append, zHy, List.length_replicate, zIG]; omega
theorem jMem_app {Y:List PO}:zHH D al T J X ++ Y = zHH D al T J (X ++ Y):=by unfold zHH; simp
theorem zHw (h:J.length <= T) {i:Nat}:(zHH D al T J X)[3 + T + i]? = X[i]?:=by
 rw [show 3 + T + i = 3 + (T + i) by omega, zSm, List.getElem?_append_right (by rw [zHy]; omega), zHy, List.getElem?_append_right (by rw [List.length_replicate]; omega), List.length_replicate]
 congr 1; omega
theorem zJa (h:J.length <= T) {x:PO}:(zHH D al T J (X ++ [x]))[3 + T + X.length]? = some x:=by
 rw [zHw h, List.getElem?_append_right (Nat.le_refl _), Nat.sub_self]; rfl
theorem zJw (h:J.length <= T) {i:Nat} {x:PO}:(zHH D al T J X).set (3 + T + i) x = zHH D al T J (X.set i x):=by
 unfold zHH
 rw [List.set_append_right _ _ (by rw [zIG]; omega), zIG, List.set_append_right _ _ (by rw [zHy]; omega), zHy, List.set_append_right _ _ (by rw [List.length_replicate]; omega), List.length_replicate]
 congr 4; omega
theorem zN5:(zHH D al T J X)[0]? = some (zlS zHG (zHq 3 J)):=rfl
theorem zMT:(jnA a b J).length <= J.length + 1:=by
 cases hx:kV a (J.map (·.1)) with
 | none=>rw [(zJH 3 (.pub .top) hx).2.1]; simp
 | some i=>rw [(zJi 3 (.pub .top) hx).2.2.1]; simp
theorem zP0:J.length <= (jnA a b J).length:=by
 cases hx:kV a (J.map (·.1)) with
 | none=>rw [(zJH 3 (.pub .top) hx).2.1]; simp
 | some i=>rw [(zJi 3 (.pub .top) hx).2.2.1]; simp
theorem zKK (h:J.length < T):((((zHH D al T J X).set 0 (zlS zHG (yh a (zHu a (.pub (.v (.slice none 0 0))) (zHq 3 J)) (zHq 3 J)))).set (3 + ixJ a J) (.row ((zHu a [] J).map rCr ++ [rCr b]))).set 0
  (zlS zHG ((yh a (zHu a (.pub (.v (.slice none 0 0))) (zHq 3 J)) (zHq 3 J)).set (ixE a (zHq 3 J)) (a, .psl (3 + ixJ a J) ((zHu a [] J).length + 1))))) = zHH D al T (jnA a b J) X:=by
 rw [(zK8 a _ _ _).1]
 have hset:∀ (M:PO) (x:PO) (Z:List PO), (((M :: PO.row [D] :: PO.row (al.map rCr) :: Z).set (3 + ixJ a J) x)) = M :: PO.row [D] :: PO.row (al.map rCr) :: Z.set (ixJ a J) x:=fun M x Z=>by
  rw [show 3 + ixJ a J = ixJ a J + 1 + 1 + 1 by omega]; rfl
 show ((_ :: PO.row [D] :: PO.row (al.map rCr) :: (zIk rCr J ++ (List.replicate (T - J.length) (.row []) ++ X))).set (3 + ixJ a J) _).set 0 _ = _
 rw [hset]
 show _ :: PO.row [D] :: PO.row (al.map rCr) :: _ = _
 unfold zHH A3
 unfold ixJ
 cases hx:kV a (J.map (·.1)) with
 | none=>
  obtain ⟨_, h2, h3, h4⟩:=zJH (b:=b) 3 (.pub .top) hx
  rw [Option.getD_none, ← h3, h2, h4, zSP, List.set_append_right _ _ (by rw [zHy]; omega), zHy, Nat.sub_self]
  obtain ⟨m, hm⟩:∃ m, T - J.length = m + 1:=⟨T - J.length - 1, by omega⟩
  have hm2:T - (J ++ [(a, [b])]).length = m:=by simp; omega
  rw [hm, hm2, List.replicate_succ]
  simp
 | some i=>
  obtain ⟨h1, _, h3, h4, h5⟩:=zJi (b:=b) 3 (.pub .top) hx
  rw [Option.getD_some, ← h4, h3, zNp, List.set_append_left _ _ (by rw [zHy]; exact h5), List.map_append]
  simp
theorem zME {k:Nat} (hk:3 + J.length <= k):(zlS zHG (zHq 3 J)).okL k:=fun p hp=>by
 obtain ⟨q, hq, rfl⟩:=List.mem_map.1 hp
 obtain ⟨i, hi, e⟩:=List.getElem_of_mem hq
 have hi2:i < J.length:=by rw [zNt] at hi; exact hi
 have:q = (J[i].1, EV.psl (3 + i) J[i].2.length):=by rw [← e]; simp [zHq]
 rw [this]
 show EV.lt k (EV.psl (3 + i) _)
 simp only[EV.lt]; omega
theorem zSI {k:Nat}:zdA k (zIk rCr J):=zJc fun o ho=>by
 obtain ⟨p, _, rfl⟩:=List.mem_map.1 ho
 exact zHP _
theorem lM_len:(lM D al J).length = 3 + J.length:=by unfold lM; rw [List.length_append, zHy]; rfl
theorem zMz {k:Nat} (hk:3 + J.length <= k) (hD:∀ x ∈ D, x.lt k):zdA k (lM D al J):=
 zHI ⟨zME hk, (fun r hr x hx=>by rw [List.mem_singleton] at hr; subst hr; exact hD x hx), zHP _, trivial⟩ zSI
theorem zR9 {k:Nat} (h:J.length <= T) (hk:3 + T <= k) (hD:∀ x ∈ D, x.lt k) (hX:zdA k X):zdA k (zHH D al T J X):=
 zHI ⟨zME (by omega), (fun r hr x hx=>by rw [List.mem_singleton] at hr; subst hr; exact hD x hx), zHP _, trivial⟩ (zHI zSI (zHI (zJc fun o ho=>by
  obtain ⟨_, rfl⟩:=List.mem_replicate.1 ho
  intro r hr; cases hr) hX))
theorem zRW (h:J.length <= T):zHH D al T J X = lM D al J ++ (List.replicate (T - J.length) (.row []) ++ X):=by unfold lM zHH; simp
theorem zJO {n:NS} {fr:Nat -> EV} {mem:List PO} (d:Tmp) (h:fr d = zHu a (.pub (.v (.slice none 0 0))) (zHq 3 J)) (hm:mem[3 + ixJ a J]? = some (.row ((zHu a [] J).map rCr))):
  Weak ⟨n, fr, mem⟩ ⟨n, jr fr (some d) (.psl (3 + ixJ a J) (zHu a [] J).length), mem⟩:=by
 cases hx:kV a (J.map (·.1)) with
 | none=>
  obtain ⟨h1, _, _, h4⟩:=zJH (b:=(0, 0)) 3 (.pub (.v (.slice none 0 0))) hx
  rw [h4] at hm ⊢
  exact zMq d hm (h.trans h1)
 | some i=>
  obtain ⟨_, h2, _, _, _⟩:=zJi (b:=(0, 0)) 3 (.pub (.v (.slice none 0 0))) hx
  have e:ixJ a J = i:=by unfold ixJ; rw [hx]; rfl
  rw [h2, ← e] at h
  intro w0 ok0 ac w ⟨h0, h1, h2, ok, bs, h3, h4, h5, h6⟩
  refine ⟨h0, h1, h2, ok, bs, h3, h4, h5, fun t=>?_, h6.2⟩
  simp only[zcQ]
  by_cases htd:t = d
  ·
   subst htd
   have:=h6.1 t
   simp only at this
   simp only[if_true]
   rw [h] at this; exact this
  ·
   simp only[htd, if_false]; exact h6.1 t
end
theorem zQs (d0 d1 d2 d3 d4:EV) (al:List Cr) (T:Nat) (J:List (Cr × List Cr)) (X:List PO) (a b:Cr) (hT:J.length + 2 <= T) (hD:∀ x ∈ [d0, d1, d2, d3, d4], x.lt 3) (hX:zdA (3 + T + X.length) X) (hsz1:(zHu a [] J).length <= 1000) (hsz2:(zHu b [] (jnA a b J)).length <= 1000):
  zjj Tryz.prog G 126 [.mix [d0, d1, d2, d3, d4, .mpv 0], .pub (.agg (eCr a)), .pub (.agg (eCr b))] (zHH [d0, d1, d2, d3, d4, .mpv 0] al T J X) (.ret (.pub (.tup [])) (zHH [d0, d1, d2, d3, d4, .mpv 0] al T (jn2 J (a, b)) X)):=by
 have hj1:=zMT (a:=a) (b:=b) (J:=J)
 have hj2:=zMT (a:=b) (b:=a) (J:=jnA a b J)
 have hj4:(jn2 J (a, b)).length <= T:=by show (jnA b a (jnA a b J)).length <= T; omega
 have hDk:∀ x ∈ [d0, d1, d2, d3, d4, .mpv 0], x.lt (3 + T + X.length):=fun x hx=>by
  rw [show [d0, d1, d2, d3, d4, .mpv 0] = [d0, d1, d2, d3, d4] ++ [.mpv 0] from rfl] at hx
  rcases List.mem_append.1 hx with hx | hx
  ·
   exact EV.lt_mono (by omega) (hD x hx)
  ·
   rw [List.mem_singleton] at hx; subst hx; simp only[EV.lt]; omega
 refine zow Tryz.func126 rfl (by kernel_rfl) rfl (fun gh hold=>?_)
 refine zuy (zh ?_)
 refine jb rfl (zqW rfl rfl (zkN rfl)) ?_
 refine zg rfl rfl (jf rfl (zY rfl)) ?_
 refine zg rfl rfl (jf rfl (zY rfl)) ?_
 refine zo (zf (zuy ?_))
 refine qx (zt (mem':=zHH [d0, d1, d2, d3, d4, .mpv 0] al T J (X ++ [.row [[d0, d1, d2, d3, d4, .mpv 0]]])) [(3, .pp (3 + T + X.length) 1 0 0), (4, .pub (.ptr (eCr a))), (5, .pub (.ptr (eCr b)))] ?_ ?_) ?_
 ·
  exact ⟨congrArg (fun k=>EV.pp k 1 0 0) (zIi (by omega)), rfl, rfl, trivial⟩
 ·
  exact jMem_app
 refine zh ?_
 refine zg rfl rfl (qE rfl rfl (zJa (by omega)) rfl zJk) ?_
 refine zg rfl rfl (zK (r:=[d0, d1, d2, d3, d4, .mpv 0]) rfl rfl (zJa (by omega)) rfl rfl rfl zMM) ?_
 refine zg rfl rfl (zZ rfl rfl zHs (by exact zLb rfl)) ?_
 refine zg rfl rfl (zZ rfl rfl zHs (by exact zLb rfl)) ?_
 refine zg rfl rfl (qg (size:=2) (rows:=[[_, _]]) rfl Tryz.underlying48 zKq rfl (by decide) rfl (by decide) ⟨_, _, rfl, (zY rfl), rfl⟩ (by rfl) (by simp [ofV]) rfl (by simp)) ?_
 refine jb rfl (zJT (enc:=zHG) (es:=zHq 3 J) (a:=a) rfl rfl rfl zN5 rfl (zeW (l:=[.int .i64 (a.1:Int), .int .i64 (a.2:Int)]) rfl) Tryz.underlying110 zSG zOU rfl) ?_
 refine zg rfl rfl (zIC (i:=0) rfl rfl rfl) ?_
 refine wo (zJO (J:=J) (a:=a) 9 rfl ((List.getElem?_set_ne (by omega)).trans (zI6 (by omega)))) ?_
 refine jb rfl (vS (k:=3 + ixJ a J) (n:=(zHu a [] J).length) (rows:=(zHu a [] J).map rCr) (ns:=[rCr b]) rfl rfl rfl ((List.getElem?_set_ne (by omega)).trans (zI6 (by omega))) (List.length_map _) rfl zt5 zHv (by simp [rCr]) (by have:=hsz1; show ((zHu a [] J).length + 1) * 16 <= 140737488355328; omega) (by have:=hsz1; show (zHu a [] J).length + 1 <= maxLen; unfold maxLen; omega)) ?_
 refine zg rfl rfl (zIC (i:=1) rfl rfl rfl) ?_
 refine jb rfl (zJd (enc:=zHG) (es:=yh a (zHu a (.pub (.v (.slice none 0 0))) (zHq 3 J)) (zHq 3 J)) (ix:=ixE a (zHq 3 J)) (a:=a) rfl rfl rfl (by rw [List.getElem?_set_ne (by omega)]; rfl) rfl (zK8 _ _ (.pub .top) _).2 rfl) ?_
 refine zo (zf ?_)
 refine qx (zt (mem':=zHH [d0, d1, d2, d3, d4, .mpv 0] al T (jnA a b J) (X ++ [.row [[d0, d1, d2, d3, d4, .mpv 0]]])) [(3, .pp (3 + T + X.length) 1 0 0), (4, .pub (.ptr (eCr a))), (5, .pub (.ptr (eCr b)))] ?_ ?_) ?_
 ·
  exact ⟨rfl, rfl, rfl, trivial⟩
 ·
  exact zKK (by omega)
 refine zh ?_
 refine zg rfl rfl (qE rfl rfl (zJa (by omega)) rfl zJk) ?_
 refine zg rfl rfl (zK (r:=[d0, d1, d2, d3, d4, .mpv 0]) rfl rfl (zJa (by omega)) rfl rfl rfl zMM) ?_
 refine zg rfl rfl (zZ rfl rfl zHs (by exact zLb rfl)) ?_
 refine zg rfl rfl (zZ rfl rfl zHs (by exact zLb rfl)) ?_
 refine zg rfl rfl (qg (size:=2) (rows:=[[_, _]]) rfl Tryz.underlying48 zKq rfl (by decide) rfl (by decide) ⟨_, _, rfl, (zY rfl), rfl⟩ (by rfl) (by simp [ofV]) rfl (by simp)) ?_
 refine jb rfl (zJT (enc:=zHG) (es:=zHq 3 (jnA a b J)) (a:=b) rfl rfl rfl zN5 rfl (zeW (l:=[.int .i64 (b.1:Int), .int .i64 (b.2:Int)]) rfl) Tryz.underlying110 zSG zOU rfl) ?_
 refine zg rfl rfl (zIC (i:=0) rfl rfl rfl) ?_
 refine wo (zJO (J:=(jnA a b J)) (a:=b) 18 rfl ((List.getElem?_set_ne (by omega)).trans (zI6 (by omega)))) ?_
 refine jb rfl (vS (k:=3 + ixJ b (jnA a b J)) (n:=(zHu b [] (jnA a b J)).length) (rows:=(zHu b [] (jnA a b J)).map rCr) (ns:=[rCr a]) rfl rfl rfl ((List.getElem?_set_ne (by omega)).trans (zI6 (by omega))) (List.length_map _) rfl zt5 zHv (by simp [rCr]) (by have:=hsz2; show ((zHu b [] (jnA a b J)).length + 1) * 16 <= 140737488355328; omega) (by have:=hsz2; show (zHu b [] (jnA a b J)).length + 1 <= maxLen; unfold maxLen; omega)) ?_
 refine zg rfl rfl (zIC (i:=1) rfl rfl rfl) ?_
 refine jb rfl (zJd (enc:=zHG) (es:=yh b (zHu b (.pub (.v (.slice none 0 0))) (zHq 3 (jnA a b J))) (zHq 3 (jnA a b J))) (ix:=ixE b (zHq 3 (jnA a b J))) (a:=b) rfl rfl rfl (by rw [List.getElem?_set_ne (by omega)]; rfl) rfl (zK8 _ _ (.pub .top) _).2 rfl) ?_
 refine zo ?_
 exact zbB [.row [[d0, d1, d2, d3, d4, .mpv 0]]] ((zKK (by omega)).trans jMem_app.symm) (zR9 hj4 (by rw [zIi hj4]; omega) (fun x hx=>by rw [zIi hj4]; exact hDk x hx) (by rw [zIi hj4]; exact hX)) (by rw [zIi hj4, zIi (by omega)]; exact Nat.le_refl _) (.inl rfl) trivial ⟨[], rfl, rfl⟩
end Go.Av
end
