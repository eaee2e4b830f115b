import Derived.Test.YtdjncbjfejdamaaGreatDoorChLK
set_option linter.unusedVariables false
set_option linter.unusedSimpArgs false
section
namespace Go.Av
open Go.Proofs
set_option maxRecDepth 100000
set_option maxHeartbeats 1000000
variable {G:Glob}
open Go.Gr
def wM (D:List EV) (al:List Cr) (J:List (Cr × List Cr)) (mt:List Cr) (Y:List PO):List PO:=lM D al J ++ (zNk mt :: Y)
section
variable {D:List EV} {al:List Cr} {J:List (Cr × List Cr)} {mt:List Cr} {Y Z:List PO}
theorem zHM:(wM D al J mt Y).length = 3 + J.length + 1 + Y.length:=by unfold wM; rw [List.length_append, lM_len, List.length_cons]; omega
theorem wM_app:wM D al J mt Y ++ Z = wM D al J mt (Y ++ Z):=by unfold wM; simp
theorem zKo:(wM D al J mt Y)[3 + J.length]? = some (zNk mt):=by
 unfold wM
 rw [List.getElem?_append_right (by rw [lM_len]; exact Nat.le_refl _), lM_len, Nat.sub_self]; rfl
theorem zO6:(wM D al J mt Y ++ Z)[3 + J.length]? = some (zNk mt):=by rw [wM_app]; exact zKo
theorem zO3 {x:PO}:(wM D al J mt Y).set (3 + J.length) x = lM D al J ++ (x :: Y):=by
 unfold wM
 rw [List.set_append_right _ _ (by rw [lM_len]; exact Nat.le_refl _), lM_len, Nat.sub_self]; rfl
theorem zP3 {c:Cr} (h:c ∉ mt):(wM D al J mt Y).set (3 + J.length) (zlS zHG (yh c (B true) (zKC mt))) = wM D al J (mt ++ [c]) Y:=by rw [zO3, zM6 h]; rfl
theorem zIj {i:Nat}:(wM D al J mt (Y ++ Z))[3 + J.length + 1 + Y.length + i]? = Z[i]?:=by
 unfold wM
 rw [List.getElem?_append_right (by rw [lM_len]; omega), lM_len, show 3 + J.length + 1 + Y.length + i - (3 + J.length) = (Y.length + i) + 1 by omega, List.getElem?_cons_succ, List.getElem?_append_right (by omega), show Y.length + i - Y.length = i by omega]
theorem wM_set {i:Nat} {x:PO}:(wM D al J mt (Y ++ Z)).set (3 + J.length + 1 + Y.length + i) x = wM D al J mt (Y ++ Z.set i x):=by
 unfold wM
 rw [List.set_append_right _ _ (by rw [lM_len]; omega), lM_len, show 3 + J.length + 1 + Y.length + i - (3 + J.length) = (Y.length + i) + 1 by omega, List.set_cons_succ, List.set_append_right _ _ (by omega), show Y.length + i - Y.length = i by omega]
theorem zJY {i:Nat}:(wM D al J mt (Y ++ Z)).take (3 + J.length + 1 + Y.length + i) = wM D al J mt (Y ++ Z.take i):=by
 unfold wM
 rw [List.take_append, lM_len, List.take_of_length_le (by rw [lM_len]; omega), show 3 + J.length + 1 + Y.length + i - (3 + J.length) = (Y.length + i) + 1 by omega, List.take_succ_cons, List.take_append, show Y.length + i - Y.length = i by omega, List.take_of_length_le (by omega)]
theorem zMK {k:Nat} (hk:3 + J.length <= k) (hD:∀ x ∈ D, x.lt k) (hY:zdA k Y):zdA k (wM D al J mt Y):=zHI (zMz hk hD) ⟨zPH _, hY⟩
theorem zPb {x:Cr} {i:Nat} (h:kV x (J.map (·.1)) = some i):(lM D al J)[3 + i]? = some (.row ((zHu x [] J).map rCr)):=by
 obtain ⟨h1, _, _, _, h5⟩:=zJi (b:=(0, 0)) 3 (.pub .top) h
 unfold lM
 rw [List.getElem?_append_right (by rw [zIG]; omega), zIG, show 3 + i - 3 = i by omega]
 exact zSB h1
theorem zRi {x:Cr} {m:List PO} (h:m[3 + ixJ x J]? = (wM D al J mt Y)[3 + ixJ x J]?):zPd m (zHu x (.pub (.v (.slice none 0 0))) (zHq 3 J)) ((zHu x [] J).map rCr):=by
 cases hx:kV x (J.map (·.1)) with
 | none=>
  obtain ⟨h1, _, _, h4⟩:=zJH (b:=(0, 0)) 3 (.pub (.v (.slice none 0 0))) hx
  exact .inl ⟨h1, by rw [h4]; rfl⟩
 | some i=>
  obtain ⟨_, h2, _, _, h5⟩:=zJi (b:=(0, 0)) 3 (.pub (.v (.slice none 0 0))) hx
  have e:ixJ x J = i:=by unfold ixJ; rw [hx]; rfl
  refine .inr ⟨3 + i, by rw [h2, List.length_map], ?_⟩
  rw [e] at h
  rw [h]
  unfold wM
  rw [List.getElem?_append_left (by rw [lM_len]; omega)]
  exact zPb hx
end
theorem zIo {k k':Nat} (h:k <= k'):∀ {l:List PO}, zdA k l -> zdA k' l
 | [], _=>trivial
 | _ :: _, hl=>⟨zSd h hl.1, zIo h hl.2⟩
theorem nxW_met {nb:Cr -> List Cr} {mt out:List Cr} {x:Cr}:nxW nb mt out x = (nb x).find? (fun c=>!(mt ++ out).contains c):=by
 unfold nxW
 congr 1
 funext y
 rw [Bool.eq_iff_iff]
 simp
theorem zPr {α:Type} {o:Option α} {d:α} (h:o.isSome = true):o = some (o.getD d):=by cases o with
 | none=>cases h
 | some x=>rfl
theorem zMi {G:Glob} {fr:Nat -> EV} {m:List PO} {o:Oper} {x:Operand} {tys:Array TypeId} {l:Nat} {rows:List (List EV)} {ex:EV} (hsz:∀ r ∈ rows, r.length = 2) (hms:rows.length <= 1000000) (ho:o.op = .call { callee:=.value (.func 128), args:=#[x], argTypes:=tys }) (hx:evO fr x = ex) (hL:zPd m ex rows) (hml:m[l]? = some (.row [])):
  OpB Tryz.prog G fr m o (.psl l rows.length) (m.set l (.row rows)):=fun N fr2 he hd=>
 zOF (T:=50) (P:=Tryz.prog) (G:=G) (st:=⟨N, fr2, m⟩) zQv zRF zQ3 hsz hms ho hd ((he x (by simp [ho, Op.operands, Call.operands])).trans hx) hL hml
theorem m75 (d0 d1 d2 d3 d4:EV) (al:List Cr) (J:List (Cr × List Cr)) (Y:List PO) (mt:List Cr) (nb:Cr -> List Cr) (all:List Cr) (c:Cr) (Nn:Nat) (hD:∀ x ∈ [d0, d1, d2, d3, d4], x.lt 3) (hY:zdA (3 + J.length + 1 + Y.length) Y) (hnb:∀ x, (zHu x [] J).length <= 2 /\ sort2 (zHu x [] J) = nb x) (hcl:∀ x ∈ all, ∀ y ∈ nb x, y ∈ all) (hc:c ∈ all) (hcm:c ∉ mt) (hN:all.length <= Nn) (hal:all.length <= 1000):
  zjj Tryz.prog G 75 [.mix [d0, d1, d2, d3, d4, .mpv 0], .pub (.agg (eCr c)), .mpv (3 + J.length)] (wM [d0, d1, d2, d3, d4, .mpv 0] al J mt Y) (.ret (.psl ((3 + J.length + 1 + Y.length) + 2) (goW nb mt Nn [] c).length) (wM [d0, d1, d2, d3, d4, .mpv 0] al J (mt ++ goW nb mt Nn [] c) (Y ++ [.row [[d0, d1, d2, d3, d4, .mpv 0]], .row [[.mpv (3 + J.length)]], .row ((goW nb mt Nn [] c).map rCr)]))):=by
 have hst:=FI.start (nb:=nb) (met:=mt) hc hcm hN
 generalize goW nb mt Nn [] c = R at hst ⊢
 have hDx3:∀ x ∈ [d0, d1, d2, d3, d4, .mpv 0], EV.lt 3 x:=fun x hx=>by
  rw [show [d0, d1, d2, d3, d4, .mpv 0] = [d0, d1, d2, d3, d4] ++ [.mpv 0] from rfl] at hx
  rcases List.mem_append.1 hx with hx | hx
  ·
   exact hD x hx
  ·
   rw [List.mem_singleton] at hx; subst hx; simp [EV.lt]
 have okD:∀ {k:Nat}, 3 <= k -> PO.okL k (.row [[d0, d1, d2, d3, d4, .mpv 0]]):=fun {k} h r hr x hx=>by rw [List.mem_singleton] at hr; subst hr; exact EV.lt_mono h (hDx3 x hx)
 have okB:∀ {k:Nat}, 3 + J.length < k -> PO.okL k (.row [[.mpv (3 + J.length)]]):=fun {k} h r hr x hx=>by rw [List.mem_singleton] at hr; subst hr; rw [List.mem_singleton] at hx; subst hx; exact h
 refine zKZ Tryz.func75 rfl (by kernel_rfl) rfl (fun gh hold hgl=>?_)
 refine zuy (zh ?_)
 refine jb rfl (zqW rfl rfl (zkN rfl)) ?_
 refine zg rfl rfl (jf rfl (zY rfl)) ?_
 refine jb rfl (zqW rfl rfl (zOg rfl zO6)) ?_
 refine zg rfl rfl (zn rfl rfl) ?_
 refine zo (zf ?_)
 refine zvQ ?_
 refine zuy (zh ?_)
 refine zg rfl rfl (zZ rfl rfl zHs (by exact zLb rfl)) ?_
 refine jb rfl (mbC (c:=c) rfl rfl rfl) ?_
 refine zg rfl rfl (qo rfl rfl) ?_
 refine zo (zf (zuy ?_))
 refine qx (zt (mem':=wM [d0, d1, d2, d3, d4, .mpv 0] al J mt (Y ++ [.row [[d0, d1, d2, d3, d4, .mpv 0]], .row [[.mpv (3 + J.length)]], .row ([c].map rCr)])) [(3, .pp ((3 + J.length + 1 + Y.length) + 0) 1 0 0), (4, .pub (.ptr (eCr c))), (5, .pp ((3 + J.length + 1 + Y.length) + 1) 1 0 0), (7, .psl ((3 + J.length + 1 + Y.length) + 2) 1)] ?_ ?_) ?_
 ·
  exact ⟨(congrArg (fun k=>EV.pp k 1 0 0) zHM), rfl, (congrArg (fun k=>EV.pp k 1 0 0) (by rw [List.length_append, zHM]; rfl)), (congrArg (fun k=>EV.psl k 1) (by rw [List.length_append, List.length_append, zHM]; rfl)), trivial⟩
 ·
  exact (by rw [List.append_assoc, List.append_assoc]; exact wM_app)
 refine zh ?_
 refine zg rfl rfl (zK rfl rfl (zIj (i:=1)) rfl rfl rfl xX) ?_
 refine zg rfl rfl (zZ rfl rfl zHs (by exact zLb rfl)) ?_
 refine jb rfl (zJR (enc:=zHG) (es:=zKC mt) (a:=c) (v:=B true) (.inl rfl) rfl rfl zKo rfl (zeW (l:=[.int .i64 (c.1:Int), .int .i64 (c.2:Int)]) rfl) Tryz.underlying122 zSG rfl) ?_
 refine zo (zf (zuy ?_))
 refine zzo ?_
 refine zf (zuy (zB ?_))
 refine qy (ι:={ q:Nat × List Cr × Cr // FI nb all mt R q.1 q.2.1 q.2.2 }) (fun q=>⟨⟨Tryz.f75.ntmps, [], gh, false, hold⟩, frL [(3, .pp ((3 + J.length + 1 + Y.length) + 0) 1 0 0), (5, .pp ((3 + J.length + 1 + Y.length) + 1) 1 0 0), (7, .psl ((3 + J.length + 1 + Y.length) + 2) (q.1.2.1 ++ [q.1.2.2]).length)], wM [d0, d1, d2, d3, d4, .mpv 0] al J (mt ++ (q.1.2.1 ++ [q.1.2.2])) (Y ++ [.row [[d0, d1, d2, d3, d4, .mpv 0]], .row [[.mpv (3 + J.length)]], .row ((q.1.2.1 ++ [q.1.2.2]).map rCr)])⟩) (fun q=>q.1.1) (⟨(Nn, [], c), hst⟩) ?_ ?_
 ·
  exact zt _ ⟨rfl, rfl, rfl, trivial⟩ (zP3 hcm)
 ·
  rintro ⟨⟨n, t, x⟩, hq⟩
  dsimp only at hq ⊢
  have hqn:=hq.lenR
  have hx2:=(hnb x).1
  have hxn:(nb x).length <= 2:=by rw [← (hnb x).2, zIA]; exact hx2
  have hol:(t ++ [x]).length = t.length + 1:=by simp
  refine zB (zuy ?_)
  refine qx vz ?_
  refine qx (zt (mem':=wM [d0, d1, d2, d3, d4, .mpv 0] al J (mt ++ (t ++ [x])) (Y ++ [.row [[d0, d1, d2, d3, d4, .mpv 0]], .row [[.mpv (3 + J.length)]], .row ((t ++ [x]).map rCr), .row []])) [(3, .pp ((3 + J.length + 1 + Y.length) + 0) 1 0 0), (5, .pp ((3 + J.length + 1 + Y.length) + 1) 1 0 0), (7, .psl ((3 + J.length + 1 + Y.length) + 2) (t ++ [x]).length)] ?_ ?_) ?_
  ·
   exact ⟨rfl, rfl, rfl, trivial⟩
  ·
   exact (wM_app.trans (by rw [List.append_assoc]; rfl))
  refine zGz (fun _=>True) (fun k=>match k with | 9=>.rw [3 + ixJ x J] ((3 + J.length + 1 + Y.length) + 3) | _=>.here) mixed (by kernel_rfl) rfl (by kernel_rfl) trivial ?_
  refine zX rfl rfl (qE rfl rfl (zIj (i:=0)) rfl zJk) ?_
  refine zX rfl rfl (zK (r:=[d0, d1, d2, d3, d4, .mpv 0]) rfl rfl (zIj (i:=0)) rfl rfl rfl zMM) ?_
  refine zX rfl rfl (zI rfl rfl) ?_
  refine zX rfl rfl (zI rfl rfl) ?_
  refine zX rfl rfl (jE rfl rfl (zIj (i:=2)) (List.length_map _) Tryz.underlying48) ?_
  refine zX rfl rfl (ze5 rfl rfl rfl ⟨(by omega), (by omega)⟩) ?_
  refine zX rfl rfl (qc rfl rfl rfl (zIj (i:=2)) (List.length_map _) zt9 (by simp) (by simp; omega) zHv) ?_
  refine zX rfl rfl (qN (cs:=eCr x) rfl rfl (zIj (i:=2)) (List.length_map _) (last_at t x) (show 0 + 2 <= (rCr _).length from Nat.le_refl 2) rfl zHs) ?_
  refine zX rfl rfl (zdD (enc:=zHG) (es:=zHq 3 J) (a:=x) (z:=.slice none 0 0) rfl rfl rfl rfl (zeW (l:=[.int .i64 (x.1:Int), .int .i64 (x.2:Int)]) rfl) Tryz.underlying110 zSG zOU) ?_
  refine zsL [3 + ixJ x J] ((3 + J.length + 1 + Y.length) + 3) rfl rfl (fun _=>trivial) (fun m hm=>zMi zHv (by rw [List.length_map]; have:=(hnb x).1; omega) rfl rfl (zRi (hm.one _ (by simp))) ((hm.one _ (by simp)).trans (zIj (i:=3)))) ?_
  refine zX rfl rfl (qo rfl rfl) ?_
  refine wQ (zf (zuy ?_))
  refine qx (zt (mem':=wM [d0, d1, d2, d3, d4, .mpv 0] al J (mt ++ (t ++ [x])) (Y ++ [.row [[d0, d1, d2, d3, d4, .mpv 0]], .row [[.mpv (3 + J.length)]], .row ((t ++ [x]).map rCr), .row ((zHu x [] J).map rCr)])) [(3, .pp ((3 + J.length + 1 + Y.length) + 0) 1 0 0), (5, .pp ((3 + J.length + 1 + Y.length) + 1) 1 0 0), (7, .psl ((3 + J.length + 1 + Y.length) + 2) (t ++ [x]).length), (8, .psl ((3 + J.length + 1 + Y.length) + 3) (zHu x [] J).length)] ?_ ?_) ?_
  ·
   exact ⟨rfl, rfl, rfl, (congrArg (EV.psl _) (List.length_map _)), trivial⟩
  ·
   exact wM_set
  refine zh ?_
  refine zg rfl rfl (zI rfl rfl) ?_
  refine jb rfl (zSb (k:=(3 + J.length + 1 + Y.length) + 3) (ls:=(zHu x [] J).map pI) (ls':=(sort2 (zHu x [] J)).map pI) (cf:=zHV) Tryz.sortK rfl rfl rfl rfl rfl ((zIj (i:=3)).trans (congrArg (fun z=>some (PO.row z)) (zJy _))) (List.length_map _) (by rw [List.length_map]; have:=(hnb x).1; omega) zOt zP2 Tryz.isAgg50 Tryz.sizeOf50 zSO x72 (zRx (hnb x).1)) ?_
  refine zo (zf (zuy ?_))
  refine qx (zt (mem':=wM [d0, d1, d2, d3, d4, .mpv 0] al J (mt ++ (t ++ [x])) (Y ++ [.row [[d0, d1, d2, d3, d4, .mpv 0]], .row [[.mpv (3 + J.length)]], .row ((t ++ [x]).map rCr), .row ((nb x).map rCr)])) [(3, .pp ((3 + J.length + 1 + Y.length) + 0) 1 0 0), (5, .pp ((3 + J.length + 1 + Y.length) + 1) 1 0 0), (7, .psl ((3 + J.length + 1 + Y.length) + 2) (t ++ [x]).length), (8, .psl ((3 + J.length + 1 + Y.length) + 3) (nb x).length)] ?_ ?_) ?_
  ·
   exact ⟨rfl, rfl, rfl, (congrArg (EV.psl _) (by rw [← (hnb x).2, zIA])), trivial⟩
  ·
   exact (wM_set.trans (by rw [← zJy, (hnb x).2]; rfl))
  refine zh ?_
  refine zg rfl rfl (zI rfl rfl) ?_
  refine zg rfl rfl (zjz rfl) ?_
  refine jb rfl (zij (f:=129) (fs:=[]) (cs:=[]) (av:=[.psl ((3 + J.length + 1 + Y.length) + 3) (nb x).length, .fnm 130 [] [.pp ((3 + J.length + 1 + Y.length) + 1) 1 0 0]]) rfl rfl ⟨rfl, rfl, rfl⟩ ⟨rfl, rfl, trivial⟩ (zRP (wM [d0, d1, d2, d3, d4, .mpv 0] al J (mt ++ (t ++ [x])) (Y ++ [.row [[d0, d1, d2, d3, d4, .mpv 0]], .row [[.mpv (3 + J.length)]], .row ((t ++ [x]).map rCr), .row ((nb x).map rCr)])) ((3 + J.length + 1 + Y.length) + 3) ((3 + J.length + 1 + Y.length) + 1) (3 + J.length) (mt ++ (t ++ [x])) (nb x) (by omega) (zMK (by rw [zHM]; omega) (fun x hx=>EV.lt_mono (by rw [zHM]; omega) (hDx3 x hx)) (zHI (zIo (by rw [zHM, List.length_append]; omega) hY) ⟨okD (by rw [zHM]; omega), okB (by rw [zHM]; omega), zHP _, zHP _, trivial⟩)) (zIj (i:=3)) (zIj (i:=1)) zKo)) ?_
  refine zg rfl rfl (zq rfl rfl) ?_
  refine zg rfl rfl (zN rfl rfl rfl) ?_
  refine zg rfl rfl (zN rfl rfl rfl) ?_
  refine vI  rfl rfl rfl rfl rfl rfl rfl zKI zHs rfl (by rfl) (zY rfl) rfl ?_
  refine zg rfl rfl (zn rfl rfl) ?_
  refine zo (zf (zuy (zuy (zh ?_))))
  refine zg rfl rfl (zi rfl rfl) ?_
  refine zg rfl rfl (je rfl rfl) ?_
  refine zo (zf (zx rfl (fun h0=>?_) (fun h0=>?_)))
  ·
   skip
   have hno:((nb x).find? (fun c=>!(mt ++ (t ++ [x])).contains c)) = none:=by have:=h0; simpa using this
   have hR:=hq.stop (nxW_met.trans hno)
   have hfin:wM [d0, d1, d2, d3, d4, .mpv 0] al J (mt ++ (t ++ [x])) (Y ++ [.row [[d0, d1, d2, d3, d4, .mpv 0]], .row [[.mpv (3 + J.length)]], .row ((t ++ [x]).map rCr), .row ((nb x).map rCr)]) = wM [d0, d1, d2, d3, d4, .mpv 0] al J (mt ++ R) (Y ++ [.row [[d0, d1, d2, d3, d4, .mpv 0]], .row [[.mpv (3 + J.length)]], .row (R.map rCr)]) ++ [.row ((nb x).map rCr)]:=by rw [hR, wM_app, List.append_assoc]; rfl
   have hokR:zdA (wM [d0, d1, d2, d3, d4, .mpv 0] al J (mt ++ R) (Y ++ [.row [[d0, d1, d2, d3, d4, .mpv 0]], .row [[.mpv (3 + J.length)]], .row (R.map rCr)])).length (wM [d0, d1, d2, d3, d4, .mpv 0] al J (mt ++ R) (Y ++ [.row [[d0, d1, d2, d3, d4, .mpv 0]], .row [[.mpv (3 + J.length)]], .row (R.map rCr)])):=(zMK (by rw [zHM]; omega) (fun x hx=>EV.lt_mono (by rw [zHM]; omega) (hDx3 x hx)) (zHI (zIo (by rw [zHM, List.length_append]; omega) hY) ⟨okD (by rw [zHM]; omega), okB (by rw [zHM]; omega), zHP _, trivial⟩))
   have hleR:(wM [d0, d1, d2, d3, d4, .mpv 0] al J mt Y).length <= (wM [d0, d1, d2, d3, d4, .mpv 0] al J (mt ++ R) (Y ++ [.row [[d0, d1, d2, d3, d4, .mpv 0]], .row [[.mpv (3 + J.length)]], .row (R.map rCr)])).length:=by rw [zHM, zHM, List.length_append]; omega
   have hltR:EV.lt (wM [d0, d1, d2, d3, d4, .mpv 0] al J (mt ++ R) (Y ++ [.row [[d0, d1, d2, d3, d4, .mpv 0]], .row [[.mpv (3 + J.length)]], .row (R.map rCr)])).length (.psl ((3 + J.length + 1 + Y.length) + 2) R.length):=by simp only[EV.lt]; rw [zHM, List.length_append]; simp; omega
   refine qp (zRQ ?_)
   refine zBJ rfl ?_
   refine zRQ (qw (zf (zuy (zh ?_))))
   refine zg rfl rfl (zI rfl rfl) ?_
   refine zg rfl rfl (qo rfl rfl) ?_
   refine zo (zf (zP ?_))
   refine zwM ?_
   exact zbB [.row ((nb x).map rCr)] hfin hokR hleR (.inr rfl) hltR (congrArg (fun l:List Cr=>EV.psl ((3 + J.length + 1 + Y.length) + 2) l.length) hR.symm)
  ·
   skip
   have hso:((nb x).find? (fun c=>!(mt ++ (t ++ [x])).contains c)) = some (((nb x).find? (fun c=>!(mt ++ (t ++ [x])).contains c)).getD (0, 0)):=zPr (by have:=h0; simpa using this)
   have hnm:(((nb x).find? (fun c=>!(mt ++ (t ++ [x])).contains c)).getD (0, 0)) ∉ (mt ++ (t ++ [x])):=fun e=>by have:=List.find?_some hso; simp only[Bool.not_eq_true'] at this; rw [← Bool.not_eq_true, List.contains_iff_mem] at this; exact this e
   refine Exists.elim (hq.go hcl (nxW_met.trans hso)) (fun m hm=>?_)
   refine zC (zf (zuy (zh ?_)))
   refine zg rfl rfl (zI rfl rfl) ?_
   refine zg rfl rfl (zZ rfl rfl zHs (by exact zLb rfl)) ?_
   refine zg rfl rfl (qg (size:=2) (rows:=[[_, _]]) rfl Tryz.underlying48 zKq rfl (by decide) rfl (by decide) ⟨_, _, rfl, (zY rfl), rfl⟩ (by rfl) (by simp [ofV]) rfl (by simp)) ?_
   refine jb rfl (vS (k:=(3 + J.length + 1 + Y.length) + 2) (rows:=(t ++ [x]).map rCr) (ns:=[rCr (((nb x).find? (fun c=>!(mt ++ (t ++ [x])).contains c)).getD (0, 0))]) rfl rfl rfl (zIj (i:=2)) (List.length_map _) rfl zt5 zHv (by simp [rCr]) (by have:=hqn; show ((t ++ [x]).length + 1) * 16 <= 140737488355328; omega) (by have:=hqn; show (t ++ [x]).length + 1 <= maxLen; unfold maxLen; omega)) ?_
   refine zg rfl rfl (qo rfl rfl) ?_
   refine zo (zf ?_)
   refine qx (zt (mem':=wM [d0, d1, d2, d3, d4, .mpv 0] al J (mt ++ (t ++ [x])) (Y ++ [.row [[d0, d1, d2, d3, d4, .mpv 0]], .row [[.mpv (3 + J.length)]], .row ((t ++ [x]).map rCr ++ [rCr (((nb x).find? (fun c=>!(mt ++ (t ++ [x])).contains c)).getD (0, 0))]), .row ((nb x).map rCr)])) [(3, .pp ((3 + J.length + 1 + Y.length) + 0) 1 0 0), (5, .pp ((3 + J.length + 1 + Y.length) + 1) 1 0 0), (7, .psl ((3 + J.length + 1 + Y.length) + 2) ((t ++ [x]).length + 1)), (9, .pub (.ptr (eCr (((nb x).find? (fun c=>!(mt ++ (t ++ [x])).contains c)).getD (0, 0)))))] ?_ ?_) ?_
   ·
    exact ⟨rfl, rfl, rfl, rfl, trivial⟩
   ·
    exact wM_set
   refine zh ?_
   refine zg rfl rfl (zK rfl rfl (zIj (i:=1)) rfl rfl rfl xX) ?_
   refine zg rfl rfl (zZ rfl rfl zHs (by exact zLb rfl)) ?_
   refine jb rfl (zJR (enc:=zHG) (es:=zKC (mt ++ (t ++ [x]))) (a:=(((nb x).find? (fun c=>!(mt ++ (t ++ [x])).contains c)).getD (0, 0))) (v:=B true) (.inl rfl) rfl rfl zKo rfl (zeW (l:=[.int .i64 ((((nb x).find? (fun c=>!(mt ++ (t ++ [x])).contains c)).getD (0, 0)).1:Int), .int .i64 ((((nb x).find? (fun c=>!(mt ++ (t ++ [x])).contains c)).getD (0, 0)).2:Int)]) rfl) Tryz.underlying122 zSG rfl) ?_
   refine zo (zD ?_)
   exact ⟨⟨(m, t ++ [x], (((nb x).find? (fun c=>!(mt ++ (t ++ [x])).contains c)).getD (0, 0))), hm.2⟩, (by have:=hm.1; dsimp only; omega), Weak.trans (zt (mem':=wM [d0, d1, d2, d3, d4, .mpv 0] al J (mt ++ (t ++ [x] ++ [(((nb x).find? (fun c=>!(mt ++ (t ++ [x])).contains c)).getD (0, 0))])) (Y ++ [.row [[d0, d1, d2, d3, d4, .mpv 0]], .row [[.mpv (3 + J.length)]], .row ((t ++ [x] ++ [(((nb x).find? (fun c=>!(mt ++ (t ++ [x])).contains c)).getD (0, 0))]).map rCr), .row ((nb x).map rCr)])) [(3, .pp ((3 + J.length + 1 + Y.length) + 0) 1 0 0), (5, .pp ((3 + J.length + 1 + Y.length) + 1) 1 0 0), (7, .psl ((3 + J.length + 1 + Y.length) + 2) (t ++ [x] ++ [(((nb x).find? (fun c=>!(mt ++ (t ++ [x])).contains c)).getD (0, 0))]).length)] ⟨rfl, rfl, congrArg (EV.psl _) (by simp), trivial⟩ ((zP3 hnm).trans (by rw [List.append_assoc mt]; simp))) (Weak.trans (zJG ((3 + J.length + 1 + Y.length) + 3) ⟨(show (3 + J.length + 1 + Y.length) + 0 < (3 + J.length + 1 + Y.length) + 3 by omega), (show (3 + J.length + 1 + Y.length) + 1 < (3 + J.length + 1 + Y.length) + 3 by omega), (show (3 + J.length + 1 + Y.length) + 2 < (3 + J.length + 1 + Y.length) + 3 by omega), trivial⟩ (by rw [zJY]; exact zMK (by omega) (fun x hx=>EV.lt_mono (by omega) (hDx3 x hx)) (zHI (zIo (by omega) hY) ⟨okD (by omega), okB (by omega), zHP _, trivial⟩)) (fun q hq=>EV.lt_mono (by rw [zHM]; omega) (hgl q hq))) (zt _ ⟨rfl, rfl, rfl, trivial⟩ zJY))⟩
end Go.Av
end
