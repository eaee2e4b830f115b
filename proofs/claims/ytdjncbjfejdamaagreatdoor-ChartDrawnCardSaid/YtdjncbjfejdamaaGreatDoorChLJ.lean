import Derived.Test.YtdjncbjfejdamaaGreatDoorChLI
import Derived.Test.YtdjncbjfejdamaaGreatDoorPlatQ
set_option linter.unusedVariables false
set_option linter.unusedSimpArgs false
section
namespace Go.Av
open Go.Proofs
set_option maxRecDepth 100000
set_option maxHeartbeats 1000000
variable {G:Glob}
theorem zSf:zh8 Tryz.prog 123 1 [.int .i64 0, .int .i64 0]:=⟨_, _, Tryz.t3, Tryz.underlying123, by kernel_rfl, by kernel_rfl, by kernel_rfl⟩
theorem zQU:zh8 Tryz.prog 169 2 [.int .i64 0, .int .i64 0, .int .i64 0, .int .i64 0, .int .i64 0, .int .i64 0, .int .i64 0, .int .i64 0]:=⟨_, _, Tryz.t123, Tryz.underlying169, by kernel_rfl, by kernel_rfl, by kernel_rfl⟩
theorem zRl:(Tryz.prog.info? 123).bind (·.zero) = some (.agg #[.int .i64 0, .int .i64 0]):=by kernel_rfl
theorem zPY:tyIs Tryz.prog 123 true 2 = true:=by kernel_rfl
theorem zJS:tyIs Tryz.prog 112 true 6 = true:=by kernel_rfl
theorem zMc:zgU Tryz.prog 123 2 1 = true:=by kernel_rfl
open Go.Shelf
theorem zOt:Enters Tryz.prog 71:=⟨Tryz.f71, Tryz.func71, by kernel_rfl, by kernel_rfl⟩
theorem zP2:Enters Tryz.prog 72:=⟨Tryz.f72, Tryz.func72, by kernel_rfl, by kernel_rfl⟩
theorem zQy:Enters Tryz.prog 127:=⟨Tryz.f127, Tryz.func127, by kernel_rfl, by kernel_rfl⟩
theorem zQi:zgU Tryz.prog 169 4 2 = true:=by kernel_rfl
def DF (f:Fld) (R lvl:Int) (d4:EV):List EV:=[.pub (.v (.int .i64 f.wide)), .pub (ei R), .pub (zO f.vals), .pub (ei lvl), d4, .mpv 0]
theorem zPR {f:Fld} {R lvl:Int} {d4:EV} (h:zec d4 = .top):zP8 (.mix (DF f R lvl d4)) (.agg (eDr f R lvl)):=AVle.of (by show AV.agg [_, _, _, _, zec d4, _] = _; rw [h]; rfl)
def eP4 (w p:Nat):List AV:=[ei ((cor w p 0:Nat):Int), ei ((cor w p 1:Nat):Int), ei ((cor w p 2:Nat):Int), ei ((cor w p 3:Nat):Int)]
def sdC (k:Nat):Nat × Nat:=[((0, 1):Nat × Nat), (0, 2), (1, 3), (2, 3)].getD k (0, 0)
theorem zQo {k:Nat} (hk:k < 4):(sdC k).1 < 4 /\ (sdC k).2 < 4:=by
 have:k = 0 ∨ k = 1 ∨ k = 2 ∨ k = 3:=by omega
 rcases this with rfl | rfl | rfl | rfl <;> decide
theorem zRg {k:Nat} (hk:k < 4):(([ei 0, ei 1, ei 0, ei 2, ei 1, ei 3, ei 2, ei 3].drop (((k:Nat):Int).toNat * 2)).take 2) = [ei (((sdC k).1:Nat):Int), ei (((sdC k).2:Nat):Int)]:=by
 have:k = 0 ∨ k = 1 ∨ k = 2 ∨ k = 3:=by omega
 rcases this with rfl | rfl | rfl | rfl <;> rfl
theorem zPT {w p i:Nat} (hi:i < 4):((eP4 w p).drop (((i:Nat):Int).toNat * 1))[0]? = some (ei ((cor w p i:Nat):Int)):=by
 have:i = 0 ∨ i = 1 ∨ i = 2 ∨ i = 3:=by omega
 rcases this with rfl | rfl | rfl | rfl <;> rfl
theorem zOI {w p i n:Nat} (hi:i < 4) (h:p + w + 1 < n):cor w p i < n:=by
 have:i = 0 ∨ i = 1 ∨ i = 2 ∨ i = 3:=by omega
 rcases this with rfl | rfl | rfl | rfl
 ·
  show p < n; omega
 ·
  show p + 1 < n; omega
 ·
  show p + w < n; omega
 ·
  show p + w + 1 < n; omega
def crK (h:Nat -> Bool) (w p k:Nat):Cr:=crP h (cor w p (sdC k).1) (cor w p (sdC k).2)
def crF (h:Nat -> Bool) (w p k:Nat):Bool:=h (cor w p (sdC k).1) != h (cor w p (sdC k).2)
def onP (h:Nat -> Bool) (w p n:Nat):List Cr:=((zHC w p).take n).filterMap fun s=>crO h s.1 s.2
theorem zOY (h:Nat -> Bool) (w p:Nat):onP h w p 4 = cellL h w p:=rfl
theorem zQP (h:Nat -> Bool) (a b:Nat):crO h a b = bif h a != h b then some (crP h a b) else none:=by
 unfold crO crP
 cases h a <;> cases h b <;> rfl
theorem zOy {h:Nat -> Bool} {w p n:Nat} (hn:n < 4):onP h w p (n + 1) = onP h w p n ++ (bif crF h w p n then [crK h w p n] else []):=by
 have key:∀ (l:List Cr) (a b:Nat), (l ++ [(a, b)]).filterMap (fun s=>crO h s.1 s.2) = l.filterMap (fun s=>crO h s.1 s.2) ++ (bif h a != h b then [crP h a b] else []):=fun l a b=>by
  rw [List.filterMap_append, List.filterMap_cons, List.filterMap_nil]
  simp only[zQP]
  cases h a != h b <;> rfl
 have h4:n = 0 ∨ n = 1 ∨ n = 2 ∨ n = 3:=by omega
 rcases h4 with rfl | rfl | rfl | rfl
 ·
  exact key [] p (p + 1)
 ·
  exact key [(p, p + 1)] p (p + w)
 ·
  exact key [(p, p + 1), (p, p + w)] (p + 1) (p + w + 1)
 ·
  exact key [(p, p + 1), (p, p + w), (p + 1, p + w + 1)] (p + w) (p + w + 1)
theorem zM0 (h:Nat -> Bool) (w p n:Nat):(onP h w p n).length <= 4:=by
 unfold onP
 have:=List.length_filterMap_le (fun s:Cr=>crO h s.1 s.2) ((zHC w p).take n)
 rw [List.length_take] at this
 have:(zHC w p).length = 4:=rfl
 omega
theorem zI8 {a b x:Cr} {J:List (Cr × List Cr)}:(zHu x [] (jnA a b J)).length <= (zHu x [] J).length + 1:=by
 unfold jnA
 rw [zJ9]
 split
 ·
  rename_i h; subst h; simp
 ·
  omega
theorem zRp {l:List Cr} (h:l.length = 2):two l = [(l.getD 0 (0, 0), l.getD 1 (0, 0))]:=match l, h with
 | [x, y], _=>rfl
theorem zRw {l:List Cr} (h:l.length = 4):two l = [(l.getD 0 (0, 0), l.getD 1 (0, 0)), (l.getD 2 (0, 0), l.getD 3 (0, 0))]:=match l, h with
 | [x, y, z, u], _=>rfl
theorem zQG {h:Nat -> Bool} {w p:Nat} (e:(cellL h w p).length = 2):zHO h w p = [((cellL h w p).getD 0 (0, 0), (cellL h w p).getD 1 (0, 0))]:=by
 unfold zHO zJ6; rw [e]; exact zRp e
theorem zQr {h:Nat -> Bool} {w p:Nat} (e:(cellL h w p).length = 4):zHO h w p = [((yb ltH (cellL h w p)).getD 0 (0, 0), (yb ltH (cellL h w p)).getD 1 (0, 0)), ((yb ltH (cellL h w p)).getD 2 (0, 0), (yb ltH (cellL h w p)).getD 3 (0, 0))]:=by
 unfold zHO zJ6; rw [e]; show two (yb ltH (cellL h w p)) = _; exact zRw (by rw [(zH0 _).length_eq, e])
theorem zP5 {h:Nat -> Bool} {w p:Nat} (e1:(cellL h w p).length ≠ 2) (e2:(cellL h w p).length ≠ 4):zHO h w p = []:=by
 unfold zHO zJ6
 rw [show ((cellL h w p).length == 4) = false by simpa using e2]
 have:∀ l:List Cr, l.length ≠ 2 -> l.length ≠ 4 -> two l = []:=fun l h2 h4=>by
  unfold two
  split
  ·
   exact absurd rfl h2
  ·
   exact absurd rfl h4
  ·
   rfl
 exact this _ e1 e2
section
variable {D:List EV} {al:List Cr} {T:Nat} {J:List (Cr × List Cr)} {X:List PO}
theorem lM_jMem4 {Y:List PO}:lM D al J ++ [.row []] ++ [.row []] ++ [.row []] ++ [.row []] ++ Y = zHH D al (J.length + 4) J Y:=by
 unfold lM zHH
 rw [show J.length + 4 - J.length = 4 by omega]
 simp
theorem zNi (h:J.length <= T) {x y:PO} {i:Nat} (hi:i = X.length):((zHH D al T J X ++ [PO.row []]).set (3 + T + i) x).set (3 + T + i) y = zHH D al T J (X ++ [y]):=by
 subst hi
 rw [jMem_app, zJw h, zJw h]
 congr 1
 rw [List.set_append_right _ _ (Nat.le_refl _), List.set_append_right _ _ (Nat.le_refl _), Nat.sub_self]; rfl
theorem zNm (h:J.length <= T) {x y b:PO} {i:Nat} (hb:X[0]? = some b) (hi:0 < i):(((zHH D al T J X ++ [PO.row []]).set (3 + T + i) x).set (3 + T + i) y)[3 + T]? = some b:=by
 rw [List.getElem?_set_ne (by omega), List.getElem?_set_ne (by omega), jMem_app, show 3 + T = 3 + T + 0 by omega, zHw h]
 cases X with
 | nil=>simp at hb
 | cons z X=>exact hb
theorem zI2 (h:J.length <= T) (i:Nat):(zHH D al T J X).take (3 + T + i) = zHH D al T J (X.take i):=by
 unfold zHH
 rw [List.take_append, zIG, List.take_append, zHy, List.take_append, List.length_replicate]
 rw [List.take_of_length_le (by rw [zIG]; omega), List.take_of_length_le (by rw [zHy]; omega), List.take_of_length_le (by rw [List.length_replicate]; omega)]
 congr 4; omega
end
theorem zMp {G:Glob} {C:List PO -> Prop} {fr:Nat -> EV} {mem:List PO} {o:Oper} {T:TypeId} {z:Value} {zs:List Value} {l:Nat} (ho:o.op = .alloc T) (hz:(Tryz.prog.info? T).bind (·.zero) = some z) (hc:z.cells = zs.toArray) (h1:zs.all Value.oneCell' = true) (hm:mem[l]? = some (.row []))
  (hC:∀ m x, C m -> C (m.set l x)):∀ m:List PO, m[l]? = mem[l]? -> C m -> OpB Tryz.prog G fr m o (.pp l 1 0 0) (m.set l (.row [zs.map fun v=>.pub (.v v)])) /\ C (m.set l (.row [zs.map fun v=>.pub (.v v)])):=fun m hml hCm=>
 ⟨fun N fr2 _ hd=>zmu (P:=Tryz.prog) (G:=G) (st:=⟨N, fr2, m⟩) ho hd hz hc h1 (hml.trans hm), hC m _ hCm⟩
theorem m74 (f:Fld) (R lvl:Int) (d4:EV) (al:List Cr) (J:List (Cr × List Cr)) (w p:Nat) (hp:p + w + 1 < f.vals.length) (hl:f.vals.length <= 1000) (hd4:d4.lt 3) (hu4:zec d4 = .top) (hJ:∀ x, (zHu x [] J).length <= 900):
  zjj Tryz.prog G 74 [.mix (DF f R lvl d4), .pub (.agg (eP4 w p))] (lM (DF f R lvl d4) al J) (.ret (.pub (.tup [])) (lM (DF f R lvl d4) al ((zHO (hiF f lvl) w p).foldl jn2 J))):=by
 have h70:=fun a b ha hb=>f70 (G:=G) f R lvl a b ha hb hl
 generalize hiF f lvl = h at h70 ⊢
 obtain ⟨T, hT⟩:∃ T, T = J.length + 4:=⟨_, rfl⟩
 have hD5:∀ x ∈ [.pub (.v (.int .i64 f.wide)), .pub (ei R), .pub (zO f.vals), .pub (ei lvl), d4], EV.lt 3 x:=fun x hx=>by
  simp only[List.mem_cons, List.not_mem_nil, or_false] at hx
  rcases hx with rfl | rfl | rfl | rfl | rfl <;> first | exact hd4 | trivial
 have hDx3:∀ x ∈ (DF f R lvl d4), EV.lt 3 x:=fun x hx=>by
  rw [show (DF f R lvl d4) = [.pub (.v (.int .i64 f.wide)), .pub (ei R), .pub (zO f.vals), .pub (ei lvl), d4] ++ [.mpv 0] from rfl] at hx
  rcases List.mem_append.1 hx with hx | hx
  ·
   exact hD5 x hx
  ·
   rw [List.mem_singleton] at hx; subst hx; simp [EV.lt]
 have hDx:∀ {k:Nat}, PO.okL (3 + T + k) (.row [(DF f R lvl d4)]):=fun {k} r hr x hx=>by rw [List.mem_singleton] at hr; subst hr; exact EV.lt_mono (by omega) (hDx3 x hx)
 have hL4:=zM0 h w p 4
 rw [zOY] at hL4
 have hSl:=(zH0 (lt:=ltH) (cellL h w p)).length_eq
 have hge1:∀ (J:List (Cr × List Cr)) (q:Cr × Cr), J.length <= (jn2 J q).length /\ (jn2 J q).length <= J.length + 2:=fun J q=>by
  have:=zP0 (a:=q.1) (b:=q.2) (J:=J)
  have:=zP0 (a:=q.2) (b:=q.1) (J:=jnA q.1 q.2 J)
  have:=zMT (a:=q.1) (b:=q.2) (J:=J)
  have:=zMT (a:=q.2) (b:=q.1) (J:=jnA q.1 q.2 J)
  unfold jn2; omega
 refine zKZ Tryz.func74 rfl (by kernel_rfl) rfl (fun gh hold hgl=>?_)
 refine zuy (zh ?_)
 refine wo vz ?_
 refine wo vz ?_
 refine wo vz ?_
 refine wo vz ?_
 refine jb rfl (zqW rfl rfl (zkN rfl)) ?_
 refine zg rfl rfl (jf rfl (zY rfl)) ?_
 refine zo (zf (zuy (zh ?_)))
 refine zg rfl rfl (zn rfl rfl) ?_
 refine zo (zf (zuy (zuy ?_)))
 refine qx (kG 4 rfl) ?_
 refine qx (zt (mem':=zHH (DF f R lvl d4) al T J [.row [(DF f R lvl d4)], .row []]) [(2, .pp (3 + T) 1 0 0), (3, .pub (.ptr (eP4 w p))), (4, .psl (3 + T + 1) 0)] ?_ ?_) ?_
 ·
  exact ⟨(congrArg (fun k=>EV.pp k 1 0 0) (by simp [lM_len]; omega)), rfl, (congrArg (fun k=>EV.psl k 0) (by simp [lM_len]; omega)), trivial⟩
 ·
  exact ((List.append_assoc _ _ _).trans (lM_jMem4.trans (by rw [hT]; rfl)))
 refine zh ?_
 refine zg rfl rfl (znx (cs:=[_, _]) rfl zSf rfl ⟨_, _, rfl, (jF rfl), ⟨_, _, rfl, (jF rfl), rfl⟩⟩ (by rfl) (by simp [ofV])) ?_
 refine zg rfl rfl (znx (cs:=[_, _]) rfl zSf rfl ⟨_, _, rfl, (jF rfl), ⟨_, _, rfl, (jF rfl), rfl⟩⟩ (by rfl) (by simp [ofV])) ?_
 refine zg rfl rfl (znx (cs:=[_, _]) rfl zSf rfl ⟨_, _, rfl, (jF rfl), ⟨_, _, rfl, (jF rfl), rfl⟩⟩ (by rfl) (by simp [ofV])) ?_
 refine zg rfl rfl (znx (cs:=[_, _]) rfl zSf rfl ⟨_, _, rfl, (jF rfl), ⟨_, _, rfl, (jF rfl), rfl⟩⟩ (by rfl) (by simp [ofV])) ?_
 refine zg rfl rfl (znx (cs:=[_, _, _, _, _, _, _, _]) rfl zQU rfl ⟨_, _, rfl, (zY rfl), ⟨_, _, rfl, (zY rfl), ⟨_, _, rfl, (zY rfl), ⟨_, _, rfl, (zY rfl), rfl⟩⟩⟩⟩ (by rfl) (by simp [ofV])) ?_
 refine zg rfl rfl (zi rfl rfl) ?_
 refine zo (zf (zB ?_))
 refine qy (ι:={ k:Nat // k <= 4 }) (fun k=>⟨⟨Tryz.f74.ntmps, [], gh, false, hold⟩, frL [(2, .pp (3 + T) 1 0 0), (3, .pub (.ptr (eP4 w p))), (4, .psl (3 + T + 1) (onP h w p k.1).length), (13, .pub (.agg [ei 0, ei 1, ei 0, ei 2, ei 1, ei 3, ei 2, ei 3])), (14, I (k.1:Int))], zHH (DF f R lvl d4) al T J [.row [(DF f R lvl d4)], .row ((onP h w p k.1).map rCr)]⟩) (fun k=>4 - k.1) (⟨0, by omega⟩) ?_ ?_
 ·
  exact zt _ ⟨rfl, rfl, rfl, rfl, rfl, trivial⟩ (rfl)
 ·
  rintro ⟨k, hk⟩
  dsimp only
  refine zuy (zh ?_)
  refine zg rfl rfl (zUB rfl rfl rfl) ?_
  refine zo (zf (zuy (zx rfl (fun h0=>?_) (fun h0=>?_))))
  ·
   skip
   have hk4:k < 4:=by simp at h0; omega
   have hsd:=zQo hk4
   have hOn:=zM0 h w p k
   have hos:=zOy (h:=h) (w:=w) (p:=p) hk4
   refine zC (zf (zuy (zB (zuy (zh ?_)))))
   refine zg rfl rfl (zR4 (cs:=[ei 0, ei 1, ei 0, ei 2, ei 1, ei 3, ei 2, ei 3]) (ds:=[ei (((sdC k).1:Nat):Int), ei (((sdC k).2:Nat):Int)]) rfl rfl rfl zQi (fun e he=>by rw [Tryz.underlying169] at he; cases he; exact zPY) (by omega) (by omega) (zRg hk4)) ?_
   refine vI  rfl rfl rfl rfl rfl rfl rfl zRl zPY rfl (by rfl) (zY rfl) rfl ?_
   refine zo (zf (zuy ?_))
   refine qx vz ?_
   refine wR (fun mm=>mm[3 + T]? = some (.row [(DF f R lvl d4)])) (fun k=>match k with | 0=>.stable | 1=>.stable | 2=>.stable | 3=>.stable | 4=>.stable | 5=>.stable | 6=>.stable | 7=>.stable | 8=>.stable | 9=>.stable | 10=>.stable | 11=>.stable | 12=>.stable | 13=>.own (3 + T + 2 + 0) | 14=>.writes | 15=>.stable | _=>.here) mixed (by kernel_rfl) rfl (by kernel_rfl) (by rw [jMem_app]; exact (zHw (i:=0) (by omega))) ?_
   refine zuC rfl rfl (fun m hm=>zuz (r:=(DF f R lvl d4)) rfl rfl hm rfl rfl (by exact zLb rfl) rfl zJS) ?_
   refine zuC rfl rfl (fun m hm=>vP rfl rfl rfl zMc (by omega) (by omega)) ?_
   refine zuC rfl rfl (fun m hm=>zA (c:=ei (((sdC k).1:Nat):Int)) rfl rfl rfl ty3) ?_
   refine zuC rfl rfl (fun m hm=>vP rfl rfl rfl zR8 (by omega) (by have:=hsd.1; omega)) ?_
   refine zuC rfl rfl (fun m hm=>zA rfl rfl (zPT hsd.1) ty3) ?_
   refine zuC rfl rfl (fun m hm=>vP rfl rfl rfl zMc (by omega) (by omega)) ?_
   refine zuC rfl rfl (fun m hm=>zA (c:=ei (((sdC k).2:Nat):Int)) rfl rfl rfl ty3) ?_
   refine zuC rfl rfl (fun m hm=>vP rfl rfl rfl zR8 (by omega) (by have:=hsd.2; omega)) ?_
   refine zuC rfl rfl (fun m hm=>zA rfl rfl (zPT hsd.2) ty3) ?_
   refine zuC rfl rfl (fun m hm=>zNb (av:=[.agg (eDr f R lvl), ei ((cor w p (sdC k).1:Nat):Int), ei ((cor w p (sdC k).2:Nat):Int)]) rfl ⟨_, _, rfl, zPR hu4, _, _, rfl, AVle.refl _, _, _, rfl, AVle.refl _, rfl⟩ (h70 _ _ (zOI hsd.1 hp) (zOI hsd.2 hp))) ?_
   refine zuC rfl rfl (fun m hm=>zq rfl rfl) ?_
   refine zuC rfl rfl (fun m hm=>zN rfl rfl rfl) ?_
   refine zuC rfl rfl (fun m hm=>zN rfl rfl rfl) ?_
   refine zgb rfl rfl (zMp rfl zKI rfl rfl (by rw [jMem_app]; exact (zHw (i:=2) (by omega))) (fun m x hm=>by rw [List.getElem?_set_ne (by omega)]; exact hm)) ?_
   refine zaw rfl rfl (jk (k:=3 + T + 2) (r:=[I 0, I 0]) rfl rfl rfl (List.getElem?_set_self (by rw [List.length_append, zIi (by omega)]; simp)) rfl rfl (zY rfl) zHs (by rfl) (by rfl)) (zNm (X:=[.row [(DF f R lvl d4)], .row ((onP h w p k).map rCr)]) (i:=2) (by omega) rfl (by omega)) ?_
   refine zuC rfl rfl (fun m hm=>zn rfl rfl) ?_
   refine wQ (zf (zuy ?_))
   refine qx (zt (mem':=zHH (DF f R lvl d4) al T J [.row [(DF f R lvl d4)], .row ((onP h w p k).map rCr), .row [rCr (crK h w p k)]]) [(2, .pp (3 + T) 1 0 0), (3, .pub (.ptr (eP4 w p))), (4, .psl (3 + T + 1) (onP h w p k).length), (13, .pub (.agg [ei 0, ei 1, ei 0, ei 2, ei 1, ei 3, ei 2, ei 3])), (14, I (k:Int)), (7, .pp (3 + T + 2) 1 0 0), (8, B (crF h w p k))] ?_ ?_) ?_
   ·
    exact ⟨rfl, rfl, rfl, rfl, rfl, rfl, rfl, trivial⟩
   ·
    exact (zNi (X:=[.row [(DF f R lvl d4)], .row ((onP h w p k).map rCr)]) (i:=2) (by omega) rfl)
   refine zh ?_
   refine zg rfl rfl (zi rfl rfl) ?_
   refine zo (zf (zx rfl (fun h1=>?_) (fun h1=>?_)))
   ·
    skip
    rw [h1, cond_true] at hos
    have hp5:EV.psl (3 + T + 1) ((onP h w p k).length + 1) = EV.psl (3 + T + 1) (onP h w p (k + 1)).length:=by rw [hos]; simp
    have hm5:(zHH (DF f R lvl d4) al T J [.row [(DF f R lvl d4)], .row ((onP h w p k).map rCr), .row [rCr (crK h w p k)]]).set (3 + T + 1) (.row ((onP h w p k).map rCr ++ [rCr (crK h w p k)])) = zHH (DF f R lvl d4) al T J [.row [(DF f R lvl d4)], .row ((onP h w p (k + 1)).map rCr), .row [rCr (crK h w p k)]]:=by rw [zJw (by omega), hos, List.map_append]; rfl
    refine zh ?_
    refine zg rfl rfl (zI rfl rfl) ?_
    refine zg rfl rfl (qN (cs:=eCr (crK h w p k)) rfl rfl (zHw (i:=2) (by omega)) rfl rfl (show 0 + 2 <= (rCr _).length from Nat.le_refl 2) rfl zHs) ?_
    refine zg rfl rfl (qg (size:=2) (rows:=[[_, _]]) rfl Tryz.underlying48 zKq rfl (by decide) rfl (by decide) ⟨_, _, rfl, (zY rfl), rfl⟩ (by rfl) (by simp [ofV]) rfl (by simp)) ?_
    refine jb rfl (vS (k:=3 + T + 1) (rows:=(onP h w p k).map rCr) (ns:=[rCr (crK h w p k)]) rfl rfl rfl (zHw (i:=1) (by omega)) (List.length_map _) rfl zt5 zHv (by simp [rCr]) (by have:=hOn; show ((onP h w p k).length + 1) * 16 <= 140737488355328; omega) (by have:=hOn; show (onP h w p k).length + 1 <= maxLen; unfold maxLen; omega)) ?_
    refine zg rfl rfl (qo rfl rfl) ?_
    refine zo (zD (zf (zh ?_)))
    refine zg rfl rfl (zV rfl rfl rfl ⟨(by omega), (by omega)⟩) ?_
    refine zg rfl rfl (zi rfl rfl) ?_
    refine zo ?_
    exact ⟨⟨k + 1, by omega⟩, by dsimp only; omega, Weak.trans (zt (mem':=zHH (DF f R lvl d4) al T J [.row [(DF f R lvl d4)], .row ((onP h w p (k + 1)).map rCr), .row [rCr (crK h w p k)]]) [(2, .pp (3 + T) 1 0 0), (3, .pub (.ptr (eP4 w p))), (4, .psl (3 + T + 1) (onP h w p (k + 1)).length), (13, .pub (.agg [ei 0, ei 1, ei 0, ei 2, ei 1, ei 3, ei 2, ei 3])), (14, I (((k + 1:Nat)):Int))] ⟨rfl, rfl, hp5, rfl, rfl, trivial⟩ hm5) (Weak.trans (zJG (3 + T + 2) ⟨(show 3 + T < 3 + T + 2 by omega), trivial, (show 3 + T + 1 < 3 + T + 2 by omega), trivial, trivial, trivial⟩ (by rw [zI2 (by omega)]; exact zR9 (by omega) (by omega) (fun x hx=>EV.lt_mono (by omega) (hDx3 x hx)) ⟨hDx, zHP _, trivial⟩) (fun q hq=>EV.lt_mono (by rw [lM_len]; omega) (hgl q hq))) (zt [(2, .pp (3 + T) 1 0 0), (3, .pub (.ptr (eP4 w p))), (4, .psl (3 + T + 1) (onP h w p (k + 1)).length), (13, .pub (.agg [ei 0, ei 1, ei 0, ei 2, ei 1, ei 3, ei 2, ei 3])), (14, I (((k + 1:Nat)):Int))] ⟨rfl, rfl, rfl, rfl, rfl, trivial⟩ (zI2 (by omega) 2)))⟩
   ·
    skip
    rw [h1, cond_false, List.append_nil] at hos
    have hp5:EV.psl (3 + T + 1) (onP h w p k).length = EV.psl (3 + T + 1) (onP h w p (k + 1)).length:=by rw [hos]
    have hm5:zHH (DF f R lvl d4) al T J [.row [(DF f R lvl d4)], .row ((onP h w p k).map rCr), .row [rCr (crK h w p k)]] = zHH (DF f R lvl d4) al T J [.row [(DF f R lvl d4)], .row ((onP h w p (k + 1)).map rCr), .row [rCr (crK h w p k)]]:=by rw [hos]
    refine zC (zD (zf (zh ?_)))
    refine zg rfl rfl (zV rfl rfl rfl ⟨(by omega), (by omega)⟩) ?_
    refine zg rfl rfl (zi rfl rfl) ?_
    refine zo ?_
    exact ⟨⟨k + 1, by omega⟩, by dsimp only; omega, Weak.trans (zt (mem':=zHH (DF f R lvl d4) al T J [.row [(DF f R lvl d4)], .row ((onP h w p (k + 1)).map rCr), .row [rCr (crK h w p k)]]) [(2, .pp (3 + T) 1 0 0), (3, .pub (.ptr (eP4 w p))), (4, .psl (3 + T + 1) (onP h w p (k + 1)).length), (13, .pub (.agg [ei 0, ei 1, ei 0, ei 2, ei 1, ei 3, ei 2, ei 3])), (14, I (((k + 1:Nat)):Int))] ⟨rfl, rfl, hp5, rfl, rfl, trivial⟩ hm5) (Weak.trans (zJG (3 + T + 2) ⟨(show 3 + T < 3 + T + 2 by omega), trivial, (show 3 + T + 1 < 3 + T + 2 by omega), trivial, trivial, trivial⟩ (by rw [zI2 (by omega)]; exact zR9 (by omega) (by omega) (fun x hx=>EV.lt_mono (by omega) (hDx3 x hx)) ⟨hDx, zHP _, trivial⟩) (fun q hq=>EV.lt_mono (by rw [lM_len]; omega) (hgl q hq))) (zt [(2, .pp (3 + T) 1 0 0), (3, .pub (.ptr (eP4 w p))), (4, .psl (3 + T + 1) (onP h w p (k + 1)).length), (13, .pub (.agg [ei 0, ei 1, ei 0, ei 2, ei 1, ei 3, ei 2, ei 3])), (14, I (((k + 1:Nat)):Int))] ⟨rfl, rfl, rfl, rfl, rfl, trivial⟩ (zI2 (by omega) 2)))⟩
  ·
   skip
   have hk4:k = 4:=by simp at h0; omega
   subst hk4
   refine qp (zRQ (zRQ (qw (zf (zuy ?_)))))
   refine qx (zt (mem':=zHH (DF f R lvl d4) al T J [.row [(DF f R lvl d4)], .row ((cellL h w p).map rCr)]) [(2, .pp (3 + T) 1 0 0), (3, .pub (.ptr (eP4 w p))), (4, .psl (3 + T + 1) (cellL h w p).length)] ?_ ?_) ?_
   ·
    exact ⟨rfl, rfl, rfl, trivial⟩
   ·
    exact rfl
   refine zh ?_
   refine zg rfl rfl (zI rfl rfl) ?_
   refine zg rfl rfl (jE rfl rfl (zHw (i:=1) (by omega)) (List.length_map _) Tryz.underlying48) ?_
   refine zo (zf (zB (zuy (zh ?_))))
   refine zg rfl rfl (qJ rfl rfl rfl) ?_
   refine zg rfl rfl (zn rfl rfl) ?_
   refine zo (zf (zx rfl (fun h2=>?_) (fun h2=>?_)))
   ·
    skip
    have h2l:(cellL h w p).length = 2:=by simp at h2; omega
    have hj:=zQG h2l
    have hjo:(zHO h w p).foldl jn2 J = jn2 J ((cellL h w p).getD 0 (0, 0), (cellL h w p).getD 1 (0, 0)):=by rw [hj]; rfl
    have hjg:=hge1 J ((cellL h w p).getD 0 (0, 0), (cellL h w p).getD 1 (0, 0))
    have hjl:3 + J.length <= 3 + ((zHO h w p).foldl jn2 J).length:=by rw [hjo]; omega
    have hA:∀ a (b c:Cr), (zHu a [] J).length <= 1000:=fun a _ _=>by have:=hJ a; omega
    have hA2:∀ a b c (d e:Cr), (zHu a [] (jnA b c J)).length <= 1000:=fun a b c _ _=>by have:=hJ a; have:=zI8 (a:=b) (b:=c) (x:=a) (J:=J); omega
    refine zRT 7 7 rfl (fun _=>True) (fun k=>match k with  | _=>.here) mixed (by kernel_rfl) (by kernel_rfl) rfl (by kernel_rfl) trivial ?_
    refine zX rfl rfl (zuz (r:=(DF f R lvl d4)) rfl rfl (zHw (i:=0) (by omega)) rfl rfl (by exact zLb rfl) rfl zJS) ?_
    refine zX rfl rfl (zI rfl rfl) ?_
    refine zX rfl rfl (qc rfl rfl rfl (zHw (i:=1) (by omega)) (List.length_map _) zt9 (by omega) (by omega) zHv) ?_
    refine zX rfl rfl (qN (cs:=eCr ((cellL h w p).getD 0 (0, 0))) rfl rfl (zHw (i:=1) (by omega)) (List.length_map _) (zIr (by omega)) (show 0 + 2 <= (rCr _).length from Nat.le_refl 2) rfl zHs) ?_
    refine zX rfl rfl (zI rfl rfl) ?_
    refine zX rfl rfl (qc rfl rfl rfl (zHw (i:=1) (by omega)) (List.length_map _) zt9 (by omega) (by omega) zHv) ?_
    refine zX rfl rfl (qN (cs:=eCr ((cellL h w p).getD 1 (0, 0))) rfl rfl (zHw (i:=1) (by omega)) (List.length_map _) (zIr (by omega)) (show 0 + 2 <= (rCr _).length from Nat.le_refl 2) rfl zHs) ?_
    refine wQ ?_
    refine jb rfl (zij (f:=126) (fs:=[]) (cs:=[]) (av:=[.mix (DF f R lvl d4), .pub (.agg (eCr ((cellL h w p).getD 0 (0, 0)))), .pub (.agg (eCr ((cellL h w p).getD 1 (0, 0))))]) rfl rfl ⟨rfl, rfl, rfl⟩ ⟨rfl, rfl, rfl, trivial⟩ (zQs _ _ _ _ d4 al T J [.row [(DF f R lvl d4)], .row ((cellL h w p).map rCr)] ((cellL h w p).getD 0 (0, 0)) ((cellL h w p).getD 1 (0, 0)) (by omega) hD5 ⟨hDx, zHP _, trivial⟩ (hA _ (0, 0) (0, 0)) (hA2 _ _ _ (0, 0) (0, 0)))) ?_
    refine zo (zD ?_)
    exact zbB (List.replicate (T - (jn2 J ((cellL h w p).getD 0 (0, 0), (cellL h w p).getD 1 (0, 0))).length) (.row []) ++ [.row [(DF f R lvl d4)], .row ((cellL h w p).map rCr)]) (by rw [hjo]; exact zRW (by omega)) (zMz (by rw [lM_len]; exact Nat.le_refl _) (fun x hx=>EV.lt_mono (by rw [lM_len]; omega) (hDx3 x hx))) (by rw [lM_len, lM_len]; exact hjl) (.inl rfl) trivial ⟨[], rfl, rfl⟩
   ·
    skip
    have h2n:(cellL h w p).length ≠ 2:=by simp at h2; omega
    refine zuy (zh ?_)
    refine zg rfl rfl (qJ rfl rfl rfl) ?_
    refine zg rfl rfl (zn rfl rfl) ?_
    refine zo (zf (zx rfl (fun h3=>?_) (fun h3=>?_)))
    ·
     skip
     have h4l:(cellL h w p).length = 4:=by simp at h3; omega
     have hj:=zQr h4l
     have hjg:=hge1 J ((yb ltH (cellL h w p)).getD 0 (0, 0), (yb ltH (cellL h w p)).getD 1 (0, 0))
     have hjg2:=hge1 (jn2 J ((yb ltH (cellL h w p)).getD 0 (0, 0), (yb ltH (cellL h w p)).getD 1 (0, 0))) ((yb ltH (cellL h w p)).getD 2 (0, 0), (yb ltH (cellL h w p)).getD 3 (0, 0))
     have hjo2:(zHO h w p).foldl jn2 J = jn2 (jn2 J ((yb ltH (cellL h w p)).getD 0 (0, 0), (yb ltH (cellL h w p)).getD 1 (0, 0))) ((yb ltH (cellL h w p)).getD 2 (0, 0), (yb ltH (cellL h w p)).getD 3 (0, 0)):=by rw [hj]; rfl
     have hjl:3 + J.length <= 3 + ((zHO h w p).foldl jn2 J).length:=by rw [hjo2]; omega
     have hA:∀ (a b c:Cr), ∀ {J2:List (Cr × List Cr)}, (J2 = J ∨ J2 = (jn2 J ((yb ltH (cellL h w p)).getD 0 (0, 0), (yb ltH (cellL h w p)).getD 1 (0, 0)))) -> (zHu a [] J2).length <= 1000:=fun a _ _ J2 hq=>by have:=hJ a; rcases hq with rfl | rfl; omega; unfold jn2; have:=zI8 (a:=((yb ltH (cellL h w p)).getD 0 (0, 0))) (b:=((yb ltH (cellL h w p)).getD 1 (0, 0))) (x:=a) (J:=J); have:=zI8 (a:=((yb ltH (cellL h w p)).getD 1 (0, 0))) (b:=((yb ltH (cellL h w p)).getD 0 (0, 0))) (x:=a) (J:=jnA ((yb ltH (cellL h w p)).getD 0 (0, 0)) ((yb ltH (cellL h w p)).getD 1 (0, 0)) J); dsimp only; omega
     have hA2:∀ (a b c d e:Cr), ∀ {J2:List (Cr × List Cr)}, (J2 = J ∨ J2 = (jn2 J ((yb ltH (cellL h w p)).getD 0 (0, 0), (yb ltH (cellL h w p)).getD 1 (0, 0)))) -> (zHu a [] (jnA b c J2)).length <= 1000:=fun a b c _ _ J2 hq=>by have:=hJ a; have:=zI8 (a:=b) (b:=c) (x:=a) (J:=J2); rcases hq with rfl | rfl; omega; unfold jn2 at this ⊢; have:=zI8 (a:=((yb ltH (cellL h w p)).getD 0 (0, 0))) (b:=((yb ltH (cellL h w p)).getD 1 (0, 0))) (x:=a) (J:=J); have:=zI8 (a:=((yb ltH (cellL h w p)).getD 1 (0, 0))) (b:=((yb ltH (cellL h w p)).getD 0 (0, 0))) (x:=a) (J:=jnA ((yb ltH (cellL h w p)).getD 0 (0, 0)) ((yb ltH (cellL h w p)).getD 1 (0, 0)) J); dsimp only at *; omega
     refine zuy (zh ?_)
     refine zg rfl rfl (zI rfl rfl) ?_
     refine jb rfl (zSb (k:=3 + T + 1) (ls:=(cellL h w p).map pI) (ls':=(yb ltH (cellL h w p)).map pI) (cf:=zJN) Tryz.sortK rfl rfl rfl rfl rfl ((zHw (i:=1) (by omega)).trans (congrArg (fun z=>some (PO.row z)) (zJy _))) (List.length_map _) (by rw [List.length_map]; omega) zOt zQy Tryz.isAgg50 Tryz.sizeOf50 zQn zRC (zRG _)) ?_
     refine zo (zf (zuy ?_))
     refine qx (zt (mem':=zHH (DF f R lvl d4) al T J [.row [(DF f R lvl d4)], .row ((yb ltH (cellL h w p)).map rCr)]) [(2, .pp (3 + T) 1 0 0), (3, .pub (.ptr (eP4 w p))), (4, .psl (3 + T + 1) (yb ltH (cellL h w p)).length)] ?_ ?_) ?_
     ·
      exact ⟨rfl, rfl, (congrArg (EV.psl _) hSl.symm), trivial⟩
     ·
      exact ((zJw (i:=1) (by omega)).trans (by rw [← zJy]; rfl))
     refine zRT 7 7 rfl (fun _=>True) (fun k=>match k with  | _=>.here) mixed (by kernel_rfl) (by kernel_rfl) rfl (by kernel_rfl) trivial ?_
     refine zX rfl rfl (zuz (r:=(DF f R lvl d4)) rfl rfl (zHw (i:=0) (by omega)) rfl rfl (by exact zLb rfl) rfl zJS) ?_
     refine zX rfl rfl (zI rfl rfl) ?_
     refine zX rfl rfl (qc rfl rfl rfl (zHw (i:=1) (by omega)) (List.length_map _) zt9 (by omega) (by omega) zHv) ?_
     refine zX rfl rfl (qN (cs:=eCr ((yb ltH (cellL h w p)).getD 0 (0, 0))) rfl rfl (zHw (i:=1) (by omega)) (List.length_map _) (zIr (by omega)) (show 0 + 2 <= (rCr _).length from Nat.le_refl 2) rfl zHs) ?_
     refine zX rfl rfl (zI rfl rfl) ?_
     refine zX rfl rfl (qc rfl rfl rfl (zHw (i:=1) (by omega)) (List.length_map _) zt9 (by omega) (by omega) zHv) ?_
     refine zX rfl rfl (qN (cs:=eCr ((yb ltH (cellL h w p)).getD 1 (0, 0))) rfl rfl (zHw (i:=1) (by omega)) (List.length_map _) (zIr (by omega)) (show 0 + 2 <= (rCr _).length from Nat.le_refl 2) rfl zHs) ?_
     refine wQ ?_
     refine jb rfl (zij (f:=126) (fs:=[]) (cs:=[]) (av:=[.mix (DF f R lvl d4), .pub (.agg (eCr ((yb ltH (cellL h w p)).getD 0 (0, 0)))), .pub (.agg (eCr ((yb ltH (cellL h w p)).getD 1 (0, 0))))]) rfl rfl ⟨rfl, rfl, rfl⟩ ⟨rfl, rfl, rfl, trivial⟩ (zQs _ _ _ _ d4 al T J [.row [(DF f R lvl d4)], .row ((yb ltH (cellL h w p)).map rCr)] ((yb ltH (cellL h w p)).getD 0 (0, 0)) ((yb ltH (cellL h w p)).getD 1 (0, 0)) (by omega) hD5 ⟨hDx, zHP _, trivial⟩ (hA _ (0, 0) (0, 0) (.inl rfl)) (hA2 _ _ _ (0, 0) (0, 0) (.inl rfl)))) ?_
     refine zo (zf ?_)
     refine zRT 7 7 rfl (fun _=>True) (fun k=>match k with  | _=>.here) mixed (by kernel_rfl) (by kernel_rfl) rfl (by kernel_rfl) trivial ?_
     refine zX rfl rfl (zuz (r:=(DF f R lvl d4)) rfl rfl (zHw (i:=0) (by omega)) rfl rfl (by exact zLb rfl) rfl zJS) ?_
     refine zX rfl rfl (zI rfl rfl) ?_
     refine zX rfl rfl (qc rfl rfl rfl (zHw (i:=1) (by omega)) (List.length_map _) zt9 (by omega) (by omega) zHv) ?_
     refine zX rfl rfl (qN (cs:=eCr ((yb ltH (cellL h w p)).getD 2 (0, 0))) rfl rfl (zHw (i:=1) (by omega)) (List.length_map _) (zIr (by omega)) (show 0 + 2 <= (rCr _).length from Nat.le_refl 2) rfl zHs) ?_
     refine zX rfl rfl (zI rfl rfl) ?_
     refine zX rfl rfl (qc rfl rfl rfl (zHw (i:=1) (by omega)) (List.length_map _) zt9 (by omega) (by omega) zHv) ?_
     refine zX rfl rfl (qN (cs:=eCr ((yb ltH (cellL h w p)).getD 3 (0, 0))) rfl rfl (zHw (i:=1) (by omega)) (List.length_map _) (zIr (by omega)) (show 0 + 2 <= (rCr _).length from Nat.le_refl 2) rfl zHs) ?_
     refine wQ ?_
     refine jb rfl (zij (f:=126) (fs:=[]) (cs:=[]) (av:=[.mix (DF f R lvl d4), .pub (.agg (eCr ((yb ltH (cellL h w p)).getD 2 (0, 0)))), .pub (.agg (eCr ((yb ltH (cellL h w p)).getD 3 (0, 0))))]) rfl rfl ⟨rfl, rfl, rfl⟩ ⟨rfl, rfl, rfl, trivial⟩ (zQs _ _ _ _ d4 al T (jn2 J ((yb ltH (cellL h w p)).getD 0 (0, 0), (yb ltH (cellL h w p)).getD 1 (0, 0))) [.row [(DF f R lvl d4)], .row ((yb ltH (cellL h w p)).map rCr)] ((yb ltH (cellL h w p)).getD 2 (0, 0)) ((yb ltH (cellL h w p)).getD 3 (0, 0)) (by omega) hD5 ⟨hDx, zHP _, trivial⟩ (hA _ (0, 0) (0, 0) (.inr rfl)) (hA2 _ _ _ (0, 0) (0, 0) (.inr rfl)))) ?_
     refine zo (zD ?_)
     exact zbB (List.replicate (T - (jn2 (jn2 J ((yb ltH (cellL h w p)).getD 0 (0, 0), (yb ltH (cellL h w p)).getD 1 (0, 0))) ((yb ltH (cellL h w p)).getD 2 (0, 0), (yb ltH (cellL h w p)).getD 3 (0, 0))).length) (.row []) ++ [.row [(DF f R lvl d4)], .row ((yb ltH (cellL h w p)).map rCr)]) (by rw [hjo2]; exact zRW (by omega)) (zMz (by rw [lM_len]; exact Nat.le_refl _) (fun x hx=>EV.lt_mono (by rw [lM_len]; omega) (hDx3 x hx))) (by rw [lM_len, lM_len]; exact hjl) (.inl rfl) trivial ⟨[], rfl, rfl⟩
    ·
     skip
     have h4n:(cellL h w p).length ≠ 4:=by simp at h3; omega
     have hjo3:(zHO h w p).foldl jn2 J = J:=by rw [zP5 h2n h4n]; rfl
     have hjl:3 + J.length <= 3 + ((zHO h w p).foldl jn2 J).length:=by rw [hjo3]; omega
     refine zC (zD ?_)
     exact zbB (List.replicate (T - J.length) (.row []) ++ [.row [(DF f R lvl d4)], .row ((cellL h w p).map rCr)]) (by rw [hjo3]; exact zRW (by omega)) (zMz (by rw [lM_len]; exact Nat.le_refl _) (fun x hx=>EV.lt_mono (by rw [lM_len]; omega) (hDx3 x hx))) (by rw [lM_len, lM_len]; exact hjl) (.inl rfl) trivial ⟨[], rfl, rfl⟩
end Go.Av
end
