import Derived.Test.YtaphehlgijlfeaaGreatDoorWiM
import Derived.Test.YtaphehlgijlfeaaGreatDoorLibB
import Derived.Test.YtaphehlgijlfeaaGreatDoorPlatJ
set_option linter.unusedVariables false
set_option linter.unusedSimpArgs false
section
namespace Go.Av
open Go.Proofs
set_option maxRecDepth 100000
set_option maxHeartbeats 1000000
variable {G:Glob}
theorem zpZ:tyIs Tryz.prog 30 false 1 = true:=by kernel_rfl
theorem zo9:elemIs Tryz.prog 30 23 1 24:=⟨Tryz.underlying30, Tryz.t23, _, by kernel_rfl, rfl, rfl, rfl, rfl, by decide⟩
theorem zmt:Tryz.prog.info? 23 = some Tryz.t23:=by kernel_rfl
theorem zlJ:tyIs Tryz.prog 183 false 1 = true:=by kernel_rfl
theorem zv3:(Tryz.prog.info? 3).bind (·.zero) = some (.int .i64 0):=by kernel_rfl
def qA (m:List Int):List (List EV):=m.map fun x=>[I x]
def yQ (ls:List (List Int)):List (List EV):=ls.map fun m=>[EV.pub (nums m)]
theorem yK (m:List Int):qA m = (m.map fun n=>[AV.v (.int .i64 n)]).map (·.map .pub):=by simp [qA]
theorem zgE (ls:List (List Int)):yQ ls = (ls.map fun m=>[nums m]).map (·.map .pub):=by simp [yQ]
theorem qm (m:List Int):(qA m).length = m.length:=by simp [qA]
theorem wY {m:List Int} {a:Nat} (h:a < m.length):(qA m)[a]? = some [I (m.getD a 0)]:=by simp [qA, h]
theorem wW (m:List Int) (a:Nat) (x y:Int):(qA m).set a (putCells [I x] 0 [I y]) = qA (m.set a y):=by simp [qA, putCells, List.map_set]
theorem jh (m:List Int):∀ q ∈ qA m, q.length = 1:=by simp [qA]
theorem zdu (ls:List (List Int)):∀ q ∈ yQ ls, q.length = 1:=by simp [yQ]
def zgk (c:Cod) (l:List (List (List UInt8))):List EV:=[.pub (.ptr (yc c l)), .pp 2 1 0 0, .pp 0 1 0 0, .pub (.ptr [ei (c.fields.length:Int)]), .pp 3 1 0 0]
def zdB (c:Cod) (l:List (List (List UInt8))) (now:List Int) (ls:List (List Int)):List PO:=[.row [[.psl 4 ls.length]], .row (qA now), .row [[.psl 1 c.fields.length]], .row [[.fnm 136 [] (zgk c l)]], .row (yQ ls)]
theorem zev {c:Cod} {l:List (List (List UInt8))} {now:List Int} {ls:List (List Int)} {n:Nat} {r1 r2:List (List EV)} (h1:n = ls.length) (h2:r1 = qA now) (h3:r2 = yQ ls):
  [PO.row [[.psl 4 n]], .row r1, .row [[.psl 1 c.fields.length]], .row [[.fnm 136 [] (zgk c l)]], .row r2] = zdB c l now ls:=by subst h1; subst h2; subst h3; rfl
theorem zcc {c:Cod} {l:List (List (List UInt8))} {now now':List Int} {ls ls':List (List Int)} (h1:now = now') (h2:ls = ls'):zdB c l now ls = zdB c l now' ls':=by subst h1; subst h2; rfl
theorem zcS (c:Cod) (l:List (List (List UInt8))) (now:List Int) (ls:List (List Int)):zdA (zdB c l now ls).length (zdB c l now ls):=by
 refine ⟨?_, ?_, ?_, ?_, ?_, trivial⟩
 ·
  intro r hr x hx
  simp at hr; subst hr; simp at hx; subst hx
  show 4 < 5
  omega
 ·
  intro r hr x hx
  obtain ⟨y, _, rfl⟩:=List.mem_map.1 hr
  simp at hx; subst hx; trivial
 ·
  intro r hr x hx
  simp at hr; subst hr; simp at hx; subst hx
  show 1 < 5
  omega
 ·
  intro r hr x hx
  simp at hr; subst hr; simp at hx; subst hx
  refine ⟨trivial, trivial, ?_, ?_, trivial, ?_, trivial⟩ <;> (show _ < 5; omega)
 ·
  intro r hr x hx
  obtain ⟨y, _, rfl⟩:=List.mem_map.1 hr
  simp at hx; subst hx; trivial
def zfX (now:List Int) (a:Nat) (L:List Nat):Nat -> List Int
 | 0=>now
 | j + 1=>now.set a (10 * now.getD a 0 + ((L.getD j 0:Nat):Int))
def lsJ (c:Cod) (l:List (List (List UInt8))) (fu pz a:Nat) (sum:Int) (n:Int × Int × Int) (now:List Int) (ls:List (List Int)) (j:Nat):List (List Int):=
 ls ++ ((zaA c l a pz n).take j).flatMap fun (f:Nat)=>zvc c l fu pz (a + 1) (sum + (f:Int)) (plN l a pz (f:Int) n) (now.set a (10 * now.getD a 0 + (f:Int)))
theorem zaC {now:List Int} {a:Nat} {L:List Nat} (j:Nat):(zfX now a L j).length = now.length:=by cases j <;> simp [zfX]
theorem ziQ {now:List Int} {a:Nat} {L:List Nat} (j:Nat) (y:Int):(zfX now a L j).set a y = now.set a y:=by cases j <;> simp [zfX]
theorem zmh {now:List Int} {a:Nat} {L:List Nat} {j f:Nat} (h:L[j]? = some f):zfX now a L (j + 1) = now.set a (10 * now.getD a 0 + (f:Int)):=by simp [zfX, h]
theorem lsJ_0 {c:Cod} {l:List (List (List UInt8))} {fu pz a:Nat} {sum:Int} {n:Int × Int × Int} {now:List Int} {ls:List (List Int)}:lsJ c l fu pz a sum n now ls 0 = ls:=by simp [lsJ]
theorem ziN {c:Cod} {l:List (List (List UInt8))} {fu pz a:Nat} {sum:Int} {n:Int × Int × Int} {now:List Int} {ls:List (List Int)} {j f:Nat} (h:(zaA c l a pz n)[j]? = some f):
  lsJ c l fu pz a sum n now ls (j + 1) = lsJ c l fu pz a sum n now ls j ++ zvc c l fu pz (a + 1) (sum + (f:Int)) (plN l a pz (f:Int) n) (now.set a (10 * now.getD a 0 + (f:Int))):=by
 simp [lsJ, List.take_add_one, h]
theorem zr0 {c:Cod} {l:List (List (List UInt8))} {fu pz a:Nat} {sum:Int} {n:Int × Int × Int} {now:List Int} {ls:List (List Int)} (j:Nat):
  (lsJ c l fu pz a sum n now ls j).length <= (ls ++ (zaA c l a pz n).flatMap fun (f:Nat)=>zvc c l fu pz (a + 1) (sum + (f:Int)) (plN l a pz (f:Int) n) (now.set a (10 * now.getD a 0 + (f:Int)))).length:=by
 unfold lsJ
 conv=>rhs; rw [← List.take_append_drop j (zaA c l a pz n), List.flatMap_append]
 simp only[List.length_append]
 omega
theorem zlh {c:Cod} {l:List (List (List UInt8))} {fu pz a:Nat} {sum:Int} {n:Int × Int × Int} {now:List Int} {ls:List (List Int)} {j:Nat} (h:(zaA c l a pz n).length = j):
  lsJ c l fu pz a sum n now ls j = ls ++ (zaA c l a pz n).flatMap fun (f:Nat)=>zvc c l fu pz (a + 1) (sum + (f:Int)) (plN l a pz (f:Int) n) (now.set a (10 * now.getD a 0 + (f:Int))):=by
 unfold lsJ; rw [← h, List.take_length]
theorem zgc (m:List Int) (a:Nat):m.set a (m.getD a 0) = m:=by
 by_cases h:a < m.length
 ·
  have e:m.getD a 0 = m[a]:=by simp [h]
  rw [e, List.set_getElem_self]
 ·
  exact List.set_eq_of_length_le (by omega)
theorem zth (c:Cod) (l:List (List (List UInt8))) (hc:jA c = true) (hl:l.length <= 3) (hcp:∀ g ∈ l, jX c g = true):∀ (fu pz a:Nat) (sum:Int) (n:Int × Int × Int) (now:List Int) (ls:List (List Int)), pz <= 5 -> a <= c.fields.length -> (pz = 5 -> a = 0) -> yO c.fields.length pz a <= fu -> now.length = c.fields.length -> sum = zaj now a -> zd6 pz a now -> zjq n -> ls.length + (zvc c l fu pz a sum n now).length <= 4000000 ->
  zjj Tryz.prog G 136 ([I (pz:Int), I (a:Int), I sum, .pub (.agg (eCn n))] ++ zgk c l) (zdB c l now ls) (.ret (.pub (.tup [])) (zdB c l now (ls ++ zvc c l fu pz a sum n now))):=by
 intro fu
 induction fu with
 | zero=>intro pz a sum n now ls _ _ _ hfu; exfalso; unfold yO at hfu; omega
 | succ fu ih=>
 intro pz a sum n now ls hpl hat hpa hfu hnl hsu hno hcn hsz
 have hcb:=wI hc
 have hsb:=zqs now a
 rw [← hsu] at hsb
 refine zow Tryz.func136 Y (by kernel_rfl) Y (fun gh hold=>?_)
 refine zuy (zh (zE8 (jf (cs:=[_]) Y (jF Y)) (zE8 (jf (cs:=[_]) Y (jF Y)) (zE8 (jf (cs:=[_]) Y (jF Y)) (zE8 (jf Y (zY Y)) (zo (zf (zuy (zuy (zh (zE8 (zA Y Y Y ty3) ?_)))))))))))
 refine zE8 (qJ Y Y Y) (zo (zf (zx Y (fun h0=>?_) (fun h0=>?_))))
 ·
  have hp5:pz = 5:=by simp at h0; omega
  have hsr0:zvc c l (fu + 1) pz a sum n now = if wS c now then [now] else []:=by simp [zvc, hp5]
  refine zuy (zuy (zh (zE8 (zu Y Y jJ) (zE8 (zZ Y Y wH (by exact zLb Y)) (zE8 (zK Y Y Y Y Y Y jO) ?_)))))
  refine zE8 (znB (av:=[.agg (qK c), nums now]) Y ⟨AVle.refl _, ⟨now.map fun n=>[AV.v (.int .i64 n)], congrArg (fun z=>some (PO.row z)) (yK now), by simp [hnl], Y⟩, trivial⟩ Y (f117 c now (by omega))) ?_
  refine zo (zf (zx Y (fun h1=>?_) (fun h1=>?_)))
  ·
   have hmb:wS c now = true:=by simpa using h1
   have hsr:zvc c l (fu + 1) pz a sum n now = [now]:=by rw [hsr0, if_pos hmb]
   refine wR (fun _=>True) (fun k=>match k with | 0=>.rd [0] | 1=>.rd [2] | 2=>.rd [1] | 4=>.rw [] 4 | 5=>.rw [4] 0 | _=>.here) mixed (by kernel_rfl) rfl (by kernel_rfl) trivial ?_
   refine zkx [0] Y Y (fun m hm _=>zK Y Y ((hm.one 0 Y).trans Y) Y Y Y zpZ) ?_
   refine zkx [2] Y Y (fun m hm _=>zK Y Y ((hm.one 2 Y).trans Y) Y Y Y jO) ?_
   refine zkx [1] Y Y (fun m hm _=>zpW (av:=[nums now]) Y ⟨⟨now.map fun n=>[AV.v (.int .i64 n)], (hm.one 1 Y).trans (congrArg (fun z=>some (PO.row z)) (yK now)), by simp [hnl], Y⟩, trivial⟩ (n112 now (by omega))) ?_
   refine zX Y Y (qg (size:=1) (rows:=[[_]]) Y Tryz.underlying30 zmt Y (by decide) Y (by decide) ⟨_, _, Y, (kQ Y), Y⟩ (by rfl) (by simp [ofV]) Y (by simp)) ?_
   refine zsL [] 4 Y Y (fun _=>trivial) (fun m hm=>zj3 (ns:=[[EV.pub (nums now)]]) Y Y ((hm.one 4 Y).trans Y) (by simp [yQ]) Y zo9 (zdu ls) (by simp) (by simp; omega) (by unfold maxLen; simp; omega)) ?_
   refine zsL [4] 0 Y Y (fun _=>trivial) (fun m hm=>jk Y Y Y ((hm.one 0 Y).trans Y) Y Y (zbO Y ((hm.one 4 Y).trans Y) (by simp [yQ])) zpZ (by rfl) (by rfl)) ?_
   refine wQ (zf (zP (zQ ?_)))
   exact zbB [] (zev (by rw [hsr]; simp) Y (by rw [hsr]; simp [yQ])) (zcS ..) (by exact Nat.le_refl _) (.inr Y) trivial ⟨[], Y, Y⟩
  ·
   have hmb:wS c now = false:=by simpa using h1
   have hsr:zvc c l (fu + 1) pz a sum n now = []:=by rw [hsr0, hmb]; rfl
   refine zC (zf (zP (zQ ?_)))
   exact zbB [] (zcc Y (by rw [hsr]; simp)) (zcS ..) (by exact Nat.le_refl _) (.inr Y) trivial ⟨[], Y, Y⟩
 ·
  have hp5:¬ pz = 5:=by simp at h0; omega
  have hp4:pz < 5:=by omega
  have hcn3:0 <= n.1 /\ n.1 <= 1000 /\ 0 <= n.2.1 /\ n.2.1 <= 1000 /\ 0 <= n.2.2 /\ n.2.2 <= 1000:=by unfold zjq at hcn; omega
  refine zC (zf (zuy (zuy (zh (zE8 (zA Y Y Y ty3) (zE8 (zA Y Y Y ty3) (zE8 (qJ Y Y Y) (zo (zf (zx Y (fun h2=>?_) (fun h2=>?_)))))))))))
  ·
   have hak:a = c.fields.length:=by simp at h2; omega
   have hsr0:zvc c l (fu + 1) pz a sum n now = if vN c l a pz (sum % 10) n then zvc c l fu (pz + 1) 0 0 (plN l a pz (sum % 10) n) now else []:=by rw [zvc, if_neg hp5, if_pos hak]
   have hfu2:yO c.fields.length (pz + 1) 0 <= fu:=by
    have e:5 - pz = (5 - (pz + 1)) + 1:=by omega
    unfold yO at hfu ⊢
    rw [e, Nat.add_mul] at hfu
    omega
   have hno2:zd6 (pz + 1) 0 now:=zkj hno (by omega)
   refine zuy (zuy (zh (zE8 (zZ Y Y xJ (by exact zLb Y)) (zE8 (zZ Y Y ji (by exact zLb Y)) (zE8 (zA Y Y Y ty3) (zE8 (zA Y Y Y ty3) (zE8 (zA Y Y Y ty3) (zE8 (yA Y Y Y ⟨(by omega), (by omega)⟩) (zE8 (zy (av:=[_, _, _, _, _]) Y ⟨Y, Y, Y, Y, Y, trivial⟩ (f137 c l n a pz (sum % 10) hc hl hcp hat hp4 (by omega) hcn3)) (zE8 (zq Y Y) (zE8 (zN Y Y Y) ?_)))))))))))
   refine zE8 (zN Y Y Y) ?_
   refine vI  Y Y Y Y Y Y Y zi7 ji Y (by rfl) (zY Y) Y ?_
   refine zE8 (zn Y Y) (zo (zf (zuy (zh (zE8 (zi Y Y) (zo (zf (zx Y (fun h3=>?_) (fun h3=>?_)))))))))
   ·
    have hpk:vN c l a pz (sum % 10) n = true:=by simpa using h3
    have hsr:zvc c l (fu + 1) pz a sum n now = zvc c l fu (pz + 1) 0 0 (plN l a pz (sum % 10) n) now:=by rw [hsr0, if_pos hpk]
    have hcn2:=zjJ hc hpk hcn
    refine qx (zt (mem':=zdB c l now ls) [(4, .pub (.ptr (yc c l))), (5, .pp 2 1 0 0), (6, .pp 0 1 0 0), (7, .pub (.ptr [ei (c.fields.length:Int)])), (8, .pp 3 1 0 0), (9, .pub (.ptr [ei (pz:Int)])), (10, .pub (.ptr [ei (a:Int)])), (11, .pub (.ptr [ei sum])), (12, .pub (.ptr (eCn n))), (13, .pub (.ptr (eCn (plN l a pz (sum % 10) n))))] ?_ ?_) ?_
    ·
     exact ⟨Y, Y, Y, Y, Y, Y, Y, Y, Y, (congrArg (fun z=>EV.pub (.ptr z)) (zn6 hpk)), trivial⟩
    ·
     exact (Y)
    refine zh (zE8 (zK Y Y Y Y Y Y zlJ) (zE8 (zA Y Y Y ty3) (zE8 (zV Y Y Y ⟨(by omega), (by omega)⟩) (zE8 (zZ Y Y ji (by exact zLb Y)) ?_))))
    refine jb Y (zij (f:=136) (fs:=[]) (cs:=zgk c l) (av:=[I ((pz + 1:Nat):Int), I ((0:Nat):Int), I 0, .pub (.agg (eCn (plN l a pz (sum % 10) n)))]) Y Y ⟨Y, Y, Y⟩ ⟨Y, Y, Y, Y, trivial⟩ (ih (pz + 1) 0 0 (plN l a pz (sum % 10) n) now ls (by omega) (by omega) (fun _=>rfl) hfu2 hnl Y hno2 hcn2 (by rw [hsr] at hsz; exact hsz))) ?_
    refine zo (zf (zP (zQ ?_)))
    exact zbB [] (zcc Y (by rw [hsr])) (zcS ..) (by exact Nat.le_refl _) (.inr Y) trivial ⟨[], Y, Y⟩
   ·
    have hpk:vN c l a pz (sum % 10) n = false:=by simpa using h3
    have hsr:zvc c l (fu + 1) pz a sum n now = []:=by rw [hsr0, hpk]; rfl
    refine zC (zf (zP (zQ ?_)))
    exact zbB [] (zcc Y (by rw [hsr]; simp)) (zcS ..) (by exact Nat.le_refl _) (.inr Y) trivial ⟨[], Y, Y⟩
  ·
   have hak:¬ a = c.fields.length:=by simp at h2; omega
   have hal:a < now.length:=by omega
   have hgd:now.getD a 0 = now[a]:=by simp [hal]
   have hnb:=znp hno hal hp4
   rw [← hgd] at hnb
   have hsr:zvc c l (fu + 1) pz a sum n now = (zaA c l a pz n).flatMap fun (f:Nat)=>zvc c l fu pz (a + 1) (sum + (f:Int)) (plN l a pz (f:Int) n) (now.set a (10 * now.getD a 0 + (f:Int))):=by rw [zvc, if_neg hp5, if_neg hak]
   have hfu3:yO c.fields.length pz (a + 1) <= fu:=by unfold yO at hfu ⊢; omega
   refine zC (zf (zuy (zh (zE8 (zK Y Y Y Y Y Y jO) (zE8 (zA Y Y Y ty3) ?_)))))
   refine zE8 (qc Y Y Y Y (by rw [qm, hnl]) jv (by omega) (by omega) (jh _)) ?_
   refine zE8 (zK (c:=I (now.getD a 0)) Y Y Y (by rw [qm, hnl]) (wY (by omega)) Y ty3) ?_
   refine vI (cs:=[_]) Y Y Y Y Y Y Y zv3 ty3 Y (by rfl) (jF Y) Y ?_
   refine zo (zf (zuy (zuy (zh (zE8 (zZ Y Y xJ (by exact zLb Y)) (zE8 (zZ Y Y ji (by exact zLb Y)) (zE8 (zA Y Y Y ty3) (zE8 (zA Y Y Y ty3) (zE8 (zy (av:=[_, _, _, _]) Y ⟨Y, Y, Y, Y, trivial⟩ (f138 c l n (a:Int) (pz:Int))) (zo (zf ?_)))))))))))
   refine zB ?_
   refine zfU (zaA c l a pz n) (fun (f:Nat)=>[ei (f:Int), .agg (eCn (plN l a pz (f:Int) n))]) [4, 5, 6, 7, 8, 9, 10, 11, 12, 15] (fun j=>True) (fun j=>(zdB c l (zfX now a (zaA c l a pz n) j) (lsJ c l fu pz a sum n now ls j))) (trivial) Y (zsR c l n a pz hc hl hcp hat hp4 hcn3) (zcc Y lsJ_0.symm) (fun _=>rfl) Y Y ?_ ?_
   ·
    intro j f gh lp hd1 hd2 hq hV
    have hf:=hq
    have hfm:=zbF.1 (List.mem_of_getElem? hf)
    have hfb:0 <= (f:Int) /\ (f:Int) <= 9:=by omega
    have hcn4:=zjJ hc hfm.2 hcn
    have hno3:=zkS hno hal hfb
    rw [← hgd] at hno3
    have hls:=zr0 (c:=c) (l:=l) (fu:=fu) (pz:=pz) (a:=a) (sum:=sum) (n:=n) (now:=now) (ls:=ls) (j + 1)
    rw [ziN hf, ← hsr] at hls
    simp only[List.length_append] at hls
    have hsz3:=Nat.le_trans hls hsz
    have hsu3:sum + (f:Int) = zaj (now.set a (10 * now.getD a 0 + (f:Int))) (a + 1):=by
     rw [zdZ (by simpa using hal), zff, ← hsu]; simp; omega
    refine zuy (zh (zE8 (zn Y Y) (zo (zf (zh ?_)))))
    refine vI  Y Y Y Y Y Y Y zi7 ji Y (by rfl) (zY Y) Y ?_
    refine zo ?_
    refine ⟨Y, Y, ?_⟩
    refine zB (zuy (zh (zE8 (zK Y Y Y Y Y Y jO) (zE8 (zA Y Y Y ty3) (zE8 (zA Y Y Y ty3) (zE8 (zcY Y Y Y ⟨(by omega), (by omega)⟩) (zE8 (zi Y Y) (zE8 (zV Y Y Y ⟨(by omega), (by omega)⟩) ?_))))))))
    refine zE8 (qc Y Y Y Y (by rw [qm, zaC, hnl]) jv (by omega) (by omega) (jh _)) ?_
    refine jb Y (qG (r:=[I ((zfX now a (zaA c l a pz n) j).getD a 0)]) Y Y Y Y (by rw [qm, zaC, hnl]) (wY (by rw [zaC]; omega)) (jF Y) ty3 (by rfl) (by exact zLb Y)) ?_
    refine zo (zf ?_)
    refine qx (zt (mem':=zdB c l (now.set a (10 * now.getD a 0 + (f:Int))) (lsJ c l fu pz a sum n now ls j)) [(4, .pub (.ptr (yc c l))), (5, .pp 2 1 0 0), (6, .pp 0 1 0 0), (7, .pub (.ptr [ei (c.fields.length:Int)])), (8, .pp 3 1 0 0), (9, .pub (.ptr [ei (pz:Int)])), (10, .pub (.ptr [ei (a:Int)])), (11, .pub (.ptr [ei sum])), (12, .pub (.ptr (eCn n))), (15, .pub (.ptr [ei (now.getD a 0)])), (16, I (f:Int)), (17, .pub (.ptr (eCn (plN l a pz (f:Int) n))))] ?_ ?_) ?_
    ·
     exact ⟨Y, Y, Y, Y, Y, Y, Y, Y, Y, Y, Y, Y, trivial⟩
    ·
     exact (zev Y ((wW _ _ _ _).trans (congrArg qA (ziQ _ _))) Y)
    refine zh (zE8 (zK Y Y Y Y Y Y zlJ) (zE8 (zA Y Y Y ty3) (zE8 (zA Y Y Y ty3) (zE8 (zV Y Y Y ⟨(by omega), (by omega)⟩) (zE8 (zA Y Y Y ty3) (zE8 (zi Y Y) (zE8 (zV Y Y Y ⟨(by omega), (by omega)⟩) (zE8 (zZ Y Y ji (by exact zLb Y)) ?_))))))))
    refine jb Y (zij (f:=136) (fs:=[]) (cs:=zgk c l) (av:=[I (pz:Int), I ((a + 1:Nat):Int), I (sum + (f:Int)), .pub (.agg (eCn (plN l a pz (f:Int) n)))]) Y Y ⟨Y, Y, Y⟩ ⟨Y, Y, Y, Y, trivial⟩ (ih pz (a + 1) (sum + (f:Int)) (plN l a pz (f:Int) n) (now.set a (10 * now.getD a 0 + (f:Int))) (lsJ c l fu pz a sum n now ls j) hpl (by omega) (fun h=>absurd h hp5) hfu3 (by simp [hnl]) hsu3 hno3 hcn4 hsz3)) ?_
    refine zo (zD ?_)
    exact ⟨Y, trivial, zt (mem':=(zdB c l (zfX now a (zaA c l a pz n) (j + 1)) (lsJ c l fu pz a sum n now ls (j + 1)))) [] trivial (zcc (zmh hf).symm (ziN hf).symm)⟩
   ·
    intro hVn
    refine zD (zf (zh (zE8 (zK Y Y Y Y Y Y jO) (zE8 (zA Y Y Y ty3) (zE8 (zA Y Y Y ty3) ?_)))))
    refine zE8 (qc Y Y Y Y (by rw [qm, zaC, hnl]) jv (by omega) (by omega) (jh _)) ?_
    refine jb Y (qG (r:=[I ((zfX now a (zaA c l a pz n) (zaA c l a pz n).length).getD a 0)]) Y Y Y Y (by rw [qm, zaC, hnl]) (wY (by rw [zaC]; omega)) (jF Y) ty3 (by rfl) (by exact zLb Y)) ?_
    refine zo ?_
    exact zbB [] (zev (by rw [hsr, zlh Y]) ((wW _ _ _ _).trans (congrArg qA ((ziQ _ _).trans (zgc now a)))) (by rw [hsr, zlh Y])) (zcS ..) (by exact Nat.le_refl _) (.inl Y) trivial ⟨[], Y, Y⟩
theorem zto:(Tryz.prog.info? 30).bind (·.zero) = some (.slice none 0 0):=by kernel_rfl
theorem ztc:(Tryz.prog.info? 23).bind (·.zero) = some (.slice none 0 0):=by kernel_rfl
theorem zsz:(Tryz.prog.info? 183).bind (·.zero) = some (.nilFunc):=by kernel_rfl
theorem zsP:zh8 Tryz.prog 185 1 [.int .i64 0, .int .i64 0, .int .i64 0]:=⟨_, _, Tryz.t3, Tryz.underlying185, by kernel_rfl, by kernel_rfl, by kernel_rfl⟩
theorem zlU {k:Nat} (h:k <= 3):yO k 0 0 <= 24:=by unfold yO; omega
theorem zmF (k:Nat):List.replicate k [I 0] = qA (List.replicate k (0:Int)):=by simp [qA]
theorem f96 (c:Cod) (l:List (List (List UInt8))) (hc:jA c = true) (hl:l.length <= 3) (hl0:0 < l.length) (hcp:∀ g ∈ l, jX c g = true):ACall Tryz.prog G 96 [.agg (yc c l)] (jc (kC c l)):=by
 have hcb:=wI hc
 have hfew:=zfj hc hl0 hcp
 obtain ⟨N, hN⟩:∃ N, N = zvc c l 24 0 0 0 (0, 0, 0) (List.replicate c.fields.length (0:Int)):=⟨_, rfl⟩
 rw [← hN] at hfew
 refine zS Tryz.func96 Y (by kernel_rfl) Y ?_
 refine zuy (zh (zE8 (jf Y (zY Y)) (zE8 (zn Y Y) (zo (zf (zuy (zh (jb Y (wJ Y Y zto Y Y) (zo (zf (zuy ?_)))))))))))
 refine zh (zE8 (zu Y Y jJ) (zE8 (zu Y Y jS) (zE8 (zA Y Y Y zah) (zE8 (qh Y Y Y Tryz.underlying22) ?_))))
 refine vI (cs:=[_]) Y Y Y Y Y Y Y zv3 ty3 Y (by rfl) (jF Y) Y ?_
 refine zo (zf (zuy ?_))
 refine qx (zt (mem':=[.row [[wZ]]]) [(1, .pub (.ptr (yc c l))), (3, .pp 0 1 0 0), (4, .pub (.ptr [ei (c.fields.length:Int)]))] ?_ ?_) ?_
 ·
  exact ⟨Y, Y, (congrArg (fun z:Nat=>EV.pub (.ptr [ei (z:Int)])) (List.length_map ..)), trivial⟩
 ·
  exact (Y)
 refine zh (zE8 (zA Y Y Y ty3) ?_)
 refine jb Y (zrx Y Y Y Tryz.underlying23 ti3 Y Y Y (zs:=[.int .i64 0]) Y Y Y (by decide) (by omega) (by omega) (by decide)) ?_
 refine jb Y (wJ Y Y ztc Y Y) ?_
 refine jb Y (qG Y Y Y Y Y Y (zbO Y Y (by simp)) jO (by rfl) (by exact zLb Y)) ?_
 refine zo (zf (zuy (zh (jb Y (wJ Y Y zsz Y Y) (zo (zf (zuy (zh (zE8 (zjz Y) ?_)))))))))
 refine jb Y (qG Y Y Y Y Y Y (zrP Y) zlJ (by rfl) (by exact zLb Y)) ?_
 refine zo (zf (zuy ?_))
 refine qx (zl2 (k:=0) (i:=0) (j:=0) Y Y Y) ?_
 refine qx (zt (mem':=zdB c l (List.replicate c.fields.length (0:Int)) []) [(1, .pub (.ptr (yc c l))), (3, .pp 0 1 0 0), (6, .pp 3 1 0 0)] ?_ ?_) ?_
 ·
  exact ⟨Y, Y, Y, trivial⟩
 ·
  exact (zev Y (zmF _) Y)
 refine zh (zE8 (zK Y Y Y Y Y Y zlJ) ?_)
 refine zE8 (znx (cs:=[_, _, _]) Y zsP Y Y (by rfl) (by simp [ofV])) ?_
 refine jb Y (zij (f:=136) (fs:=[]) (cs:=zgk c l) (av:=[I ((0:Nat):Int), I ((0:Nat):Int), I 0, .pub (.agg (eCn (0, 0, 0)))]) Y Y ⟨Y, Y, Y⟩ ⟨Y, Y, Y, Y, trivial⟩ (zth c l hc hl hcp 24 0 0 0 (0, 0, 0) (List.replicate c.fields.length (0:Int)) [] (by omega) (by omega) (fun _=>rfl) (zlU hcb.1.2) (by simp) Y (zpj _) (by unfold zjq; decide) (by rw [← hN]; simpa using hfew))) ?_
 refine zo (zf (zuy ?_))
 refine qx (zt (mem':=zdB c l (List.replicate c.fields.length (0:Int)) N) [(3, .pp 0 1 0 0)] ?_ ?_) ?_
 ·
  exact ⟨Y, trivial⟩
 ·
  exact (zcc Y (by rw [hN]; rfl))
 refine zh (zE8 (zK Y Y Y Y Y Y zpZ) (jb Y (zr4 (ls:=N) Tryz.laysSlF6_f139 Y Y Y Y Y Y Y (by omega) ⟨_, Tryz.func139, Y, Y⟩ ⟨_, Tryz.func140, Y, Y⟩ ztd ztj) (zo (zf (zuy (zh (zE8 (zK Y Y Y Y Y Y zpZ) (zE8 (qo Y Y) (zo (zf (zP ?_)))))))))))
 exact ⟨.inr Y, zhe Y ⟨(kC c l).map fun m=>[nums m], (congrArg (fun z=>some (PO.row z)) (show (sortL N).map (fun m=>[EV.pub (nums m)]) = _ by rw [hN]; exact zgE (kC c l))), by rw [List.length_map, kC, (wF _).length_eq, hN], Y⟩⟩
end Go.Av
end
