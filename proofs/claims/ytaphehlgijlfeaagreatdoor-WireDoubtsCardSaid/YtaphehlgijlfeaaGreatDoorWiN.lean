
import Derived.Test.YtaphehlgijlfeaaGreatDoorWiM
import Derived.Test.YtaphehlgijlfeaaGreatDoorLibB
import Derived.Test.YtaphehlgijlfeaaGreatDoorPlatJ
set_option linter.unusedVariables false
set_option linter.unusedSimpArgs false
section
namespace Go.Av
open Go.Proofs
set_option maxRecDepth 100000
set_option maxHeartbeats 1000000
variable {G : Glob}
theorem zpL : tyIs Tryz.prog 30 false 1 = true := by kernel_rfl
theorem zpU : elemIs Tryz.prog 30 23 1 24 := ⟨Tryz.underlying30, Tryz.t23, _, by kernel_rfl, rfl, rfl, rfl, rfl, by decide⟩
theorem zlT : Tryz.prog.info? 23 = some Tryz.t23 := by kernel_rfl
theorem zkY : tyIs Tryz.prog 183 false 1 = true := by kernel_rfl
theorem zv3 : (Tryz.prog.info? 3).bind (·.zero) = some (.int .i64 0) := by kernel_rfl
def qA (m : List Int) : List (List EV) := m.map fun x => [I x]
def yN (ls : List (List Int)) : List (List EV) := ls.map fun m => [EV.pub (nums m)]
theorem yK (m : List Int) : qA m = (m.map fun n => [AV.v (.int .i64 n)]).map (·.map .pub) := by simp [qA]
theorem zgX (ls : List (List Int)) : yN ls = (ls.map fun m => [nums m]).map (·.map .pub) := by simp [yN]
theorem qm (m : List Int) : (qA m).length = m.length := by simp [qA]
theorem vk {m : List Int} {a : Nat} (h : a < m.length) : (qA m)[a]? = some [I (m.getD a 0)] := by simp [qA, h]
theorem vz (m : List Int) (a : Nat) (x y : Int) : (qA m).set a (putCells [I x] 0 [I y]) = qA (m.set a y) := by simp [qA, putCells, List.map_set]
theorem jk (m : List Int) : ∀ q ∈ qA m, q.length = 1 := by simp [qA]
theorem zdt (ls : List (List Int)) : ∀ q ∈ yN ls, q.length = 1 := by simp [yN]
def zgj (c : Cod) (l : List (List (List UInt8))) : List EV := [.pub (.ptr (yc c l)), .pp 2 1 0 0, .pp 0 1 0 0, .pub (.ptr [ei (c.fields.length : Int)]), .pp 3 1 0 0]
def zdP (c : Cod) (l : List (List (List UInt8))) (now : List Int) (ls : List (List Int)) : List PO := [.row [[.psl 4 ls.length]], .row (qA now), .row [[.psl 1 c.fields.length]], .row [[.fnm 136 [] (zgj c l)]], .row (yN ls)]
theorem zew {c : Cod} {l : List (List (List UInt8))} {now : List Int} {ls : List (List Int)} {n : Nat} {r1 r2 : List (List EV)} (h1 : n = ls.length) (h2 : r1 = qA now) (h3 : r2 = yN ls) :
  [PO.row [[.psl 4 n]], .row r1, .row [[.psl 1 c.fields.length]], .row [[.fnm 136 [] (zgj c l)]], .row r2] = zdP c l now ls := by subst h1; subst h2; subst h3; rfl
theorem zce {c : Cod} {l : List (List (List UInt8))} {now now' : List Int} {ls ls' : List (List Int)} (h1 : now = now') (h2 : ls = ls') : zdP c l now ls = zdP c l now' ls' := by subst h1; subst h2; rfl
theorem zcN (c : Cod) (l : List (List (List UInt8))) (now : List Int) (ls : List (List Int)) : zdA (zdP c l now ls).length (zdP c l now ls) := by
 refine ⟨?_, ?_, ?_, ?_, ?_, trivial⟩
 · intro r hr x hx
  simp at hr; subst hr; simp at hx; subst hx
  show 4 < 5
  omega
 · intro r hr x hx
  obtain ⟨y, _, rfl⟩ := List.mem_map.1 hr
  simp at hx; subst hx; trivial
 · intro r hr x hx
  simp at hr; subst hr; simp at hx; subst hx
  show 1 < 5
  omega
 · intro r hr x hx
  simp at hr; subst hr; simp at hx; subst hx
  refine ⟨trivial, trivial, ?_, ?_, trivial, ?_, trivial⟩ <;> (show _ < 5; omega)
 · intro r hr x hx
  obtain ⟨y, _, rfl⟩ := List.mem_map.1 hr
  simp at hx; subst hx; trivial
def zf4 (now : List Int) (a : Nat) (L : List Nat) : Nat → List Int
 | 0 => now
 | j + 1 => now.set a (10 * now.getD a 0 + ((L.getD j 0 : Nat) : Int))
def lsJ (c : Cod) (l : List (List (List UInt8))) (fu place a : Nat) (sum : Int) (n : Int × Int × Int) (now : List Int) (ls : List (List Int)) (j : Nat) : List (List Int) :=
 ls ++ ((zaB c l a place n).take j).flatMap fun (f : Nat) => yb c l fu place (a + 1) (sum + (f : Int)) (plN l a place (f : Int) n) (now.set a (10 * now.getD a 0 + (f : Int)))
theorem zas {now : List Int} {a : Nat} {L : List Nat} (j : Nat) : (zf4 now a L j).length = now.length := by cases j <;> simp [zf4]
theorem zjH {now : List Int} {a : Nat} {L : List Nat} (j : Nat) (y : Int) : (zf4 now a L j).set a y = now.set a y := by cases j <;> simp [zf4]
theorem zmK {now : List Int} {a : Nat} {L : List Nat} {j f : Nat} (h : L[j]? = some f) : zf4 now a L (j + 1) = now.set a (10 * now.getD a 0 + (f : Int)) := by simp [zf4, h]
theorem lsJ_0 {c : Cod} {l : List (List (List UInt8))} {fu place a : Nat} {sum : Int} {n : Int × Int × Int} {now : List Int} {ls : List (List Int)} : lsJ c l fu place a sum n now ls 0 = ls := by simp [lsJ]
theorem zjd {c : Cod} {l : List (List (List UInt8))} {fu place a : Nat} {sum : Int} {n : Int × Int × Int} {now : List Int} {ls : List (List Int)} {j f : Nat} (h : (zaB c l a place n)[j]? = some f) :
  lsJ c l fu place a sum n now ls (j + 1) = lsJ c l fu place a sum n now ls j ++ yb c l fu place (a + 1) (sum + (f : Int)) (plN l a place (f : Int) n) (now.set a (10 * now.getD a 0 + (f : Int))) := by
 simp [lsJ, List.take_add_one, h]
theorem zr3 {c : Cod} {l : List (List (List UInt8))} {fu place a : Nat} {sum : Int} {n : Int × Int × Int} {now : List Int} {ls : List (List Int)} (j : Nat) :
  (lsJ c l fu place a sum n now ls j).length ≤ (ls ++ (zaB c l a place n).flatMap fun (f : Nat) => yb c l fu place (a + 1) (sum + (f : Int)) (plN l a place (f : Int) n) (now.set a (10 * now.getD a 0 + (f : Int)))).length := by
 unfold lsJ
 conv => rhs; rw [← List.take_append_drop j (zaB c l a place n), List.flatMap_append]
 simp only [List.length_append]
 omega
theorem zli {c : Cod} {l : List (List (List UInt8))} {fu place a : Nat} {sum : Int} {n : Int × Int × Int} {now : List Int} {ls : List (List Int)} {j : Nat} (h : (zaB c l a place n).length = j) :
  lsJ c l fu place a sum n now ls j = ls ++ (zaB c l a place n).flatMap fun (f : Nat) => yb c l fu place (a + 1) (sum + (f : Int)) (plN l a place (f : Int) n) (now.set a (10 * now.getD a 0 + (f : Int))) := by
 unfold lsJ; rw [← h, List.take_length]
theorem zf7 (m : List Int) (a : Nat) : m.set a (m.getD a 0) = m := by
 by_cases h : a < m.length
 · have e : m.getD a 0 = m[a] := by simp [h]
  rw [e, List.set_getElem_self]
 · exact List.set_eq_of_length_le (by omega)
theorem zs6 (c : Cod) (l : List (List (List UInt8))) (hc : jA c = true) (hl : l.length ≤ 3) (hcp : ∀ g ∈ l, jX c g = true) : ∀ (fu place a : Nat) (sum : Int) (n : Int × Int × Int) (now : List Int) (ls : List (List Int)), place ≤ 5 → a ≤ c.fields.length → (place = 5 → a = 0) → yP c.fields.length place a ≤ fu → now.length = c.fields.length → sum = zak now a → zd5 place a now → zjq n → ls.length + (yb c l fu place a sum n now).length ≤ 4000000 →
  zjK Tryz.prog G 136 ([I (place : Int), I (a : Int), I sum, .pub (.agg (eCn n))] ++ zgj c l) (zdP c l now ls) (.ret (.pub (.tup [])) (zdP c l now (ls ++ yb c l fu place a sum n now))) := by
 intro fu
 induction fu with
 | zero => intro place a sum n now ls _ _ _ hfu; exfalso; unfold yP at hfu; omega
 | succ fu ih =>
 intro place a sum n now ls hpl hat hpa hfu hnl hsu hno hcn hsz
 have hcb := wI hc
 have hsb := zpp now a
 rw [← hsu] at hsb
 refine zoa Tryz.func136 rfl (by kernel_rfl) rfl (fun gh hold => ?_)
 refine zl (zh (zg rfl rfl (jf (cs := [_]) rfl (jG rfl)) (zg rfl rfl (jf (cs := [_]) rfl (jG rfl)) (zg rfl rfl (jf (cs := [_]) rfl (jG rfl)) (zg rfl rfl (jf rfl (zY rfl)) (zo (zf (zl (zl (zh (zg rfl rfl (zA rfl rfl rfl ty3) ?_)))))))))))
 refine zg rfl rfl (qI rfl rfl rfl) (zo (zf (zx rfl (fun h0 => ?_) (fun h0 => ?_))))
 ·
  have hp5 : place = 5 := by simp at h0; omega
  have hsr0 : yb c l (fu + 1) place a sum n now = if wS c now then [now] else [] := by simp [yb, hp5]
  refine zl (zl (zh (zg rfl rfl (zu rfl rfl jK) (zg rfl rfl (zZ rfl rfl wB (by exact Nat.le_of_ble_eq_true rfl)) (zg rfl rfl (zK rfl rfl rfl rfl rfl rfl jO) (zg rfl rfl (znF (av := [.agg (qK c), nums now]) rfl ⟨AVle.refl _, ⟨now.map fun n => [AV.v (.int .i64 n)], congrArg (fun z => some (PO.row z)) (yK now), by simp [hnl], rfl⟩, trivial⟩ rfl (f117 c now (by omega))) (zo (zf (zx rfl (fun h1 => ?_) (fun h1 => ?_))))))))))
  ·
   have hmb : wS c now = true := by simpa using h1
   have hsr : yb c l (fu + 1) place a sum n now = [now] := by rw [hsr0, if_pos hmb]
   refine wR (fun _ => True) (fun k => match k with | 0 => .rd [0] | 1 => .rd [2] | 2 => .rd [1] | 4 => .rw [] 4 | 5 => .rw [4] 0 | _ => .here) mixed (by kernel_rfl) rfl (by kernel_rfl) trivial ?_
   refine zkl [0] rfl rfl (fun m hm _ => zK rfl rfl ((hm.one 0 rfl).trans rfl) rfl rfl rfl zpL) ?_
   refine zkl [2] rfl rfl (fun m hm _ => zK rfl rfl ((hm.one 2 rfl).trans rfl) rfl rfl rfl jO) ?_
   refine zkl [1] rfl rfl (fun m hm _ => zpJ (av := [nums now]) rfl ⟨⟨now.map fun n => [AV.v (.int .i64 n)], (hm.one 1 rfl).trans (congrArg (fun z => some (PO.row z)) (yK now)), by simp [hnl], rfl⟩, trivial⟩ (n112 now (by omega))) ?_
   refine zX rfl rfl (qg (size := 1) (rows := [[_]]) rfl Tryz.underlying30 zlT rfl (by decide) rfl (by decide) ⟨_, _, rfl, (kQ rfl), rfl⟩ (by rfl) (by simp [ofV]) rfl (by simp)) ?_
   refine zsR [] 4 rfl rfl (fun _ => trivial) (fun m hm => zjQ (ns := [[EV.pub (nums now)]]) rfl rfl ((hm.one 4 rfl).trans rfl) (by simp [yN]) rfl zpU (zdt ls) (by simp) (by simp; omega) (by unfold maxLen; simp; omega)) ?_
   refine zsR [4] 0 rfl rfl (fun _ => trivial) (fun m hm => ji rfl rfl rfl ((hm.one 0 rfl).trans rfl) rfl rfl (zbo rfl ((hm.one 4 rfl).trans rfl) (by simp [yN])) zpL (by rfl) (by rfl)) ?_
   refine wQ (zf (zP (zQ ?_)))
   exact zbz [] (zew (by rw [hsr]; simp) rfl (by rw [hsr]; simp [yN])) (zcN ..) (by exact Nat.le_refl _) (.inr rfl) trivial ⟨[], rfl, rfl⟩
  ·
   have hmb : wS c now = false := by simpa using h1
   have hsr : yb c l (fu + 1) place a sum n now = [] := by rw [hsr0, hmb]; rfl
   refine zC (zf (zP (zQ ?_)))
   exact zbz [] (zce rfl (by rw [hsr]; simp)) (zcN ..) (by exact Nat.le_refl _) (.inr rfl) trivial ⟨[], rfl, rfl⟩
 ·
  have hp5 : ¬ place = 5 := by simp at h0; omega
  have hp4 : place < 5 := by omega
  have hcn3 : 0 ≤ n.1 ∧ n.1 ≤ 1000 ∧ 0 ≤ n.2.1 ∧ n.2.1 ≤ 1000 ∧ 0 ≤ n.2.2 ∧ n.2.2 ≤ 1000 := by unfold zjq at hcn; omega
  refine zC (zf (zl (zl (zh (zg rfl rfl (zA rfl rfl rfl ty3) (zg rfl rfl (zA rfl rfl rfl ty3) (zg rfl rfl (qI rfl rfl rfl) (zo (zf (zx rfl (fun h2 => ?_) (fun h2 => ?_)))))))))))
  ·
   have hak : a = c.fields.length := by simp at h2; omega
   have hsr0 : yb c l (fu + 1) place a sum n now = if vS c l a place (sum % 10) n then yb c l fu (place + 1) 0 0 (plN l a place (sum % 10) n) now else [] := by rw [yb, if_neg hp5, if_pos hak]
   have hfu2 : yP c.fields.length (place + 1) 0 ≤ fu := by
    have e : 5 - place = (5 - (place + 1)) + 1 := by omega
    unfold yP at hfu ⊢
    rw [e, Nat.add_mul] at hfu
    omega
   have hno2 : zd5 (place + 1) 0 now := zkN hno (by omega)
   refine zl (zl (zh (zg rfl rfl (zZ rfl rfl xw (by exact Nat.le_of_ble_eq_true rfl)) (zg rfl rfl (zZ rfl rfl jh (by exact Nat.le_of_ble_eq_true rfl)) (zg rfl rfl (zA rfl rfl rfl ty3) (zg rfl rfl (zA rfl rfl rfl ty3) (zg rfl rfl (zA rfl rfl rfl ty3) (zg rfl rfl (yA rfl rfl rfl ⟨(by omega), (by omega)⟩) (zg rfl rfl (zy (av := [_, _, _, _, _]) rfl ⟨rfl, rfl, rfl, rfl, rfl, trivial⟩ (f137 c l n a place (sum % 10) hc hl hcp hat hp4 (by omega) hcn3)) (zg rfl rfl (zq rfl rfl) (zg rfl rfl (zN rfl rfl rfl) ?_)))))))))))
   refine zg rfl rfl (zN rfl rfl rfl) ?_
   refine vG  rfl rfl rfl rfl rfl rfl rfl zi3 jh rfl (by rfl) (zY rfl) rfl ?_
   refine zg rfl rfl (zn rfl rfl) (zo (zf (zl (zh (zg rfl rfl (zi rfl rfl) (zo (zf (zx rfl (fun h3 => ?_) (fun h3 => ?_)))))))))
   ·
    have hpk : vS c l a place (sum % 10) n = true := by simpa using h3
    have hsr : yb c l (fu + 1) place a sum n now = yb c l fu (place + 1) 0 0 (plN l a place (sum % 10) n) now := by rw [hsr0, if_pos hpk]
    have hcn2 := ziJ hc hpk hcn
    refine qy (zt (mem' := zdP c l now ls) [(4, .pub (.ptr (yc c l))), (5, .pp 2 1 0 0), (6, .pp 0 1 0 0), (7, .pub (.ptr [ei (c.fields.length : Int)])), (8, .pp 3 1 0 0), (9, .pub (.ptr [ei (place : Int)])), (10, .pub (.ptr [ei (a : Int)])), (11, .pub (.ptr [ei sum])), (12, .pub (.ptr (eCn n))), (13, .pub (.ptr (eCn (plN l a place (sum % 10) n))))] ?_ ?_) ?_
    ·
     exact ⟨rfl, rfl, rfl, rfl, rfl, rfl, rfl, rfl, rfl, (congrArg (fun z => EV.pub (.ptr z)) (zor hpk)), trivial⟩
    ·
     exact (rfl)
    refine zh (zg rfl rfl (zK rfl rfl rfl rfl rfl rfl zkY) (zg rfl rfl (zA rfl rfl rfl ty3) (zg rfl rfl (zV rfl rfl rfl ⟨(by omega), (by omega)⟩) (zg rfl rfl (zZ rfl rfl jh (by exact Nat.le_of_ble_eq_true rfl)) (jb rfl (zht (f := 136) (fs := []) (cs := zgj c l) (av := [I ((place + 1 : Nat) : Int), I ((0 : Nat) : Int), I 0, .pub (.agg (eCn (plN l a place (sum % 10) n)))]) rfl rfl ⟨rfl, rfl, rfl⟩ ⟨rfl, rfl, rfl, rfl, trivial⟩ (ih (place + 1) 0 0 (plN l a place (sum % 10) n) now ls (by omega) (by omega) (fun _ => rfl) hfu2 hnl rfl hno2 hcn2 (by rw [hsr] at hsz; exact hsz))) (zo (zf (zP (zQ ?_)))))))))
    exact zbz [] (zce rfl (by rw [hsr])) (zcN ..) (by exact Nat.le_refl _) (.inr rfl) trivial ⟨[], rfl, rfl⟩
   ·
    have hpk : vS c l a place (sum % 10) n = false := by simpa using h3
    have hsr : yb c l (fu + 1) place a sum n now = [] := by rw [hsr0, hpk]; rfl
    refine zC (zf (zP (zQ ?_)))
    exact zbz [] (zce rfl (by rw [hsr]; simp)) (zcN ..) (by exact Nat.le_refl _) (.inr rfl) trivial ⟨[], rfl, rfl⟩
  ·
   have hak : ¬ a = c.fields.length := by simp at h2; omega
   have hal : a < now.length := by omega
   have hgd : now.getD a 0 = now[a] := by simp [hal]
   have hnb := znc hno hal hp4
   rw [← hgd] at hnb
   have hsr : yb c l (fu + 1) place a sum n now = (zaB c l a place n).flatMap fun (f : Nat) => yb c l fu place (a + 1) (sum + (f : Int)) (plN l a place (f : Int) n) (now.set a (10 * now.getD a 0 + (f : Int))) := by rw [yb, if_neg hp5, if_neg hak]
   have hfu3 : yP c.fields.length place (a + 1) ≤ fu := by unfold yP at hfu ⊢; omega
   refine zC (zf (zl (zh (zg rfl rfl (zK rfl rfl rfl rfl rfl rfl jO) (zg rfl rfl (zA rfl rfl rfl ty3) (zg rfl rfl (qc rfl rfl rfl rfl (by rw [qm, hnl]) jv (by omega) (by omega) (jk _)) (zg rfl rfl (zK (c := I (now.getD a 0)) rfl rfl rfl (by rw [qm, hnl]) (vk (by omega)) rfl ty3) ?_)))))))
   refine vG (cs := [_]) rfl rfl rfl rfl rfl rfl rfl zv3 ty3 rfl (by rfl) (jG rfl) rfl ?_
   refine zo (zf (zl (zl (zh (zg rfl rfl (zZ rfl rfl xw (by exact Nat.le_of_ble_eq_true rfl)) (zg rfl rfl (zZ rfl rfl jh (by exact Nat.le_of_ble_eq_true rfl)) (zg rfl rfl (zA rfl rfl rfl ty3) (zg rfl rfl (zA rfl rfl rfl ty3) (zg rfl rfl (zy (av := [_, _, _, _]) rfl ⟨rfl, rfl, rfl, rfl, trivial⟩ (f138 c l n (a : Int) (place : Int))) (zo (zf ?_)))))))))))
   refine zB ?_
   refine zfS (zaB c l a place n) (fun (f : Nat) => [ei (f : Int), .agg (eCn (plN l a place (f : Int) n))]) [4, 5, 6, 7, 8, 9, 10, 11, 12, 15] (fun j => True) (fun j => (zdP c l (zf4 now a (zaB c l a place n) j) (lsJ c l fu place a sum n now ls j))) (trivial) rfl (zsk c l n a place hc hl hcp hat hp4 hcn3) (zce rfl lsJ_0.symm) (fun _ => rfl) rfl rfl ?_ ?_
   ·
    intro j f gh lp hd1 hd2 hq hV
    have hf := hq
    have hfm := zbA.1 (List.mem_of_getElem? hf)
    have hfb : 0 ≤ (f : Int) ∧ (f : Int) ≤ 9 := by omega
    have hcn4 := ziJ hc hfm.2 hcn
    have hno3 := zjW hno hal hfb
    rw [← hgd] at hno3
    have hls := zr3 (c := c) (l := l) (fu := fu) (place := place) (a := a) (sum := sum) (n := n) (now := now) (ls := ls) (j + 1)
    rw [zjd hf, ← hsr] at hls
    simp only [List.length_append] at hls
    have hsz3 := Nat.le_trans hls hsz
    have hsu3 : sum + (f : Int) = zak (now.set a (10 * now.getD a 0 + (f : Int))) (a + 1) := by
     rw [zd0 (by simpa using hal), zfB, ← hsu]; simp; omega
    refine zl (zh (zg rfl rfl (zn rfl rfl) (zo (zf (zh ?_)))))
    refine vG  rfl rfl rfl rfl rfl rfl rfl zi3 jh rfl (by rfl) (zY rfl) rfl ?_
    refine zo ?_
    refine ⟨rfl, rfl, ?_⟩
    refine zB (zl (zh (zg rfl rfl (zK rfl rfl rfl rfl rfl rfl jO) (zg rfl rfl (zA rfl rfl rfl ty3) (zg rfl rfl (zA rfl rfl rfl ty3) (zg rfl rfl (zc9 rfl rfl rfl ⟨(by omega), (by omega)⟩) (zg rfl rfl (zi rfl rfl) (zg rfl rfl (zV rfl rfl rfl ⟨(by omega), (by omega)⟩) (zg rfl rfl (qc rfl rfl rfl rfl (by rw [qm, zas, hnl]) jv (by omega) (by omega) (jk _)) (jb rfl (qG (r := [I ((zf4 now a (zaB c l a place n) j).getD a 0)]) rfl rfl rfl rfl (by rw [qm, zas, hnl]) (vk (by rw [zas]; omega)) (jG rfl) ty3 (by rfl) (by exact Nat.le_of_ble_eq_true rfl)) (zo ?_)))))))))))
    refine zf ?_
    refine qy (zt (mem' := zdP c l (now.set a (10 * now.getD a 0 + (f : Int))) (lsJ c l fu place a sum n now ls j)) [(4, .pub (.ptr (yc c l))), (5, .pp 2 1 0 0), (6, .pp 0 1 0 0), (7, .pub (.ptr [ei (c.fields.length : Int)])), (8, .pp 3 1 0 0), (9, .pub (.ptr [ei (place : Int)])), (10, .pub (.ptr [ei (a : Int)])), (11, .pub (.ptr [ei sum])), (12, .pub (.ptr (eCn n))), (15, .pub (.ptr [ei (now.getD a 0)])), (16, I (f : Int)), (17, .pub (.ptr (eCn (plN l a place (f : Int) n))))] ?_ ?_) ?_
    ·
     exact ⟨rfl, rfl, rfl, rfl, rfl, rfl, rfl, rfl, rfl, rfl, rfl, rfl, trivial⟩
    ·
     exact (zew rfl ((vz _ _ _ _).trans (congrArg qA (zjH _ _))) rfl)
    refine zh (zg rfl rfl (zK rfl rfl rfl rfl rfl rfl zkY) (zg rfl rfl (zA rfl rfl rfl ty3) (zg rfl rfl (zA rfl rfl rfl ty3) (zg rfl rfl (zV rfl rfl rfl ⟨(by omega), (by omega)⟩) (zg rfl rfl (zA rfl rfl rfl ty3) (zg rfl rfl (zi rfl rfl) (zg rfl rfl (zV rfl rfl rfl ⟨(by omega), (by omega)⟩) (zg rfl rfl (zZ rfl rfl jh (by exact Nat.le_of_ble_eq_true rfl)) (jb rfl (zht (f := 136) (fs := []) (cs := zgj c l) (av := [I (place : Int), I ((a + 1 : Nat) : Int), I (sum + (f : Int)), .pub (.agg (eCn (plN l a place (f : Int) n)))]) rfl rfl ⟨rfl, rfl, rfl⟩ ⟨rfl, rfl, rfl, rfl, trivial⟩ (ih place (a + 1) (sum + (f : Int)) (plN l a place (f : Int) n) (now.set a (10 * now.getD a 0 + (f : Int))) (lsJ c l fu place a sum n now ls j) hpl (by omega) (fun h => absurd h hp5) hfu3 (by simp [hnl]) hsu3 hno3 hcn4 hsz3)) (zo (zD ?_)))))))))))
    exact ⟨rfl, trivial, zt (mem' := (zdP c l (zf4 now a (zaB c l a place n) (j + 1)) (lsJ c l fu place a sum n now ls (j + 1)))) [] trivial (zce (zmK hf).symm (zjd hf).symm)⟩
   ·
    intro hVn
    refine zD (zf (zh (zg rfl rfl (zK rfl rfl rfl rfl rfl rfl jO) (zg rfl rfl (zA rfl rfl rfl ty3) (zg rfl rfl (zA rfl rfl rfl ty3) (zg rfl rfl (qc rfl rfl rfl rfl (by rw [qm, zas, hnl]) jv (by omega) (by omega) (jk _)) (jb rfl (qG (r := [I ((zf4 now a (zaB c l a place n) (zaB c l a place n).length).getD a 0)]) rfl rfl rfl rfl (by rw [qm, zas, hnl]) (vk (by rw [zas]; omega)) (jG rfl) ty3 (by rfl) (by exact Nat.le_of_ble_eq_true rfl)) (zo ?_))))))))
    exact zbz [] (zew (by rw [hsr, zli rfl]) ((vz _ _ _ _).trans (congrArg qA ((zjH _ _).trans (zf7 now a)))) (by rw [hsr, zli rfl])) (zcN ..) (by exact Nat.le_refl _) (.inl rfl) trivial ⟨[], rfl, rfl⟩
end Go.Av
end
section
namespace Go.Av
open Go.Proofs
set_option maxRecDepth 100000
set_option maxHeartbeats 1000000
variable {G : Glob}
theorem zs4 : (Tryz.prog.info? 30).bind (·.zero) = some (.slice none 0 0) := by kernel_rfl
theorem zs7 : (Tryz.prog.info? 23).bind (·.zero) = some (.slice none 0 0) := by kernel_rfl
theorem zsh : (Tryz.prog.info? 183).bind (·.zero) = some (.nilFunc) := by kernel_rfl
theorem zsJ : zh4 Tryz.prog 185 1 [.int .i64 0, .int .i64 0, .int .i64 0] := ⟨_, _, Tryz.t3, Tryz.underlying185, by kernel_rfl, by kernel_rfl, by kernel_rfl⟩
theorem zmJ {k : Nat} (h : k ≤ 3) : yP k 0 0 ≤ 24 := by unfold yP; omega
theorem zme (k : Nat) : List.replicate k [I 0] = qA (List.replicate k (0 : Int)) := by simp [qA]
theorem f96 (c : Cod) (l : List (List (List UInt8))) (hc : jA c = true) (hl : l.length ≤ 3) (hl0 : 0 < l.length) (hcp : ∀ g ∈ l, jX c g = true) : ACall Tryz.prog G 96 [.agg (yc c l)] (jd (kC c l)) := by
 have hcb := wI hc
 have hfew := zeZ hc hl0 hcp
 obtain ⟨N, hN⟩ : ∃ N, N = yb c l 24 0 0 0 (0, 0, 0) (List.replicate c.fields.length (0 : Int)) := ⟨_, rfl⟩
 rw [← hN] at hfew
 refine zS Tryz.func96 rfl (by kernel_rfl) rfl ?_
 refine zl (zh (zg rfl rfl (jf rfl (zY rfl)) (zg rfl rfl (zn rfl rfl) (zo (zf (zl (zh (jb rfl (wO rfl rfl zs4 rfl rfl) (zo (zf (zl ?_)))))))))))
 refine zh (zg rfl rfl (zu rfl rfl jK) (zg rfl rfl (zu rfl rfl jS) (zg rfl rfl (zA rfl rfl rfl zaf) (zg rfl rfl (qh rfl rfl rfl Tryz.underlying22) ?_))))
 refine vG (cs := [_]) rfl rfl rfl rfl rfl rfl rfl zv3 ty3 rfl (by rfl) (jG rfl) rfl ?_
 refine zo (zf (zl ?_))
 refine qy (zt (mem' := [.row [[vw]]]) [(1, .pub (.ptr (yc c l))), (3, .pp 0 1 0 0), (4, .pub (.ptr [ei (c.fields.length : Int)]))] ?_ ?_) ?_
 ·
  exact ⟨rfl, rfl, (congrArg (fun z : Nat => EV.pub (.ptr [ei (z : Int)])) (List.length_map ..)), trivial⟩
 ·
  exact (rfl)
 refine zh (zg rfl rfl (zA rfl rfl rfl ty3) (jb rfl (zrj rfl rfl rfl Tryz.underlying23 ti3 rfl rfl rfl (zs := [.int .i64 0]) rfl rfl rfl (by decide) (by omega) (by omega) (by decide)) (jb rfl (wO rfl rfl zs7 rfl rfl) (jb rfl (qG rfl rfl rfl rfl rfl rfl (zbo rfl rfl (by simp)) jO (by rfl) (by exact Nat.le_of_ble_eq_true rfl)) (zo (zf (zl (zh (jb rfl (wO rfl rfl zsh rfl rfl) (zo (zf ?_)))))))))))
 refine zl (zh (zg rfl rfl (ziI rfl) (jb rfl (qG rfl rfl rfl rfl rfl rfl (zrT rfl) zkY (by rfl) (by exact Nat.le_of_ble_eq_true rfl)) (zo (zf (zl ?_))))))
 refine qy (zmH (k := 0) (i := 0) (j := 0) rfl rfl rfl) ?_
 refine qy (zt (mem' := zdP c l (List.replicate c.fields.length (0 : Int)) []) [(1, .pub (.ptr (yc c l))), (3, .pp 0 1 0 0), (6, .pp 3 1 0 0)] ?_ ?_) ?_
 ·
  exact ⟨rfl, rfl, rfl, trivial⟩
 ·
  exact (zew rfl (zme _) rfl)
 refine zh (zg rfl rfl (zK rfl rfl rfl rfl rfl rfl zkY) (zg rfl rfl (zoL (cs := [_, _, _]) rfl zsJ rfl rfl (by rfl) (by simp [ofV])) (jb rfl (zht (f := 136) (fs := []) (cs := zgj c l) (av := [I ((0 : Nat) : Int), I ((0 : Nat) : Int), I 0, .pub (.agg (eCn (0, 0, 0)))]) rfl rfl ⟨rfl, rfl, rfl⟩ ⟨rfl, rfl, rfl, rfl, trivial⟩ (zs6 c l hc hl hcp 24 0 0 0 (0, 0, 0) (List.replicate c.fields.length (0 : Int)) [] (by omega) (by omega) (fun _ => rfl) (zmJ hcb.1.2) (by simp) rfl (zp0 _) (by unfold zjq; decide) (by rw [← hN]; simpa using hfew))) (zo (zf (zl ?_))))))
 refine qy (zt (mem' := zdP c l (List.replicate c.fields.length (0 : Int)) N) [(3, .pp 0 1 0 0)] ?_ ?_) ?_
 ·
  exact ⟨rfl, trivial⟩
 ·
  exact (zce rfl (by rw [hN]; rfl))
 refine zh (zg rfl rfl (zK rfl rfl rfl rfl rfl rfl zpL) (jb rfl (zrW (ls := N) Tryz.laysSlF6_f139 rfl rfl rfl rfl rfl rfl rfl (by omega) ⟨_, Tryz.func139, rfl, rfl⟩ ⟨_, Tryz.func140, rfl, rfl⟩ ztd zs9) (zo (zf (zl (zh (zg rfl rfl (zK rfl rfl rfl rfl rfl rfl zpL) (zg rfl rfl (qo rfl rfl) (zo (zf (zP ?_)))))))))))
 exact ⟨.inr rfl, zie rfl ⟨(kC c l).map fun m => [nums m], (congrArg (fun z => some (PO.row z)) (show (sortL N).map (fun m => [EV.pub (nums m)]) = _ by rw [hN]; exact zgX (kC c l))), by rw [List.length_map, kC, (wH _).length_eq, hN], rfl⟩⟩
end Go.Av
end
