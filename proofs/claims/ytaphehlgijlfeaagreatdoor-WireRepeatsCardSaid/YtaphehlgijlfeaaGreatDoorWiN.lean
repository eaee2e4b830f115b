/- The search for messages. · The messages that copies can be. -/
import Derived.Test.YtaphehlgijlfeaaGreatDoorWiM
import Derived.Test.YtaphehlgijlfeaaGreatDoorLibB
import Derived.Test.YtaphehlgijlfeaaGreatDoorPlatJ
set_option linter.unusedVariables false
set_option linter.unusedSimpArgs false
section
namespace Go.Av
open Go.Proofs
set_option maxRecDepth 100000
set_option maxHeartbeats 1000000
set_option linter.unusedSimpArgs false
variable {G : Glob}
theorem ty30 : tyIs Tryz.prog 30 false 1 = true := by kernel_rfl
theorem el30 : elemIs Tryz.prog 30 23 1 24 := ⟨Tryz.underlying30, Tryz.t23, _, by kernel_rfl, rfl, rfl, rfl, rfl, by decide⟩
theorem ti23 : Tryz.prog.info? 23 = some Tryz.t23 := by kernel_rfl
theorem ty183 : tyIs Tryz.prog 183 false 1 = true := by kernel_rfl
theorem zv3 : (Tryz.prog.info? 3).bind (·.zero) = some (.int .i64 0) := by kernel_rfl

def iNums (m : List Int) : List (List EV) := m.map fun x => [I x]
def fRows (ls : List (List Int)) : List (List EV) := ls.map fun m => [EV.pub (nums m)]
theorem iNums_pub (m : List Int) : iNums m = (m.map fun n => [AV.v (.int .i64 n)]).map (·.map .pub) := by simp [iNums]
theorem fRows_pub (ls : List (List Int)) : fRows ls = (ls.map fun m => [nums m]).map (·.map .pub) := by simp [fRows]
theorem iNums_len (m : List Int) : (iNums m).length = m.length := by simp [iNums]
theorem iNums_get {m : List Int} {a : Nat} (h : a < m.length) : (iNums m)[a]? = some [I (m.getD a 0)] := by simp [iNums, h]
theorem iNums_set (m : List Int) (a : Nat) (x y : Int) : (iNums m).set a (putCells [I x] 0 [I y]) = iNums (m.set a y) := by simp [iNums, putCells, List.map_set]
theorem iNums_one (m : List Int) : ∀ q ∈ iNums m, q.length = 1 := by simp [iNums]
theorem fRows_one (ls : List (List Int)) : ∀ q ∈ fRows ls, q.length = 1 := by simp [fRows]
def sCaps (c : Cod) (l : List (List (List UInt8))) : List EV := [.pub (.ptr (eRec c l)), .pp 2 1 0 0, .pp 0 1 0 0, .pub (.ptr [ei (c.fields.length : Int)]), .pp 3 1 0 0]
def sMem (c : Cod) (l : List (List (List UInt8))) (now : List Int) (ls : List (List Int)) : List PO := [.row [[.psl 4 ls.length]], .row (iNums now), .row [[.psl 1 c.fields.length]], .row [[.fnm 136 [] (sCaps c l)]], .row (fRows ls)]
theorem sMem_eq {c : Cod} {l : List (List (List UInt8))} {now : List Int} {ls : List (List Int)} {n : Nat} {r1 r2 : List (List EV)} (h1 : n = ls.length) (h2 : r1 = iNums now) (h3 : r2 = fRows ls) :
    [PO.row [[.psl 4 n]], .row r1, .row [[.psl 1 c.fields.length]], .row [[.fnm 136 [] (sCaps c l)]], .row r2] = sMem c l now ls := by subst h1; subst h2; subst h3; rfl
theorem sMem_to {c : Cod} {l : List (List (List UInt8))} {now now' : List Int} {ls ls' : List (List Int)} (h1 : now = now') (h2 : ls = ls') : sMem c l now ls = sMem c l now' ls' := by subst h1; subst h2; rfl
theorem sMem_ok (c : Cod) (l : List (List (List UInt8))) (now : List Int) (ls : List (List Int)) : memOKL (sMem c l now ls).length (sMem c l now ls) := by
  refine ⟨?_, ?_, ?_, ?_, ?_, trivial⟩
  · intro r hr x hx
    simp at hr; subst hr; simp at hx; subst hx
    show 4 < 5
    omega
  · intro r hr x hx
    obtain ⟨y, _, rfl⟩ := List.mem_map.1 hr
    simp at hx; subst hx; trivial
  · intro r hr x hx
    simp at hr; subst hr; simp at hx; subst hx
    show 1 < 5
    omega
  · intro r hr x hx
    simp at hr; subst hr; simp at hx; subst hx
    refine ⟨trivial, trivial, ?_, ?_, trivial, ?_, trivial⟩ <;> (show _ < 5; omega)
  · intro r hr x hx
    obtain ⟨y, _, rfl⟩ := List.mem_map.1 hr
    simp at hx; subst hx; trivial
def nowJ (now : List Int) (a : Nat) (L : List Nat) : Nat → List Int
  | 0 => now
  | j + 1 => now.set a (10 * now.getD a 0 + ((L.getD j 0 : Nat) : Int))
def lsJ (c : Cod) (l : List (List (List UInt8))) (fu place a : Nat) (sum : Int) (n : Int × Int × Int) (now : List Int) (ls : List (List Int)) (j : Nat) : List (List Int) :=
  ls ++ ((canL c l a place n).take j).flatMap fun (f : Nat) => srch c l fu place (a + 1) (sum + (f : Int)) (plN l a place (f : Int) n) (now.set a (10 * now.getD a 0 + (f : Int)))
theorem nowJ_len {now : List Int} {a : Nat} {L : List Nat} (j : Nat) : (nowJ now a L j).length = now.length := by cases j <;> simp [nowJ]
theorem nowJ_set {now : List Int} {a : Nat} {L : List Nat} (j : Nat) (y : Int) : (nowJ now a L j).set a y = now.set a y := by cases j <;> simp [nowJ]
theorem nowJ_succ {now : List Int} {a : Nat} {L : List Nat} {j f : Nat} (h : L[j]? = some f) : nowJ now a L (j + 1) = now.set a (10 * now.getD a 0 + (f : Int)) := by simp [nowJ, h]
theorem lsJ_0 {c : Cod} {l : List (List (List UInt8))} {fu place a : Nat} {sum : Int} {n : Int × Int × Int} {now : List Int} {ls : List (List Int)} : lsJ c l fu place a sum n now ls 0 = ls := by simp [lsJ]
theorem lsJ_succ {c : Cod} {l : List (List (List UInt8))} {fu place a : Nat} {sum : Int} {n : Int × Int × Int} {now : List Int} {ls : List (List Int)} {j f : Nat} (h : (canL c l a place n)[j]? = some f) :
    lsJ c l fu place a sum n now ls (j + 1) = lsJ c l fu place a sum n now ls j ++ srch c l fu place (a + 1) (sum + (f : Int)) (plN l a place (f : Int) n) (now.set a (10 * now.getD a 0 + (f : Int))) := by
  simp [lsJ, List.take_add_one, h]
theorem lsJ_le {c : Cod} {l : List (List (List UInt8))} {fu place a : Nat} {sum : Int} {n : Int × Int × Int} {now : List Int} {ls : List (List Int)} (j : Nat) :
    (lsJ c l fu place a sum n now ls j).length ≤ (ls ++ (canL c l a place n).flatMap fun (f : Nat) => srch c l fu place (a + 1) (sum + (f : Int)) (plN l a place (f : Int) n) (now.set a (10 * now.getD a 0 + (f : Int)))).length := by
  unfold lsJ
  conv => rhs; rw [← List.take_append_drop j (canL c l a place n), List.flatMap_append]
  simp only [List.length_append]
  omega
theorem lsJ_all {c : Cod} {l : List (List (List UInt8))} {fu place a : Nat} {sum : Int} {n : Int × Int × Int} {now : List Int} {ls : List (List Int)} {j : Nat} (h : (canL c l a place n).length = j) :
    lsJ c l fu place a sum n now ls j = ls ++ (canL c l a place n).flatMap fun (f : Nat) => srch c l fu place (a + 1) (sum + (f : Int)) (plN l a place (f : Int) n) (now.set a (10 * now.getD a 0 + (f : Int))) := by
  unfold lsJ; rw [← h, List.take_length]
theorem set_getD_self (m : List Int) (a : Nat) : m.set a (m.getD a 0) = m := by
  by_cases h : a < m.length
  · have e : m.getD a 0 = m[a] := by simp [h]
    rw [e, List.set_getElem_self]
  · exact List.set_eq_of_length_le (by omega)

theorem m136 (c : Cod) (l : List (List (List UInt8))) (hc : codB c = true) (hl : l.length ≤ 3) (hcp : ∀ g ∈ l, copB c g = true) : ∀ (fu place a : Nat) (sum : Int) (n : Int × Int × Int) (now : List Int) (ls : List (List Int)), place ≤ 5 → a ≤ c.fields.length → (place = 5 → a = 0) → fuelS c.fields.length place a ≤ fu → now.length = c.fields.length → sum = sumN now a → nowOK place a now → cntOK n → ls.length + (srch c l fu place a sum n now).length ≤ 4000000 →
  MCall Tryz.prog G 136 ([I (place : Int), I (a : Int), I sum, .pub (.agg (eCn n))] ++ sCaps c l) (sMem c l now ls) (.ret (.pub (.tup [])) (sMem c l now (ls ++ srch c l fu place a sum n now))) := by
 intro fu
 induction fu with
 | zero => intro place a sum n now ls _ _ _ hfu; exfalso; unfold fuelS at hfu; omega
 | succ fu ih =>
 intro place a sum n now ls hpl hat hpa hfu hnl hsu hno hcn hsz
 have hcb := cod_bd hc
 have hsb := sumN_bd now a
 rw [← hsu] at hsb
 refine mcall_of Tryz.func136 rfl (by kernel_rfl) rfl (fun gh hold => ?_)
 refine ac_seq ?_
 refine ac_region ?_
 refine al_y rfl rfl (y_box (cs := [_]) rfl (cE_v rfl)) ?_
 refine al_y rfl rfl (y_box (cs := [_]) rfl (cE_v rfl)) ?_
 refine al_y rfl rfl (y_box (cs := [_]) rfl (cE_v rfl)) ?_
 refine al_y rfl rfl (y_box rfl (cE_agg rfl)) ?_
 refine al_nil ?_
 refine qt_normal ?_
 refine ac_seq ?_
 refine ac_seq ?_
 refine ac_region ?_
 refine al_y rfl rfl (y_load1 rfl rfl rfl ty3) ?_
 refine al_y rfl rfl (y_eql rfl rfl rfl) ?_
 refine al_nil ?_
 refine qt_normal ?_
 refine ac_cond rfl (fun h0 => ?_) (fun h0 => ?_)
 ·
  have hp5 : place = 5 := by simp at h0; omega
  have hsr0 : srch c l (fu + 1) place a sum n now = if msgB c now then [now] else [] := by simp [srch, hp5]
  refine ac_seq ?_
  refine ac_seq ?_
  refine ac_region ?_
  refine al_y rfl rfl (y_fieldAddr rfl rfl fld134_0) ?_
  refine al_y rfl rfl (y_loadN rfl rfl ty25 (by exact Nat.le_of_ble_eq_true rfl)) ?_
  refine al_y rfl rfl (y_load_pp1 rfl rfl rfl rfl rfl rfl ty23) ?_
  refine al_y rfl rfl (y_callFB (av := [.agg (eCod c), nums now]) rfl ⟨AVle.refl _, ⟨now.map fun n => [AV.v (.int .i64 n)], congrArg (fun z => some (PO.row z)) (iNums_pub now), by simp [hnl], rfl⟩, trivial⟩ rfl (f117 c now (by omega))) ?_
  refine al_nil ?_
  refine qt_normal ?_
  refine ac_cond rfl (fun h1 => ?_) (fun h1 => ?_)
  ·
   have hmb : msgB c now = true := by simpa using h1
   have hsr : srch c l (fu + 1) place a sum n now = [now] := by rw [hsr0, if_pos hmb]
   refine ac_mix (fun _ => True) (fun k => match k with | 0 => .rd [0] | 1 => .rd [2] | 2 => .rd [1] | 4 => .rw [] 4 | 5 => .rw [4] 0 | _ => .here) mixed (by kernel_rfl) rfl (by kernel_rfl) trivial ?_
   refine am_r [0] rfl rfl (fun m hm _ => y_load_pp1 rfl rfl ((hm.one 0 rfl).trans rfl) rfl rfl rfl ty30) ?_
   refine am_r [2] rfl rfl (fun m hm _ => y_load_pp1 rfl rfl ((hm.one 2 rfl).trans rfl) rfl rfl rfl ty23) ?_
   refine am_r [1] rfl rfl (fun m hm _ => y_callN (av := [nums now]) rfl ⟨⟨now.map fun n => [AV.v (.int .i64 n)], (hm.one 1 rfl).trans (congrArg (fun z => some (PO.row z)) (iNums_pub now)), by simp [hnl], rfl⟩, trivial⟩ (n112 now (by omega))) ?_
   refine am_h rfl rfl (y_buildSlice (size := 1) (rows := [[_]]) rfl Tryz.underlying30 ti23 rfl (by decide) rfl (by decide) ⟨_, _, rfl, (cE_sl rfl), rfl⟩ (by rfl) (by simp [ofV]) rfl (by simp)) ?_
   refine am_x [] 4 rfl rfl (fun _ => trivial) (fun m hm => opB_append (ns := [[EV.pub (nums now)]]) rfl rfl ((hm.one 4 rfl).trans rfl) (by simp [fRows]) rfl el30 (fRows_one ls) (by simp) (by simp; omega) (by unfold maxLen; simp; omega)) ?_
   refine am_x [4] 0 rfl rfl (fun _ => trivial) (fun m hm => opB_store rfl rfl rfl ((hm.one 0 rfl).trans rfl) rfl rfl (cE_psl rfl ((hm.one 4 rfl).trans rfl) (by simp [fRows])) ty30 (by rfl) (by rfl)) ?_
   refine am_nil ?_
   refine qt_normal ?_
   refine ac_ret ?_
   refine qt_ret ?_
   exact mend_ret [] (sMem_eq (by rw [hsr]; simp) rfl (by rw [hsr]; simp [fRows])) (sMem_ok ..) (by exact Nat.le_refl _) (.inr rfl) trivial ⟨[], rfl, rfl⟩
  ·
   have hmb : msgB c now = false := by simpa using h1
   have hsr : srch c l (fu + 1) place a sum n now = [] := by rw [hsr0, hmb]; rfl
   refine ac_skip ?_
   refine qt_normal ?_
   refine ac_ret ?_
   refine qt_ret ?_
   exact mend_ret [] (sMem_to rfl (by rw [hsr]; simp)) (sMem_ok ..) (by exact Nat.le_refl _) (.inr rfl) trivial ⟨[], rfl, rfl⟩
 ·
  have hp5 : ¬ place = 5 := by simp at h0; omega
  have hp4 : place < 5 := by omega
  have hcn3 : 0 ≤ n.1 ∧ n.1 ≤ 1000 ∧ 0 ≤ n.2.1 ∧ n.2.1 ≤ 1000 ∧ 0 ≤ n.2.2 ∧ n.2.2 ≤ 1000 := by unfold cntOK at hcn; omega
  refine ac_skip ?_
  refine qt_normal ?_
  refine ac_seq ?_
  refine ac_seq ?_
  refine ac_region ?_
  refine al_y rfl rfl (y_load1 rfl rfl rfl ty3) ?_
  refine al_y rfl rfl (y_load1 rfl rfl rfl ty3) ?_
  refine al_y rfl rfl (y_eql rfl rfl rfl) ?_
  refine al_nil ?_
  refine qt_normal ?_
  refine ac_cond rfl (fun h2 => ?_) (fun h2 => ?_)
  ·
   have hak : a = c.fields.length := by simp at h2; omega
   have hsr0 : srch c l (fu + 1) place a sum n now = if plOk c l a place (sum % 10) n then srch c l fu (place + 1) 0 0 (plN l a place (sum % 10) n) now else [] := by rw [srch, if_neg hp5, if_pos hak]
   have hfu2 : fuelS c.fields.length (place + 1) 0 ≤ fu := by
    have e : 5 - place = (5 - (place + 1)) + 1 := by omega
    unfold fuelS at hfu ⊢
    rw [e, Nat.add_mul] at hfu
    omega
   have hno2 : nowOK (place + 1) 0 now := nowOK_full hno (by omega)
   refine ac_seq ?_
   refine ac_seq ?_
   refine ac_region ?_
   refine al_y rfl rfl (y_loadN rfl rfl ty134 (by exact Nat.le_of_ble_eq_true rfl)) ?_
   refine al_y rfl rfl (y_loadN rfl rfl ty185 (by exact Nat.le_of_ble_eq_true rfl)) ?_
   refine al_y rfl rfl (y_load1 rfl rfl rfl ty3) ?_
   refine al_y rfl rfl (y_load1 rfl rfl rfl ty3) ?_
   refine al_y rfl rfl (y_load1 rfl rfl rfl ty3) ?_
   refine al_y rfl rfl (y_rem rfl rfl rfl ⟨(by omega), (by omega)⟩) ?_
   refine al_y rfl rfl (y_callF (av := [_, _, _, _, _]) rfl ⟨rfl, rfl, rfl, rfl, rfl, trivial⟩ (f137 c l n a place (sum % 10) hc hl hcp hat hp4 (by omega) hcn3)) ?_
   refine al_y rfl rfl (y_moveP rfl rfl) ?_
   refine al_y rfl rfl (y_extract rfl rfl rfl) ?_
   refine al_y rfl rfl (y_extract rfl rfl rfl) ?_
   refine al_pair  rfl rfl rfl rfl rfl rfl rfl zv185 ty185 rfl (by rfl) (cE_agg rfl) rfl ?_
   refine al_y rfl rfl (y_assignV rfl rfl) ?_
   refine al_nil ?_
   refine qt_normal ?_
   refine ac_seq ?_
   refine ac_region ?_
   refine al_y rfl rfl (y_moveV rfl rfl) ?_
   refine al_nil ?_
   refine qt_normal ?_
   refine ac_cond rfl (fun h3 => ?_) (fun h3 => ?_)
   ·
    have hpk : plOk c l a place (sum % 10) n = true := by simpa using h3
    have hsr : srch c l (fu + 1) place a sum n now = srch c l fu (place + 1) 0 0 (plN l a place (sum % 10) n) now := by rw [hsr0, if_pos hpk]
    have hcn2 := cnt_step hc hpk hcn
    refine ac_weak (weak_frM (mem' := sMem c l now ls) [(4, .pub (.ptr (eRec c l))), (5, .pp 2 1 0 0), (6, .pp 0 1 0 0), (7, .pub (.ptr [ei (c.fields.length : Int)])), (8, .pp 3 1 0 0), (9, .pub (.ptr [ei (place : Int)])), (10, .pub (.ptr [ei (a : Int)])), (11, .pub (.ptr [ei sum])), (12, .pub (.ptr (eCn n))), (13, .pub (.ptr (eCn (plN l a place (sum % 10) n))))] ?_ ?_) ?_
    ·
     exact ⟨rfl, rfl, rfl, rfl, rfl, rfl, rfl, rfl, rfl, (congrArg (fun z => EV.pub (.ptr z)) (plX_eq hpk)), trivial⟩
    ·
     exact (rfl)
    refine ac_region ?_
    refine al_y rfl rfl (y_load_pp1 rfl rfl rfl rfl rfl rfl ty183) ?_
    refine al_y rfl rfl (y_load1 rfl rfl rfl ty3) ?_
    refine al_y rfl rfl (y_add rfl rfl rfl ⟨(by omega), (by omega)⟩) ?_
    refine al_y rfl rfl (y_loadN rfl rfl ty185 (by exact Nat.le_of_ble_eq_true rfl)) ?_
    refine al_m rfl (m_call (f := 136) (fs := []) (cs := sCaps c l) (av := [I ((place + 1 : Nat) : Int), I ((0 : Nat) : Int), I 0, .pub (.agg (eCn (plN l a place (sum % 10) n)))]) rfl rfl ⟨rfl, rfl, rfl⟩ ⟨rfl, rfl, rfl, rfl, trivial⟩ (ih (place + 1) 0 0 (plN l a place (sum % 10) n) now ls (by omega) (by omega) (fun _ => rfl) hfu2 hnl rfl hno2 hcn2 (by rw [hsr] at hsz; exact hsz))) ?_
    refine al_nil ?_
    refine qt_normal ?_
    refine ac_ret ?_
    refine qt_ret ?_
    exact mend_ret [] (sMem_to rfl (by rw [hsr])) (sMem_ok ..) (by exact Nat.le_refl _) (.inr rfl) trivial ⟨[], rfl, rfl⟩
   ·
    have hpk : plOk c l a place (sum % 10) n = false := by simpa using h3
    have hsr : srch c l (fu + 1) place a sum n now = [] := by rw [hsr0, hpk]; rfl
    refine ac_skip ?_
    refine qt_normal ?_
    refine ac_ret ?_
    refine qt_ret ?_
    exact mend_ret [] (sMem_to rfl (by rw [hsr]; simp)) (sMem_ok ..) (by exact Nat.le_refl _) (.inr rfl) trivial ⟨[], rfl, rfl⟩
  ·
   have hak : ¬ a = c.fields.length := by simp at h2; omega
   have hal : a < now.length := by omega
   have hgd : now.getD a 0 = now[a] := by simp [hal]
   have hnb := nowOK_at hno hal hp4
   rw [← hgd] at hnb
   have hsr : srch c l (fu + 1) place a sum n now = (canL c l a place n).flatMap fun (f : Nat) => srch c l fu place (a + 1) (sum + (f : Int)) (plN l a place (f : Int) n) (now.set a (10 * now.getD a 0 + (f : Int))) := by rw [srch, if_neg hp5, if_neg hak]
   have hfu3 : fuelS c.fields.length place (a + 1) ≤ fu := by unfold fuelS at hfu ⊢; omega
   refine ac_skip ?_
   refine qt_normal ?_
   refine ac_seq ?_
   refine ac_region ?_
   refine al_y rfl rfl (y_load_pp1 rfl rfl rfl rfl rfl rfl ty23) ?_
   refine al_y rfl rfl (y_load1 rfl rfl rfl ty3) ?_
   refine al_y rfl rfl (y_indexAddr_psl rfl rfl rfl rfl (by rw [iNums_len, hnl]) slc23 (by omega) (by omega) (iNums_one _)) ?_
   refine al_y rfl rfl (y_load_pp1 (c := I (now.getD a 0)) rfl rfl rfl (by rw [iNums_len, hnl]) (iNums_get (by omega)) rfl ty3) ?_
   refine al_pair (cs := [_]) rfl rfl rfl rfl rfl rfl rfl zv3 ty3 rfl (by rfl) (cE_v rfl) rfl ?_
   refine al_nil ?_
   refine qt_normal ?_
   refine ac_seq ?_
   refine ac_seq ?_
   refine ac_region ?_
   refine al_y rfl rfl (y_loadN rfl rfl ty134 (by exact Nat.le_of_ble_eq_true rfl)) ?_
   refine al_y rfl rfl (y_loadN rfl rfl ty185 (by exact Nat.le_of_ble_eq_true rfl)) ?_
   refine al_y rfl rfl (y_load1 rfl rfl rfl ty3) ?_
   refine al_y rfl rfl (y_load1 rfl rfl rfl ty3) ?_
   refine al_y rfl rfl (y_callF (av := [_, _, _, _]) rfl ⟨rfl, rfl, rfl, rfl, trivial⟩ (f138 c l n (a : Int) (place : Int))) ?_
   refine al_nil ?_
   refine qt_normal ?_
   refine ac_block ?_
   refine ac_rangeFuncM (canL c l a place n) (fun (f : Nat) => [ei (f : Int), .agg (eCn (plN l a place (f : Int) n))]) [4, 5, 6, 7, 8, 9, 10, 11, 12, 15] (fun j => True) (fun j => (sMem c l (nowJ now a (canL c l a place n) j) (lsJ c l fu place a sum n now ls j))) (trivial) rfl (it166 c l n a place hc hl hcp hat hp4 hcn3) (sMem_to rfl lsJ_0.symm) (fun _ => rfl) rfl rfl ?_ ?_
   ·
    intro j f gh lp hd1 hd2 hq hV
    have hf := hq
    have hfm := mem_canL.1 (List.mem_of_getElem? hf)
    have hfb : 0 ≤ (f : Int) ∧ (f : Int) ≤ 9 := by omega
    have hcn4 := cnt_step hc hfm.2 hcn
    have hno3 := nowOK_step hno hal hfb
    rw [← hgd] at hno3
    have hls := lsJ_le (c := c) (l := l) (fu := fu) (place := place) (a := a) (sum := sum) (n := n) (now := now) (ls := ls) (j + 1)
    rw [lsJ_succ hf, ← hsr] at hls
    simp only [List.length_append] at hls
    have hsz3 := Nat.le_trans hls hsz
    have hsu3 : sum + (f : Int) = sumN (now.set a (10 * now.getD a 0 + (f : Int))) (a + 1) := by
     rw [sumN_step (by simpa using hal), sumN_set, ← hsu]; simp; omega
    refine ac_seq ?_
    refine ac_region ?_
    refine al_y rfl rfl (y_assignV rfl rfl) ?_
    refine al_nil ?_
    refine qt_normal ?_
    refine ac_region ?_
    refine al_pair  rfl rfl rfl rfl rfl rfl rfl zv185 ty185 rfl (by rfl) (cE_agg rfl) rfl ?_
    refine al_nil ?_
    refine ⟨rfl, rfl, ?_⟩
    refine ac_block ?_
    refine ac_seq ?_
    refine ac_region ?_
    refine al_y rfl rfl (y_load_pp1 rfl rfl rfl rfl rfl rfl ty23) ?_
    refine al_y rfl rfl (y_load1 rfl rfl rfl ty3) ?_
    refine al_y rfl rfl (y_load1 rfl rfl rfl ty3) ?_
    refine al_y rfl rfl (y_mul rfl rfl rfl ⟨(by omega), (by omega)⟩) ?_
    refine al_y rfl rfl (y_moveV rfl rfl) ?_
    refine al_y rfl rfl (y_add rfl rfl rfl ⟨(by omega), (by omega)⟩) ?_
    refine al_y rfl rfl (y_indexAddr_psl rfl rfl rfl rfl (by rw [iNums_len, nowJ_len, hnl]) slc23 (by omega) (by omega) (iNums_one _)) ?_
    refine al_m rfl (m_store (r := [I ((nowJ now a (canL c l a place n) j).getD a 0)]) rfl rfl rfl rfl (by rw [iNums_len, nowJ_len, hnl]) (iNums_get (by rw [nowJ_len]; omega)) (cE_v rfl) ty3 (by rfl) (by exact Nat.le_of_ble_eq_true rfl)) ?_
    refine al_nil ?_
    refine qt_normal ?_
    refine ac_weak (weak_frM (mem' := sMem c l (now.set a (10 * now.getD a 0 + (f : Int))) (lsJ c l fu place a sum n now ls j)) [(4, .pub (.ptr (eRec c l))), (5, .pp 2 1 0 0), (6, .pp 0 1 0 0), (7, .pub (.ptr [ei (c.fields.length : Int)])), (8, .pp 3 1 0 0), (9, .pub (.ptr [ei (place : Int)])), (10, .pub (.ptr [ei (a : Int)])), (11, .pub (.ptr [ei sum])), (12, .pub (.ptr (eCn n))), (15, .pub (.ptr [ei (now.getD a 0)])), (16, I (f : Int)), (17, .pub (.ptr (eCn (plN l a place (f : Int) n))))] ?_ ?_) ?_
    ·
     exact ⟨rfl, rfl, rfl, rfl, rfl, rfl, rfl, rfl, rfl, rfl, rfl, rfl, trivial⟩
    ·
     exact (sMem_eq rfl ((iNums_set _ _ _ _).trans (congrArg iNums (nowJ_set _ _))) rfl)
    refine ac_region ?_
    refine al_y rfl rfl (y_load_pp1 rfl rfl rfl rfl rfl rfl ty183) ?_
    refine al_y rfl rfl (y_load1 rfl rfl rfl ty3) ?_
    refine al_y rfl rfl (y_load1 rfl rfl rfl ty3) ?_
    refine al_y rfl rfl (y_add rfl rfl rfl ⟨(by omega), (by omega)⟩) ?_
    refine al_y rfl rfl (y_load1 rfl rfl rfl ty3) ?_
    refine al_y rfl rfl (y_moveV rfl rfl) ?_
    refine al_y rfl rfl (y_add rfl rfl rfl ⟨(by omega), (by omega)⟩) ?_
    refine al_y rfl rfl (y_loadN rfl rfl ty185 (by exact Nat.le_of_ble_eq_true rfl)) ?_
    refine al_m rfl (m_call (f := 136) (fs := []) (cs := sCaps c l) (av := [I (place : Int), I ((a + 1 : Nat) : Int), I (sum + (f : Int)), .pub (.agg (eCn (plN l a place (f : Int) n)))]) rfl rfl ⟨rfl, rfl, rfl⟩ ⟨rfl, rfl, rfl, rfl, trivial⟩ (ih place (a + 1) (sum + (f : Int)) (plN l a place (f : Int) n) (now.set a (10 * now.getD a 0 + (f : Int))) (lsJ c l fu place a sum n now ls j) hpl (by omega) (fun h => absurd h hp5) hfu3 (by simp [hnl]) hsu3 hno3 hcn4 hsz3)) ?_
    refine al_nil ?_
    refine qb_normal ?_
    exact ⟨rfl, trivial, weak_frM (mem' := (sMem c l (nowJ now a (canL c l a place n) (j + 1)) (lsJ c l fu place a sum n now ls (j + 1)))) [] trivial (sMem_to (nowJ_succ hf).symm (lsJ_succ hf).symm)⟩
   ·
    intro hVn
    refine qb_normal ?_
    refine qt_normal ?_
    refine ac_region ?_
    refine al_y rfl rfl (y_load_pp1 rfl rfl rfl rfl rfl rfl ty23) ?_
    refine al_y rfl rfl (y_load1 rfl rfl rfl ty3) ?_
    refine al_y rfl rfl (y_load1 rfl rfl rfl ty3) ?_
    refine al_y rfl rfl (y_indexAddr_psl rfl rfl rfl rfl (by rw [iNums_len, nowJ_len, hnl]) slc23 (by omega) (by omega) (iNums_one _)) ?_
    refine al_m rfl (m_store (r := [I ((nowJ now a (canL c l a place n) (canL c l a place n).length).getD a 0)]) rfl rfl rfl rfl (by rw [iNums_len, nowJ_len, hnl]) (iNums_get (by rw [nowJ_len]; omega)) (cE_v rfl) ty3 (by rfl) (by exact Nat.le_of_ble_eq_true rfl)) ?_
    refine al_nil ?_
    exact mend_ret [] (sMem_eq (by rw [hsr, lsJ_all rfl]) ((iNums_set _ _ _ _).trans (congrArg iNums ((nowJ_set _ _).trans (set_getD_self now a)))) (by rw [hsr, lsJ_all rfl])) (sMem_ok ..) (by exact Nat.le_refl _) (.inl rfl) trivial ⟨[], rfl, rfl⟩
end Go.Av
end

section
namespace Go.Av
open Go.Proofs
set_option maxRecDepth 100000
set_option maxHeartbeats 1000000
set_option linter.unusedSimpArgs false
variable {G : Glob}
theorem zv30 : (Tryz.prog.info? 30).bind (·.zero) = some (.slice none 0 0) := by kernel_rfl
theorem zv23 : (Tryz.prog.info? 23).bind (·.zero) = some (.slice none 0 0) := by kernel_rfl
theorem zv183 : (Tryz.prog.info? 183).bind (·.zero) = some (.nilFunc) := by kernel_rfl
theorem az185 : arrayIs Tryz.prog 185 1 [.int .i64 0, .int .i64 0, .int .i64 0] := ⟨_, _, Tryz.t3, Tryz.underlying185, by kernel_rfl, by kernel_rfl, by kernel_rfl⟩

theorem fuelS_top {k : Nat} (h : k ≤ 3) : fuelS k 0 0 ≤ 24 := by unfold fuelS; omega
theorem iNums_rep (k : Nat) : List.replicate k [I 0] = iNums (List.replicate k (0 : Int)) := by simp [iNums]

theorem f96 (c : Cod) (l : List (List (List UInt8))) (hc : codB c = true) (hl : l.length ≤ 3) (hl0 : 0 < l.length) (hcp : ∀ g ∈ l, copB c g = true) : ACall Tryz.prog G 96 [.agg (eRec c l)] (eIntss (msgs c l)) := by
 have hcb := cod_bd hc
 have hfew := srch_few hc hl0 hcp
 obtain ⟨N, hN⟩ : ∃ N, N = srch c l 24 0 0 0 (0, 0, 0) (List.replicate c.fields.length (0 : Int)) := ⟨_, rfl⟩
 rw [← hN] at hfew
 refine acall_of Tryz.func96 rfl (by kernel_rfl) rfl ?_
 refine ac_seq ?_
 refine ac_region ?_
 refine al_y rfl rfl (y_box rfl (cE_agg rfl)) ?_
 refine al_y rfl rfl (y_assignV rfl rfl) ?_
 refine al_nil ?_
 refine qt_normal ?_
 refine ac_seq ?_
 refine ac_region ?_
 refine al_m rfl (m_alloc rfl rfl zv30 rfl rfl) ?_
 refine al_nil ?_
 refine qt_normal ?_
 refine ac_seq ?_
 refine ac_region ?_
 refine al_y rfl rfl (y_fieldAddr rfl rfl fld134_0) ?_
 refine al_y rfl rfl (y_fieldAddr rfl rfl fld25_0) ?_
 refine al_y rfl rfl (y_load1 rfl rfl rfl ty22) ?_
 refine al_y rfl rfl (y_len rfl rfl rfl Tryz.underlying22) ?_
 refine al_pair (cs := [_]) rfl rfl rfl rfl rfl rfl rfl zv3 ty3 rfl (by rfl) (cE_v rfl) rfl ?_
 refine al_nil ?_
 refine qt_normal ?_
 refine ac_seq ?_
 refine ac_weak (weak_frM (mem' := [.row [[nilE]]]) [(1, .pub (.ptr (eRec c l))), (3, .pp 0 1 0 0), (4, .pub (.ptr [ei (c.fields.length : Int)]))] ?_ ?_) ?_
 ·
  exact ⟨rfl, rfl, (congrArg (fun z : Nat => EV.pub (.ptr [ei (z : Int)])) (List.length_map ..)), trivial⟩
 ·
  exact (rfl)
 refine ac_region ?_
 refine al_y rfl rfl (y_load1 rfl rfl rfl ty3) ?_
 refine al_m rfl (m_make rfl rfl rfl Tryz.underlying23 ti3 rfl rfl rfl (zs := [.int .i64 0]) rfl rfl rfl (by decide) (by omega) (by omega) (by decide)) ?_
 refine al_m rfl (m_alloc rfl rfl zv23 rfl rfl) ?_
 refine al_m rfl (m_store rfl rfl rfl rfl rfl rfl (cE_psl rfl rfl (by simp)) ty23 (by rfl) (by exact Nat.le_of_ble_eq_true rfl)) ?_
 refine al_nil ?_
 refine qt_normal ?_
 refine ac_seq ?_
 refine ac_region ?_
 refine al_m rfl (m_alloc rfl rfl zv183 rfl rfl) ?_
 refine al_nil ?_
 refine qt_normal ?_
 refine ac_seq ?_
 refine ac_region ?_
 refine al_y rfl rfl (y_makeFuncM rfl) ?_
 refine al_m rfl (m_store rfl rfl rfl rfl rfl rfl (cE_fnm rfl) ty183 (by rfl) (by exact Nat.le_of_ble_eq_true rfl)) ?_
 refine al_nil ?_
 refine qt_normal ?_
 refine ac_seq ?_
 refine ac_weak (weak_nilM (k := 0) (i := 0) (j := 0) rfl rfl rfl) ?_
 refine ac_weak (weak_frM (mem' := sMem c l (List.replicate c.fields.length (0 : Int)) []) [(1, .pub (.ptr (eRec c l))), (3, .pp 0 1 0 0), (6, .pp 3 1 0 0)] ?_ ?_) ?_
 ·
  exact ⟨rfl, rfl, rfl, trivial⟩
 ·
  exact (sMem_eq rfl (iNums_rep _) rfl)
 refine ac_region ?_
 refine al_y rfl rfl (y_load_pp1 rfl rfl rfl rfl rfl rfl ty183) ?_
 refine al_y rfl rfl (y_buildA (cs := [_, _, _]) rfl az185 rfl rfl (by rfl) (by simp [ofV])) ?_
 refine al_m rfl (m_call (f := 136) (fs := []) (cs := sCaps c l) (av := [I ((0 : Nat) : Int), I ((0 : Nat) : Int), I 0, .pub (.agg (eCn (0, 0, 0)))]) rfl rfl ⟨rfl, rfl, rfl⟩ ⟨rfl, rfl, rfl, rfl, trivial⟩ (m136 c l hc hl hcp 24 0 0 0 (0, 0, 0) (List.replicate c.fields.length (0 : Int)) [] (by omega) (by omega) (fun _ => rfl) (fuelS_top hcb.1.2) (by simp) rfl (nowOK_0 _) (by unfold cntOK; decide) (by rw [← hN]; simpa using hfew))) ?_
 refine al_nil ?_
 refine qt_normal ?_
 refine ac_seq ?_
 refine ac_weak (weak_frM (mem' := sMem c l (List.replicate c.fields.length (0 : Int)) N) [(3, .pp 0 1 0 0)] ?_ ?_) ?_
 ·
  exact ⟨rfl, trivial⟩
 ·
  exact (sMem_to rfl (by rw [hN]; rfl))
 refine ac_region ?_
 refine al_y rfl rfl (y_load_pp1 rfl rfl rfl rfl rfl rfl ty30) ?_
 refine al_m rfl (m_sort (ls := N) Tryz.laysSlF6_f139 rfl rfl rfl rfl rfl rfl rfl (by omega) ⟨_, Tryz.func139, rfl, rfl⟩ ⟨_, Tryz.func140, rfl, rfl⟩ c140 x139) ?_
 refine al_nil ?_
 refine qt_normal ?_
 refine ac_seq ?_
 refine ac_region ?_
 refine al_y rfl rfl (y_load_pp1 rfl rfl rfl rfl rfl rfl ty30) ?_
 refine al_y rfl rfl (y_assignS rfl rfl) ?_
 refine al_nil ?_
 refine qt_normal ?_
 refine ac_ret ?_
 exact ⟨.inr rfl, ret_one rfl ⟨(msgs c l).map fun m => [nums m], (congrArg (fun z => some (PO.row z)) (show (sortL N).map (fun m => [EV.pub (nums m)]) = _ by rw [hN]; exact fRows_pub (msgs c l))), by rw [List.length_map, msgs, (sortL_perm _).length_eq, hN], rfl⟩⟩
end Go.Av
end
