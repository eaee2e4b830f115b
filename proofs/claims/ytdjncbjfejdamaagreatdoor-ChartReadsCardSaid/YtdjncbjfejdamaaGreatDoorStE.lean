/- The reference: Read. · A text of which one digit is changed is not read. · The reference's Read and the program's agree. -/
import Derived.Test.YtdjncbjfejdamaaGreatDoorStD
set_option linter.unusedVariables false
set_option linter.unusedSimpArgs false
section
namespace Go.Av
open Go.Proofs
set_option maxRecDepth 100000
set_option maxHeartbeats 1000000
set_option linter.unusedSimpArgs false
variable {G : Glob}

def refRow (l : List UInt8) : List Int := (wordsL l).map numV
def refRowOK (wide : Int) (l : List UInt8) : Bool := numsOK (wordsL l) && (((refRow l).length : Int) == wide)
def valsR (Ls : List (List UInt8)) (k : Nat) : List (List Int) := (Ls.take k).map refRow
def flatR (Ls : List (List UInt8)) (k : Nat) : List Int := (valsR Ls k).flatten
theorem valsR_snoc {Ls : List (List UInt8)} {k : Nat} (h : k < Ls.length) : valsR Ls (k + 1) = valsR Ls k ++ [refRow Ls[k]] := by
  unfold valsR
  rw [List.take_add_one, List.getElem?_eq_getElem h, Option.toList_some, List.map_append]; rfl
theorem wordsL_len (l : List UInt8) : (wordsL l).length ≤ l.length + 1 := by
  unfold wordsL; split
  · simp
  · exact splitL_len 32 l
theorem wordsL_piece (l : List UInt8) : ∀ p ∈ wordsL l, p.length ≤ l.length := fun p hp => by
  unfold wordsL at hp; split at hp
  · cases hp
  · exact splitL_piece 32 l p hp
theorem refRow_len (l : List UInt8) : (refRow l).length ≤ l.length + 1 := by unfold refRow; rw [List.length_map]; exact wordsL_len l
theorem nums_bd {ws : List (List UInt8)} (h : numsOK ws = true) : ∀ n ∈ ws.map numV, 0 ≤ n ∧ n ≤ 99999 := fun n hn => by
  obtain ⟨w, hw, rfl⟩ := List.mem_map.1 hn
  unfold numsOK at h; rw [List.all_eq_true] at h
  exact numOK_bd (h w hw)
theorem refRow_bd {wide : Int} {l : List UInt8} (h : refRowOK wide l = true) : ((refRow l).length : Int) = wide ∧ ∀ n ∈ refRow l, 0 ≤ n ∧ n ≤ 99999 := by
  unfold refRowOK at h
  simp only [Bool.and_eq_true, beq_iff_eq] at h
  exact ⟨h.2, nums_bd h.1⟩
theorem valsR_bd {Ls : List (List UInt8)} {wide : Int} {B : Nat} (hl : ∀ l ∈ Ls, l.length ≤ B) (k : Nat) (hk : k ≤ Ls.length) (h : ∀ i (hi : i < Ls.length), i < k → refRowOK wide Ls[i] = true) :
    ∀ r ∈ valsR Ls k, r.length ≤ B + 1 ∧ ∀ n ∈ r, 0 ≤ n ∧ n ≤ 99999 := fun r hr => by
  unfold valsR at hr
  obtain ⟨l, hl2, rfl⟩ := List.mem_map.1 hr
  obtain ⟨i, hi, rfl⟩ := List.getElem_of_mem hl2
  simp only [List.length_take] at hi
  rw [List.getElem_take]
  have h1 := hl _ (List.getElem_mem (show i < Ls.length by omega))
  have h2 := refRow_len Ls[i]
  exact ⟨by omega, (refRow_bd (h i (by omega) (by omega))).2⟩
theorem flatR_snoc {Ls : List (List UInt8)} {k : Nat} (h : k < Ls.length) : (flatR Ls (k + 1)) = (flatR Ls k) ++ refRow Ls[k] := by
  unfold flatR; rw [valsR_snoc h, List.flatten_append]; simp
theorem flatR_len {Ls : List (List UInt8)} {B : Nat} (hl : ∀ l ∈ Ls, l.length ≤ B) : ∀ (k : Nat), k ≤ Ls.length → (flatR Ls k).length ≤ k * (B + 1)
  | 0, _ => by simp [flatR, valsR]
  | k + 1, h => by
    have h1 := flatR_len hl k (by omega)
    have h2 := hl _ (List.getElem_mem (show k < Ls.length by omega))
    have h3 := refRow_len Ls[k]
    rw [flatR_snoc (by omega), List.length_append, Nat.add_mul]; omega
theorem flatRE_snoc {Ls : List (List UInt8)} {k : Nat} (h : k < Ls.length) : (flatR Ls k).map iE ++ ((refRow Ls[k]).map fun n => [AV.v (.int .i64 n)]).map (·.map .pub) = (flatR Ls (k + 1)).map iE := by
  rw [flatR_snoc h, List.map_append]; congr 1; rw [List.map_map]; rfl
theorem flatR_len1 {Ls : List (List UInt8)} {k : Nat} (h : k < Ls.length) : (flatR Ls k).length + (((refRow Ls[k]).map fun n => [AV.v (.int .i64 n)]).map (·.map EV.pub)).length = (flatR Ls (k + 1)).length := by
  rw [flatR_snoc h]; simp
theorem wsumR_snoc {Ls : List (List UInt8)} {k : Nat} (h : k < Ls.length) : wsum 0 (valsR Ls (k + 1)) = wsum 0 (valsR Ls k) + (refRow Ls[k]).sum * ((k : Int) + 1) := by
  have hlen : (valsR Ls k).length = k := by unfold valsR; simp; omega
  rw [valsR_snoc h, wsum_app, hlen, Nat.zero_add]
  simp [wsum]
theorem memF_eq {y1 : Int} {n n' : Nat} {F F' : List (List EV)} (t : List PO) (h1 : n = n') (h2 : F = F') :
    PO.row [[I 0, .pub (.v (.slice none 0 0))]] :: PO.row [[I y1, .psl 2 n]] :: PO.row F :: t = PO.row [[I 0, .pub (.v (.slice none 0 0))]] :: PO.row [[I y1, .psl 2 n']] :: PO.row F' :: t := by subst h1; subst h2; rfl
def endOf (y1 : Int) (Ls : List (List UInt8)) (M : Nat) : List UInt8 := [101, 110, 100, 32] ++ Lib.itoa ((y1 + wsum 0 (valsR Ls M)) % 97 / 10) ++ Lib.itoa ((y1 + wsum 0 (valsR Ls M)) % 97 % 10)

/-- isobarref03.Read -/
theorem f59_head (s : List UInt8) (hl : s.length ≤ 990) {L0 : List UInt8} {Ls : List (List UInt8)} (hL : splitL 10 s = L0 :: Ls) {H : List (List UInt8)} (hH : splitL 32 L0 = H) (hh : (((H.length : Int) == 3) && (H.getD 0 [] == wChart)) = false) : ACall Tryz.prog G 59 [eS s] (.tup [.agg [.top, .top], .v (.bool false)]) := by
  have hlen := splitL_len 10 s
  have hpc := splitL_piece 10 s
  rw [hL] at hlen hpc
  have hl0 := hpc L0 (List.mem_cons_self ..)
  have hLs : Ls.length ≤ 990 := by simp at hlen; omega
  have hLp : ∀ l ∈ Ls, l.length ≤ 990 := fun l h => by have := hpc l (List.mem_cons_of_mem _ h); omega
  have sp1 := f110 (G := G) s 10 (by omega)
  rw [hL] at sp1
  have sp2 := f110 (G := G) L0 32 (by omega)
  rw [hH] at sp2
  refine acall_of Tryz.func59 rfl (by kernel_rfl) rfl ?_
  refine ac_seq ?_
  refine ac_region ?_
  refine al_m rfl (m_alloc rfl rfl zv29 rfl rfl) ?_
  refine al_y rfl rfl (y_assignV rfl rfl) ?_
  refine al_nil ?_
  refine qt_normal ?_
  refine ac_seq ?_
  refine ac_region ?_
  refine al_y rfl rfl (y_moveV rfl rfl) ?_
  refine al_y rfl rfl (y_callF (av := [_, _]) rfl ⟨rfl, rfl, trivial⟩ sp1) ?_
  refine al_y rfl rfl (y_assignP rfl rfl) ?_
  refine al_nil ?_
  refine qt_normal ?_
  refine ac_seq ?_
  refine ac_region ?_
  refine al_y rfl rfl (y_moveP rfl rfl) ?_
  refine al_y rfl rfl (y_indexAddr rfl rfl rfl slc156 (by omega) rfl str_len) ?_
  refine al_y rfl rfl (y_load1 rfl rfl rfl ty9) ?_
  refine al_y rfl rfl (y_callF (av := [_, _]) rfl ⟨rfl, rfl, trivial⟩ sp2) ?_
  refine al_y rfl rfl (y_assignP rfl rfl) ?_
  refine al_nil ?_
  refine qt_normal ?_
  refine ac_seq ?_
  refine ac_seq ?_
  refine ac_region ?_
  refine al_y rfl rfl (y_moveP rfl rfl) ?_
  refine al_y rfl rfl (y_len_map rfl rfl Tryz.underlying156) ?_
  refine al_y rfl rfl (y_neq rfl rfl rfl) ?_
  refine al_y rfl rfl (y_moveV rfl rfl) ?_
  refine al_maybe rfl rfl rfl (fun hg => y_moveP rfl rfl) ?_
  refine al_maybe rfl rfl rfl (fun hg => y_indexAddr rfl (if_pos hg) rfl slc156 (by omega) (show _ = some [eS (H.getD 0 [])] from str_getD (by simp at hg; omega)) str_len) ?_
  refine al_maybe rfl rfl rfl (fun hg => y_load1 rfl (if_pos hg) rfl ty9) ?_
  refine al_maybe rfl rfl rfl (fun hg => y_neqS rfl (if_pos hg) rfl) ?_
  refine al_y rfl rfl (y_or rfl rfl rfl rfl) ?_
  refine al_nil ?_
  refine qt_normal ?_
  refine ac_cond rfl (fun h0 => ?_) (fun h0 => ?_)
  · skip
    refine ac_seq ?_
    refine ac_region ?_
    refine al_y rfl rfl (y_build (cs := [_, _]) rfl st29 rfl rfl (by rfl) (by simp [ofV])) ?_
    refine al_m rfl (m_store rfl rfl rfl rfl rfl rfl (cE_agg rfl) ty29 (by rfl) (by exact Nat.le_of_ble_eq_true rfl)) ?_
    refine al_y rfl rfl (y_assignV rfl rfl) ?_
    refine al_nil ?_
    refine qt_normal ?_
    refine ac_ret ?_
    refine qt_ret ?_
    exact ⟨.inr rfl, ⟨_, rfl, ⟨_, _, rfl, (res_cell rfl rfl rfl rfl ty29 rfl ⟨_, _, rfl, AVle.top _, ⟨_, _, rfl, AVle.top _, rfl⟩⟩), ⟨_, _, rfl, AVle.refl _, rfl⟩⟩⟩⟩
  · skip
    exfalso
    have h0' := h0
    unfold wChart at hh
    revert h0' hh
    cases h1 : ((H.length : Int) == 3) <;> cases h2 : (H.getD 0 [] == [99, 104, 97, 114, 116]) <;> simp_all [bne]

/-- isobarref03.Read -/
theorem f59_nums (s : List UInt8) (hl : s.length ≤ 990) {L0 : List UInt8} {Ls : List (List UInt8)} (hL : splitL 10 s = L0 :: Ls) {w1 w2 : List UInt8} (hH : splitL 32 L0 = [wChart, w1, w2]) (hn : numsOK [w1, w2] = false) : ACall Tryz.prog G 59 [eS s] (.tup [.agg [.top, .top], .v (.bool false)]) := by
  have hlen := splitL_len 10 s
  have hpc := splitL_piece 10 s
  rw [hL] at hlen hpc
  have hl0 := hpc L0 (List.mem_cons_self ..)
  have hLs : Ls.length ≤ 990 := by simp at hlen; omega
  have hLp : ∀ l ∈ Ls, l.length ≤ 990 := fun l h => by have := hpc l (List.mem_cons_of_mem _ h); omega
  have sp1 := f110 (G := G) s 10 (by omega)
  rw [hL] at sp1
  have sp2 := f110 (G := G) L0 32 (by omega)
  rw [hH] at sp2
  have hHp := splitL_piece 32 L0
  rw [hH] at hHp
  have hp1 := hHp w1 (by simp)
  have hp2 := hHp w2 (by simp)
  have sp3 := f111 (G := G) [w1, w2] (by simp) (by intro w hw; simp at hw; rcases hw with rfl | rfl <;> omega)
  rw [hn] at sp3
  refine acall_of Tryz.func59 rfl (by kernel_rfl) rfl ?_
  refine ac_seq ?_
  refine ac_region ?_
  refine al_m rfl (m_alloc rfl rfl zv29 rfl rfl) ?_
  refine al_y rfl rfl (y_assignV rfl rfl) ?_
  refine al_nil ?_
  refine qt_normal ?_
  refine ac_seq ?_
  refine ac_region ?_
  refine al_y rfl rfl (y_moveV rfl rfl) ?_
  refine al_y rfl rfl (y_callF (av := [_, _]) rfl ⟨rfl, rfl, trivial⟩ sp1) ?_
  refine al_y rfl rfl (y_assignP rfl rfl) ?_
  refine al_nil ?_
  refine qt_normal ?_
  refine ac_seq ?_
  refine ac_region ?_
  refine al_y rfl rfl (y_moveP rfl rfl) ?_
  refine al_y rfl rfl (y_indexAddr rfl rfl rfl slc156 (by omega) rfl str_len) ?_
  refine al_y rfl rfl (y_load1 rfl rfl rfl ty9) ?_
  refine al_y rfl rfl (y_callF (av := [_, _]) rfl ⟨rfl, rfl, trivial⟩ sp2) ?_
  refine al_y rfl rfl (y_assignP rfl rfl) ?_
  refine al_nil ?_
  refine qt_normal ?_
  refine ac_seq ?_
  refine ac_seq ?_
  refine ac_region ?_
  refine al_y rfl rfl (y_moveP rfl rfl) ?_
  refine al_y rfl rfl (y_len_map rfl rfl Tryz.underlying156) ?_
  refine al_y rfl rfl (y_neq rfl rfl rfl) ?_
  refine al_y rfl rfl (y_moveV rfl rfl) ?_
  refine al_maybe rfl rfl rfl (fun hg => y_moveP rfl rfl) ?_
  refine al_maybe rfl rfl rfl (fun hg => y_indexAddr rfl (rfl) rfl slc156 (by omega) (show _ = some [eS wChart] from rfl) str_len) ?_
  refine al_maybe rfl rfl rfl (fun hg => y_load1 rfl (rfl) rfl ty9) ?_
  refine al_maybe rfl rfl rfl (fun hg => y_neqS rfl (rfl) rfl) ?_
  refine al_y rfl rfl (y_or rfl rfl rfl rfl) ?_
  refine al_nil ?_
  refine qt_normal ?_
  refine ac_cond rfl (fun h0 => ?_) (fun h0 => ?_)
  · skip
    exfalso; simp [wChart] at h0
  · skip
    refine ac_skip ?_
    refine qt_normal ?_
    refine ac_seq ?_
    refine ac_region ?_
    refine al_y rfl rfl (y_moveP rfl rfl) ?_
    refine al_y rfl rfl (y_slice rfl rfl rfl rfl slc156 str_len (by omega) (by simp) (by simp)) ?_
    refine al_y rfl rfl (y_callF (av := [_]) rfl ⟨rfl, trivial⟩ sp3) ?_
    refine al_y rfl rfl (y_moveP rfl rfl) ?_
    refine al_y rfl rfl (y_extract rfl rfl rfl) ?_
    refine al_y rfl rfl (y_extract rfl rfl rfl) ?_
    refine al_y rfl rfl (y_assignP rfl rfl) ?_
    refine al_y rfl rfl (y_assignV rfl rfl) ?_
    refine al_nil ?_
    refine qt_normal ?_
    refine ac_seq ?_
    refine ac_seq ?_
    refine ac_region ?_
    refine al_y rfl rfl (y_moveV rfl rfl) ?_
    refine al_y rfl rfl (y_not rfl rfl) ?_
    refine al_y rfl rfl (y_moveV rfl rfl) ?_
    refine al_maybe rfl rfl rfl (fun hg => y_moveP rfl rfl) ?_
    refine al_maybe (x := .pub (.tup [])) rfl rfl rfl (fun hg => absurd hg (by decide)) ?_
    refine al_maybe rfl rfl rfl (fun hg => y_moveP rfl rfl) ?_
    refine al_maybe (x := .pub (.tup [])) rfl rfl rfl (fun hg => absurd hg (by decide)) ?_
    refine al_maybe (x := .pub (.tup [])) rfl rfl rfl (fun hg => absurd hg (by decide)) ?_
    refine al_maybe (x := .pub (.tup [])) rfl rfl rfl (fun hg => absurd hg (by decide)) ?_
    refine al_maybe (x := .pub (.tup [])) rfl rfl rfl (fun hg => absurd hg (by decide)) ?_
    refine al_y rfl rfl (y_pick rfl rfl (fun _ => rfl) (fun h => absurd h (by decide))) ?_
    refine al_y rfl rfl (y_moveV rfl rfl) ?_
    refine al_maybe rfl rfl rfl (fun hg => y_moveP rfl rfl) ?_
    refine al_maybe rfl rfl rfl (fun hg => y_moveP rfl rfl) ?_
    refine al_maybe (x := .pub (.tup [])) rfl rfl rfl (fun hg => absurd hg (by decide)) ?_
    refine al_maybe (x := .pub (.tup [])) rfl rfl rfl (fun hg => absurd hg (by decide)) ?_
    refine al_maybe (x := .pub (.tup [])) rfl rfl rfl (fun hg => absurd hg (by decide)) ?_
    refine al_maybe (x := .pub (.tup [])) rfl rfl rfl (fun hg => absurd hg (by decide)) ?_
    refine al_maybe (x := .pub (.tup [])) rfl rfl rfl (fun hg => absurd hg (by decide)) ?_
    refine al_y rfl rfl (y_pick rfl rfl (fun _ => rfl) (fun h => absurd h (by decide))) ?_
    refine al_nil ?_
    refine qt_normal ?_
    refine ac_cond rfl (fun h1 => ?_) (fun h1 => ?_)
    · skip
      refine ac_seq ?_
      refine ac_region ?_
      refine al_y rfl rfl (y_build (cs := [_, _]) rfl st29 rfl rfl (by rfl) (by simp [ofV])) ?_
      refine al_m rfl (m_store rfl rfl rfl rfl rfl rfl (cE_agg rfl) ty29 (by rfl) (by exact Nat.le_of_ble_eq_true rfl)) ?_
      refine al_y rfl rfl (y_assignV rfl rfl) ?_
      refine al_nil ?_
      refine qt_normal ?_
      refine ac_ret ?_
      refine qt_ret ?_
      exact ⟨.inr rfl, ⟨_, rfl, ⟨_, _, rfl, (res_cell rfl rfl rfl rfl ty29 rfl ⟨_, _, rfl, AVle.top _, ⟨_, _, rfl, AVle.top _, rfl⟩⟩), ⟨_, _, rfl, AVle.refl _, rfl⟩⟩⟩⟩
    · skip
      exfalso; simp at h1

/-- isobarref03.Read -/
theorem f59_len (s : List UInt8) (hl : s.length ≤ 990) {L0 : List UInt8} {Ls : List (List UInt8)} (hL : splitL 10 s = L0 :: Ls) {w1 w2 : List UInt8} (hH : splitL 32 L0 = [wChart, w1, w2]) {y1 : Int} {M : Nat} (hn : numsOK [w1, w2] = true) (e1 : numV w1 = y1) (e2 : numV w2 = (M : Int)) (hz : ((((L0 :: Ls).length : Int) == (M : Int) + 3) && ((L0 :: Ls).getD ((((L0 :: Ls).length : Int) - 1).toNat) [] == [])) = false) : ACall Tryz.prog G 59 [eS s] (.tup [.agg [.top, .top], .v (.bool false)]) := by
  have hlen := splitL_len 10 s
  have hpc := splitL_piece 10 s
  rw [hL] at hlen hpc
  have hl0 := hpc L0 (List.mem_cons_self ..)
  have hLs : Ls.length ≤ 990 := by simp at hlen; omega
  have hLp : ∀ l ∈ Ls, l.length ≤ 990 := fun l h => by have := hpc l (List.mem_cons_of_mem _ h); omega
  have sp1 := f110 (G := G) s 10 (by omega)
  rw [hL] at sp1
  have sp2 := f110 (G := G) L0 32 (by omega)
  rw [hH] at sp2
  have hHp := splitL_piece 32 L0
  rw [hH] at hHp
  have hp1 := hHp w1 (by simp)
  have hp2 := hHp w2 (by simp)
  have sp3 := f111 (G := G) [w1, w2] (by simp) (by intro w hw; simp at hw; rcases hw with rfl | rfl <;> omega)
  rw [hn, show (if true = true then [w1, w2].map numV else []) = [y1, (M : Int)] from by rw [← e1, ← e2]; rfl] at sp3
  have hb := nums_bd hn
  have hb1 := hb y1 (by rw [← e1]; simp)
  have hb2 := hb (M : Int) (by rw [← e2]; simp)
  refine acall_of Tryz.func59 rfl (by kernel_rfl) rfl ?_
  refine ac_seq ?_
  refine ac_region ?_
  refine al_m rfl (m_alloc rfl rfl zv29 rfl rfl) ?_
  refine al_y rfl rfl (y_assignV rfl rfl) ?_
  refine al_nil ?_
  refine qt_normal ?_
  refine ac_seq ?_
  refine ac_region ?_
  refine al_y rfl rfl (y_moveV rfl rfl) ?_
  refine al_y rfl rfl (y_callF (av := [_, _]) rfl ⟨rfl, rfl, trivial⟩ sp1) ?_
  refine al_y rfl rfl (y_assignP rfl rfl) ?_
  refine al_nil ?_
  refine qt_normal ?_
  refine ac_seq ?_
  refine ac_region ?_
  refine al_y rfl rfl (y_moveP rfl rfl) ?_
  refine al_y rfl rfl (y_indexAddr rfl rfl rfl slc156 (by omega) rfl str_len) ?_
  refine al_y rfl rfl (y_load1 rfl rfl rfl ty9) ?_
  refine al_y rfl rfl (y_callF (av := [_, _]) rfl ⟨rfl, rfl, trivial⟩ sp2) ?_
  refine al_y rfl rfl (y_assignP rfl rfl) ?_
  refine al_nil ?_
  refine qt_normal ?_
  refine ac_seq ?_
  refine ac_seq ?_
  refine ac_region ?_
  refine al_y rfl rfl (y_moveP rfl rfl) ?_
  refine al_y rfl rfl (y_len_map rfl rfl Tryz.underlying156) ?_
  refine al_y rfl rfl (y_neq rfl rfl rfl) ?_
  refine al_y rfl rfl (y_moveV rfl rfl) ?_
  refine al_maybe rfl rfl rfl (fun hg => y_moveP rfl rfl) ?_
  refine al_maybe rfl rfl rfl (fun hg => y_indexAddr rfl (rfl) rfl slc156 (by omega) (show _ = some [eS wChart] from rfl) str_len) ?_
  refine al_maybe rfl rfl rfl (fun hg => y_load1 rfl (rfl) rfl ty9) ?_
  refine al_maybe rfl rfl rfl (fun hg => y_neqS rfl (rfl) rfl) ?_
  refine al_y rfl rfl (y_or rfl rfl rfl rfl) ?_
  refine al_nil ?_
  refine qt_normal ?_
  refine ac_cond rfl (fun h0 => ?_) (fun h0 => ?_)
  · skip
    exfalso; simp [wChart] at h0
  · skip
    refine ac_skip ?_
    refine qt_normal ?_
    refine ac_seq ?_
    refine ac_region ?_
    refine al_y rfl rfl (y_moveP rfl rfl) ?_
    refine al_y rfl rfl (y_slice rfl rfl rfl rfl slc156 str_len (by omega) (by simp) (by simp)) ?_
    refine al_y rfl rfl (y_callF (av := [_]) rfl ⟨rfl, trivial⟩ sp3) ?_
    refine al_y rfl rfl (y_moveP rfl rfl) ?_
    refine al_y rfl rfl (y_extract rfl rfl rfl) ?_
    refine al_y rfl rfl (y_extract rfl rfl rfl) ?_
    refine al_y rfl rfl (y_assignP rfl rfl) ?_
    refine al_y rfl rfl (y_assignV rfl rfl) ?_
    refine al_nil ?_
    refine qt_normal ?_
    refine ac_seq ?_
    refine ac_seq ?_
    refine ac_region ?_
    refine al_y rfl rfl (y_moveV rfl rfl) ?_
    refine al_y rfl rfl (y_not rfl rfl) ?_
    refine al_y rfl rfl (y_moveV rfl rfl) ?_
    refine al_maybe rfl rfl rfl (fun hg => y_moveP rfl rfl) ?_
    refine al_maybe rfl rfl rfl (fun hg => y_len_map rfl (rfl) Tryz.underlying156) ?_
    refine al_maybe rfl rfl rfl (fun hg => y_moveP rfl rfl) ?_
    refine al_maybe rfl rfl rfl (fun hg => y_indexAddr rfl (rfl) rfl slc27 (by omega) (show _ = some [AV.v (.int .i64 (M : Int))] from rfl) int_len) ?_
    refine al_maybe rfl rfl rfl (fun hg => y_load1 rfl (rfl) rfl ty3) ?_
    refine al_maybe rfl rfl rfl (fun hg => y_add rfl (rfl) rfl ⟨(by first | omega | (simp at hg; omega)), (by first | omega | (simp at hg; omega))⟩) ?_
    refine al_maybe rfl rfl rfl (fun hg => y_neq rfl (rfl) (rfl)) ?_
    refine al_y rfl rfl (y_or rfl rfl rfl rfl) ?_
    refine al_y rfl rfl (y_moveV rfl rfl) ?_
    refine al_maybe rfl rfl rfl (fun hg => y_moveP rfl rfl) ?_
    refine al_maybe rfl rfl rfl (fun hg => y_moveP rfl rfl) ?_
    refine al_maybe rfl rfl rfl (fun hg => y_len_map rfl (if_pos hg) Tryz.underlying156) ?_
    refine al_maybe rfl rfl rfl (fun hg => y_sub rfl (if_pos hg) rfl ⟨(by first | omega | (simp at hg; omega)), (by first | omega | (simp at hg; omega))⟩) ?_
    refine al_maybe rfl rfl rfl (fun hg => y_indexAddr rfl (if_pos hg) (if_pos hg) slc156 (by simp only [List.length_cons]; omega) (show _ = some [eS ((L0 :: Ls).getD ((((L0 :: Ls).length : Int) - 1).toNat) [])] from str_getD (by simp)) str_len) ?_
    refine al_maybe rfl rfl rfl (fun hg => y_load1 rfl (if_pos hg) rfl ty9) ?_
    refine al_maybe rfl rfl rfl (fun hg => y_neqS rfl (if_pos hg) rfl) ?_
    refine al_y rfl rfl (y_or rfl rfl rfl rfl) ?_
    refine al_nil ?_
    refine qt_normal ?_
    refine ac_cond rfl (fun h1 => ?_) (fun h1 => ?_)
    · skip
      refine ac_seq ?_
      refine ac_region ?_
      refine al_y rfl rfl (y_build (cs := [_, _]) rfl st29 rfl rfl (by rfl) (by simp [ofV])) ?_
      refine al_m rfl (m_store rfl rfl rfl rfl rfl rfl (cE_agg rfl) ty29 (by rfl) (by exact Nat.le_of_ble_eq_true rfl)) ?_
      refine al_y rfl rfl (y_assignV rfl rfl) ?_
      refine al_nil ?_
      refine qt_normal ?_
      refine ac_ret ?_
      refine qt_ret ?_
      exact ⟨.inr rfl, ⟨_, rfl, ⟨_, _, rfl, (res_cell rfl rfl rfl rfl ty29 rfl ⟨_, _, rfl, AVle.top _, ⟨_, _, rfl, AVle.top _, rfl⟩⟩), ⟨_, _, rfl, AVle.refl _, rfl⟩⟩⟩⟩
    · skip
      exfalso
      revert h1 hz
      generalize ((L0 :: Ls).getD ((((L0 :: Ls).length : Int) - 1).toNat) []) = z
      cases h8 : (((L0 :: Ls).length : Int) == (M : Int) + 3) <;> cases h9 : (z == []) <;> simp_all [bne]

/-- isobarref03.Read -/
theorem f59_bad (s : List UInt8) (hl : s.length ≤ 990) {L0 : List UInt8} {Ls : List (List UInt8)} (hL : splitL 10 s = L0 :: Ls) {w1 w2 : List UInt8} (hH : splitL 32 L0 = [wChart, w1, w2]) {y1 : Int} {M : Nat} (hn : numsOK [w1, w2] = true) (e1 : numV w1 = y1) (e2 : numV w2 = (M : Int)) (hlen2 : Ls.length = M + 2) (hz : (L0 :: Ls).getD ((((L0 :: Ls).length : Int) - 1).toNat) [] = []) (hbad : (Ls.take M).all (refRowOK y1) = false) : ACall Tryz.prog G 59 [eS s] (.tup [.agg [.top, .top], .v (.bool false)]) := by
  have hlen := splitL_len 10 s
  have hpc := splitL_piece 10 s
  rw [hL] at hlen hpc
  have hl0 := hpc L0 (List.mem_cons_self ..)
  have hLs : Ls.length ≤ 990 := by simp at hlen; omega
  have hLp : ∀ l ∈ Ls, l.length ≤ 990 := fun l h => by have := hpc l (List.mem_cons_of_mem _ h); omega
  have sp1 := f110 (G := G) s 10 (by omega)
  rw [hL] at sp1
  have sp2 := f110 (G := G) L0 32 (by omega)
  rw [hH] at sp2
  have hHp := splitL_piece 32 L0
  rw [hH] at hHp
  have hp1 := hHp w1 (by simp)
  have hp2 := hHp w2 (by simp)
  have sp3 := f111 (G := G) [w1, w2] (by simp) (by intro w hw; simp at hw; rcases hw with rfl | rfl <;> omega)
  rw [hn, show (if true = true then [w1, w2].map numV else []) = [y1, (M : Int)] from by rw [← e1, ← e2]; rfl] at sp3
  have hb := nums_bd hn
  have hb1 := hb y1 (by rw [← e1]; simp)
  have hb2 := hb (M : Int) (by rw [← e2]; simp)
  refine acall_of Tryz.func59 rfl (by kernel_rfl) rfl ?_
  refine ac_seq ?_
  refine ac_region ?_
  refine al_m rfl (m_alloc rfl rfl zv29 rfl rfl) ?_
  refine al_y rfl rfl (y_assignV rfl rfl) ?_
  refine al_nil ?_
  refine qt_normal ?_
  refine ac_seq ?_
  refine ac_region ?_
  refine al_y rfl rfl (y_moveV rfl rfl) ?_
  refine al_y rfl rfl (y_callF (av := [_, _]) rfl ⟨rfl, rfl, trivial⟩ sp1) ?_
  refine al_y rfl rfl (y_assignP rfl rfl) ?_
  refine al_nil ?_
  refine qt_normal ?_
  refine ac_seq ?_
  refine ac_region ?_
  refine al_y rfl rfl (y_moveP rfl rfl) ?_
  refine al_y rfl rfl (y_indexAddr rfl rfl rfl slc156 (by omega) rfl str_len) ?_
  refine al_y rfl rfl (y_load1 rfl rfl rfl ty9) ?_
  refine al_y rfl rfl (y_callF (av := [_, _]) rfl ⟨rfl, rfl, trivial⟩ sp2) ?_
  refine al_y rfl rfl (y_assignP rfl rfl) ?_
  refine al_nil ?_
  refine qt_normal ?_
  refine ac_seq ?_
  refine ac_seq ?_
  refine ac_region ?_
  refine al_y rfl rfl (y_moveP rfl rfl) ?_
  refine al_y rfl rfl (y_len_map rfl rfl Tryz.underlying156) ?_
  refine al_y rfl rfl (y_neq rfl rfl rfl) ?_
  refine al_y rfl rfl (y_moveV rfl rfl) ?_
  refine al_maybe rfl rfl rfl (fun hg => y_moveP rfl rfl) ?_
  refine al_maybe rfl rfl rfl (fun hg => y_indexAddr rfl (rfl) rfl slc156 (by omega) (show _ = some [eS wChart] from rfl) str_len) ?_
  refine al_maybe rfl rfl rfl (fun hg => y_load1 rfl (rfl) rfl ty9) ?_
  refine al_maybe rfl rfl rfl (fun hg => y_neqS rfl (rfl) rfl) ?_
  refine al_y rfl rfl (y_or rfl rfl rfl rfl) ?_
  refine al_nil ?_
  refine qt_normal ?_
  refine ac_cond rfl (fun h0 => ?_) (fun h0 => ?_)
  · skip
    exfalso; simp [wChart] at h0
  · skip
    refine ac_skip ?_
    refine qt_normal ?_
    refine ac_seq ?_
    refine ac_region ?_
    refine al_y rfl rfl (y_moveP rfl rfl) ?_
    refine al_y rfl rfl (y_slice rfl rfl rfl rfl slc156 str_len (by omega) (by simp) (by simp)) ?_
    refine al_y rfl rfl (y_callF (av := [_]) rfl ⟨rfl, trivial⟩ sp3) ?_
    refine al_y rfl rfl (y_moveP rfl rfl) ?_
    refine al_y rfl rfl (y_extract rfl rfl rfl) ?_
    refine al_y rfl rfl (y_extract rfl rfl rfl) ?_
    refine al_y rfl rfl (y_assignP rfl rfl) ?_
    refine al_y rfl rfl (y_assignV rfl rfl) ?_
    refine al_nil ?_
    refine qt_normal ?_
    refine ac_seq ?_
    refine ac_seq ?_
    refine ac_region ?_
    refine al_y rfl rfl (y_moveV rfl rfl) ?_
    refine al_y rfl rfl (y_not rfl rfl) ?_
    refine al_y rfl rfl (y_moveV rfl rfl) ?_
    refine al_maybe rfl rfl rfl (fun hg => y_moveP rfl rfl) ?_
    refine al_maybe rfl rfl rfl (fun hg => y_len_map rfl (rfl) Tryz.underlying156) ?_
    refine al_maybe rfl rfl rfl (fun hg => y_moveP rfl rfl) ?_
    refine al_maybe rfl rfl rfl (fun hg => y_indexAddr rfl (rfl) rfl slc27 (by omega) (show _ = some [AV.v (.int .i64 (M : Int))] from rfl) int_len) ?_
    refine al_maybe rfl rfl rfl (fun hg => y_load1 rfl (rfl) rfl ty3) ?_
    refine al_maybe rfl rfl rfl (fun hg => y_add rfl (rfl) rfl ⟨(by first | omega | (simp at hg; omega)), (by first | omega | (simp at hg; omega))⟩) ?_
    refine al_maybe rfl rfl rfl (fun hg => y_neq rfl (rfl) (rfl)) ?_
    refine al_y rfl rfl (y_or rfl rfl rfl rfl) ?_
    refine al_y rfl rfl (y_moveV rfl rfl) ?_
    refine al_maybe rfl rfl rfl (fun hg => y_moveP rfl rfl) ?_
    refine al_maybe rfl rfl rfl (fun hg => y_moveP rfl rfl) ?_
    refine al_maybe rfl rfl rfl (fun hg => y_len_map rfl (if_pos hg) Tryz.underlying156) ?_
    refine al_maybe rfl rfl rfl (fun hg => y_sub rfl (if_pos hg) rfl ⟨(by first | omega | (simp at hg; omega)), (by first | omega | (simp at hg; omega))⟩) ?_
    refine al_maybe rfl rfl rfl (fun hg => y_indexAddr rfl (if_pos hg) (if_pos hg) slc156 (by simp only [List.length_cons]; omega) (show _ = some [eS ((L0 :: Ls).getD ((((L0 :: Ls).length : Int) - 1).toNat) [])] from str_getD (by simp)) str_len) ?_
    refine al_maybe rfl rfl rfl (fun hg => y_load1 rfl (if_pos hg) rfl ty9) ?_
    refine al_maybe rfl rfl rfl (fun hg => y_neqS rfl (if_pos hg) rfl) ?_
    refine al_y rfl rfl (y_or rfl rfl rfl rfl) ?_
    refine al_nil ?_
    refine qt_normal ?_
    refine ac_cond rfl (fun h1 => ?_) (fun h1 => ?_)
    · skip
      exfalso
      rw [hz] at h1
      simp at h1
      omega
    · skip
      refine ac_skip ?_
      refine qt_normal ?_
      refine ac_seq ?_
      refine ac_region ?_
      refine al_y rfl rfl (y_moveP rfl rfl) ?_
      refine al_y rfl rfl (y_indexAddr rfl rfl rfl slc27 (by omega) (show _ = some [AV.v (.int .i64 y1)] from rfl) int_len) ?_
      refine al_y rfl rfl (y_load1 rfl rfl rfl ty3) ?_
      refine al_y rfl rfl (y_build (cs := [_, _]) rfl st29 rfl ⟨_, _, rfl, (cE_v rfl), rfl⟩ (by rfl) (by simp [ofV])) ?_
      refine al_m rfl (m_alloc rfl rfl zv29 rfl rfl) ?_
      refine al_m rfl (m_store rfl rfl rfl rfl rfl rfl (cE_agg rfl) ty29 (by rfl) (by exact Nat.le_of_ble_eq_true rfl)) ?_
      refine al_nil ?_
      refine qt_normal ?_
      refine ac_seq ?_
      refine ac_region ?_
      refine al_y rfl rfl (y_moveP rfl rfl) ?_
      refine al_y rfl rfl (y_indexAddr rfl rfl rfl slc27 (by omega) (show _ = some [AV.v (.int .i64 y1)] from rfl) int_len) ?_
      refine al_y rfl rfl (y_load1 rfl rfl rfl ty3) ?_
      refine al_y rfl rfl (y_assignV rfl rfl) ?_
      refine al_nil ?_
      refine qt_normal ?_
      refine ac_seq ?_
      refine ac_seq ?_
      refine ac_region ?_
      refine al_y rfl rfl (y_assignV rfl rfl) ?_
      refine al_nil ?_
      refine qt_normal ?_
      refine ac_block ?_
      refine ac_weak (weak_nilc (k := 1) (i := 0) (j := 1) rfl rfl rfl) ?_
      refine ac_loop (ι := { k : Nat // k ≤ M ∧ ∀ i (hi : i < Ls.length), i < k → refRowOK y1 Ls[i] = true }) (fun k => ⟨Tryz.f59.ntmps, frL [(0, SL s), (2, .pp 0 1 0 0), (4, .pub (eStrs (L0 :: Ls))), (6, .pub (eInts [y1, (M : Int)])), (8, .pp 1 1 0 0), (9, I (y1 + wsum 0 (valsR Ls k.1))), (10, I (k.1 : Int))], [.row [[I 0, .pub (.v (.slice none 0 0))]], .row [[I y1, .psl 2 (flatR Ls k.1).length]], .row ((flatR Ls k.1).map iE)]⟩) (fun k => M - k.1) (⟨0, by omega, fun i _ h => absurd h (by omega)⟩) ?_ ?_
      · exact weak_frM _ ⟨rfl, rfl, rfl, rfl, rfl, (by show I _ = I _; simp [valsR, wsum]), rfl, trivial⟩ (rfl)
      · rintro ⟨k, hk⟩
        dsimp only
        refine ac_seq ?_
        refine ac_seq ?_
        refine ac_region ?_
        refine al_y rfl rfl (y_moveV rfl rfl) ?_
        refine al_y rfl rfl (y_moveP rfl rfl) ?_
        refine al_y rfl rfl (y_indexAddr rfl rfl rfl slc27 (by omega) (show _ = some [AV.v (.int .i64 (M : Int))] from rfl) int_len) ?_
        refine al_y rfl rfl (y_load1 rfl rfl rfl ty3) ?_
        refine al_y rfl rfl (y_lss rfl rfl rfl) ?_
        refine al_nil ?_
        refine qt_normal ?_
        refine ac_cond rfl (fun h2 => ?_) (fun h2 => ?_)
        · skip
          have hlt : k < M := by simpa using h2
          have hkL : k < Ls.length := by omega
          have hkp := hLp _ (List.getElem_mem hkL)
          have hbd := valsR_bd hLp k (by omega) hk.2
          have hws := wsum_bd (valsR Ls k) 0 (by unfold valsR; simp; omega) (fun r hr => ⟨by have := (hbd r hr).1; omega, (hbd r hr).2⟩)
          have hvl : (valsR Ls k).length ≤ 990 := by unfold valsR; simp; omega
          have hfl := flatR_len hLp k (by omega)
          have sp5 := f112 (G := G) Ls[k] (by omega)
          have hwl := wordsL_len Ls[k]
          have sp6 := f111 (G := G) (wordsL Ls[k]) (by omega) (fun w hw => by have := wordsL_piece _ w hw; omega)
          refine ac_skip ?_
          refine qt_normal ?_
          refine ac_seq ?_
          refine ac_block ?_
          refine ac_seq ?_
          refine ac_region ?_
          refine al_y rfl rfl (y_moveP rfl rfl) ?_
          refine al_y rfl rfl (y_moveV rfl rfl) ?_
          refine al_y rfl rfl (y_add rfl rfl rfl ⟨(by omega), (by omega)⟩) ?_
          refine al_y rfl rfl (y_indexAddr rfl rfl rfl slc156 (by omega) (show _ = some [eS Ls[k]] from (by rw [show ((k : Int) + 1).toNat = k + 1 by omega]; simp [hkL])) str_len) ?_
          refine al_y rfl rfl (y_load1 rfl rfl rfl ty9) ?_
          refine al_y rfl rfl (y_callF (av := [_]) rfl ⟨rfl, trivial⟩ sp5) ?_
          refine al_y rfl rfl (y_callF (av := [_]) rfl ⟨rfl, trivial⟩ sp6) ?_
          refine al_y rfl rfl (y_moveP rfl rfl) ?_
          refine al_y rfl rfl (y_extract rfl rfl rfl) ?_
          refine al_y rfl rfl (y_extract rfl rfl rfl) ?_
          refine al_y rfl rfl (y_assignP rfl rfl) ?_
          refine al_y rfl rfl (y_assignV rfl rfl) ?_
          refine al_nil ?_
          refine qt_normal ?_
          refine ac_seq ?_
          refine ac_seq ?_
          refine ac_region ?_
          refine al_y rfl rfl (y_moveV rfl rfl) ?_
          refine al_y rfl rfl (y_not rfl rfl) ?_
          refine al_y rfl rfl (y_moveV rfl rfl) ?_
          refine al_maybe rfl rfl rfl (fun hg => y_moveP rfl rfl) ?_
          refine al_maybe rfl rfl rfl (fun hg => y_len_map rfl (if_pos hg) Tryz.underlying27) ?_
          refine al_maybe rfl rfl rfl (fun hg => y_moveP rfl rfl) ?_
          refine al_maybe rfl rfl rfl (fun hg => y_indexAddr rfl (if_pos hg) rfl slc27 (by omega) (show _ = some [AV.v (.int .i64 y1)] from rfl) int_len) ?_
          refine al_maybe rfl rfl rfl (fun hg => y_load1 rfl (if_pos hg) rfl ty3) ?_
          refine al_maybe rfl rfl rfl (fun hg => y_neq rfl (if_pos hg) (if_pos hg)) ?_
          refine al_y rfl rfl (y_or rfl rfl rfl rfl) ?_
          refine al_nil ?_
          refine qt_normal ?_
          refine ac_cond rfl (fun h3 => ?_) (fun h3 => ?_)
          · skip
            refine ac_seq ?_
            refine ac_region ?_
            refine al_y rfl rfl (y_build (cs := [_, _]) rfl st29 rfl rfl (by rfl) (by simp [ofV])) ?_
            refine al_m rfl (m_store rfl rfl rfl rfl rfl rfl (cE_agg rfl) ty29 (by rfl) (by exact Nat.le_of_ble_eq_true rfl)) ?_
            refine al_y rfl rfl (y_assignV rfl rfl) ?_
            refine al_nil ?_
            refine qt_normal ?_
            refine ac_ret ?_
            refine qt_ret ?_
            refine qb_ret ?_
            refine qt_ret ?_
            refine qt_ret ?_
            refine qb_ret ?_
            refine qt_ret ?_
            exact ⟨.inr rfl, ⟨_, rfl, ⟨_, _, rfl, (res_cell rfl rfl rfl rfl ty29 rfl ⟨_, _, rfl, AVle.top _, ⟨_, _, rfl, AVle.top _, rfl⟩⟩), ⟨_, _, rfl, AVle.refl _, rfl⟩⟩⟩⟩
          · skip
            have hno : numsOK (wordsL Ls[k]) = true ∧ ((refRow Ls[k]).length : Int) = y1 := by
              revert h3
              cases h8 : numsOK (wordsL Ls[k]) <;> simp [refRow]
            have hrk : refRowOK y1 Ls[k] = true := by unfold refRowOK; rw [hno.1, hno.2]; simp
            have hrb := refRow_bd hrk
            have hrl := refRow_len Ls[k]
            refine ac_skip ?_
            refine qt_normal ?_
            refine ac_seq ?_
            refine ac_seq ?_
            refine ac_region ?_
            refine al_y rfl rfl (y_assignV rfl rfl) ?_
            refine al_nil ?_
            refine qt_normal ?_
            refine ac_block ?_
            refine ac_loop (ι := { j : Nat // j ≤ (refRow Ls[k]).length }) (fun j => ⟨Tryz.f59.ntmps, frL [(0, SL s), (2, .pp 0 1 0 0), (4, .pub (eStrs (L0 :: Ls))), (6, .pub (eInts [y1, (M : Int)])), (8, .pp 1 1 0 0), (9, I (y1 + wsum 0 (valsR Ls k) + (((refRow Ls[k]).take j.1).sum) * ((k : Int) + 1))), (10, I (k : Int)), (11, .pub (eInts (refRow Ls[k]))), (13, I (j.1 : Int))], [.row [[I 0, .pub (.v (.slice none 0 0))]], .row [[I y1, .psl 2 (flatR Ls k).length]], .row ((flatR Ls k).map iE)]⟩) (fun j => (refRow Ls[k]).length - j.1) (⟨0, by omega⟩) ?_ ?_
            · exact weak_frM _ ⟨rfl, rfl, rfl, rfl, rfl, (by show I _ = I _; simp), rfl, (by show EV.pub _ = EV.pub _; rw [hno.1]; rfl), rfl, trivial⟩ (rfl)
            · rintro ⟨j, hj⟩
              dsimp only
              refine ac_seq ?_
              refine ac_seq ?_
              refine ac_region ?_
              refine al_y rfl rfl (y_moveV rfl rfl) ?_
              refine al_y rfl rfl (y_moveP rfl rfl) ?_
              refine al_y rfl rfl (y_len_map rfl rfl Tryz.underlying27) ?_
              refine al_y rfl rfl (y_lss rfl rfl rfl) ?_
              refine al_nil ?_
              refine qt_normal ?_
              refine ac_cond rfl (fun h4 => ?_) (fun h4 => ?_)
              · skip
                have hjt : j < (refRow Ls[k]).length := by simpa using h4
                have vj := hrb.2 _ (List.getElem_mem hjt)
                have hm1 := mul_bd (A := 99999) (B := 1000) vj.1 vj.2 (show 0 ≤ (k : Int) + 1 by omega) (by omega)
                have st := sum_bd ((refRow Ls[k]).take j) (fun n hn => hrb.2 n (List.mem_of_mem_take hn))
                simp only [List.length_take] at st
                have hm2 := mul_bd (A := 99999000) (B := 1000) st.1 (by omega) (show 0 ≤ (k : Int) + 1 by omega) (by omega)
                refine ac_skip ?_
                refine qt_normal ?_
                refine ac_seq ?_
                refine ac_block ?_
                refine ac_region ?_
                refine al_y rfl rfl (y_moveV rfl rfl) ?_
                refine al_y rfl rfl (y_moveP rfl rfl) ?_
                refine al_y rfl rfl (y_moveV rfl rfl) ?_
                refine al_y rfl rfl (y_indexAddr rfl rfl rfl slc27 (by omega) (int_at hjt) int_len) ?_
                refine al_y rfl rfl (y_load1 rfl rfl rfl ty3) ?_
                refine al_y rfl rfl (y_moveV rfl rfl) ?_
                refine al_y rfl rfl (y_add rfl rfl rfl ⟨(by omega), (by omega)⟩) ?_
                refine al_y rfl rfl (y_mul rfl rfl rfl ⟨(by omega), (by omega)⟩) ?_
                refine al_y rfl rfl (y_add rfl rfl rfl ⟨(by omega), (by omega)⟩) ?_
                refine al_y rfl rfl (y_assignV rfl rfl) ?_
                refine al_nil ?_
                refine qb_normal ?_
                refine qt_normal ?_
                refine ac_region ?_
                refine al_y rfl rfl (y_moveV rfl rfl) ?_
                refine al_y rfl rfl (y_add rfl rfl rfl ⟨(by omega), (by omega)⟩) ?_
                refine al_y rfl rfl (y_assignV rfl rfl) ?_
                refine al_nil ?_
                exact ⟨⟨j + 1, by omega⟩, by dsimp only; omega, weak_frM _ ⟨rfl, rfl, rfl, rfl, rfl, (by show I _ = I _; rw [sum_snoc hjt, Int.add_mul, Int.add_assoc]), rfl, rfl, rfl, trivial⟩ (rfl)⟩
              · skip
                have hjge : (refRow Ls[k]).length ≤ j := by simpa using h4
                have hj2 : j = (refRow Ls[k]).length := by omega
                subst hj2
                refine ac_exit ?_
                refine qt_exit ?_
                refine qt_exit ?_
                refine qb_exit ?_
                refine qt_normal ?_
                refine ac_region ?_
                refine al_y rfl rfl (y_fieldAddr_pp rfl rfl rfl rfl fld29_1) ?_
                refine al_y rfl rfl (y_load_pp1 rfl rfl rfl rfl rfl rfl ty27) ?_
                refine al_y rfl rfl (y_moveP rfl rfl) ?_
                refine al_m rfl (m_append rfl rfl rfl rfl (by simp only [List.length_map] <;> omega) rfl el27 (by intro r hr; obtain ⟨n, _, rfl⟩ := List.mem_map.1 hr; rfl) (by simp) (by simp only [List.length_map] <;> omega) (by unfold maxLen; simp only [List.length_map] <;> omega)) ?_
                refine al_y rfl rfl (y_fieldAddr_pp rfl rfl rfl rfl fld29_1) ?_
                refine al_m rfl (m_store rfl rfl rfl rfl rfl rfl (cE_psl rfl rfl (by simp)) ty27 (by rfl) (by exact Nat.le_of_ble_eq_true rfl)) ?_
                refine al_nil ?_
                refine qb_normal ?_
                refine qt_normal ?_
                refine ac_region ?_
                refine al_y rfl rfl (y_moveV rfl rfl) ?_
                refine al_y rfl rfl (y_add rfl rfl rfl ⟨(by omega), (by omega)⟩) ?_
                refine al_y rfl rfl (y_assignV rfl rfl) ?_
                refine al_nil ?_
                exact ⟨⟨k + 1, by omega, fun i hi h => (if e : i = k then by subst e; exact hrk else hk.2 i hi (by omega))⟩, by dsimp only; omega, weak_frM _ ⟨rfl, rfl, rfl, rfl, rfl, (by show I _ = I _; rw [List.take_length, wsumR_snoc hkL, Int.add_assoc]), rfl, trivial⟩ (memF_eq [] (flatR_len1 hkL) (flatRE_snoc hkL))⟩
        · skip
          exfalso
          have hge : M ≤ k := by simpa using h2
          refine Bool.noConfusion (hbad.symm.trans (List.all_eq_true.2 fun l hl => ?_))
          obtain ⟨i, hi, rfl⟩ := List.getElem_of_mem hl
          simp only [List.length_take] at hi
          rw [List.getElem_take]
          exact hk.2 i (by omega) (by omega)

/-- isobarref03.Read -/
theorem f59_ok (s : List UInt8) (hl : s.length ≤ 990) {L0 : List UInt8} {Ls : List (List UInt8)} (hL : splitL 10 s = L0 :: Ls) {w1 w2 : List UInt8} (hH : splitL 32 L0 = [wChart, w1, w2]) {y1 : Int} {M : Nat} (hn : numsOK [w1, w2] = true) (e1 : numV w1 = y1) (e2 : numV w2 = (M : Int)) (hlen2 : Ls.length = M + 2) (hz : (L0 :: Ls).getD ((((L0 :: Ls).length : Int) - 1).toNat) [] = []) (hall : (Ls.take M).all (refRowOK y1) = true) : ACall Tryz.prog G 59 [eS s] (.tup [.agg (eFld ⟨y1, (flatR Ls M)⟩), .v (.bool (Ls.getD M [] == endOf y1 Ls M))]) := by
  have hlen := splitL_len 10 s
  have hpc := splitL_piece 10 s
  rw [hL] at hlen hpc
  have hl0 := hpc L0 (List.mem_cons_self ..)
  have hLs : Ls.length ≤ 990 := by simp at hlen; omega
  have hLp : ∀ l ∈ Ls, l.length ≤ 990 := fun l h => by have := hpc l (List.mem_cons_of_mem _ h); omega
  have sp1 := f110 (G := G) s 10 (by omega)
  rw [hL] at sp1
  have sp2 := f110 (G := G) L0 32 (by omega)
  rw [hH] at sp2
  have hHp := splitL_piece 32 L0
  rw [hH] at hHp
  have hp1 := hHp w1 (by simp)
  have hp2 := hHp w2 (by simp)
  have sp3 := f111 (G := G) [w1, w2] (by simp) (by intro w hw; simp at hw; rcases hw with rfl | rfl <;> omega)
  rw [hn, show (if true = true then [w1, w2].map numV else []) = [y1, (M : Int)] from by rw [← e1, ← e2]; rfl] at sp3
  have hb := nums_bd hn
  have hb1 := hb y1 (by rw [← e1]; simp)
  have hb2 := hb (M : Int) (by rw [← e2]; simp)
  have hall2 : ∀ i (hi : i < Ls.length), i < M → refRowOK y1 Ls[i] = true := fun i hi h => by
    rw [List.all_eq_true] at hall
    have := hall _ (List.getElem_mem (l := Ls.take M) (n := i) (by simp; omega))
    rwa [List.getElem_take] at this
  refine acall_of Tryz.func59 rfl (by kernel_rfl) rfl ?_
  refine ac_seq ?_
  refine ac_region ?_
  refine al_m rfl (m_alloc rfl rfl zv29 rfl rfl) ?_
  refine al_y rfl rfl (y_assignV rfl rfl) ?_
  refine al_nil ?_
  refine qt_normal ?_
  refine ac_seq ?_
  refine ac_region ?_
  refine al_y rfl rfl (y_moveV rfl rfl) ?_
  refine al_y rfl rfl (y_callF (av := [_, _]) rfl ⟨rfl, rfl, trivial⟩ sp1) ?_
  refine al_y rfl rfl (y_assignP rfl rfl) ?_
  refine al_nil ?_
  refine qt_normal ?_
  refine ac_seq ?_
  refine ac_region ?_
  refine al_y rfl rfl (y_moveP rfl rfl) ?_
  refine al_y rfl rfl (y_indexAddr rfl rfl rfl slc156 (by omega) rfl str_len) ?_
  refine al_y rfl rfl (y_load1 rfl rfl rfl ty9) ?_
  refine al_y rfl rfl (y_callF (av := [_, _]) rfl ⟨rfl, rfl, trivial⟩ sp2) ?_
  refine al_y rfl rfl (y_assignP rfl rfl) ?_
  refine al_nil ?_
  refine qt_normal ?_
  refine ac_seq ?_
  refine ac_seq ?_
  refine ac_region ?_
  refine al_y rfl rfl (y_moveP rfl rfl) ?_
  refine al_y rfl rfl (y_len_map rfl rfl Tryz.underlying156) ?_
  refine al_y rfl rfl (y_neq rfl rfl rfl) ?_
  refine al_y rfl rfl (y_moveV rfl rfl) ?_
  refine al_maybe rfl rfl rfl (fun hg => y_moveP rfl rfl) ?_
  refine al_maybe rfl rfl rfl (fun hg => y_indexAddr rfl (rfl) rfl slc156 (by omega) (show _ = some [eS wChart] from rfl) str_len) ?_
  refine al_maybe rfl rfl rfl (fun hg => y_load1 rfl (rfl) rfl ty9) ?_
  refine al_maybe rfl rfl rfl (fun hg => y_neqS rfl (rfl) rfl) ?_
  refine al_y rfl rfl (y_or rfl rfl rfl rfl) ?_
  refine al_nil ?_
  refine qt_normal ?_
  refine ac_cond rfl (fun h0 => ?_) (fun h0 => ?_)
  · skip
    exfalso; simp [wChart] at h0
  · skip
    refine ac_skip ?_
    refine qt_normal ?_
    refine ac_seq ?_
    refine ac_region ?_
    refine al_y rfl rfl (y_moveP rfl rfl) ?_
    refine al_y rfl rfl (y_slice rfl rfl rfl rfl slc156 str_len (by omega) (by simp) (by simp)) ?_
    refine al_y rfl rfl (y_callF (av := [_]) rfl ⟨rfl, trivial⟩ sp3) ?_
    refine al_y rfl rfl (y_moveP rfl rfl) ?_
    refine al_y rfl rfl (y_extract rfl rfl rfl) ?_
    refine al_y rfl rfl (y_extract rfl rfl rfl) ?_
    refine al_y rfl rfl (y_assignP rfl rfl) ?_
    refine al_y rfl rfl (y_assignV rfl rfl) ?_
    refine al_nil ?_
    refine qt_normal ?_
    refine ac_seq ?_
    refine ac_seq ?_
    refine ac_region ?_
    refine al_y rfl rfl (y_moveV rfl rfl) ?_
    refine al_y rfl rfl (y_not rfl rfl) ?_
    refine al_y rfl rfl (y_moveV rfl rfl) ?_
    refine al_maybe rfl rfl rfl (fun hg => y_moveP rfl rfl) ?_
    refine al_maybe rfl rfl rfl (fun hg => y_len_map rfl (rfl) Tryz.underlying156) ?_
    refine al_maybe rfl rfl rfl (fun hg => y_moveP rfl rfl) ?_
    refine al_maybe rfl rfl rfl (fun hg => y_indexAddr rfl (rfl) rfl slc27 (by omega) (show _ = some [AV.v (.int .i64 (M : Int))] from rfl) int_len) ?_
    refine al_maybe rfl rfl rfl (fun hg => y_load1 rfl (rfl) rfl ty3) ?_
    refine al_maybe rfl rfl rfl (fun hg => y_add rfl (rfl) rfl ⟨(by first | omega | (simp at hg; omega)), (by first | omega | (simp at hg; omega))⟩) ?_
    refine al_maybe rfl rfl rfl (fun hg => y_neq rfl (rfl) (rfl)) ?_
    refine al_y rfl rfl (y_or rfl rfl rfl rfl) ?_
    refine al_y rfl rfl (y_moveV rfl rfl) ?_
    refine al_maybe rfl rfl rfl (fun hg => y_moveP rfl rfl) ?_
    refine al_maybe rfl rfl rfl (fun hg => y_moveP rfl rfl) ?_
    refine al_maybe rfl rfl rfl (fun hg => y_len_map rfl (if_pos hg) Tryz.underlying156) ?_
    refine al_maybe rfl rfl rfl (fun hg => y_sub rfl (if_pos hg) rfl ⟨(by first | omega | (simp at hg; omega)), (by first | omega | (simp at hg; omega))⟩) ?_
    refine al_maybe rfl rfl rfl (fun hg => y_indexAddr rfl (if_pos hg) (if_pos hg) slc156 (by simp only [List.length_cons]; omega) (show _ = some [eS ((L0 :: Ls).getD ((((L0 :: Ls).length : Int) - 1).toNat) [])] from str_getD (by simp)) str_len) ?_
    refine al_maybe rfl rfl rfl (fun hg => y_load1 rfl (if_pos hg) rfl ty9) ?_
    refine al_maybe rfl rfl rfl (fun hg => y_neqS rfl (if_pos hg) rfl) ?_
    refine al_y rfl rfl (y_or rfl rfl rfl rfl) ?_
    refine al_nil ?_
    refine qt_normal ?_
    refine ac_cond rfl (fun h1 => ?_) (fun h1 => ?_)
    · skip
      exfalso
      rw [hz] at h1
      simp at h1
      omega
    · skip
      refine ac_skip ?_
      refine qt_normal ?_
      refine ac_seq ?_
      refine ac_region ?_
      refine al_y rfl rfl (y_moveP rfl rfl) ?_
      refine al_y rfl rfl (y_indexAddr rfl rfl rfl slc27 (by omega) (show _ = some [AV.v (.int .i64 y1)] from rfl) int_len) ?_
      refine al_y rfl rfl (y_load1 rfl rfl rfl ty3) ?_
      refine al_y rfl rfl (y_build (cs := [_, _]) rfl st29 rfl ⟨_, _, rfl, (cE_v rfl), rfl⟩ (by rfl) (by simp [ofV])) ?_
      refine al_m rfl (m_alloc rfl rfl zv29 rfl rfl) ?_
      refine al_m rfl (m_store rfl rfl rfl rfl rfl rfl (cE_agg rfl) ty29 (by rfl) (by exact Nat.le_of_ble_eq_true rfl)) ?_
      refine al_nil ?_
      refine qt_normal ?_
      refine ac_seq ?_
      refine ac_region ?_
      refine al_y rfl rfl (y_moveP rfl rfl) ?_
      refine al_y rfl rfl (y_indexAddr rfl rfl rfl slc27 (by omega) (show _ = some [AV.v (.int .i64 y1)] from rfl) int_len) ?_
      refine al_y rfl rfl (y_load1 rfl rfl rfl ty3) ?_
      refine al_y rfl rfl (y_assignV rfl rfl) ?_
      refine al_nil ?_
      refine qt_normal ?_
      refine ac_seq ?_
      refine ac_seq ?_
      refine ac_region ?_
      refine al_y rfl rfl (y_assignV rfl rfl) ?_
      refine al_nil ?_
      refine qt_normal ?_
      refine ac_block ?_
      refine ac_weak (weak_nilc (k := 1) (i := 0) (j := 1) rfl rfl rfl) ?_
      refine ac_loop (ι := { k : Nat // k ≤ M ∧ ∀ i (hi : i < Ls.length), i < k → refRowOK y1 Ls[i] = true }) (fun k => ⟨Tryz.f59.ntmps, frL [(0, SL s), (2, .pp 0 1 0 0), (4, .pub (eStrs (L0 :: Ls))), (6, .pub (eInts [y1, (M : Int)])), (8, .pp 1 1 0 0), (9, I (y1 + wsum 0 (valsR Ls k.1))), (10, I (k.1 : Int))], [.row [[I 0, .pub (.v (.slice none 0 0))]], .row [[I y1, .psl 2 (flatR Ls k.1).length]], .row ((flatR Ls k.1).map iE)]⟩) (fun k => M - k.1) (⟨0, by omega, fun i _ h => absurd h (by omega)⟩) ?_ ?_
      · exact weak_frM _ ⟨rfl, rfl, rfl, rfl, rfl, (by show I _ = I _; simp [valsR, wsum]), rfl, trivial⟩ (rfl)
      · rintro ⟨k, hk⟩
        dsimp only
        refine ac_seq ?_
        refine ac_seq ?_
        refine ac_region ?_
        refine al_y rfl rfl (y_moveV rfl rfl) ?_
        refine al_y rfl rfl (y_moveP rfl rfl) ?_
        refine al_y rfl rfl (y_indexAddr rfl rfl rfl slc27 (by omega) (show _ = some [AV.v (.int .i64 (M : Int))] from rfl) int_len) ?_
        refine al_y rfl rfl (y_load1 rfl rfl rfl ty3) ?_
        refine al_y rfl rfl (y_lss rfl rfl rfl) ?_
        refine al_nil ?_
        refine qt_normal ?_
        refine ac_cond rfl (fun h2 => ?_) (fun h2 => ?_)
        · skip
          have hlt : k < M := by simpa using h2
          have hkL : k < Ls.length := by omega
          have hkp := hLp _ (List.getElem_mem hkL)
          have hbd := valsR_bd hLp k (by omega) hk.2
          have hws := wsum_bd (valsR Ls k) 0 (by unfold valsR; simp; omega) (fun r hr => ⟨by have := (hbd r hr).1; omega, (hbd r hr).2⟩)
          have hvl : (valsR Ls k).length ≤ 990 := by unfold valsR; simp; omega
          have hfl := flatR_len hLp k (by omega)
          have sp5 := f112 (G := G) Ls[k] (by omega)
          have hwl := wordsL_len Ls[k]
          have sp6 := f111 (G := G) (wordsL Ls[k]) (by omega) (fun w hw => by have := wordsL_piece _ w hw; omega)
          refine ac_skip ?_
          refine qt_normal ?_
          refine ac_seq ?_
          refine ac_block ?_
          refine ac_seq ?_
          refine ac_region ?_
          refine al_y rfl rfl (y_moveP rfl rfl) ?_
          refine al_y rfl rfl (y_moveV rfl rfl) ?_
          refine al_y rfl rfl (y_add rfl rfl rfl ⟨(by omega), (by omega)⟩) ?_
          refine al_y rfl rfl (y_indexAddr rfl rfl rfl slc156 (by omega) (show _ = some [eS Ls[k]] from (by rw [show ((k : Int) + 1).toNat = k + 1 by omega]; simp [hkL])) str_len) ?_
          refine al_y rfl rfl (y_load1 rfl rfl rfl ty9) ?_
          refine al_y rfl rfl (y_callF (av := [_]) rfl ⟨rfl, trivial⟩ sp5) ?_
          refine al_y rfl rfl (y_callF (av := [_]) rfl ⟨rfl, trivial⟩ sp6) ?_
          refine al_y rfl rfl (y_moveP rfl rfl) ?_
          refine al_y rfl rfl (y_extract rfl rfl rfl) ?_
          refine al_y rfl rfl (y_extract rfl rfl rfl) ?_
          refine al_y rfl rfl (y_assignP rfl rfl) ?_
          refine al_y rfl rfl (y_assignV rfl rfl) ?_
          refine al_nil ?_
          refine qt_normal ?_
          refine ac_seq ?_
          refine ac_seq ?_
          refine ac_region ?_
          refine al_y rfl rfl (y_moveV rfl rfl) ?_
          refine al_y rfl rfl (y_not rfl rfl) ?_
          refine al_y rfl rfl (y_moveV rfl rfl) ?_
          refine al_maybe rfl rfl rfl (fun hg => y_moveP rfl rfl) ?_
          refine al_maybe rfl rfl rfl (fun hg => y_len_map rfl (if_pos hg) Tryz.underlying27) ?_
          refine al_maybe rfl rfl rfl (fun hg => y_moveP rfl rfl) ?_
          refine al_maybe rfl rfl rfl (fun hg => y_indexAddr rfl (if_pos hg) rfl slc27 (by omega) (show _ = some [AV.v (.int .i64 y1)] from rfl) int_len) ?_
          refine al_maybe rfl rfl rfl (fun hg => y_load1 rfl (if_pos hg) rfl ty3) ?_
          refine al_maybe rfl rfl rfl (fun hg => y_neq rfl (if_pos hg) (if_pos hg)) ?_
          refine al_y rfl rfl (y_or rfl rfl rfl rfl) ?_
          refine al_nil ?_
          refine qt_normal ?_
          refine ac_cond rfl (fun h3 => ?_) (fun h3 => ?_)
          · skip
            exfalso
            have hr0 := hall2 k hkL hlt
            unfold refRowOK at hr0
            simp only [Bool.and_eq_true, beq_iff_eq] at hr0
            have hr1 := hr0.2
            simp only [refRow, List.length_map] at hr1
            simp [hr0.1] at h3
            omega
          · skip
            have hno : numsOK (wordsL Ls[k]) = true ∧ ((refRow Ls[k]).length : Int) = y1 := by
              revert h3
              cases h8 : numsOK (wordsL Ls[k]) <;> simp [refRow]
            have hrk : refRowOK y1 Ls[k] = true := by unfold refRowOK; rw [hno.1, hno.2]; simp
            have hrb := refRow_bd hrk
            have hrl := refRow_len Ls[k]
            refine ac_skip ?_
            refine qt_normal ?_
            refine ac_seq ?_
            refine ac_seq ?_
            refine ac_region ?_
            refine al_y rfl rfl (y_assignV rfl rfl) ?_
            refine al_nil ?_
            refine qt_normal ?_
            refine ac_block ?_
            refine ac_loop (ι := { j : Nat // j ≤ (refRow Ls[k]).length }) (fun j => ⟨Tryz.f59.ntmps, frL [(0, SL s), (2, .pp 0 1 0 0), (4, .pub (eStrs (L0 :: Ls))), (6, .pub (eInts [y1, (M : Int)])), (8, .pp 1 1 0 0), (9, I (y1 + wsum 0 (valsR Ls k) + (((refRow Ls[k]).take j.1).sum) * ((k : Int) + 1))), (10, I (k : Int)), (11, .pub (eInts (refRow Ls[k]))), (13, I (j.1 : Int))], [.row [[I 0, .pub (.v (.slice none 0 0))]], .row [[I y1, .psl 2 (flatR Ls k).length]], .row ((flatR Ls k).map iE)]⟩) (fun j => (refRow Ls[k]).length - j.1) (⟨0, by omega⟩) ?_ ?_
            · exact weak_frM _ ⟨rfl, rfl, rfl, rfl, rfl, (by show I _ = I _; simp), rfl, (by show EV.pub _ = EV.pub _; rw [hno.1]; rfl), rfl, trivial⟩ (rfl)
            · rintro ⟨j, hj⟩
              dsimp only
              refine ac_seq ?_
              refine ac_seq ?_
              refine ac_region ?_
              refine al_y rfl rfl (y_moveV rfl rfl) ?_
              refine al_y rfl rfl (y_moveP rfl rfl) ?_
              refine al_y rfl rfl (y_len_map rfl rfl Tryz.underlying27) ?_
              refine al_y rfl rfl (y_lss rfl rfl rfl) ?_
              refine al_nil ?_
              refine qt_normal ?_
              refine ac_cond rfl (fun h4 => ?_) (fun h4 => ?_)
              · skip
                have hjt : j < (refRow Ls[k]).length := by simpa using h4
                have vj := hrb.2 _ (List.getElem_mem hjt)
                have hm1 := mul_bd (A := 99999) (B := 1000) vj.1 vj.2 (show 0 ≤ (k : Int) + 1 by omega) (by omega)
                have st := sum_bd ((refRow Ls[k]).take j) (fun n hn => hrb.2 n (List.mem_of_mem_take hn))
                simp only [List.length_take] at st
                have hm2 := mul_bd (A := 99999000) (B := 1000) st.1 (by omega) (show 0 ≤ (k : Int) + 1 by omega) (by omega)
                refine ac_skip ?_
                refine qt_normal ?_
                refine ac_seq ?_
                refine ac_block ?_
                refine ac_region ?_
                refine al_y rfl rfl (y_moveV rfl rfl) ?_
                refine al_y rfl rfl (y_moveP rfl rfl) ?_
                refine al_y rfl rfl (y_moveV rfl rfl) ?_
                refine al_y rfl rfl (y_indexAddr rfl rfl rfl slc27 (by omega) (int_at hjt) int_len) ?_
                refine al_y rfl rfl (y_load1 rfl rfl rfl ty3) ?_
                refine al_y rfl rfl (y_moveV rfl rfl) ?_
                refine al_y rfl rfl (y_add rfl rfl rfl ⟨(by omega), (by omega)⟩) ?_
                refine al_y rfl rfl (y_mul rfl rfl rfl ⟨(by omega), (by omega)⟩) ?_
                refine al_y rfl rfl (y_add rfl rfl rfl ⟨(by omega), (by omega)⟩) ?_
                refine al_y rfl rfl (y_assignV rfl rfl) ?_
                refine al_nil ?_
                refine qb_normal ?_
                refine qt_normal ?_
                refine ac_region ?_
                refine al_y rfl rfl (y_moveV rfl rfl) ?_
                refine al_y rfl rfl (y_add rfl rfl rfl ⟨(by omega), (by omega)⟩) ?_
                refine al_y rfl rfl (y_assignV rfl rfl) ?_
                refine al_nil ?_
                exact ⟨⟨j + 1, by omega⟩, by dsimp only; omega, weak_frM _ ⟨rfl, rfl, rfl, rfl, rfl, (by show I _ = I _; rw [sum_snoc hjt, Int.add_mul, Int.add_assoc]), rfl, rfl, rfl, trivial⟩ (rfl)⟩
              · skip
                have hjge : (refRow Ls[k]).length ≤ j := by simpa using h4
                have hj2 : j = (refRow Ls[k]).length := by omega
                subst hj2
                refine ac_exit ?_
                refine qt_exit ?_
                refine qt_exit ?_
                refine qb_exit ?_
                refine qt_normal ?_
                refine ac_region ?_
                refine al_y rfl rfl (y_fieldAddr_pp rfl rfl rfl rfl fld29_1) ?_
                refine al_y rfl rfl (y_load_pp1 rfl rfl rfl rfl rfl rfl ty27) ?_
                refine al_y rfl rfl (y_moveP rfl rfl) ?_
                refine al_m rfl (m_append rfl rfl rfl rfl (by simp only [List.length_map] <;> omega) rfl el27 (by intro r hr; obtain ⟨n, _, rfl⟩ := List.mem_map.1 hr; rfl) (by simp) (by simp only [List.length_map] <;> omega) (by unfold maxLen; simp only [List.length_map] <;> omega)) ?_
                refine al_y rfl rfl (y_fieldAddr_pp rfl rfl rfl rfl fld29_1) ?_
                refine al_m rfl (m_store rfl rfl rfl rfl rfl rfl (cE_psl rfl rfl (by simp)) ty27 (by rfl) (by exact Nat.le_of_ble_eq_true rfl)) ?_
                refine al_nil ?_
                refine qb_normal ?_
                refine qt_normal ?_
                refine ac_region ?_
                refine al_y rfl rfl (y_moveV rfl rfl) ?_
                refine al_y rfl rfl (y_add rfl rfl rfl ⟨(by omega), (by omega)⟩) ?_
                refine al_y rfl rfl (y_assignV rfl rfl) ?_
                refine al_nil ?_
                exact ⟨⟨k + 1, by omega, fun i hi h => (if e : i = k then by subst e; exact hrk else hk.2 i hi (by omega))⟩, by dsimp only; omega, weak_frM _ ⟨rfl, rfl, rfl, rfl, rfl, (by show I _ = I _; rw [List.take_length, wsumR_snoc hkL, Int.add_assoc]), rfl, trivial⟩ (memF_eq [] (flatR_len1 hkL) (flatRE_snoc hkL))⟩
        · skip
          have hge : M ≤ k := by simpa using h2
          have hk2 : M = k := by omega
          subst hk2
          have hbd := valsR_bd hLp M (by omega) hk.2
          have hws := wsum_bd (valsR Ls M) 0 (by unfold valsR; simp; omega) (fun r hr => ⟨by have := (hbd r hr).1; omega, (hbd r hr).2⟩)
          have hvl : (valsR Ls M).length ≤ 990 := by unfold valsR; simp; omega
          refine ac_exit ?_
          refine qt_exit ?_
          refine qt_exit ?_
          refine qb_exit ?_
          refine qt_normal ?_
          refine ac_seq ?_
          refine ac_weak (weak_pubc (k := 2) (c := 1) (i := 0) (j := 1) (rows := ((flatR Ls M)).map fun n => [AV.v (.int .i64 n)]) (by simp [iE, Function.comp_def]) (by simp) rfl rfl rfl rfl) ?_
          refine ac_mix (fun _ => True) (fun k => match k with | 1 => .stable | 2 => .stable | 3 => .stable | 4 => .stable | 5 => .stable | 6 => .stable | 7 => .stable | 8 => .stable | 9 => .stable | 10 => .stable | 11 => .stable | 12 => .stable | 13 => .stable | 14 => .stable | 16 => .stable | 17 => .stable | 18 => .writes | 19 => .stable | _ => .here) mixed (by kernel_rfl) rfl (by kernel_rfl) trivial ?_
          refine am_h rfl rfl (y_load_ppA (cs := [_, _]) rfl rfl rfl rfl rfl (by exact Nat.le_of_ble_eq_true rfl) rfl ty29) ?_
          refine am_s rfl rfl (fun m hm => y_moveP rfl rfl) ?_
          refine am_s rfl rfl (fun m hm => y_moveP rfl rfl) ?_
          refine am_s rfl rfl (fun m hm => y_len_map rfl rfl Tryz.underlying156) ?_
          refine am_s rfl rfl (fun m hm => y_sub rfl rfl rfl ⟨(by omega), (by omega)⟩) ?_
          refine am_s rfl rfl (fun m hm => y_indexAddr rfl rfl rfl slc156 (by simp only [List.length_cons]; omega) (show _ = some [eS (Ls.getD M [])] from (by rw [show (((L0 :: Ls).length : Int) - 2).toNat = M + 1 by simp; omega]; simp [List.getD, show M < Ls.length by omega])) str_len) ?_
          refine am_s rfl rfl (fun m hm => y_load1 rfl rfl rfl ty9) ?_
          refine am_s rfl rfl (fun m hm => y_moveV rfl rfl) ?_
          refine am_s rfl rfl (fun m hm => y_rem rfl rfl rfl ⟨(by omega), (by omega)⟩) ?_
          refine am_s rfl rfl (fun m hm => y_quo rfl rfl rfl ⟨(by omega), (by omega), (by omega)⟩) ?_
          refine am_s rfl rfl (fun m hm => y_callF (av := [_]) rfl ⟨rfl, trivial⟩ (f109 _ (by omega))) ?_
          refine am_s rfl rfl (fun m hm => y_addS rfl rfl rfl (by have := itoa_le (n := (y1 + wsum 0 (valsR Ls M)) % 97 / 10) (by omega); simp; omega)) ?_
          refine am_s rfl rfl (fun m hm => y_moveV rfl rfl) ?_
          refine am_s rfl rfl (fun m hm => y_rem rfl rfl rfl ⟨(by omega), (by omega)⟩) ?_
          refine am_s rfl rfl (fun m hm => y_rem rfl rfl rfl ⟨(by omega), (by omega)⟩) ?_
          refine am_h rfl rfl (y_callF (av := [_]) rfl ⟨rfl, trivial⟩ (f109 _ (by omega))) ?_
          refine am_s rfl rfl (fun m hm => y_addS rfl rfl rfl (by have := itoa_le (n := (y1 + wsum 0 (valsR Ls M)) % 97 / 10) (by omega); have := itoa_le (n := (y1 + wsum 0 (valsR Ls M)) % 97 % 10) (by omega); simp; omega)) ?_
          refine am_s rfl rfl (fun m hm => y_eqlS rfl rfl rfl) ?_
          refine am_w rfl rfl (opB_store rfl rfl rfl rfl rfl rfl (cE_agg rfl) ty29 (by rfl) (by rfl)) trivial ?_
          refine am_s rfl rfl (fun m hm => y_assignV rfl rfl) ?_
          refine am_nil ?_
          refine qt_normal ?_
          refine ac_ret ?_
          exact ⟨.inr rfl, ⟨_, rfl, ⟨_, _, rfl, (res_cell rfl rfl rfl rfl ty29 rfl ⟨_, _, rfl, AVle.refl _, ⟨_, _, rfl, AVle.refl _, rfl⟩⟩), ⟨_, _, rfl, AVle.of (by rfl), rfl⟩⟩⟩⟩
end Go.Av
end

section
namespace Go.Av
open Go.Proofs
/-- What is read has the lines that are printed. -/
theorem lines_ok {s : List UInt8} (h : readOK s = true) : linesOf s = linesW (wideOf s) (valsOf s) ∧ (0 ≤ wideOf s ∧ wideOf s ≤ 99999) ∧ (∀ l ∈ valsOf s, (l.length : Int) = wideOf s ∧ ∀ n ∈ l, 0 ≤ n ∧ n ≤ 99999) := by
  unfold readOK at h
  simp only [Bool.and_eq_true, beq_iff_eq, List.all_eq_true] at h
  obtain ⟨⟨⟨⟨⟨h1, h2⟩, h3⟩, h4⟩, h5⟩, h6⟩ := h
  have hw : 0 ≤ wideOf s ∧ wideOf s ≤ 99999 := numOK_bd h2
  have hv : ∀ l ∈ valsOf s, (l.length : Int) = wideOf s ∧ ∀ n ∈ l, 0 ≤ n ∧ n ≤ 99999 := fun l hl => by
    unfold valsOf at hl
    obtain ⟨r, hr, rfl⟩ := List.mem_map.1 hl
    have h7 := h5 r hr
    refine ⟨?_, rowV_ok h7⟩
    unfold rowOK at h7
    simp only [Bool.and_eq_true, beq_iff_eq] at h7
    exact h7.2
  refine ⟨?_, hw, hv⟩
  have := text_split hw.1 (fun l hl => (hv l hl).2)
  rw [h6] at this; exact this
end Go.Av
end

section
namespace Go.Av
open Go.Proofs
variable {G : Glob}
theorem numOK_itoa' {w : List UInt8} (h : numOK w = true) : Lib.itoa (numV w) = w := by
  rw [numOK_form] at h; simp only [Bool.and_eq_true, beq_iff_eq] at h; exact h.2
theorem itoa_nums {ws : List (List UInt8)} (h : numsOK ws = true) : (ws.map numV).map Lib.itoa = ws := by
  unfold numsOK at h; rw [List.all_eq_true] at h
  rw [List.map_map]
  exact (List.map_congr_left fun w hw => numOK_itoa' (h w hw)).trans (List.map_id _)
theorem row_word {l : List UInt8} (h : numsOK (wordsL l) = true) : rowW (refRow l) = l := by
  unfold rowW refRow
  rw [itoa_nums h]
  unfold wordsL
  split
  · rename_i e; subst e; rfl
  · exact join_splitL 32 l
theorem wordsL_row {r : List Int} (h : ∀ n ∈ r, 0 ≤ n ∧ n ≤ 99999) : wordsL (rowW r) = r.map Lib.itoa := by
  cases r with
  | nil => rfl
  | cons n ns =>
    have hs := row_split (l := n :: ns) (by simp) h
    unfold wordsL
    split
    · rename_i e
      rw [e] at hs
      simp [splitL] at hs
      have := itoa_ne n
      rw [hs.1] at this; simp at this
    · exact hs
theorem refRow_row {r : List Int} (h : ∀ n ∈ r, 0 ≤ n ∧ n ≤ 99999) : refRow (rowW r) = r := by
  unfold refRow
  rw [wordsL_row h, List.map_map]
  exact (List.map_congr_left fun n hn => numV_itoa (h n hn).1).trans (List.map_id _)
theorem refRowOK_row {wide : Int} {r : List Int} (hl : (r.length : Int) = wide) (h : ∀ n ∈ r, 0 ≤ n ∧ n ≤ 99999) : refRowOK wide (rowW r) = true := by
  unfold refRowOK
  rw [refRow_row h, wordsL_row h]
  have : numsOK (r.map Lib.itoa) = true := by
    unfold numsOK; rw [List.all_eq_true]
    intro w hw
    obtain ⟨n, hn, rfl⟩ := List.mem_map.1 hw
    exact numOK_itoa (h n hn)
  rw [this, hl]; simp
theorem rowV_ref {wide : Int} {l : List UInt8} (h : refRowOK wide l = true) : rowV wide l = refRow l ∧ rowOK wide l = true := by
  have h0 := h
  unfold refRowOK at h
  simp only [Bool.and_eq_true, beq_iff_eq] at h
  have hv : rowV wide l = refRow l := by
    unfold rowV
    split
    · rename_i hw
      have hne : l ≠ [] := fun e => by subst e; have := h.2; simp [refRow, wordsL] at this; omega
      unfold refRow wordsL; rw [if_neg hne]
    · rename_i hw
      have : (refRow l).length = 0 := by omega
      exact (List.eq_nil_of_length_eq_zero this).symm
  refine ⟨hv, ?_⟩
  unfold rowOK
  rw [hv, h.2]
  simp only [beq_self_eq_true, Bool.and_true, Bool.or_eq_true, Bool.not_eq_true', decide_eq_false_iff_not]
  by_cases hw : 0 < wide
  · right
    have hne : l ≠ [] := fun e => by subst e; have := h.2; simp [refRow, wordsL] at this; omega
    have h1 := h.1
    unfold wordsL at h1
    rw [if_neg hne] at h1
    exact h1
  · left; exact hw

section
variable {s : List UInt8} {L0 : List UInt8} {Ls : List (List UInt8)}
theorem parts_ok (hL : splitL 10 s = L0 :: Ls) (h : readOK s = true) : ∃ w1 w2, splitL 32 L0 = [wChart, w1, w2] ∧ numsOK [w1, w2] = true ∧ numV w1 = wideOf s ∧ numV w2 = manyOf s ∧ ((L0 :: Ls).length : Int) = manyOf s + 3 ∧ 0 ≤ manyOf s := by
  have e0 : linesOf s = L0 :: Ls := hL
  unfold readOK headOK at h
  simp only [Bool.and_eq_true, beq_iff_eq] at h
  obtain ⟨⟨⟨⟨⟨h1, h2⟩, h3⟩, h4⟩, _⟩, _⟩ := h
  have eh : headOf s = splitL 32 L0 := by unfold headOf; rw [e0]; rfl
  have e1 : wideOf s = numV ((headOf s).getD 1 []) := rfl
  have e2 : manyOf s = numV ((headOf s).getD 2 []) := rfl
  rw [e0] at h4
  rw [eh] at h1 h2 h3 e1 e2
  have hb := numOK_bd h3
  match hsp : splitL 32 L0, h1 with
  | [a, b, c], h1 =>
    rw [hsp] at h2 h3 e1 e2 hb
    simp only [List.getD_cons_zero, List.getD_cons_succ] at h1 h2 h3 e1 e2 hb
    refine ⟨b, c, by rw [h1.2], by unfold numsOK; simp [h2, h3], e1.symm, e2.symm, h4, by rw [e2]; exact hb.1⟩
  | [], h1 => simp at h1
  | [_], h1 => simp at h1
  | [_, _], h1 => simp at h1
  | _ :: _ :: _ :: _ :: _, h1 => simp at h1; omega

theorem tail_ok (hL : splitL 10 s = L0 :: Ls) (h : readOK s = true) {M : Nat} (hM : manyOf s = (M : Int)) : Ls.length = M + 2 ∧ Ls = (valsOf s).map rowW ++ [endW (wideOf s) (valsOf s), []] ∧ (valsOf s).length = M := by
  obtain ⟨w1, w2, _, _, _, _, hlen, _⟩ := parts_ok hL h
  obtain ⟨h1, _, _⟩ := lines_ok h
  have e0 : linesOf s = L0 :: Ls := hL
  rw [e0] at h1
  simp only [linesW, List.cons.injEq] at h1
  have h2 := congrArg List.length h1.2
  simp at h2 hlen
  exact ⟨by omega, h1.2, by omega⟩

theorem no_head {H : List (List UInt8)} (hL : splitL 10 s = L0 :: Ls) (hH : splitL 32 L0 = H) (hh : (((H.length : Int) == 3) && (H.getD 0 [] == wChart)) = false) : readP s = none := by
  refine readP_no (Bool.eq_false_iff.2 fun h => ?_)
  obtain ⟨w1, w2, e, _⟩ := parts_ok hL h
  rw [hH] at e
  rw [e] at hh
  simp at hh
variable {w1 w2 : List UInt8}
theorem no_nums (hL : splitL 10 s = L0 :: Ls) (hH : splitL 32 L0 = [wChart, w1, w2]) (hn : numsOK [w1, w2] = false) : readP s = none := by
  refine readP_no (Bool.eq_false_iff.2 fun h => ?_)
  obtain ⟨v1, v2, e, e2, _⟩ := parts_ok hL h
  rw [hH] at e
  simp only [List.cons.injEq] at e
  rw [← e.2.1, ← e.2.2.1, hn] at e2; cases e2
variable {y1 : Int} {M : Nat}
theorem many_is (hL : splitL 10 s = L0 :: Ls) (hH : splitL 32 L0 = [wChart, w1, w2]) (e1 : numV w1 = y1) (e2 : numV w2 = (M : Int)) : wideOf s = y1 ∧ manyOf s = (M : Int) := by
  have e0 : linesOf s = L0 :: Ls := hL
  have eh : headOf s = [wChart, w1, w2] := by unfold headOf; rw [e0]; exact hH
  unfold wideOf manyOf
  rw [eh]
  exact ⟨e1, e2⟩
theorem no_len (hL : splitL 10 s = L0 :: Ls) (hH : splitL 32 L0 = [wChart, w1, w2]) (e1 : numV w1 = y1) (e2 : numV w2 = (M : Int))
    (hz : ((((L0 :: Ls).length : Int) == (M : Int) + 3) && ((L0 :: Ls).getD ((((L0 :: Ls).length : Int) - 1).toNat) [] == [])) = false) : readP s = none := by
  refine readP_no (Bool.eq_false_iff.2 fun h => ?_)
  obtain ⟨_, hm⟩ := many_is hL hH e1 e2
  obtain ⟨hl, ht, _⟩ := tail_ok hL h hm
  have hlen : (L0 :: Ls).length = M + 3 := by simp [hl]
  rw [hlen, show (((M + 3 : Nat) : Int) - 1).toNat = M + 2 by omega] at hz
  have : (L0 :: Ls).getD (M + 2) [] = [] := by
    rw [List.getD_cons_succ, ht, List.getD_eq_getElem?_getD, List.getElem?_append_right (by simp; omega)]
    have : M + 1 - ((valsOf s).map rowW).length = 1 := by
      have := congrArg List.length ht
      simp at this ⊢; omega
    rw [this]; rfl
  rw [this] at hz
  simp at hz
theorem no_rows (hL : splitL 10 s = L0 :: Ls) (hH : splitL 32 L0 = [wChart, w1, w2]) (e1 : numV w1 = y1) (e2 : numV w2 = (M : Int)) (hbad : (Ls.take M).all (refRowOK y1) = false) : readP s = none := by
  refine readP_no (Bool.eq_false_iff.2 fun h => ?_)
  obtain ⟨hw, hm⟩ := many_is hL hH e1 e2
  obtain ⟨hl, ht, hv⟩ := tail_ok hL h hm
  obtain ⟨_, _, hb⟩ := lines_ok h
  refine Bool.noConfusion (hbad.symm.trans (List.all_eq_true.2 fun l hl => ?_))
  rw [ht, List.take_append_of_le_length (by simp; omega), List.take_of_length_le (by simp; omega)] at hl
  obtain ⟨r, hr, rfl⟩ := List.mem_map.1 hl
  have := hb r hr
  exact refRowOK_row (by rw [this.1, hw]) this.2
theorem end_eq {vs : List (List Int)} {w : Int} : endW w vs = [101, 110, 100, 32] ++ Lib.itoa ((w + wsum 0 vs) % 97 / 10) ++ Lib.itoa ((w + wsum 0 vs) % 97 % 10) := by
  unfold endW chkW chkN wEnd
  rw [join_cons2, Lib.join_one]; simp
theorem yes_rows (hL : splitL 10 s = L0 :: Ls) (hH : splitL 32 L0 = [wChart, w1, w2]) (hn : numsOK [w1, w2] = true) (e1 : numV w1 = y1) (e2 : numV w2 = (M : Int)) (hl : Ls.length = M + 2)
    (hz : (L0 :: Ls).getD ((((L0 :: Ls).length : Int) - 1).toNat) [] = []) (hall : (Ls.take M).all (refRowOK y1) = true) :
    readP s = if (Ls.getD M [] == endOf y1 Ls M) = true then some ⟨y1, flatR Ls M⟩ else none := by
  obtain ⟨hw, hm⟩ := many_is hL hH e1 e2
  have e0 : linesOf s = L0 :: Ls := hL
  have eh : headOf s = [wChart, w1, w2] := by unfold headOf; rw [e0]; exact hH
  rw [List.all_eq_true] at hall
  have hrows : rowsS s = Ls.take M := by
    unfold rowsS
    rw [e0, hm, show ((M : Int) + 1).toNat = M + 1 by omega]; rfl
  have hvals : valsOf s = valsR Ls M := by
    unfold valsOf valsR
    rw [hrows, hw]
    exact List.map_congr_left fun l hl => (rowV_ref (hall l hl)).1
  have hlast : Ls[M + 1]? = some [] := by
    have hlen : (L0 :: Ls).length = M + 3 := by simp [hl]
    rw [hlen, show (((M + 3 : Nat) : Int) - 1).toNat = M + 2 by omega, List.getD_cons_succ, List.getD_eq_getElem?_getD, List.getElem?_eq_getElem (show M + 1 < Ls.length by omega)] at hz
    rw [List.getElem?_eq_getElem (show M + 1 < Ls.length by omega)]
    simpa using hz
  have hsplit : Ls = Ls.take M ++ [Ls.getD M [], []] := by
    apply List.ext_getElem?
    intro i
    by_cases hi : i < M
    · rw [List.getElem?_append_left (by simp; omega), List.getElem?_take, if_pos hi]
    · rw [List.getElem?_append_right (by simp; omega)]
      simp only [List.length_take]
      rw [show min M Ls.length = M by omega]
      by_cases h1 : i = M
      · subst h1
        rw [List.getD_eq_getElem?_getD, List.getElem?_eq_getElem (show i < Ls.length by omega)]; simp
      · by_cases h2 : i = M + 1
        · subst h2; rw [hlast]; simp
        · rw [List.getElem?_eq_none (by omega), List.getElem?_eq_none (by simp; omega)]
  have hrw : (valsR Ls M).map rowW = Ls.take M := by
    unfold valsR
    rw [List.map_map]
    refine (List.map_congr_left fun l hl => ?_).trans (List.map_id _)
    have := hall l hl
    unfold refRowOK at this
    simp only [Bool.and_eq_true] at this
    exact row_word this.1
  have hvl : (valsR Ls M).length = M := by unfold valsR; simp; omega
  have hnn := itoa_nums hn
  simp only [List.map_cons, List.map_nil, List.cons.injEq, and_true] at hnn
  have hhead : headW y1 (valsR Ls M).length = L0 := by
    unfold headW
    rw [hvl, ← e1, ← e2, hnn.1, hnn.2, ← hH]
    exact join_splitL 32 L0
  have hs : s = Lib.join (L0 :: Ls) [10] := by rw [← hL]; exact (join_splitL 10 s).symm
  by_cases he : Ls.getD M [] = endOf y1 Ls M
  · rw [if_pos (by simpa using he)]
    have hlw : linesW y1 (valsR Ls M) = L0 :: Ls := by
      unfold linesW
      rw [hhead, hrw]
      congr 1
      conv => rhs; rw [hsplit]
      rw [he, end_eq]; rfl
    have htext : textL y1 (valsR Ls M) = s := by rw [text_lines, hlw, hs]
    have hok : readOK s = true := by
      unfold readOK headOK
      rw [eh, hvals, hrows, hw, htext, hm, e0]
      unfold numsOK at hn
      simp only [List.all_cons, List.all_nil, Bool.and_true, Bool.and_eq_true] at hn
      simp only [List.getD_cons_zero, List.getD_cons_succ, hn.1, hn.2, beq_self_eq_true, Bool.and_true, List.length_cons, hl]
      rw [List.all_eq_true.2 fun l hl => (rowV_ref (hall l hl)).2]
      simp; omega
    unfold readP fldOfS flatR
    rw [hok, hvals, hw]; rfl
  · rw [if_neg (by simpa using he)]
    refine readP_no (Bool.eq_false_iff.2 fun h => he ?_)
    obtain ⟨_, ht, hv⟩ := tail_ok hL h hm
    rw [hvals, hw] at ht
    have h3 := congrArg (fun z => z.getD M []) ht
    refine h3.trans ?_
    show (List.map rowW (valsR Ls M) ++ [endW y1 (valsR Ls M), []]).getD M [] = _
    rw [List.getD_eq_getElem?_getD, List.getElem?_append_right (by simp; omega)]
    simp only [List.length_map, hvl, Nat.sub_self]
    show endW y1 (valsR Ls M) = _
    rw [end_eq]; rfl
end
theorem f59 (s : List UInt8) (hl : s.length ≤ 990) : (readP s = none ∧ ACall Tryz.prog G 59 [eS s] (.tup [.agg [.top, .top], .v (.bool false)])) ∨ ∃ f, readP s = some f ∧ ACall Tryz.prog G 59 [eS s] (.tup [.agg (eFld f), .v (.bool true)]) := by
  obtain ⟨L0, Ls, hL⟩ : ∃ L0 Ls, splitL 10 s = L0 :: Ls := by
    cases h : splitL 10 s with
    | nil => exact absurd h (splitL_ne 10 s)
    | cons a b => exact ⟨a, b, rfl⟩
  cases hh : (((((splitL 32 L0).length : Int) == 3) && ((splitL 32 L0).getD 0 [] == wChart))) with
  | false => exact .inl ⟨no_head hL rfl hh, f59_head s hl hL rfl hh⟩
  | true =>
    obtain ⟨w1, w2, hH⟩ : ∃ w1 w2, splitL 32 L0 = [wChart, w1, w2] := by
      match hsp : splitL 32 L0, hh with
      | [a, b, c], hh => simp at hh; exact ⟨b, c, by rw [hh]⟩
      | [], hh => simp at hh
      | [_], hh => simp at hh
      | [_, _], hh => simp at hh
      | _ :: _ :: _ :: _ :: _, hh => simp at hh; omega
    cases hn : numsOK [w1, w2] with
    | false => exact .inl ⟨no_nums hL hH hn, f59_nums s hl hL hH hn⟩
    | true =>
      have hb := nums_bd hn (numV w2) (by simp)
      obtain ⟨M, e2⟩ : ∃ M : Nat, numV w2 = (M : Int) := ⟨(numV w2).toNat, by omega⟩
      cases hz : ((((L0 :: Ls).length : Int) == (M : Int) + 3) && ((L0 :: Ls).getD ((((L0 :: Ls).length : Int) - 1).toNat) [] == [])) with
      | false => exact .inl ⟨no_len hL hH rfl e2 hz, f59_len s hl hL hH hn rfl e2 hz⟩
      | true =>
        simp only [Bool.and_eq_true, beq_iff_eq] at hz
        have hlen : Ls.length = M + 2 := by have := hz.1; simp at this; omega
        cases hall : (Ls.take M).all (refRowOK (numV w1)) with
        | false => exact .inl ⟨no_rows hL hH rfl e2 hall, f59_bad s hl hL hH hn rfl e2 hlen hz.2 hall⟩
        | true =>
          have hr := yes_rows hL hH hn rfl e2 hlen hz.2 hall
          have hc := f59_ok (G := G) s hl hL hH hn rfl e2 hlen hz.2 hall
          cases he : (Ls.getD M [] == endOf (numV w1) Ls M) with
          | true =>
            rw [he] at hr hc
            exact .inr ⟨_, hr, hc⟩
          | false =>
            rw [he] at hr hc
            refine .inl ⟨hr, hc.sub (by simp only [AVleL]; exact ⟨_, _, rfl, AVle.refl _, rfl⟩) (AVle.tup ?_)⟩
            simp only [AVleL]
            exact ⟨_, _, rfl, AVle.agg (by unfold eFld; simp only [AVleL]; exact ⟨_, _, rfl, AVle.top _, _, _, rfl, AVle.top _, rfl⟩), _, _, rfl, AVle.refl _, rfl⟩
end Go.Av
end
