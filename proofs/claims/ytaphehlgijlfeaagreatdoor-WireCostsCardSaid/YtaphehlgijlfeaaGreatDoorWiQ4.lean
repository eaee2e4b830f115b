
import Derived.Test.YtaphehlgijlfeaaGreatDoorWiQ3
import Derived.Test.YtaphehlgijlfeaaGreatDoorPlatQ
set_option linter.unusedVariables false
set_option linter.unusedSimpArgs false
section
namespace Go.Av
open Go.Proofs
set_option maxRecDepth 100000
set_option maxHeartbeats 1000000
variable {G : Glob}
theorem zxh {x y : AV} (h : AVle x y) : AVle (.sl [[x]]) (.sl [[y]]) := fun ok w u hf => by
 simp only [Fits] at hf ⊢
 obtain ⟨a, c, size, e, h1, h2, h3, h4⟩ := hf
 refine ⟨a, c, size, e, h1, h2, fun r hr => ?_, fun hn => ?_⟩
 ·
  have := h3 [x] (by simp)
  simp at hr; subst hr; simpa using this
 ·
  obtain ⟨b, off, ea, hb, hr⟩ := h4 (by simp)
  refine ⟨b, off, ea, hb, ?_⟩
  simp only [FitsR, FitsC] at hr ⊢
  obtain ⟨⟨⟨v, v1, v2, v3⟩, _⟩, _⟩ := hr
  exact ⟨⟨⟨v, v1, v2, h ok w v v3⟩, trivial⟩, trivial⟩
theorem zy1 (mem : List PO) (l : List Int) : zoj mem (.pub (LN l)) (l.map fun n => [I n]) := by
 cases l with
 | nil => rfl
 | cons x l => show _ = _; simp
theorem zyf {L : List Int} {q : Nat} (h : q < L.length) (x : Int) : (decide (x ∈ L.take q) || (L[q] == x)) = decide (x ∈ L.take (q + 1)) := by
 rw [Bool.eq_iff_iff]
 simp only [Bool.or_eq_true, decide_eq_true_eq, beq_iff_eq]
 rw [List.take_succ_eq_append_getElem h, List.mem_append, List.mem_singleton]
 exact or_congr_right eq_comm
def rtO (nt : Nt) (to : Int) (fu : Nat) (a : Int) (M l : List Int) (i : Nat) : List (List Int) := if goB nt a M i then rts nt to fu (oth (lnA nt i) a) (M ++ [oth (lnA nt i) a]) (l ++ [(i : Int)]) else []
def rtJ (nt : Nt) (to : Int) (fu : Nat) (a : Int) (M l : List Int) (j : Nat) : List (List Int) := (List.range j).flatMap (rtO nt to fu a M l)
theorem zuD {nt : Nt} {to : Int} {fu : Nat} {a : Int} {M l : List Int} (j : Nat) : rtJ nt to fu a M l (j + 1) = rtJ nt to fu a M l j ++ rtO nt to fu a M l j := by
 simp [rtJ, List.range_succ]
theorem zzE {nt : Nt} {to : Int} {fu : Nat} {a : Int} {M l : List Int} {N : Nat} : ∀ {j : Nat}, j <= N -> (rtJ nt to fu a M l j).length <= (rtJ nt to fu a M l N).length := by
 induction N with
 | zero => intro j h; rw [show j = 0 by omega]; exact Nat.le_refl _
 | succ N ih =>
  intro j h
  by_cases e : j = N + 1
  ·
   rw [e]; exact Nat.le_refl _
  ·
   have := ih (j := j) (by omega)
   rw [zuD (j := N), List.length_append]; omega
theorem zww {nt : Nt} {to : Int} {fu : Nat} {a : Int} {M l : List Int} (h : a ≠ to) : rtJ nt to fu a M l nt.lines.length = rts nt to (fu + 1) a M l := by
 rw [rts, if_neg h]; rfl
theorem zyG (nt : Nt) (to : Int) (M : List Int) : ACall Tryz.prog G 115 [.agg (eNt nt), ei to, ei to, zO M, LN []] (jc [[]]) := by
 refine zS Tryz.func115 rfl (by kernel_rfl) rfl ?_
 refine zl (zh (zg rfl rfl (jf rfl (zY rfl)) (zg rfl rfl (zn rfl rfl) (zo (zf (zl (zl (zh (zg rfl rfl (zi rfl rfl) (zg rfl rfl (zi rfl rfl) (zg rfl rfl (qJ rfl rfl rfl) ?_)))))))))))
 refine zo (zf (zx rfl (fun h0 => ?_) (fun h0 => ?_)))
 ·
  refine zl (zh (zg rfl rfl (zi rfl rfl) ?_))
  refine zg rfl rfl (qg (size := 1) (rows := [[_]]) rfl Tryz.underlying30 zmt rfl (by decide) rfl (by decide) ⟨_, _, rfl, (jF rfl), rfl⟩ (by rfl) (by simp [ofV]) rfl (by simp)) ?_
  refine zg rfl rfl (zW rfl rfl) (zo (zf (zP (zQ ?_))))
  exact ⟨.inr rfl, zxh (zyO [])⟩
 ·
  exfalso; simp at h0
theorem zyW (nt : Nt) (to : Int) (M : List Int) (x : Int) (l : List Int) : ACall Tryz.prog G 115 [.agg (eNt nt), ei to, ei to, zO M, LN (x :: l)] (jc [x :: l]) := by
 refine zS Tryz.func115 rfl (by kernel_rfl) rfl ?_
 refine zl (zh (zg rfl rfl (jf rfl (zY rfl)) (zg rfl rfl (zn rfl rfl) (zo (zf (zl (zl (zh (zg rfl rfl (zi rfl rfl) (zg rfl rfl (zi rfl rfl) (zg rfl rfl (qJ rfl rfl rfl) ?_)))))))))))
 refine zo (zf (zx rfl (fun h0 => ?_) (fun h0 => ?_)))
 ·
  refine zl (zh (zg rfl rfl (zq rfl rfl) ?_))
  refine zg rfl rfl (qg (size := 1) (rows := [[_]]) rfl Tryz.underlying30 zmt rfl (by decide) rfl (by decide) ⟨_, _, rfl, (kQ rfl), rfl⟩ (by rfl) (by simp [ofV]) rfl (by simp)) ?_
  refine zg rfl rfl (zW rfl rfl) (zo (zf (zP (zQ ?_))))
  exact ⟨.inr rfl, zxh (zyO (x :: l))⟩
 ·
  exfalso; simp at h0
theorem zy4 (nt : Nt) (to : Int) (M l : List Int) : ACall Tryz.prog G 115 [.agg (eNt nt), ei to, ei to, zO M, LN l] (jc [l]) := by
 cases l with
 | nil => exact zyG nt to M
 | cons x l => exact zyW nt to M x l
theorem zzT {k : Nat} (ls : List (List Int)) : PO.okL k (.row (yQ ls)) := fun r hr x hx => by
 obtain ⟨q, _, rfl⟩ := List.mem_map.1 hr
 simp at hx; subst hx; trivial
theorem zzj (nt : Nt) (to : Int) (hn : zuA nt = true) (fu : Nat) (a : Int) (M l : List Int) (ha : 0 <= a /\ a <= nt.offices - 1) (hto : a ≠ to) (hM : M.length <= 1000) (hl : l.length <= 1000) (hsz : (rts nt to (fu + 1) a M l).length <= 10000000)
  (ih : ∀ j : Nat, j < nt.lines.length -> goB nt a M j = true -> ACall Tryz.prog G 115 [.agg (eNt nt), ei (oth (lnA nt (j : Int)) a), ei to, zO (M ++ [oth (lnA nt (j : Int)) a]), LN (l ++ [(j : Int)])] (jc (rts nt to fu (oth (lnA nt (j : Int)) a) (M ++ [oth (lnA nt (j : Int)) a]) (l ++ [(j : Int)])))) : ACall Tryz.prog G 115 [.agg (eNt nt), ei a, ei to, zO M, LN l] (jc (rts nt to (fu + 1) a M l)) := by
 have h6 := zuH hn
 have hsz2 : (rtJ nt to fu a M l nt.lines.length).length <= 10000000 := by rw [zww hto]; exact hsz
 refine zS Tryz.func115 rfl (by kernel_rfl) rfl ?_
 refine zl (zh (zg rfl rfl (jf rfl (zY rfl)) (zg rfl rfl (zn rfl rfl) (zo (zf (zl (zl (zh (zg rfl rfl (zi rfl rfl) (zg rfl rfl (zi rfl rfl) (zg rfl rfl (qJ rfl rfl rfl) ?_)))))))))))
 refine zo (zf (zx rfl (fun h0 => ?_) (fun h0 => ?_)))
 ·
  exfalso; simp [hto] at h0
 ·
  refine zC (zf (zl (zh (zg rfl rfl (zn rfl rfl) (zo (zf (zl (zl (zh (zg rfl rfl (zn rfl rfl) (zo ?_)))))))))))
  refine zf (zB ?_)
  refine qx (kG 11 rfl) ?_
  refine qy (ι := { j : Nat // j <= nt.lines.length }) (fun j => ⟨Tryz.f115.ntmps, frL [(1, I a), (2, I to), (3, .pub (zO M)), (4, .pub (LN l)), (5, .pub (.ptr (eNt nt))), (11, .psl 0 (rtJ nt to fu a M l j.1).length), (12, I (j.1 : Int))], [.row (yQ (rtJ nt to fu a M l j.1))]⟩) (fun j => nt.lines.length - j.1) (⟨0, by omega⟩) ?_ ?_
  ·
   exact zt _ ⟨rfl, rfl, rfl, rfl, rfl, rfl, rfl, trivial⟩ (rfl)
  ·
   rintro ⟨j, hj⟩
   dsimp only
   refine zl (zl (zh (zg rfl rfl (zi rfl rfl) (zg rfl rfl (zu rfl rfl zuy) (zg rfl rfl (zA rfl rfl rfl zuP) (zg rfl rfl (qh rfl rfl rfl Tryz.underlying71) (zg rfl rfl (qi rfl rfl rfl) (zo (zf (zx rfl (fun h1 => ?_) (fun h1 => ?_)))))))))))
   ·
    have hlt : j < nt.lines.length := by simpa using h1
    have hX := zxC hlt
    have hxl := zvd hn hlt
    have hxb : (0 <= (lnA nt (j : Int)).src /\ (lnA nt (j : Int)).src <= nt.offices - 1) /\ (0 <= (lnA nt (j : Int)).dst /\ (lnA nt (j : Int)).dst <= nt.offices - 1) := by simp only [zvO, Bool.and_eq_true, decide_eq_true_eq] at hxl; omega
    refine zC (zf (zl (zB (zl (zh (zg rfl rfl (zu rfl rfl zuy) (zg rfl rfl (zA rfl rfl rfl zuP) (zg rfl rfl (zi rfl rfl) (zg rfl rfl (zG rfl rfl rfl zv8 (by omega) (zxw (j := j) hlt) zva) (zg rfl rfl (zZ rfl rfl zvE (by exact zLb rfl)) ?_))))))))))
    refine vI  rfl rfl rfl rfl rfl rfl rfl zxL zvE rfl (by rfl) (zY rfl) rfl ?_
    refine zo (zf (zl (zl (zh (zg rfl rfl (zu rfl rfl zuM) (zg rfl rfl (zA rfl rfl rfl ty3) (zg rfl rfl (zi rfl rfl) (zg rfl rfl (vg rfl rfl rfl) (zg rfl rfl (zi rfl rfl) (zk rfl rfl rfl (fun hg => zu rfl rfl zuL) (zk rfl rfl rfl (fun hg => zA rfl (if_pos hg) rfl ty3) ?_)))))))))))
    refine zk rfl rfl rfl (fun hg => zi rfl rfl) (zk rfl rfl rfl (fun hg => vg rfl (if_pos hg) (if_pos hg)) (zg rfl rfl (qI rfl rfl rfl rfl) (zo (zf (zx rfl (fun h2 => ?_) (fun h2 => ?_))))))
    ·
     have hgo : goB nt a M j = false := by rw [zw5 rfl, h2]; rfl
     have hst : rtO nt to fu a M l j = [] := by unfold rtO; rw [hgo]; rfl
     refine qp (zL (qw (zf (zh (zg rfl rfl (zi rfl rfl) (zg rfl rfl (zV rfl rfl rfl ⟨(by omega), (by omega)⟩) (zg rfl rfl (zn rfl rfl) (zo ?_))))))))
     first | exact ⟨⟨j + 1, by omega⟩, by dsimp only; omega, zt _ ⟨rfl, rfl, rfl, rfl, rfl, (congrArg (EV.psl 0) (by rw [zuD, hst]; simp)), rfl, trivial⟩ (by exact congrArg (fun z => [PO.row (yQ z)]) (by rw [zuD, hst]; simp))⟩ | exact ⟨⟨j + 1, by omega⟩, by dsimp only; omega, Weak.trans (zt (mem' := [.row (yQ (rtJ nt to fu a M l (j + 1))), .dead, .dead]) [(1, I a), (2, I to), (3, .pub (zO M)), (4, .pub (LN l)), (5, .pub (.ptr (eNt nt))), (11, .psl 0 (rtJ nt to fu a M l (j + 1)).length), (12, I ((j : Int) + 1))] ⟨rfl, rfl, rfl, rfl, rfl, (congrArg (EV.psl 0) (by rw [zuD, hst]; simp [yQ])), rfl, trivial⟩ (by exact congrArg (fun z => [PO.row z, .dead, .dead]) (by rw [zuD, hst]; simp [yQ, zO, nums]))) (vO 1 ⟨trivial, trivial, trivial, trivial, trivial, (show _ < _ by omega), trivial, trivial⟩ ⟨zzT _, trivial⟩)⟩
    ·
     have hb2 : ((lnA nt (j : Int)).src != a && (lnA nt (j : Int)).dst != a) = false := h2
     have hnx := zw4 (a := a) hxl (by rw [hb2]; rfl)
     refine zC (zf (zl (zh (zg rfl rfl (zu rfl rfl zuM) (zg rfl rfl (zA rfl rfl rfl ty3) (zg rfl rfl (zu rfl rfl zuL) (zg rfl rfl (zA rfl rfl rfl ty3) (zg rfl rfl (zV rfl rfl rfl ⟨(by omega), (by omega)⟩) (zg rfl rfl (zi rfl rfl) (zg rfl rfl (ze5 rfl rfl rfl ⟨(by omega), (by omega)⟩) (zg rfl rfl (zn rfl rfl) ?_)))))))))))
     refine zg rfl rfl (zn rfl rfl) (zo (zf (zl (zl (zh (zg rfl rfl (zn rfl rfl) (zo (zf (zB ?_)))))))))
     refine qy (ι := { q : Nat // q <= M.length }) (fun q => ⟨Tryz.f115.ntmps, frL [(1, I a), (2, I to), (3, .pub (zO M)), (4, .pub (LN l)), (5, .pub (.ptr (eNt nt))), (11, .psl 0 (rtJ nt to fu a M l j).length), (12, I (j : Int)), (14, I (oth (lnA nt (j : Int)) a)), (15, B (decide ((oth (lnA nt (j : Int)) a) ∈ M.take q.1))), (16, I (q.1 : Int))], [.row (yQ (rtJ nt to fu a M l j))]⟩) (fun q => M.length - q.1) (⟨0, by omega⟩) ?_ ?_
     ·
      exact zt _ ⟨rfl, rfl, rfl, rfl, rfl, rfl, rfl, rfl, (congrArg B (by simp)), rfl, trivial⟩ (rfl)
     ·
      rintro ⟨q, hq⟩
      dsimp only
      refine zl (zl (zh (zg rfl rfl (zi rfl rfl) (zg rfl rfl (zq rfl rfl) (zg rfl rfl (qh rfl rfl rfl Tryz.underlying23) (zg rfl rfl (qi rfl rfl rfl) (zo (zf (zx rfl (fun h3 => ?_) (fun h3 => ?_))))))))))
      ·
       have hlq : q < M.length := by simpa [zO] using h3
       refine zC (zf (zl (zB (zh (zg rfl rfl (zi rfl rfl) (zg rfl rfl (zi rfl rfl) (zk rfl rfl rfl (fun hg => zq rfl rfl) (zk rfl rfl rfl (fun hg => zi rfl rfl) (zk rfl rfl rfl (fun hg => zG rfl (if_pos hg) (if_pos hg) jv (by omega) (wu hlq) jC) (zk rfl rfl rfl (fun hg => zA rfl (if_pos hg) rfl ty3) (zk rfl rfl rfl (fun hg => zi rfl rfl) ?_)))))))))))
       refine zk rfl rfl rfl (fun hg => qJ rfl (if_pos hg) (if_pos hg)) (zg rfl rfl (qU rfl rfl rfl rfl) (zg rfl rfl (zn rfl rfl) (zo (zD (zf (zh (zg rfl rfl (zi rfl rfl) (zg rfl rfl (zV rfl rfl rfl ⟨(by omega), (by omega)⟩) (zg rfl rfl (zn rfl rfl) (zo ?_))))))))))
       exact ⟨⟨q + 1, by omega⟩, by dsimp only; omega, zt _ ⟨rfl, rfl, rfl, rfl, rfl, rfl, rfl, rfl, (congrArg B (zyf hlq (oth (lnA nt (j : Int)) a))), rfl, trivial⟩ (rfl)⟩
      ·
       have hgq : M.length <= q := by simpa [zO] using h3
       have htk : M.take q = M := List.take_of_length_le (by omega)
       refine qp (zL (zL (qw (zf (zl (zh (zg rfl rfl (zi rfl rfl) (zg rfl rfl (je rfl rfl) (zo (zf (zx rfl (fun h4 => ?_) (fun h4 => ?_))))))))))))
       ·
        have hgo : goB nt a M j = true := by rw [zw5 rfl, hb2]; have h9 : (!decide ((oth (lnA nt (j : Int)) a) ∈ M.take q)) = true := h4; rw [htk] at h9; simpa using h9
        have hst : rtO nt to fu a M l j = rts nt to fu (oth (lnA nt (j : Int)) a) (M ++ [(oth (lnA nt (j : Int)) a)]) (l ++ [(j : Int)]) := by unfold rtO; rw [hgo]; rfl
        have hsz3 : (rtJ nt to fu a M l j).length + (rts nt to fu (oth (lnA nt (j : Int)) a) (M ++ [(oth (lnA nt (j : Int)) a)]) (l ++ [(j : Int)])).length <= 10000000 := by rw [← hst, ← List.length_append, ← zuD]; exact Nat.le_trans (zzE (by omega)) hsz2
        refine qx vz ?_
        refine qx vz ?_
        refine qx (zt (mem' := [.row (yQ (rtJ nt to fu a M l j)), .row [], .row []]) [(1, I a), (2, I to), (3, .pub (zO M)), (4, .pub (LN l)), (5, .pub (.ptr (eNt nt))), (11, .psl 0 (rtJ nt to fu a M l j).length), (12, I (j : Int)), (14, I (oth (lnA nt (j : Int)) a))] ?_ ?_) ?_
        ·
         exact ⟨rfl, rfl, rfl, rfl, rfl, rfl, rfl, rfl, trivial⟩
        ·
         exact (rfl)
        refine zzs (fun _ => True) (fun k => match k with | 0 => .stable | 1 => .stable | 2 => .stable | 3 => .stable | 4 => .stable | 5 => .rw [] 1 | 6 => .stable | 7 => .stable | 8 => .rw [] 1 | 9 => .stable | 10 => .rw [] 2 | 11 => .stable | 12 => .stable | 13 => .rw [] 2 | 14 => .writes | 15 => .writes | 16 => .stable | _ => .here) mixed (by kernel_rfl) rfl (by kernel_rfl) trivial ?_
        refine wo rfl rfl (fun m hm => zI rfl rfl) (wo rfl rfl (fun m hm => zZ rfl rfl qf (by exact zLb rfl)) (wo rfl rfl (fun m hm => zi rfl rfl) (wo rfl rfl (fun m hm => zi rfl rfl) (wo rfl rfl (fun m hm => zq rfl rfl) ?_))))
        refine zsL [] 1 rfl rfl (fun _ => trivial) (fun m hm => zvN rfl rfl rfl ((hm.one 1 rfl).trans rfl) rfl zwE (by simp) (by simp; omega) (by unfold maxLen; simp; omega)) ?_
        refine wo rfl rfl (fun m hm => zi rfl rfl) ?_
        refine wo rfl rfl (fun m hm => qg (size := 1) (rows := [[_]]) rfl Tryz.underlying23 ti3 rfl (by decide) rfl (by decide) ⟨_, _, rfl, (jF rfl), rfl⟩ (by rfl) (by simp [ofV]) rfl (by simp)) ?_
        refine zsL [] 1 rfl rfl (fun _ => trivial) (fun m hm => zj3 rfl rfl ((hm.one 1 rfl).trans rfl) (by simp) rfl zwE (by simp) (by simp) (by simp; omega) (by unfold maxLen; simp; omega)) ?_
        refine wo rfl rfl (fun m hm => zq rfl rfl) ?_
        refine zsL [] 2 rfl rfl (fun _ => trivial) (fun m hm => zvN rfl rfl rfl ((hm.one 2 rfl).trans rfl) (zy1 _ l) zwE (by simp) (by simp; omega) (by unfold maxLen; simp; omega)) ?_
        refine wo rfl rfl (fun m hm => zi rfl rfl) ?_
        refine wo rfl rfl (fun m hm => qg (size := 1) (rows := [[_]]) rfl Tryz.underlying23 ti3 rfl (by decide) rfl (by decide) ⟨_, _, rfl, (jF rfl), rfl⟩ (by rfl) (by simp [ofV]) rfl (by simp)) ?_
        refine zsL [] 2 rfl rfl (fun _ => trivial) (fun m hm => zj3 rfl rfl ((hm.one 2 rfl).trans rfl) (by simp) rfl zwE (by simp) (by simp) (by simp; omega) (by unfold maxLen; simp; omega)) ?_
        refine zaw rfl rfl (zwM (pre := [.tmp 69, .tmp 70, .tmp 71]) (x := 76) (y := 81) (av := [.agg (eNt nt), ei (oth (lnA nt (j : Int)) a), ei to]) (ka := 1) (kb := 2) (ra := (M ++ [(oth (lnA nt (j : Int)) a)]).map fun n => [AV.v (.int .i64 n)]) (rb := (l ++ [(j : Int)]).map fun n => [AV.v (.int .i64 n)]) rfl (by decide) (by decide) ⟨rfl, rfl, rfl, trivial⟩ (by simp) rfl rfl (by decide) (by decide) (congrArg (fun z => some (PO.row z)) (by simp)) (congrArg (fun z => some (PO.row z)) (by simp)) (by simp) (by simp) (r := jc (rts nt to fu (oth (lnA nt (j : Int)) a) (M ++ [(oth (lnA nt (j : Int)) a)]) (l ++ [(j : Int)]))) (by have h9 := ih j hlt hgo; rw [← zxE] at h9; exact h9)) trivial ?_
        refine zaw rfl rfl (zj3 rfl rfl rfl (by simp [yQ]) rfl zo9 (zdu _) (by simp) (by simp; omega) (by unfold maxLen; simp; omega)) trivial ?_
        refine wo rfl rfl (fun m hm => qo rfl rfl) (wQ (zD (zf (zh (zg rfl rfl (zi rfl rfl) (zg rfl rfl (zV rfl rfl rfl ⟨(by omega), (by omega)⟩) (zg rfl rfl (zn rfl rfl) (zo ?_))))))))
        first | exact ⟨⟨j + 1, by omega⟩, by dsimp only; omega, zt _ ⟨rfl, rfl, rfl, rfl, rfl, (congrArg (EV.psl 0) (by rw [zuD, hst]; simp)), rfl, trivial⟩ (by exact congrArg (fun z => [PO.row (yQ z)]) (by rw [zuD, hst]; simp))⟩ | exact ⟨⟨j + 1, by omega⟩, by dsimp only; omega, Weak.trans (zt (mem' := [.row (yQ (rtJ nt to fu a M l (j + 1))), .dead, .dead]) [(1, I a), (2, I to), (3, .pub (zO M)), (4, .pub (LN l)), (5, .pub (.ptr (eNt nt))), (11, .psl 0 (rtJ nt to fu a M l (j + 1)).length), (12, I ((j : Int) + 1))] ⟨rfl, rfl, rfl, rfl, rfl, (congrArg (EV.psl 0) (by rw [zuD, hst]; simp [yQ])), rfl, trivial⟩ (by exact congrArg (fun z => [PO.row z, .dead, .dead]) (by rw [zuD, hst]; simp [yQ, zO, nums]))) (vO 1 ⟨trivial, trivial, trivial, trivial, trivial, (show _ < _ by omega), trivial, trivial⟩ ⟨zzT _, trivial⟩)⟩
       ·
        have hgo : goB nt a M j = false := by rw [zw5 rfl, hb2]; have h9 : (!decide ((oth (lnA nt (j : Int)) a) ∈ M.take q)) = false := h4; rw [htk] at h9; simpa using h9
        have hst : rtO nt to fu a M l j = [] := by unfold rtO; rw [hgo]; rfl
        refine zC (zD (zf (zh (zg rfl rfl (zi rfl rfl) (zg rfl rfl (zV rfl rfl rfl ⟨(by omega), (by omega)⟩) (zg rfl rfl (zn rfl rfl) (zo ?_)))))))
        first | exact ⟨⟨j + 1, by omega⟩, by dsimp only; omega, zt _ ⟨rfl, rfl, rfl, rfl, rfl, (congrArg (EV.psl 0) (by rw [zuD, hst]; simp)), rfl, trivial⟩ (by exact congrArg (fun z => [PO.row (yQ z)]) (by rw [zuD, hst]; simp))⟩ | exact ⟨⟨j + 1, by omega⟩, by dsimp only; omega, Weak.trans (zt (mem' := [.row (yQ (rtJ nt to fu a M l (j + 1))), .dead, .dead]) [(1, I a), (2, I to), (3, .pub (zO M)), (4, .pub (LN l)), (5, .pub (.ptr (eNt nt))), (11, .psl 0 (rtJ nt to fu a M l (j + 1)).length), (12, I ((j : Int) + 1))] ⟨rfl, rfl, rfl, rfl, rfl, (congrArg (EV.psl 0) (by rw [zuD, hst]; simp [yQ])), rfl, trivial⟩ (by exact congrArg (fun z => [PO.row z, .dead, .dead]) (by rw [zuD, hst]; simp [yQ, zO, nums]))) (vO 1 ⟨trivial, trivial, trivial, trivial, trivial, (show _ < _ by omega), trivial, trivial⟩ ⟨zzT _, trivial⟩)⟩
   ·
    have hge : nt.lines.length <= j := by simpa using h1
    have hj2 : j = nt.lines.length := by omega
    refine qp (zL (zL (qw (zf (zl (zh (zg rfl rfl (zI rfl rfl) (zg rfl rfl (qo rfl rfl) (zo (zf (zP ?_)))))))))))
    exact ⟨.inr rfl, ⟨(rts nt to (fu + 1) a M l).map fun m => [zO m], by rw [← zww hto, ← hj2]; show some (PO.row _) = some (PO.row _); simp [yQ, zO, nums], by rw [← zww hto, ← hj2]; simp, rfl⟩⟩
end Go.Av
end
section
namespace Go.Av
open Go.Proofs
set_option maxRecDepth 100000
set_option maxHeartbeats 1000000
variable {G : Glob}
theorem zuz {P : Program} {fr : Nat -> EV} {mem : List PO} {o : Oper} {x y : Bool} (h : x = y) (ho : OpY P G fr mem o (B x)) : OpY P G fr mem o (B y) := h ▸ ho
theorem f115 (nt : Nt) (to : Int) (hn : zuA nt = true) : ∀ (fu : Nat) (a : Int) (M l : List Int), unm nt M < fu -> fu <= 7 -> (0 <= a /\ a <= nt.offices - 1) -> M.length + fu <= 100 -> l.length + fu <= 100 -> ACall Tryz.prog G 115 [.agg (eNt nt), ei a, ei to, zO M, LN l] (jc (rts nt to fu a M l)) := by
 intro fu
 induction fu with
 | zero => intro a M l h; exact absurd h (by omega)
 | succ fu ih =>
  intro a M l hu hf ha hM hl
  by_cases hto : a = to
  ·
   subst hto
   have := zy4 (G := G) nt a M l
   rw [rts, if_pos rfl]
   exact this
  ·
   have h10 := zvS (zuH hn).2.2 to (fu + 1) a M l
   have hp : 10 ^ (fu + 1) <= 10 ^ 7 := Nat.pow_le_pow_right (by omega) hf
   refine zzj nt to hn fu a M l ha hto (by omega) (by omega) (by omega) fun j hj hgo => ?_
   have hlt := zxR hn hj hgo
   simp only [goB, Bool.and_eq_true, Bool.not_eq_true', decide_eq_false_iff_not] at hgo
   exact ih _ _ _ (by omega) (by omega) (zu0 (zvd hn hj) hgo.1).1 (by simp; omega) (by simp; omega)
def bsO (nt : Nt) (w most : Int) (L : List (List Int)) (k : Nat) : Option (List Int) := zxr nt w ((L.take k).filter fun r => decide (grb nt r <= most))
theorem zyh (nt : Nt) (w : Int) (x : List Int) : ∀ l : List (List Int), zxr nt w (l ++ [x]) = some (match zxr nt w l with | none => x | some b => if bt3 nt w x b then x else b)
 | [] => rfl
 | b :: l => by rw [List.cons_append, zxr, zvK, zxr]
theorem zyY {nt : Nt} {w most : Int} {L : List (List Int)} {k : Nat} (h : k < L.length) (hg : ¬ grb nt L[k] <= most) : bsO nt w most L (k + 1) = bsO nt w most L k := by
 unfold bsO; rw [List.take_succ_eq_append_getElem h, List.filter_append]; simp [hg]
theorem zxQ {nt : Nt} {w most : Int} {L : List (List Int)} {k : Nat} (h : k < L.length) (hg : grb nt L[k] <= most) : bsO nt w most L (k + 1) = some (match bsO nt w most L k with | none => L[k] | some b => if bt3 nt w L[k] b then L[k] else b) := by
 unfold bsO
 rw [List.take_succ_eq_append_getElem h, List.filter_append, show [L[k]].filter (fun r => decide (grb nt r <= most)) = [L[k]] by simp [hg], zyh]
def bAV : Option (List Int) -> AV
 | none => .v (.slice none 0 0)
 | some r => nums r
theorem zyU {α : Type} {o : Option α} (h : o.isSome = true) : ∃ r, o = some r := Option.isSome_iff_exists.1 h
theorem zyu {α : Type} {o : Option α} (h : o.isSome = false) : o = none := by cases o <;> simp_all
theorem zu8 {nt : Nt} {a z : Int} {r : List Int} (h : zuC nt a z r = true) : ∀ i ∈ r, inL nt i = true := by
 simp only [zuC, Bool.and_eq_true] at h
 have key : ∀ (l : List Int) (a : Int), cok nt a l = true -> ∀ i ∈ l, inL nt i = true := by
  intro l
  induction l with
  | nil => intro a _ i hi; cases hi
  | cons x l ih =>
   intro a hc i hi
   rw [cok, Bool.and_eq_true, Bool.and_eq_true] at hc
   rcases List.mem_cons.1 hi with e | e
   ·
    exact e ▸ hc.1.1
   ·
    exact ih _ hc.2 i e
 exact key r a h.1.1
theorem zyv {nt : Nt} {w : Int} {l : List (List Int)} {r : List Int} (h : zxr nt w l = some r) : r ∈ l := by
 cases l with
 | nil => cases h
 | cons b l => injection h with h; exact h ▸ (zvV l b).1
theorem zzF {nt : Nt} {a z w most : Int} {k : Nat} (hgl : ∀ r, r ∈ zuK nt a z -> r.length <= 6) (hin : ∀ r, r ∈ zuK nt a z -> ∀ i ∈ r, inL nt i = true) {r : List Int} (h : bsO nt w most (zuK nt a z) k = some r) : r.length <= 6 /\ ∀ i ∈ r, inL nt i = true := by
 have h1 := zyv h
 have h2 := List.mem_of_mem_take (List.mem_filter.1 h1).1
 exact ⟨hgl r h2, hin r h2⟩
theorem zxN {nt : Nt} {a z w most : Int} {k : Nat} (h : (zuK nt a z).length <= k) : bsO nt w most (zuK nt a z) k = rtB nt a z w most := by
 unfold bsO rtB zuT; rw [List.take_of_length_le h]
theorem f57 (nt : Nt) (a z words most : Int) (hn : zuA nt = true) (hw : 0 <= words /\ words <= 100) (ha : 0 <= a /\ a <= nt.offices - 1) : ACall Tryz.prog G 57 [.agg (eNt nt), ei a, ei z, ei words, ei most] (.tup [bAV (rtB nt a z words most), .v (.bool (rtB nt a z words most).isSome)]) := by
 have h6 := zuH hn
 have hmem := fun r => @zxj nt hn a z r
 have h10 : (zuK nt a z).length <= 10 ^ 7 := zvS h6.2.2 z 7 a [a] []
 have hgl := fun r (h : r ∈ zuK nt a z) => zwW hn ha ((hmem r).1 h)
 have hin := fun r (h : r ∈ zuK nt a z) => zu8 ((hmem r).1 h)
 refine zS Tryz.func57 rfl (by kernel_rfl) rfl ?_
 refine zl (zh (zg rfl rfl (jf rfl (zY rfl)) (zg rfl rfl (zn rfl rfl) (zg rfl rfl (zn rfl rfl) (zo (zf (zl (zh (zg rfl rfl (zZ rfl rfl qf (by exact zLb rfl)) (zg rfl rfl (zi rfl rfl) (zg rfl rfl (zi rfl rfl) ?_)))))))))))
 refine zg rfl rfl (zi rfl rfl) ?_
 refine zg rfl rfl (qg (size := 1) (rows := [[_]]) rfl Tryz.underlying23 ti3 rfl (by decide) rfl (by decide) ⟨_, _, rfl, (jF rfl), rfl⟩ (by rfl) (by simp [ofV]) rfl (by simp)) ?_
 refine zg rfl rfl (zy (av := [_, _, _, _, _]) rfl ⟨rfl, rfl, rfl, rfl, rfl, trivial⟩ (f115 nt z hn 7 a [a] [] (by have := zwD nt [a]; omega) (by omega) ha (by simp) (by simp))) ?_
 refine zg rfl rfl (zW rfl rfl) (zo (zf (zl (zh (zg rfl rfl (zn rfl rfl) (zo (zf (zl (zh (zg rfl rfl (zn rfl rfl) (zo ?_)))))))))))
 refine zf (zl (zl (zh (zg rfl rfl (zn rfl rfl) (zo (zf (zB ?_)))))))
 refine qy (ι := { k : Nat // k <= (zuK nt a z).length }) (fun k => ⟨Tryz.f57.ntmps, frL [(3, I words), (4, I most), (5, .pub (.ptr (eNt nt))), (12, .pub (jc (zuK nt a z))), (13, .pub (bAV (bsO nt words most (zuK nt a z) k.1))), (14, B (bsO nt words most (zuK nt a z) k.1).isSome), (15, I (k.1 : Int))], []⟩) (fun k => (zuK nt a z).length - k.1) (⟨0, by omega⟩) ?_ ?_
 ·
  exact zt _ ⟨rfl, rfl, rfl, rfl, rfl, rfl, rfl, trivial⟩ (rfl)
 ·
  rintro ⟨k, hk⟩
  dsimp only
  refine zl (zl (zh (zg rfl rfl (zi rfl rfl) (zg rfl rfl (zq rfl rfl) (zg rfl rfl (qh rfl rfl rfl Tryz.underlying30) (zg rfl rfl (qi rfl rfl rfl) (zo (zf (zx rfl (fun h0 => ?_) (fun h0 => ?_))))))))))
  ·
   have hlt : k < (zuK nt a z).length := by simpa [jc] using h0
   have hkm := List.getElem_mem hlt
   refine zC (zf (zl (zB (zl ?_))))
   refine Or.elim (zrJ (bsO nt words most (zuK nt a z) k).isSome) (fun hb => ?_) (fun hb => ?_)
   ·
    have hr := zyu hb
    refine qx (zt (mem' := []) [(3, I words), (4, I most), (5, .pub (.ptr (eNt nt))), (12, .pub (jc (zuK nt a z))), (13, .pub (bAV none)), (14, B false), (15, I (k : Int))] ?_ ?_) ?_
    ·
     exact ⟨rfl, rfl, rfl, rfl, (congrArg (fun z => EV.pub (bAV z)) hr), (congrArg (fun z : Option (List Int) => B z.isSome) hr), rfl, trivial⟩
    ·
     exact (rfl)
    refine Or.elim (zrJ (decide (grb nt (zuK nt a z)[k] <= most))) (fun hb2 => ?_) (fun hb2 => ?_)
    ·
     have hs : (bsO nt words most (zuK nt a z) (k + 1)) = none := by rw [zyY hlt (by simpa using hb2), hr]
     refine qY mixed (by kernel_rfl) rfl ?_
     refine zH rfl (zZ rfl rfl qf (by exact zLb rfl)) (zH rfl (zq rfl rfl) (zH rfl (zi rfl rfl) (zH rfl (zG rfl rfl rfl zea (by omega) (ints_at hlt) kz) (zH rfl (zA rfl rfl rfl jO) ?_))))
     refine zH rfl (zy (av := [_, _]) rfl ⟨rfl, rfl, trivial⟩ (f60 nt (zuK nt a z)[k] hn (by have := hgl _ hkm; omega) (hin _ hkm))) ?_
     refine zH rfl (zi rfl rfl) (zH rfl (zuz hb2 (zaq rfl rfl rfl)) (zH rfl (zi rfl rfl) (jm rfl (fun hg => zi rfl rfl) ?_)))
     refine jm (x := .pub (.tup [])) rfl (fun hg => absurd hg (by decide)) ?_
     refine jm rfl (fun hg => zq rfl (rfl)) (jm rfl (fun hg => zZ rfl rfl qf (by exact zLb rfl)) (jm rfl (fun hg => zi rfl rfl) (jm rfl (fun hg => zq rfl rfl) (jm rfl (fun hg => zi rfl rfl) ?_))))
     refine jm (x := .pub (.tup [])) rfl (fun hg => absurd hg (by decide)) ?_
     refine jm (x := .pub (.tup [])) rfl (fun hg => absurd hg (by decide)) ?_
     refine jm rfl (fun hg => zi rfl rfl) ?_
     refine jm (x := .pub (.tup [])) rfl (fun hg => absurd hg (by decide)) ?_
     refine jm (x := .pub (.tup [])) rfl (fun hg => absurd hg (by decide)) ?_
     refine zH rfl (zU rfl rfl (fun h => absurd h (by decide)) (fun _ => rfl)) ?_
     refine jw (zf (zx rfl (fun h1 => ?_) (fun h1 => ?_)))
     ·
      refine zh (zg rfl rfl (zq rfl rfl) (zg rfl rfl (zi rfl rfl) (zg rfl rfl (zG rfl rfl rfl zea (by omega) (ints_at hlt) kz) (zg rfl rfl (zA rfl rfl rfl jO) (zg rfl rfl (zW rfl rfl) (zg rfl rfl (zn rfl rfl) (zo (zD (zf (zh (zg rfl rfl (zi rfl rfl) ?_)))))))))))
      refine zg rfl rfl (zV rfl rfl rfl ⟨(by omega), (by omega)⟩) (zg rfl rfl (zn rfl rfl) (zo ?_))
      first | exact ⟨⟨k + 1, by omega⟩, by dsimp only; omega, zt _ ⟨rfl, rfl, rfl, rfl, (congrArg (fun z => EV.pub z) (by refine Eq.trans ?_ (congrArg bAV hs.symm); first | rfl | exact congrArg (fun z => bAV (some z)) (if_pos (by simpa using h1)).symm | exact congrArg (fun z => bAV (some z)) (if_neg (by simpa using h1)).symm)), (congrArg B (by exact Eq.trans rfl (congrArg Option.isSome hs.symm))), rfl, trivial⟩ rfl⟩ | exact absurd h1 (by decide)
     ·
      refine zC (zD (zf (zh (zg rfl rfl (zi rfl rfl) (zg rfl rfl (zV rfl rfl rfl ⟨(by omega), (by omega)⟩) (zg rfl rfl (zn rfl rfl) (zo ?_)))))))
      first | exact ⟨⟨k + 1, by omega⟩, by dsimp only; omega, zt _ ⟨rfl, rfl, rfl, rfl, (congrArg (fun z => EV.pub z) (by refine Eq.trans ?_ (congrArg bAV hs.symm); first | rfl | exact congrArg (fun z => bAV (some z)) (if_pos (by simpa using h1)).symm | exact congrArg (fun z => bAV (some z)) (if_neg (by simpa using h1)).symm)), (congrArg B (by exact Eq.trans rfl (congrArg Option.isSome hs.symm))), rfl, trivial⟩ rfl⟩ | exact absurd h1 (by decide)
    ·
     have hs : (bsO nt words most (zuK nt a z) (k + 1)) = some (zuK nt a z)[k] := by rw [zxQ hlt (by simpa using hb2), hr]
     refine qY mixed (by kernel_rfl) rfl ?_
     refine zH rfl (zZ rfl rfl qf (by exact zLb rfl)) (zH rfl (zq rfl rfl) (zH rfl (zi rfl rfl) (zH rfl (zG rfl rfl rfl zea (by omega) (ints_at hlt) kz) (zH rfl (zA rfl rfl rfl jO) ?_))))
     refine zH rfl (zy (av := [_, _]) rfl ⟨rfl, rfl, trivial⟩ (f60 nt (zuK nt a z)[k] hn (by have := hgl _ hkm; omega) (hin _ hkm))) ?_
     refine zH rfl (zi rfl rfl) (zH rfl (zuz hb2 (zaq rfl rfl rfl)) (zH rfl (zi rfl rfl) (jm rfl (fun hg => zi rfl rfl) (jm rfl (fun hg => je rfl (rfl)) (jm rfl (fun hg => zi rfl (rfl)) (jm rfl (fun hg => zZ rfl rfl qf (by exact zLb rfl)) (jm rfl (fun hg => zi rfl rfl) (jm rfl (fun hg => zq rfl rfl) (jm rfl (fun hg => zi rfl rfl) ?_)))))))))
     refine jm (x := .pub (.tup [])) rfl (fun hg => absurd hg (by decide)) ?_
     refine jm (x := .pub (.tup [])) rfl (fun hg => absurd hg (by decide)) ?_
     refine jm rfl (fun hg => zi rfl rfl) ?_
     refine jm (x := .pub (.tup [])) rfl (fun hg => absurd hg (by decide)) ?_
     refine jm rfl (fun hg => zU rfl rfl (fun _ => rfl) (fun h => absurd h (by decide))) ?_
     refine zH rfl (qI rfl rfl rfl rfl) (jw (zf (zx rfl (fun h1 => ?_) (fun h1 => ?_))))
     ·
      refine zh (zg rfl rfl (zq rfl rfl) (zg rfl rfl (zi rfl rfl) (zg rfl rfl (zG rfl rfl rfl zea (by omega) (ints_at hlt) kz) (zg rfl rfl (zA rfl rfl rfl jO) (zg rfl rfl (zW rfl rfl) (zg rfl rfl (zn rfl rfl) (zo (zD (zf (zh (zg rfl rfl (zi rfl rfl) ?_)))))))))))
      refine zg rfl rfl (zV rfl rfl rfl ⟨(by omega), (by omega)⟩) (zg rfl rfl (zn rfl rfl) (zo ?_))
      first | exact ⟨⟨k + 1, by omega⟩, by dsimp only; omega, zt _ ⟨rfl, rfl, rfl, rfl, (congrArg (fun z => EV.pub z) (by refine Eq.trans ?_ (congrArg bAV hs.symm); first | rfl | exact congrArg (fun z => bAV (some z)) (if_pos (by simpa using h1)).symm | exact congrArg (fun z => bAV (some z)) (if_neg (by simpa using h1)).symm)), (congrArg B (by exact Eq.trans rfl (congrArg Option.isSome hs.symm))), rfl, trivial⟩ rfl⟩ | exact absurd h1 (by decide)
     ·
      refine zC (zD (zf (zh (zg rfl rfl (zi rfl rfl) (zg rfl rfl (zV rfl rfl rfl ⟨(by omega), (by omega)⟩) (zg rfl rfl (zn rfl rfl) (zo ?_)))))))
      first | exact ⟨⟨k + 1, by omega⟩, by dsimp only; omega, zt _ ⟨rfl, rfl, rfl, rfl, (congrArg (fun z => EV.pub z) (by refine Eq.trans ?_ (congrArg bAV hs.symm); first | rfl | exact congrArg (fun z => bAV (some z)) (if_pos (by simpa using h1)).symm | exact congrArg (fun z => bAV (some z)) (if_neg (by simpa using h1)).symm)), (congrArg B (by exact Eq.trans rfl (congrArg Option.isSome hs.symm))), rfl, trivial⟩ rfl⟩ | exact absurd h1 (by decide)
   ·
    refine Exists.elim (zyU hb) (fun r hr => ?_)
    have hrm := zzF hgl hin hr
    refine qx (zt (mem' := []) [(3, I words), (4, I most), (5, .pub (.ptr (eNt nt))), (12, .pub (jc (zuK nt a z))), (13, .pub (nums r)), (14, B true), (15, I (k : Int))] ?_ ?_) ?_
    ·
     exact ⟨rfl, rfl, rfl, rfl, (congrArg (fun z => EV.pub (bAV z)) hr), (congrArg (fun z : Option (List Int) => B z.isSome) hr), rfl, trivial⟩
    ·
     exact (rfl)
    refine Or.elim (zrJ (decide (grb nt (zuK nt a z)[k] <= most))) (fun hb2 => ?_) (fun hb2 => ?_)
    ·
     have hs : (bsO nt words most (zuK nt a z) (k + 1)) = some r := by rw [zyY hlt (by simpa using hb2), hr]
     refine qY mixed (by kernel_rfl) rfl ?_
     refine zH rfl (zZ rfl rfl qf (by exact zLb rfl)) (zH rfl (zq rfl rfl) (zH rfl (zi rfl rfl) (zH rfl (zG rfl rfl rfl zea (by omega) (ints_at hlt) kz) (zH rfl (zA rfl rfl rfl jO) ?_))))
     refine zH rfl (zy (av := [_, _]) rfl ⟨rfl, rfl, trivial⟩ (f60 nt (zuK nt a z)[k] hn (by have := hgl _ hkm; omega) (hin _ hkm))) ?_
     refine zH rfl (zi rfl rfl) (zH rfl (zuz hb2 (zaq rfl rfl rfl)) (zH rfl (zi rfl rfl) (jm rfl (fun hg => zi rfl rfl) ?_)))
     refine jm (x := .pub (.tup [])) rfl (fun hg => absurd hg (by decide)) ?_
     refine jm rfl (fun hg => zq rfl (rfl)) (jm rfl (fun hg => zZ rfl rfl qf (by exact zLb rfl)) (jm rfl (fun hg => zi rfl rfl) (jm rfl (fun hg => zq rfl rfl) (jm rfl (fun hg => zi rfl rfl) ?_))))
     refine jm (x := .pub (.tup [])) rfl (fun hg => absurd hg (by decide)) ?_
     refine jm (x := .pub (.tup [])) rfl (fun hg => absurd hg (by decide)) ?_
     refine jm rfl (fun hg => zq rfl rfl) ?_
     refine jm (x := .pub (.tup [])) rfl (fun hg => absurd hg (by decide)) ?_
     refine jm (x := .pub (.tup [])) rfl (fun hg => absurd hg (by decide)) ?_
     refine zH rfl (zU rfl rfl (fun h => absurd h (by decide)) (fun _ => rfl)) ?_
     refine jw (zf (zx rfl (fun h1 => ?_) (fun h1 => ?_)))
     ·
      refine zh (zg rfl rfl (zq rfl rfl) (zg rfl rfl (zi rfl rfl) (zg rfl rfl (zG rfl rfl rfl zea (by omega) (ints_at hlt) kz) (zg rfl rfl (zA rfl rfl rfl jO) (zg rfl rfl (zW rfl rfl) (zg rfl rfl (zn rfl rfl) (zo (zD (zf (zh (zg rfl rfl (zi rfl rfl) ?_)))))))))))
      refine zg rfl rfl (zV rfl rfl rfl ⟨(by omega), (by omega)⟩) (zg rfl rfl (zn rfl rfl) (zo ?_))
      first | exact ⟨⟨k + 1, by omega⟩, by dsimp only; omega, zt _ ⟨rfl, rfl, rfl, rfl, (congrArg (fun z => EV.pub z) (by refine Eq.trans ?_ (congrArg bAV hs.symm); first | rfl | exact congrArg (fun z => bAV (some z)) (if_pos (by simpa using h1)).symm | exact congrArg (fun z => bAV (some z)) (if_neg (by simpa using h1)).symm)), (congrArg B (by exact Eq.trans rfl (congrArg Option.isSome hs.symm))), rfl, trivial⟩ rfl⟩ | exact absurd h1 (by decide)
     ·
      refine zC (zD (zf (zh (zg rfl rfl (zi rfl rfl) (zg rfl rfl (zV rfl rfl rfl ⟨(by omega), (by omega)⟩) (zg rfl rfl (zn rfl rfl) (zo ?_)))))))
      first | exact ⟨⟨k + 1, by omega⟩, by dsimp only; omega, zt _ ⟨rfl, rfl, rfl, rfl, (congrArg (fun z => EV.pub z) (by refine Eq.trans ?_ (congrArg bAV hs.symm); first | rfl | exact congrArg (fun z => bAV (some z)) (if_pos (by simpa using h1)).symm | exact congrArg (fun z => bAV (some z)) (if_neg (by simpa using h1)).symm)), (congrArg B (by exact Eq.trans rfl (congrArg Option.isSome hs.symm))), rfl, trivial⟩ rfl⟩ | exact absurd h1 (by decide)
    ·
     have hs : (bsO nt words most (zuK nt a z) (k + 1)) = some (if bt3 nt words (zuK nt a z)[k] r then (zuK nt a z)[k] else r) := by rw [zxQ hlt (by simpa using hb2), hr]
     refine qY mixed (by kernel_rfl) rfl ?_
     refine zH rfl (zZ rfl rfl qf (by exact zLb rfl)) (zH rfl (zq rfl rfl) (zH rfl (zi rfl rfl) (zH rfl (zG rfl rfl rfl zea (by omega) (ints_at hlt) kz) (zH rfl (zA rfl rfl rfl jO) ?_))))
     refine zH rfl (zy (av := [_, _]) rfl ⟨rfl, rfl, trivial⟩ (f60 nt (zuK nt a z)[k] hn (by have := hgl _ hkm; omega) (hin _ hkm))) ?_
     refine zH rfl (zi rfl rfl) (zH rfl (zuz hb2 (zaq rfl rfl rfl)) (zH rfl (zi rfl rfl) (jm rfl (fun hg => zi rfl rfl) (jm rfl (fun hg => je rfl (rfl)) (jm rfl (fun hg => zi rfl (rfl)) (jm rfl (fun hg => zZ rfl rfl qf (by exact zLb rfl)) (jm rfl (fun hg => zi rfl rfl) (jm rfl (fun hg => zq rfl rfl) (jm rfl (fun hg => zi rfl rfl) (jm rfl (fun hg => zG rfl rfl rfl zea (by omega) (ints_at hlt) kz) (jm rfl (fun hg => zA rfl rfl rfl jO) ?_)))))))))))
     refine jm rfl (fun hg => zq rfl rfl) ?_
     refine jm rfl (fun hg => zy (av := [_, _, _, _]) rfl ⟨(rfl), (rfl), (rfl), (rfl), trivial⟩ (f61 nt words (zuK nt a z)[k] r hn hw ⟨by have := hgl _ hkm; omega, hin _ hkm⟩ ⟨by omega, hrm.2⟩)) ?_
     refine jm rfl (fun hg => qU rfl rfl rfl rfl) (zH rfl (qI rfl rfl rfl rfl) (jw (zf (zx rfl (fun h1 => ?_) (fun h1 => ?_)))))
     ·
      refine zh (zg rfl rfl (zq rfl rfl) (zg rfl rfl (zi rfl rfl) (zg rfl rfl (zG rfl rfl rfl zea (by omega) (ints_at hlt) kz) (zg rfl rfl (zA rfl rfl rfl jO) (zg rfl rfl (zW rfl rfl) (zg rfl rfl (zn rfl rfl) (zo (zD (zf (zh (zg rfl rfl (zi rfl rfl) ?_)))))))))))
      refine zg rfl rfl (zV rfl rfl rfl ⟨(by omega), (by omega)⟩) (zg rfl rfl (zn rfl rfl) (zo ?_))
      first | exact ⟨⟨k + 1, by omega⟩, by dsimp only; omega, zt _ ⟨rfl, rfl, rfl, rfl, (congrArg (fun z => EV.pub z) (by refine Eq.trans ?_ (congrArg bAV hs.symm); first | rfl | exact congrArg (fun z => bAV (some z)) (if_pos (by simpa using h1)).symm | exact congrArg (fun z => bAV (some z)) (if_neg (by simpa using h1)).symm)), (congrArg B (by exact Eq.trans rfl (congrArg Option.isSome hs.symm))), rfl, trivial⟩ rfl⟩ | exact absurd h1 (by decide)
     ·
      refine zC (zD (zf (zh (zg rfl rfl (zi rfl rfl) (zg rfl rfl (zV rfl rfl rfl ⟨(by omega), (by omega)⟩) (zg rfl rfl (zn rfl rfl) (zo ?_)))))))
      first | exact ⟨⟨k + 1, by omega⟩, by dsimp only; omega, zt _ ⟨rfl, rfl, rfl, rfl, (congrArg (fun z => EV.pub z) (by refine Eq.trans ?_ (congrArg bAV hs.symm); first | rfl | exact congrArg (fun z => bAV (some z)) (if_pos (by simpa using h1)).symm | exact congrArg (fun z => bAV (some z)) (if_neg (by simpa using h1)).symm)), (congrArg B (by exact Eq.trans rfl (congrArg Option.isSome hs.symm))), rfl, trivial⟩ rfl⟩ | exact absurd h1 (by decide)
  ·
   have hge : (zuK nt a z).length <= k := by simpa [jc] using h0
   refine qp (zL (zL (qw (zf (zl (zh (zg rfl rfl (zq rfl rfl) (zg rfl rfl (zi rfl rfl) (zg rfl rfl (zW rfl rfl) (zg rfl rfl (zn rfl rfl) (zo ?_)))))))))))
   refine zf (zP ?_)
   exact ⟨.inr rfl, ⟨_, rfl, ⟨_, _, rfl, AVle.of (by rw [zxN hge]), ⟨_, _, rfl, AVle.of (by rw [zxN hge]), rfl⟩⟩⟩⟩
end Go.Av
end
