
import Derived.Test.YtaphehlgijlfeaaGreatDoorWiP5
set_option linter.unusedVariables false
set_option linter.unusedSimpArgs false
section
namespace Go.Av
open Go.Proofs
set_option maxRecDepth 100000
set_option maxHeartbeats 1000000
variable {G : Glob}
def rdU (c : Cod) (bk : List Ent) (ts : LS) : List Int × Bool := if ts = [] then ([], false) else if ts.dropLast.all (zvZ bk) = true /\ wS c (zvx bk ts) = true then (zvx bk ts, decide (ts.getLast? = some (chk (zvx bk ts)).chs)) else ([], false)
def tqN (bk : List Ent) (w : List UInt8) (q : Nat) : List Int := match zuK (bk.take q) w with
 | some e => [e.first, e.second]
 | none => []
theorem zxW (bk : List Ent) (w : List UInt8) {q : Nat} (h : q < bk.length) : zuK (bk.take (q + 1)) w = (zuK (bk.take q) w).or (if bk[q].word = w then some bk[q] else none) := by
 unfold zuK
 rw [List.take_succ_eq_append_getElem h, List.find?_append]
 simp only [List.find?_cons, List.find?_nil]
 by_cases hw : bk[q].word = w
 ·
  simp [hw]
 ·
  simp [hw]
theorem zAK {bk : List Ent} {w : List UInt8} {q : Nat} (h : q < bk.length) (hn : (bk.map (·.word)).Nodup) (hw : bk[q].word = w) : zuK (bk.take q) w = none /\ zuK (bk.take (q + 1)) w = some bk[q] := by
 have h0 : zuK (bk.take q) w = none := by
  unfold zuK
  rw [List.find?_eq_none]
  intro e he hc
  simp only [decide_eq_true_eq] at hc
  obtain ⟨i, hi, rfl⟩ := List.getElem_of_mem he
  simp only [List.length_take] at hi
  rw [List.getElem_take] at hc
  have hne := (List.pairwise_iff_getElem.1 hn) i q (by simp; omega) (by simp; omega) (by omega)
  simp only [List.getElem_map] at hne
  exact hne (hc.trans hw.symm)
 refine ⟨h0, ?_⟩
 rw [zxW bk w h, h0, if_pos hw]; rfl
theorem zBp {bk : List Ent} {w : List UInt8} {q : Nat} (h : q < bk.length) (hn : (bk.map (·.word)).Nodup) (hw : bk[q].word = w) : tqN bk w (q + 1) = tqN bk w q ++ [bk[q].first, bk[q].second] /\ (zuK (bk.take (q + 1)) w).isSome = true := by
 obtain ⟨h1, h2⟩ := zAK h hn hw
 unfold tqN
 rw [h1, h2]; exact ⟨rfl, rfl⟩
theorem zBJ {bk : List Ent} {w : List UInt8} {q : Nat} (h : q < bk.length) (hw : bk[q].word ≠ w) : tqN bk w (q + 1) = tqN bk w q /\ zuK (bk.take (q + 1)) w = zuK (bk.take q) w := by
 have h1 : zuK (bk.take (q + 1)) w = zuK (bk.take q) w := by rw [zxW bk w h, if_neg hw, Option.or_none]
 unfold tqN
 rw [h1]; exact ⟨rfl, rfl⟩
theorem zw3 (bk : List Ent) (w : List UInt8) (q : Nat) : (tqN bk w q).length <= 2 := by unfold tqN; split <;> simp
theorem zA8 {bk : List Ent} {w : List UInt8} : tqN bk w bk.length = if (zuK bk w).isSome = true then zuM bk w else [] := by
 unfold tqN zuM
 rw [List.take_length]
 cases zuK bk w with
 | none => rfl
 | some e => rfl
theorem zAJ {w : List UInt8} {j : Nat} (h : j < w.length) (hf : zl8 (w[j].toNat : Int) = false) : ofB zl8 w = false := zqo h hf
theorem zAS (x y : List UInt8) : (x == y) = decide (x = y) := by by_cases h : x = y <;> simp [h]
theorem zxi {w : List UInt8} (h : w.length ≠ 5) : ofB zl8 w = false := by unfold ofB; rw [decide_eq_false h, Bool.and_false]
theorem zAD (c : Cod) (bk : List Ent) (ts : LS) (hc : c.fields.length <= 1000 /\ c.turns.length <= 1000) (hb : bk.length <= 1000) (hbk : zuB bk = true) (hl : ts.length <= 400) {a : List Int} {b : Bool} (hr : rdU c bk ts = (a, b)) (hne : ts = []) : ACall Tryz.prog G 73 [.agg (qK c), eBk bk, jD ts] (.tup [zO a, .v (.bool b)]) := by
 have hz : a = [] /\ b = false := by unfold rdU at hr; rw [if_pos hne] at hr; cases hr; exact ⟨rfl, rfl⟩
 refine zS Tryz.func73 rfl (by kernel_rfl) rfl ?_
 refine zl (zh (zg rfl rfl (jf rfl (zY rfl)) ?_))
 first | refine zg rfl rfl (zn rfl rfl) ?_ | refine zg rfl rfl (zW rfl rfl) ?_ | refine zg rfl rfl (qo rfl rfl) ?_ | refine zg rfl rfl (qV rfl rfl) ?_
 first | refine zg rfl rfl (zn rfl rfl) ?_ | refine zg rfl rfl (zW rfl rfl) ?_ | refine zg rfl rfl (qo rfl rfl) ?_ | refine zg rfl rfl (qV rfl rfl) ?_
 refine zo (zf (zl (zl (zh ?_))))
 first | refine zg rfl rfl (zi rfl rfl) ?_ | refine zg rfl rfl (zq rfl rfl) ?_ | refine zg rfl rfl (zI rfl rfl) ?_ | refine zg rfl rfl (zM rfl rfl) ?_
 refine zg rfl rfl (zuz rfl rfl Tryz.underlying34) (zg rfl rfl (qJ rfl rfl rfl) (zo (zf (zx rfl (fun h0 => ?_) (fun h0 => ?_)))))
 ·
  refine zl (zh ?_)
  first | refine zg rfl rfl (zn rfl rfl) ?_ | refine zg rfl rfl (zW rfl rfl) ?_ | refine zg rfl rfl (qo rfl rfl) ?_ | refine zg rfl rfl (qV rfl rfl) ?_
  first | refine zg rfl rfl (zn rfl rfl) ?_ | refine zg rfl rfl (zW rfl rfl) ?_ | refine zg rfl rfl (qo rfl rfl) ?_ | refine zg rfl rfl (qV rfl rfl) ?_
  refine zo (zf (zP (zQ ?_)))
  exact ⟨.inr rfl, ⟨_, rfl, ⟨_, _, rfl, (by rw [hz.1]; exact AVle.nil), ⟨_, _, rfl, (by rw [hz.2]; exact AVle.refl _), rfl⟩⟩⟩⟩
 ·
  exfalso; subst hne; simp at h0
theorem zAs (c : Cod) (bk : List Ent) (ts : LS) (hc : c.fields.length <= 1000 /\ c.turns.length <= 1000) (hb : bk.length <= 1000) (hbk : zuB bk = true) (hl : ts.length <= 400) {a : List Int} {b : Bool} (hr : rdU c bk ts = (a, b)) (hne : ts ≠ []) : ACall Tryz.prog G 73 [.agg (qK c), eBk bk, jD ts] (.tup [zO a, .v (.bool b)]) := by
 obtain ⟨R, hR⟩ : ∃ R, ts.dropLast = R := ⟨_, rfl⟩
 have hpos := List.length_pos_iff.2 hne
 have hRl : R.length + 1 = ts.length := by rw [← hR, List.length_dropLast]; omega
 have hnd := zwk hbk
 obtain ⟨x, hx⟩ : ∃ x, ts.getLast? = some x := ⟨_, List.getLast?_eq_some_getLast hne⟩
 have hat : ∀ k (h : k < R.length), (ts.map fun s => [eS s])[k]? = some [eS R[k]] := fun k h => by subst hR; simp at h ⊢; try omega
 refine zS Tryz.func73 rfl (by kernel_rfl) rfl ?_
 refine zl (zh (zg rfl rfl (jf rfl (zY rfl)) ?_))
 first | refine zg rfl rfl (zn rfl rfl) ?_ | refine zg rfl rfl (zW rfl rfl) ?_ | refine zg rfl rfl (qo rfl rfl) ?_ | refine zg rfl rfl (qV rfl rfl) ?_
 first | refine zg rfl rfl (zn rfl rfl) ?_ | refine zg rfl rfl (zW rfl rfl) ?_ | refine zg rfl rfl (qo rfl rfl) ?_ | refine zg rfl rfl (qV rfl rfl) ?_
 refine zo (zf (zl (zl (zh ?_))))
 first | refine zg rfl rfl (zi rfl rfl) ?_ | refine zg rfl rfl (zq rfl rfl) ?_ | refine zg rfl rfl (zI rfl rfl) ?_ | refine zg rfl rfl (zM rfl rfl) ?_
 refine zg rfl rfl (zuz rfl rfl Tryz.underlying34) (zg rfl rfl (qJ rfl rfl rfl) (zo (zf (zx rfl (fun h0 => ?_) (fun h0 => ?_)))))
 ·
  exfalso; first | (simp at h0; exact hne h0) | (simp at h0; omega)
 ·
  refine zC (zf (zl (zh ?_)))
  first | refine zg rfl rfl (zn rfl rfl) ?_ | refine zg rfl rfl (zW rfl rfl) ?_ | refine zg rfl rfl (qo rfl rfl) ?_ | refine zg rfl rfl (qV rfl rfl) ?_
  refine zo (zf (zl (zl (zh ?_))))
  first | refine zg rfl rfl (zn rfl rfl) ?_ | refine zg rfl rfl (zW rfl rfl) ?_ | refine zg rfl rfl (qo rfl rfl) ?_ | refine zg rfl rfl (qV rfl rfl) ?_
  refine zo (zf (zB ?_))
  refine qx (kG 8 rfl) ?_
  refine qy (ι := { k : Nat // k <= R.length /\ (R.take k).all (zvZ bk) = true }) (fun k => ⟨Tryz.f73.ntmps, frL [(1, .pub (eBk bk)), (2, .pub (jD ts)), (3, .pub (.ptr (qK c))), (8, .psl 0 ((R.take k.1).flatMap (zuM bk)).length), (9, I (k.1 : Int))], [.row (((R.take k.1).flatMap (zuM bk)).map fun n => [I n])]⟩) (fun k => R.length - k.1) (⟨0, by simp⟩) ?_ ?_
  ·
   exact zt _ ⟨rfl, rfl, rfl, rfl, rfl, trivial⟩ (rfl)
  ·
   rintro ⟨k, hk⟩
   dsimp only
   refine zl (zl (zh ?_))
   first | refine zg rfl rfl (zi rfl rfl) ?_ | refine zg rfl rfl (zq rfl rfl) ?_ | refine zg rfl rfl (zI rfl rfl) ?_ | refine zg rfl rfl (zM rfl rfl) ?_
   first | refine zg rfl rfl (zi rfl rfl) ?_ | refine zg rfl rfl (zq rfl rfl) ?_ | refine zg rfl rfl (zI rfl rfl) ?_ | refine zg rfl rfl (zM rfl rfl) ?_
   refine zg rfl rfl (zuz rfl rfl Tryz.underlying34) (zg rfl rfl (ze5 rfl rfl rfl ⟨(by omega), (by omega)⟩) (zg rfl rfl (qi rfl rfl rfl) (zo (zf (zx rfl (fun h1 => ?_) (fun h1 => ?_))))))
   ·
    have hlt : k < R.length := by simp at h1; omega
    refine zC (zf (zl (zB (zl (zh ?_)))))
    first | refine zg rfl rfl (zi rfl rfl) ?_ | refine zg rfl rfl (zq rfl rfl) ?_ | refine zg rfl rfl (zI rfl rfl) ?_ | refine zg rfl rfl (zM rfl rfl) ?_
    first | refine zg rfl rfl (zi rfl rfl) ?_ | refine zg rfl rfl (zq rfl rfl) ?_ | refine zg rfl rfl (zI rfl rfl) ?_ | refine zg rfl rfl (zM rfl rfl) ?_
    first | refine zg rfl rfl (zG rfl rfl rfl yJ (by omega) (hat k hlt) vZ) ?_ | refine zg rfl rfl (qc rfl rfl rfl rfl rfl yJ (by omega) (hat k hlt) vZ) ?_
    first | refine zg rfl rfl (zA rfl rfl rfl ty9) ?_ | refine zg rfl rfl (zK rfl rfl rfl rfl rfl rfl ty9) ?_
    first | refine zg rfl rfl (zn rfl rfl) ?_ | refine zg rfl rfl (zW rfl rfl) ?_ | refine zg rfl rfl (qo rfl rfl) ?_ | refine zg rfl rfl (qV rfl rfl) ?_
    first | refine zg rfl rfl (zn rfl rfl) ?_ | refine zg rfl rfl (zW rfl rfl) ?_ | refine zg rfl rfl (qo rfl rfl) ?_ | refine zg rfl rfl (qV rfl rfl) ?_
    refine zo (zf (zl (zl (zh ?_))))
    first | refine zg rfl rfl (zn rfl rfl) ?_ | refine zg rfl rfl (zW rfl rfl) ?_ | refine zg rfl rfl (qo rfl rfl) ?_ | refine zg rfl rfl (qV rfl rfl) ?_
    refine zo (zf (zB ?_))
    refine qy (ι := { q : Nat // q <= bk.length }) (fun q => ⟨Tryz.f73.ntmps, frL [(1, .pub (eBk bk)), (2, .pub (jD ts)), (3, .pub (.ptr (qK c))), (8, .psl 0 (((R.take k).flatMap (zuM bk)) ++ tqN bk (R[k]'hlt) q.1).length), (9, I (k : Int)), (10, SL (R[k]'hlt)), (11, B (zuK (bk.take q.1) (R[k]'hlt)).isSome), (12, I (q.1 : Int))], [.row ((((R.take k).flatMap (zuM bk)) ++ tqN bk (R[k]'hlt) q.1).map fun n => [I n])]⟩) (fun q => bk.length - q.1) (⟨0, by omega⟩) ?_ ?_
    ·
     exact zt _ ⟨rfl, rfl, rfl, (congrArg (EV.psl 0) (by simp [tqN, zuK])), rfl, rfl, (congrArg B (by simp [zuK])), rfl, trivial⟩ (congrArg (fun z => [PO.row z]) (by simp [tqN, zuK]))
    ·
     rintro ⟨q, hq⟩
     dsimp only
     refine zl (zl (zh ?_))
     first | refine zg rfl rfl (zi rfl rfl) ?_ | refine zg rfl rfl (zq rfl rfl) ?_ | refine zg rfl rfl (zI rfl rfl) ?_ | refine zg rfl rfl (zM rfl rfl) ?_
     first | refine zg rfl rfl (zi rfl rfl) ?_ | refine zg rfl rfl (zq rfl rfl) ?_ | refine zg rfl rfl (zI rfl rfl) ?_ | refine zg rfl rfl (zM rfl rfl) ?_
     refine zg rfl rfl (zuz rfl rfl Tryz.underlying63) (zg rfl rfl (qi rfl rfl rfl) (zo (zf (zx rfl (fun h2 => ?_) (fun h2 => ?_)))))
     ·
      have hltq : q < bk.length := by simpa [eBk] using h2
      refine zC (zf (zl (zB (zl (zh ?_)))))
      first | refine zg rfl rfl (zi rfl rfl) ?_ | refine zg rfl rfl (zq rfl rfl) ?_ | refine zg rfl rfl (zI rfl rfl) ?_ | refine zg rfl rfl (zM rfl rfl) ?_
      first | refine zg rfl rfl (zi rfl rfl) ?_ | refine zg rfl rfl (zq rfl rfl) ?_ | refine zg rfl rfl (zI rfl rfl) ?_ | refine zg rfl rfl (zM rfl rfl) ?_
      first | refine zg rfl rfl (zG rfl rfl rfl zu4 (by omega) (zuT hltq) zuN) ?_ | refine zg rfl rfl (qc rfl rfl rfl rfl rfl zu4 (by omega) (zuT hltq) zuN) ?_
      first | refine zg rfl rfl (zu rfl rfl zuW) ?_ | refine zg rfl rfl (qE rfl rfl rfl rfl zuW) ?_
      first | refine zg rfl rfl (zA rfl rfl rfl ty9) ?_ | refine zg rfl rfl (zK rfl rfl rfl rfl rfl rfl ty9) ?_
      first | refine zg rfl rfl (zi rfl rfl) ?_ | refine zg rfl rfl (zq rfl rfl) ?_ | refine zg rfl rfl (zI rfl rfl) ?_ | refine zg rfl rfl (zM rfl rfl) ?_
      refine zg rfl rfl (zof rfl rfl rfl) (zo (zf (zx rfl (fun h3 => ?_) (fun h3 => ?_))))
      ·
       have htq := zBp hltq hnd (show bk[q].word = R[k] by simpa using h3)
       refine wR (fun _ => True) (fun k => match k with | 1 => .stable | 2 => .stable | 3 => .stable | 4 => .stable | 5 => .stable | 6 => .stable | 7 => .stable | 8 => .stable | 9 => .stable | 10 => .stable | 12 => .writes | 13 => .stable | 14 => .stable | _ => .here) mixed (by kernel_rfl) rfl (by kernel_rfl) trivial ?_
       first | refine zX rfl rfl (zi rfl rfl) ?_ | refine zX rfl rfl (zq rfl rfl) ?_ | refine zX rfl rfl (zI rfl rfl) ?_ | refine zX rfl rfl (zM rfl rfl) ?_
       first | refine wo rfl rfl (fun m hm => zi rfl rfl) ?_ | refine wo rfl rfl (fun m hm => zq rfl rfl) ?_ | refine wo rfl rfl (fun m hm => zI rfl rfl) ?_ | refine wo rfl rfl (fun m hm => zM rfl rfl) ?_
       first | refine wo rfl rfl (fun m hm => zi rfl rfl) ?_ | refine wo rfl rfl (fun m hm => zq rfl rfl) ?_ | refine wo rfl rfl (fun m hm => zI rfl rfl) ?_ | refine wo rfl rfl (fun m hm => zM rfl rfl) ?_
       first | refine wo rfl rfl (fun m hm => zG rfl rfl rfl zu4 (by omega) (zuT hltq) zuN) ?_ | refine wo rfl rfl (fun m hm => qc rfl rfl rfl rfl rfl zu4 (by omega) (zuT hltq) zuN) ?_
       first | refine wo rfl rfl (fun m hm => zu rfl rfl zvf) ?_ | refine wo rfl rfl (fun m hm => qE rfl rfl hm.choose_spec.1 hm.choose_spec.2 zvf) ?_
       first | refine wo rfl rfl (fun m hm => zA rfl rfl rfl ty3) ?_ | refine wo rfl rfl (fun m hm => zK rfl rfl rfl rfl rfl rfl ty3) ?_
       first | refine wo rfl rfl (fun m hm => zi rfl rfl) ?_ | refine wo rfl rfl (fun m hm => zq rfl rfl) ?_ | refine wo rfl rfl (fun m hm => zI rfl rfl) ?_ | refine wo rfl rfl (fun m hm => zM rfl rfl) ?_
       first | refine wo rfl rfl (fun m hm => zi rfl rfl) ?_ | refine wo rfl rfl (fun m hm => zq rfl rfl) ?_ | refine wo rfl rfl (fun m hm => zI rfl rfl) ?_ | refine wo rfl rfl (fun m hm => zM rfl rfl) ?_
       first | refine wo rfl rfl (fun m hm => zG rfl rfl rfl zu4 (by omega) (zuT hltq) zuN) ?_ | refine wo rfl rfl (fun m hm => qc rfl rfl rfl rfl rfl zu4 (by omega) (zuT hltq) zuN) ?_
       first | refine wo rfl rfl (fun m hm => zu rfl rfl zvc) ?_ | refine wo rfl rfl (fun m hm => qE rfl rfl hm.choose_spec.1 hm.choose_spec.2 zvc) ?_
       first | refine wo rfl rfl (fun m hm => zA rfl rfl rfl ty3) ?_ | refine wo rfl rfl (fun m hm => zK rfl rfl rfl rfl rfl rfl ty3) ?_
       refine zX rfl rfl (qg (size := 1) (rows := [[_], [_]]) rfl Tryz.underlying23 ti3 rfl (by decide) rfl (by decide) ⟨_, _, rfl, (by first | exact jF rfl | exact kQ rfl | exact zuw rfl | exact zY rfl | exact zbO rfl rfl (by simp) | exact zkN rfl | exact zux rfl | exact zuv rfl), ⟨_, _, rfl, (by first | exact jF rfl | exact kQ rfl | exact zuw rfl | exact zY rfl | exact zbO rfl rfl (by simp) | exact zkN rfl | exact zux rfl | exact zuv rfl), rfl⟩⟩ (by rfl) (by simp [ofV]) rfl (by simp)) ?_
       refine zaw rfl rfl (zj3 rfl rfl rfl (by simp) rfl zvw (by intro r hr; obtain ⟨n, _, rfl⟩ := List.mem_map.1 hr; rfl) (by simp) (by have := zuZ bk (R.take k); have h9 := zw3 bk (R[k]'hlt) q; simp at this ⊢; omega) (by unfold maxLen; have := zuZ bk (R.take k); have h9 := zw3 bk (R[k]'hlt) q; simp at this ⊢; omega)) trivial ?_
       first | refine wo rfl rfl (fun m hm => zn rfl rfl) ?_ | refine wo rfl rfl (fun m hm => zW rfl rfl) ?_ | refine wo rfl rfl (fun m hm => qo rfl rfl) ?_ | refine wo rfl rfl (fun m hm => qV rfl rfl) ?_
       first | refine wo rfl rfl (fun m hm => zn rfl rfl) ?_ | refine wo rfl rfl (fun m hm => zW rfl rfl) ?_ | refine wo rfl rfl (fun m hm => qo rfl rfl) ?_ | refine wo rfl rfl (fun m hm => qV rfl rfl) ?_
       refine wQ (zD (zf (zh ?_)))
       first | refine zg rfl rfl (zi rfl rfl) ?_ | refine zg rfl rfl (zq rfl rfl) ?_ | refine zg rfl rfl (zI rfl rfl) ?_ | refine zg rfl rfl (zM rfl rfl) ?_
       refine zg rfl rfl (zV rfl rfl rfl ⟨(by omega), (by omega)⟩) ?_
       first | refine zg rfl rfl (zn rfl rfl) ?_ | refine zg rfl rfl (zW rfl rfl) ?_ | refine zg rfl rfl (qo rfl rfl) ?_ | refine zg rfl rfl (qV rfl rfl) ?_
       refine zo ?_
       exact ⟨⟨q + 1, by omega⟩, by dsimp only; omega, zt _ ⟨rfl, rfl, rfl, (congrArg (EV.psl 0) (by rw [htq.1]; first | done | (simp; done) | (simp; omega))), rfl, rfl, (congrArg B (by first | exact htq.2.symm | (rw [htq.2]))), rfl, trivial⟩ (congrArg (fun z => [PO.row z]) (by rw [htq.1]; first | done | (simp; done)))⟩
      ·
       have htq := zBJ (w := R[k]'hlt) hltq (by simpa using h3)
       refine zC (zD (zf (zh ?_)))
       first | refine zg rfl rfl (zi rfl rfl) ?_ | refine zg rfl rfl (zq rfl rfl) ?_ | refine zg rfl rfl (zI rfl rfl) ?_ | refine zg rfl rfl (zM rfl rfl) ?_
       refine zg rfl rfl (zV rfl rfl rfl ⟨(by omega), (by omega)⟩) ?_
       first | refine zg rfl rfl (zn rfl rfl) ?_ | refine zg rfl rfl (zW rfl rfl) ?_ | refine zg rfl rfl (qo rfl rfl) ?_ | refine zg rfl rfl (qV rfl rfl) ?_
       refine zo ?_
       exact ⟨⟨q + 1, by omega⟩, by dsimp only; omega, zt _ ⟨rfl, rfl, rfl, (congrArg (EV.psl 0) (by rw [htq.1]; first | done | (simp; done) | (simp; omega))), rfl, rfl, (congrArg B (by first | exact htq.2.symm | (rw [htq.2]))), rfl, trivial⟩ (congrArg (fun z => [PO.row z]) (by rw [htq.1]; first | done | (simp; done)))⟩
     ·
      have hgeq : bk.length <= q := by simpa [eBk] using h2
      have hq2 : q = bk.length := by omega
      subst hq2
      have hte := zA8 (bk := bk) (w := R[k])
      rw [List.take_length] at *
      refine qp (zL (zL (qw (zf (zl (zl (zh ?_)))))))
      first | refine zg rfl rfl (zi rfl rfl) ?_ | refine zg rfl rfl (zq rfl rfl) ?_ | refine zg rfl rfl (zI rfl rfl) ?_ | refine zg rfl rfl (zM rfl rfl) ?_
      refine zo (zf (zx rfl (fun h4 => ?_) (fun h4 => ?_)))
      ·
       have hsm : (zuK bk R[k]).isSome = true := by simpa using h4
       have htk := zyN hsm
       have hst := zwd (bk := bk) hlt
       rw [if_pos hsm] at hte
       refine qp (zL (qw (zf (zh ?_))))
       first | refine zg rfl rfl (zi rfl rfl) ?_ | refine zg rfl rfl (zq rfl rfl) ?_ | refine zg rfl rfl (zI rfl rfl) ?_ | refine zg rfl rfl (zM rfl rfl) ?_
       refine zg rfl rfl (zV rfl rfl rfl ⟨(by omega), (by omega)⟩) ?_
       first | refine zg rfl rfl (zn rfl rfl) ?_ | refine zg rfl rfl (zW rfl rfl) ?_ | refine zg rfl rfl (qo rfl rfl) ?_ | refine zg rfl rfl (qV rfl rfl) ?_
       refine zo ?_
       exact ⟨⟨k + 1, by omega, xQ hk.2 hlt (by first | exact htk.2 | exact (htk.2.trans hof))⟩, by dsimp only; omega, zt _ ⟨rfl, rfl, rfl, (congrArg (EV.psl 0) (by first | (rw [hst, hte]; simp [htk.1]; done) | (rw [hst, hte]; simp [htk.1]; omega) | (rw [hst, hte]; done) | (rw [hst, hte]; simp; done))), rfl, trivial⟩ (congrArg (fun z => [PO.row z]) (by first | (rw [hst, hte]; simp [htk.1, hj2]; done) | (rw [hst, hte]; simp [htk.1]; done) | (rw [hst, hte]; done) | (rw [hst, hte]; simp; done)))⟩
      ·
       have hsm : (zuK bk R[k]).isSome = false := by simpa using h4
       have htk := zyb hsm
       have hst := zwd (bk := bk) hlt
       rw [if_neg (by rw [hsm]; decide)] at hte
       refine zC (zf (zl (zh ?_)))
       first | refine zg rfl rfl (zn rfl rfl) ?_ | refine zg rfl rfl (zW rfl rfl) ?_ | refine zg rfl rfl (qo rfl rfl) ?_ | refine zg rfl rfl (qV rfl rfl) ?_
       refine zo (zf (zl (zl (zh ?_))))
       first | refine zg rfl rfl (zn rfl rfl) ?_ | refine zg rfl rfl (zW rfl rfl) ?_ | refine zg rfl rfl (qo rfl rfl) ?_ | refine zg rfl rfl (qV rfl rfl) ?_
       refine zo (zf (zB ?_))
       refine qy (ι := { j : Nat // j <= (R[k]'hlt).length /\ ((R[k]'hlt).take j).all (fun b => zl8 (b.toNat : Int)) = true }) (fun j => ⟨Tryz.f73.ntmps, frL [(1, .pub (eBk bk)), (2, .pub (jD ts)), (3, .pub (.ptr (qK c))), (8, .psl 0 (((R.take k).flatMap (zuM bk)) ++ tqN bk (R[k]'hlt) bk.length).length), (9, I (k : Int)), (10, SL (R[k]'hlt)), (13, I (zvM ((R[k]'hlt).take j.1))), (14, I (j.1 : Int))], [.row ((((R.take k).flatMap (zuM bk)) ++ tqN bk (R[k]'hlt) bk.length).map fun n => [I n])]⟩) (fun j => (R[k]'hlt).length - j.1) (⟨0, by simp⟩) ?_ ?_
       ·
        exact zt _ ⟨rfl, rfl, rfl, rfl, rfl, rfl, (congrArg I (by simp [zvM])), rfl, trivial⟩ (rfl)
       ·
        rintro ⟨j, hj⟩
        dsimp only
        refine zl (zl (zh ?_))
        first | refine zg rfl rfl (zi rfl rfl) ?_ | refine zg rfl rfl (zq rfl rfl) ?_ | refine zg rfl rfl (zI rfl rfl) ?_ | refine zg rfl rfl (zM rfl rfl) ?_
        first | refine zg rfl rfl (zi rfl rfl) ?_ | refine zg rfl rfl (zq rfl rfl) ?_ | refine zg rfl rfl (zI rfl rfl) ?_ | refine zg rfl rfl (zM rfl rfl) ?_
        first | refine zg rfl rfl (wE rfl rfl Tryz.underlying9) ?_ | refine zg rfl rfl (wz rfl rfl Tryz.underlying9) ?_
        refine zg rfl rfl (qi rfl rfl rfl) (zo (zf (zx rfl (fun h5 => ?_) (fun h5 => ?_))))
        ·
         have hltj : j < (R[k]'hlt).length := by simpa using h5
         refine zC (zf (zl (zB (zl (zl (zh ?_))))))
         first | refine zg rfl rfl (zi rfl rfl) ?_ | refine zg rfl rfl (zq rfl rfl) ?_ | refine zg rfl rfl (zI rfl rfl) ?_ | refine zg rfl rfl (zM rfl rfl) ?_
         first | refine zg rfl rfl (zi rfl rfl) ?_ | refine zg rfl rfl (zq rfl rfl) ?_ | refine zg rfl rfl (zI rfl rfl) ?_ | refine zg rfl rfl (zM rfl rfl) ?_
         refine zg rfl rfl (wC rfl rfl rfl Tryz.underlying9 (by omega) (by rw [Int.toNat_natCast]; exact List.getElem?_eq_getElem hltj)) ?_
         refine zg rfl rfl (zy (av := [_]) rfl ⟨rfl, trivial⟩ (f120 _)) (zg rfl rfl (je rfl rfl) ?_)
         first | refine zg rfl rfl (zi rfl rfl) ?_ | refine zg rfl rfl (zq rfl rfl) ?_ | refine zg rfl rfl (zI rfl rfl) ?_ | refine zg rfl rfl (zM rfl rfl) ?_
         first | refine zk rfl rfl rfl (fun hg => zi rfl rfl) ?_ | refine zk rfl rfl rfl (fun hg => zq rfl rfl) ?_ | refine zk rfl rfl rfl (fun hg => zI rfl rfl) ?_ | refine zk rfl rfl rfl (fun hg => zM rfl rfl) ?_ | refine zk (x := .pub (.tup [])) rfl rfl rfl (fun hg => absurd hg (by decide)) ?_
         first | refine zk rfl rfl rfl (fun hg => wE rfl (by first | exact rfl | exact if_pos hg) Tryz.underlying9) ?_ | refine zk rfl rfl rfl (fun hg => wz rfl (by first | exact rfl | exact if_pos hg) Tryz.underlying9) ?_ | refine zk rfl rfl rfl (fun hg => wE rfl rfl Tryz.underlying9) ?_ | refine zk rfl rfl rfl (fun hg => wz rfl rfl Tryz.underlying9) ?_ | refine zk (x := .pub (.tup [])) rfl rfl rfl (fun hg => absurd hg (by decide)) ?_
         first | refine zk rfl rfl rfl (fun hg => vg rfl (by first | exact rfl | exact if_pos hg) rfl) ?_ | refine zk rfl rfl rfl (fun hg => vg rfl rfl rfl) ?_ | refine zk (x := .pub (.tup [])) rfl rfl rfl (fun hg => absurd hg (by decide)) ?_
         first | refine zg rfl rfl (qI rfl rfl rfl rfl) ?_ | refine zg rfl rfl (qU rfl rfl rfl rfl) ?_ | refine zg rfl rfl (zU rfl rfl (fun _ => rfl) (fun _ => rfl)) ?_ | refine zg rfl rfl (zU rfl rfl (fun _ => rfl) (fun h => absurd h (by decide))) ?_ | refine zg rfl rfl (zU rfl rfl (fun h => absurd h (by decide)) (fun _ => rfl)) ?_
         refine zo (zf (zx rfl (fun h6 => ?_) (fun h6 => ?_)))
         ·
          have hof : ofB zl8 R[k] = false := by
           cases hf : zl8 (R[k][j].toNat : Int) with
           | false => exact zAJ hltj hf
           | true => exact zxi (by simp [hf] at h6; omega)
          have hz : a = [] /\ b = false := by
           unfold rdU at hr
           rw [if_neg hne, hR, if_neg (by rw [List.all_eq_true]; intro hh; have := hh.1 _ (List.getElem_mem hlt); rw [htk.2, hof] at this; cases this)] at hr
           cases hr; exact ⟨rfl, rfl⟩
          refine zl (zh ?_)
          first | refine zg rfl rfl (zn rfl rfl) ?_ | refine zg rfl rfl (zW rfl rfl) ?_ | refine zg rfl rfl (qo rfl rfl) ?_ | refine zg rfl rfl (qV rfl rfl) ?_
          first | refine zg rfl rfl (zn rfl rfl) ?_ | refine zg rfl rfl (zW rfl rfl) ?_ | refine zg rfl rfl (qo rfl rfl) ?_ | refine zg rfl rfl (qV rfl rfl) ?_
          refine zo (zf (zP (zQ (qF (zQ (zQ (qF (zQ (qF (zQ (zQ ?_)))))))))))
          refine qF (zQ ?_)
          exact ⟨.inr rfl, ⟨_, rfl, ⟨_, _, rfl, (by rw [hz.1]; exact AVle.nil), ⟨_, _, rfl, (by rw [hz.2]; exact AVle.refl _), rfl⟩⟩⟩⟩
         ·
          have hfj : zl8 (R[k][j].toNat : Int) = true /\ R[k].length = 5 := by
           cases hf : zl8 (R[k][j].toNat : Int) with
           | false => exfalso; simp [hf] at h6
           | true => exact ⟨rfl, by simp [hf] at h6; omega⟩
          have hfj2 := hfj.1
          simp only [zl8, Bool.and_eq_true, decide_eq_true_eq] at hfj2
          have hnb := zw8 ((R[k]'hlt).take j) (fun b hb => by have := List.all_eq_true.1 hj.2 b hb; simp only [zl8, Bool.and_eq_true, decide_eq_true_eq] at this; exact this) (by simp; omega)
          refine zC (zf (zh ?_))
          first | refine zg rfl rfl (zi rfl rfl) ?_ | refine zg rfl rfl (zq rfl rfl) ?_ | refine zg rfl rfl (zI rfl rfl) ?_ | refine zg rfl rfl (zM rfl rfl) ?_
          refine zg rfl rfl (zcY rfl rfl rfl ⟨by omega, by omega⟩) ?_
          first | refine zg rfl rfl (zi rfl rfl) ?_ | refine zg rfl rfl (zq rfl rfl) ?_ | refine zg rfl rfl (zI rfl rfl) ?_ | refine zg rfl rfl (zM rfl rfl) ?_
          first | refine zg rfl rfl (zi rfl rfl) ?_ | refine zg rfl rfl (zq rfl rfl) ?_ | refine zg rfl rfl (zI rfl rfl) ?_ | refine zg rfl rfl (zM rfl rfl) ?_
          refine zg rfl rfl (wC rfl rfl rfl Tryz.underlying9 (by omega) (by rw [Int.toNat_natCast]; exact List.getElem?_eq_getElem hltj)) ?_
          refine zg rfl rfl (zhQ rfl rfl rfl (wrap_u8 (by omega))) (zg rfl rfl (y8 rfl rfl Tryz.underlying5 Tryz.underlying3 (zeq (by omega))) (zg rfl rfl (zV rfl rfl rfl ⟨(by omega), (by omega)⟩) ?_))
          first | refine zg rfl rfl (zn rfl rfl) ?_ | refine zg rfl rfl (zW rfl rfl) ?_ | refine zg rfl rfl (qo rfl rfl) ?_ | refine zg rfl rfl (qV rfl rfl) ?_
          refine zo (zD (zf (zh ?_)))
          first | refine zg rfl rfl (zi rfl rfl) ?_ | refine zg rfl rfl (zq rfl rfl) ?_ | refine zg rfl rfl (zI rfl rfl) ?_ | refine zg rfl rfl (zM rfl rfl) ?_
          refine zg rfl rfl (zV rfl rfl rfl ⟨(by omega), (by omega)⟩) ?_
          first | refine zg rfl rfl (zn rfl rfl) ?_ | refine zg rfl rfl (zW rfl rfl) ?_ | refine zg rfl rfl (qo rfl rfl) ?_ | refine zg rfl rfl (qV rfl rfl) ?_
          refine zo ?_
          exact ⟨⟨j + 1, by omega, zd3 hj.2 hltj hfj.1⟩, by dsimp only; omega, zt _ ⟨rfl, rfl, rfl, rfl, rfl, rfl, (congrArg I (by rw [List.take_succ_eq_append_getElem hltj, zwz])), rfl, trivial⟩ (rfl)⟩
        ·
         have hgej : (R[k]'hlt).length <= j := by simpa using h5
         have hj2 : (R[k]'hlt).take j = R[k] := List.take_of_length_le hgej
         refine qp (zL (zL (qw (zf (zl (zl (zh ?_)))))))
         first | refine zg rfl rfl (zi rfl rfl) ?_ | refine zg rfl rfl (zq rfl rfl) ?_ | refine zg rfl rfl (zI rfl rfl) ?_ | refine zg rfl rfl (zM rfl rfl) ?_
         first | refine zg rfl rfl (wE rfl rfl Tryz.underlying9) ?_ | refine zg rfl rfl (wz rfl rfl Tryz.underlying9) ?_
         refine zg rfl rfl (vg rfl rfl rfl) (zo (zf (zx rfl (fun h7 => ?_) (fun h7 => ?_))))
         ·
          have hof : ofB zl8 R[k] = false := zxi (by simp at h7; omega)
          have hz : a = [] /\ b = false := by
           unfold rdU at hr
           rw [if_neg hne, hR, if_neg (by rw [List.all_eq_true]; intro hh; have := hh.1 _ (List.getElem_mem hlt); rw [htk.2, hof] at this; cases this)] at hr
           cases hr; exact ⟨rfl, rfl⟩
          refine zl (zh ?_)
          first | refine zg rfl rfl (zn rfl rfl) ?_ | refine zg rfl rfl (zW rfl rfl) ?_ | refine zg rfl rfl (qo rfl rfl) ?_ | refine zg rfl rfl (qV rfl rfl) ?_
          first | refine zg rfl rfl (zn rfl rfl) ?_ | refine zg rfl rfl (zW rfl rfl) ?_ | refine zg rfl rfl (qo rfl rfl) ?_ | refine zg rfl rfl (qV rfl rfl) ?_
          refine zo (zf (zP (zQ (qF (zQ (zQ (qF (zQ ?_))))))))
          exact ⟨.inr rfl, ⟨_, rfl, ⟨_, _, rfl, (by rw [hz.1]; exact AVle.nil), ⟨_, _, rfl, (by rw [hz.2]; exact AVle.refl _), rfl⟩⟩⟩⟩
         ·
          have hof : ofB zl8 R[k] = true := by
           have h9 := hj.2
           rw [hj2] at h9
           unfold ofB; rw [h9, Bool.true_and]; exact decide_eq_true (by simp at h7; omega)
          refine zC (zf (zh ?_))
          first | refine zg rfl rfl (zi rfl rfl) ?_ | refine zg rfl rfl (zq rfl rfl) ?_ | refine zg rfl rfl (zI rfl rfl) ?_ | refine zg rfl rfl (zM rfl rfl) ?_
          first | refine zg rfl rfl (zi rfl rfl) ?_ | refine zg rfl rfl (zq rfl rfl) ?_ | refine zg rfl rfl (zI rfl rfl) ?_ | refine zg rfl rfl (zM rfl rfl) ?_
          refine zg rfl rfl (qg (size := 1) (rows := [[_]]) rfl Tryz.underlying23 ti3 rfl (by decide) rfl (by decide) ⟨_, _, rfl, (by first | exact jF rfl | exact kQ rfl | exact zuw rfl | exact zY rfl | exact zbO rfl rfl (by simp) | exact zkN rfl | exact zux rfl | exact zuv rfl), rfl⟩ (by rfl) (by simp [ofV]) rfl (by simp)) ?_
          first | refine jb rfl (ztU rfl rfl rfl rfl rfl zvw (by simp) (by simp; omega) (by unfold maxLen; simp; omega)) ?_ | refine jb rfl (vS rfl rfl rfl rfl (by simp) rfl zvw (by intro r hr; obtain ⟨n, _, rfl⟩ := List.mem_map.1 hr; rfl) (by simp) (by have := zuZ bk (R.take k); have h9 := zw3 bk (R[k]'hlt) bk.length; simp at this ⊢; omega) (by unfold maxLen; have := zuZ bk (R.take k); have h9 := zw3 bk (R[k]'hlt) bk.length; simp at this ⊢; omega)) ?_
          first | refine zg rfl rfl (zn rfl rfl) ?_ | refine zg rfl rfl (zW rfl rfl) ?_ | refine zg rfl rfl (qo rfl rfl) ?_ | refine zg rfl rfl (qV rfl rfl) ?_
          refine zo (zD (zf (zh ?_)))
          first | refine zg rfl rfl (zi rfl rfl) ?_ | refine zg rfl rfl (zq rfl rfl) ?_ | refine zg rfl rfl (zI rfl rfl) ?_ | refine zg rfl rfl (zM rfl rfl) ?_
          refine zg rfl rfl (zV rfl rfl rfl ⟨(by omega), (by omega)⟩) ?_
          first | refine zg rfl rfl (zn rfl rfl) ?_ | refine zg rfl rfl (zW rfl rfl) ?_ | refine zg rfl rfl (qo rfl rfl) ?_ | refine zg rfl rfl (qV rfl rfl) ?_
          refine zo ?_
          exact ⟨⟨k + 1, by omega, xQ hk.2 hlt (by first | exact htk.2 | exact (htk.2.trans hof))⟩, by dsimp only; omega, zt _ ⟨rfl, rfl, rfl, (congrArg (EV.psl 0) (by first | (rw [hst, hte]; simp [htk.1]; done) | (rw [hst, hte]; simp [htk.1]; omega) | (rw [hst, hte]; done) | (rw [hst, hte]; simp; done))), rfl, trivial⟩ (congrArg (fun z => [PO.row z]) (by first | (rw [hst, hte]; simp [htk.1, hj2]; done) | (rw [hst, hte]; simp [htk.1]; done) | (rw [hst, hte]; done) | (rw [hst, hte]; simp; done)))⟩
   ·
    have hge : R.length <= k := by simp at h1; omega
    have hk2 : k = R.length := by omega
    subst hk2
    rw [List.take_length] at hk
    have hbd : ∀ n ∈ ((R.take R.length).flatMap (zuM bk)), 0 <= n /\ n <= 1000000000000 := by rw [List.take_length]; exact zyB hbk hk.2
    have hLm : ((R.take R.length).flatMap (zuM bk)) = zvx bk ts := by rw [List.take_length]; unfold zvx; rw [hR]
    have hgl := zxE ((R.take R.length).flatMap (zuM bk))
    have hfl : ((R.take R.length).flatMap (zuM bk)).length <= 1000 := by have := zuZ bk R; rw [List.take_length]; omega
    refine qp (zL (zL (qw (zf (zl (zl ?_))))))
    refine qx (zcT (k := 0) (m := ((R.take R.length).flatMap (zuM bk)).length) (rows := ((R.take R.length).flatMap (zuM bk)).map fun n => [.v (.int .i64 n)]) [8] (by simp [Function.comp_def]) (by simp) (by intro d hd; rw [List.mem_singleton] at hd; subst hd; rfl)) ?_
    refine zh ?_
    first | refine zg rfl rfl (zZ rfl rfl wH (by exact zLb rfl)) ?_ | refine zg rfl rfl (qN (cs := [_, _, _]) rfl rfl rfl rfl rfl (by exact zLb rfl) rfl wH) ?_ | refine zg rfl rfl (qf rfl rfl rfl rfl rfl (by exact zLb rfl) rfl wH) ?_
    first | refine zg rfl rfl (zi rfl rfl) ?_ | refine zg rfl rfl (zq rfl rfl) ?_ | refine zg rfl rfl (zI rfl rfl) ?_ | refine zg rfl rfl (zM rfl rfl) ?_
    refine zg rfl rfl (zy (av := [_, _]) rfl ⟨rfl, rfl, trivial⟩ (f32 c ((R.take R.length).flatMap (zuM bk)) (by have := zuZ bk R; rw [List.take_length]; omega))) ?_
    refine zg rfl rfl (je rfl rfl) (zo (zf (zx rfl (fun h8 => ?_) (fun h8 => ?_))))
    ·
     have hz : a = [] /\ b = false := by
      unfold rdU at hr
      rw [if_neg hne, hR, if_neg (by rw [← hLm]; intro hh; rw [List.take_length] at hh; simp [hh.2] at h8)] at hr
      cases hr; exact ⟨rfl, rfl⟩
     refine zl (zh ?_)
     first | refine zg rfl rfl (zn rfl rfl) ?_ | refine zg rfl rfl (zW rfl rfl) ?_ | refine zg rfl rfl (qo rfl rfl) ?_ | refine zg rfl rfl (qV rfl rfl) ?_
     first | refine zg rfl rfl (zn rfl rfl) ?_ | refine zg rfl rfl (zW rfl rfl) ?_ | refine zg rfl rfl (qo rfl rfl) ?_ | refine zg rfl rfl (qV rfl rfl) ?_
     refine zo (zf (zP (zQ ?_)))
     exact ⟨.inr rfl, ⟨_, rfl, ⟨_, _, rfl, (by rw [hz.1]; exact AVle.nil), ⟨_, _, rfl, (by rw [hz.2]; exact AVle.refl _), rfl⟩⟩⟩⟩
    ·
     have hz : a = ((R.take R.length).flatMap (zuM bk)) /\ b = decide (x = (chk ((R.take R.length).flatMap (zuM bk))).chs) := by
      unfold rdU at hr
      rw [if_neg hne, hR, if_pos ⟨hk.2, by rw [← hLm]; simpa using h8⟩, hx, ← hLm] at hr
      cases hr; exact ⟨rfl, by simp⟩
     refine zC (zf (zl (zh ?_)))
     first | refine zg rfl rfl (zi rfl rfl) ?_ | refine zg rfl rfl (zq rfl rfl) ?_ | refine zg rfl rfl (zI rfl rfl) ?_ | refine zg rfl rfl (zM rfl rfl) ?_
     refine zg rfl rfl (zy (av := [_]) rfl ⟨rfl, trivial⟩ (f35 ((R.take R.length).flatMap (zuM bk)) (by have := zuZ bk R; rw [List.take_length]; omega) hbd)) ?_
     first | refine zg rfl rfl (zn rfl rfl) ?_ | refine zg rfl rfl (zW rfl rfl) ?_ | refine zg rfl rfl (qo rfl rfl) ?_ | refine zg rfl rfl (qV rfl rfl) ?_
     refine zo (zf (zl ?_))
     refine qY mixed (by kernel_rfl) rfl ?_
     first | refine zH rfl (zi rfl rfl) ?_ | refine zH rfl (zq rfl rfl) ?_ | refine zH rfl (zI rfl rfl) ?_ | refine zH rfl (zM rfl rfl) ?_
     first | refine zH rfl (zi rfl rfl) ?_ | refine zH rfl (zq rfl rfl) ?_ | refine zH rfl (zI rfl rfl) ?_ | refine zH rfl (zM rfl rfl) ?_
     first | refine zH rfl (zi rfl rfl) ?_ | refine zH rfl (zq rfl rfl) ?_ | refine zH rfl (zI rfl rfl) ?_ | refine zH rfl (zM rfl rfl) ?_
     refine zH rfl (zuz rfl rfl Tryz.underlying34) (zH rfl (ze5 rfl rfl rfl ⟨(by omega), (by omega)⟩) ?_)
     first | refine zH rfl (zG rfl rfl rfl yJ (by omega) (zyl hx hpos) vZ) ?_ | refine zH rfl (qc rfl rfl rfl rfl rfl yJ (by omega) (zyl hx hpos) vZ) ?_
     first | refine zH rfl (zA rfl rfl rfl ty9) ?_ | refine zH rfl (zK rfl rfl rfl rfl rfl rfl ty9) ?_
     first | refine zH rfl (zi rfl rfl) ?_ | refine zH rfl (zq rfl rfl) ?_ | refine zH rfl (zI rfl rfl) ?_ | refine zH rfl (zM rfl rfl) ?_
     first | refine zH rfl (zi rfl rfl) ?_ | refine zH rfl (zq rfl rfl) ?_ | refine zH rfl (zI rfl rfl) ?_ | refine zH rfl (zM rfl rfl) ?_
     refine zH rfl (zuz rfl rfl Tryz.underlying34) (zH rfl (ze5 rfl rfl rfl ⟨(by omega), (by omega)⟩) ?_)
     first | refine zH rfl (zG rfl rfl rfl yJ (by omega) (by rw [show (((jQ ((R.take R.length).flatMap (zuM bk))).length : Int) - 1).toNat = ((R.take R.length).flatMap (zuM bk)).length by omega]; exact last_at ((R.take R.length).flatMap (zuM bk))) vZ) ?_ | refine zH rfl (qc rfl rfl rfl rfl rfl yJ (by omega) (by rw [show (((jQ ((R.take R.length).flatMap (zuM bk))).length : Int) - 1).toNat = ((R.take R.length).flatMap (zuM bk)).length by omega]; exact last_at ((R.take R.length).flatMap (zuM bk))) vZ) ?_
     first | refine zH rfl (zA rfl rfl rfl ty9) ?_ | refine zH rfl (zK rfl rfl rfl rfl rfl rfl ty9) ?_
     refine zH rfl (zof rfl rfl rfl) ?_
     first | refine zH rfl (zn rfl rfl) ?_ | refine zH rfl (zW rfl rfl) ?_ | refine zH rfl (qo rfl rfl) ?_ | refine zH rfl (qV rfl rfl) ?_
     first | refine zH rfl (zn rfl rfl) ?_ | refine zH rfl (zW rfl rfl) ?_ | refine zH rfl (qo rfl rfl) ?_ | refine zH rfl (qV rfl rfl) ?_
     refine jw (zf (zP ?_))
     exact ⟨.inr rfl, ⟨_, rfl, ⟨_, _, rfl, (by rw [hz.1]; exact AVle.refl _), ⟨_, _, rfl, (by rw [hz.2]; exact AVle.of (by rw [zAS])), rfl⟩⟩⟩⟩
end Go.Av
end
