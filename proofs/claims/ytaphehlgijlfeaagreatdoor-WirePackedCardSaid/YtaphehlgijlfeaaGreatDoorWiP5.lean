
import Derived.Test.YtaphehlgijlfeaaGreatDoorWiP3
import Derived.Test.YtaphehlgijlfeaaGreatDoorWiJ
set_option linter.unusedVariables false
set_option linter.unusedSimpArgs false
section
namespace Go.Av
open Go.Proofs
set_option maxRecDepth 100000
set_option maxHeartbeats 1000000
variable {G : Glob}
theorem zBF : xn Tryz.prog 169 [(0, 1), (1, 1)] [.slice none 0 0, .slice none 0 0] := ⟨_, Tryz.underlying169, by kernel_rfl, by kernel_rfl⟩
theorem zwx {ms : List Int} {k : Nat} (h : k < ms.length) : ms.drop k = ms[k] :: ms.drop (k + 1) := List.drop_eq_getElem_cons h
theorem zBz (bk : List Ent) (ms : List Int) (hl : ms.length <= 1000) (hms : ∀ n ∈ ms, 0 <= n /\ n <= 1000000000000) (hb : bk.length <= 1000) : ∀ (n k : Nat), ms.length - k = n -> k <= ms.length -> SCall Tryz.prog G 122 [.agg (ePk bk ms), .v (.int .i64 (k : Int))] (fun u => u) (rws (zuE bk (ms.drop k))) := by
 intro n
 induction n using Nat.strongRecOn with
 | _ n ih =>
  intro k hn hk
  by_cases h0 : ms.length = k
  ·
   have e : ms.drop k = [] := List.drop_eq_nil_of_le (by omega)
   rw [e, zuE]
   exact zyX bk ms k hl h0
  ·
   have h1 := ih (ms.length - (k + 1)) (by omega) (k + 1) rfl (by omega)
   have hg := zBA bk ms k hl hms (by omega) h1.a
   by_cases h2 : k + 1 < ms.length
   ·
    have e1 := zwx (show k < ms.length by omega)
    have e2 : ms.drop (k + 1) = ms[k + 1] :: ms.drop (k + 2) := zwx h2
    cases he : zvo bk ms[k] ms[k + 1] with
    | none =>
     have hw := zzV (G := G) bk ms k hl hms h2 hb he
     have := zwT bk ms k hl (by omega) _ hw hg
     rw [e1, e2, zuE, he]
     rw [e2] at this
     exact this
    | some e =>
     have h3 := ih (ms.length - (k + 2)) (by omega) (k + 2) rfl (by omega)
     have hw := zyZ (G := G) bk ms k hl hms h2 hb he h3.a
     have := zy5 bk ms k hl (by omega) _ _ hw hg
     rw [e1, e2, zuE, he]
     rw [e2] at this
     simp only [shF, List.length_cons, decide_eq_true_eq] at this ⊢
     by_cases hc : (zuE bk (ms.drop (k + 2))).length <= (zuE bk (ms[k + 1] :: ms.drop (k + 2))).length
     ·
      rw [if_pos hc]
      rw [if_neg (by omega)] at this
      exact this
     ·
      rw [if_neg hc]
      rw [if_pos (by omega)] at this
      exact this
   ·
    have hw := zyY (G := G) bk ms k hl hms (by omega) (by omega)
    have := zwT bk ms k hl (by omega) _ hw hg
    have e1 := zwx (show k < ms.length by omega)
    have e2 : ms.drop (k + 1) = [] := List.drop_eq_nil_of_le (by omega)
    rw [e1, e2, zuE]
    rw [e2, zuE] at this
    exact this
theorem zyC {bk : List Ent} {m : List Int} (hl : m.length <= 1000) : (zuE bk m).length <= 1000 := by
 have := zvA bk m
 omega
theorem zBt (c : Cod) (bk : List Ent) (ms : List Int) (hc : c.fields.length <= 1000 /\ c.turns.length <= 1000) (hb : bk.length <= 1000) (hl : ms.length <= 1000) (hms : ∀ n ∈ ms, 0 <= n /\ n <= 1000000000000) (hok : (jA c && zuB bk && wS c ms) = true) : ACall Tryz.prog G 70 [.agg (qK c), eBk bk, zO ms] (.tup [jD (zu0 bk ms), ei 0]) := by
 have hpk := zyC (bk := bk) hl
 refine zS Tryz.func70 rfl (by kernel_rfl) rfl ?_
 refine zl (zh (zg rfl rfl (jf rfl (zY rfl)) (zg rfl rfl (zn rfl rfl) (zg rfl rfl (zn rfl rfl) (zo (zf (zl (zl (zh (zg rfl rfl (zZ rfl rfl wH (by exact zLb rfl)) (zg rfl rfl (zy (av := [_]) rfl ⟨rfl, trivial⟩ (f116 c hc)) ?_)))))))))))
 refine zg rfl rfl (je rfl rfl) (zg rfl rfl (zi rfl rfl) (zk rfl rfl rfl (fun hg => zq rfl rfl) (zk rfl rfl rfl (fun hg => zy (av := [_]) rfl ⟨((if_pos hg)), trivial⟩ (f102 bk hb)) (zk rfl rfl rfl (fun hg => je rfl (if_pos hg)) (zg rfl rfl (qU rfl rfl rfl rfl) (zg rfl rfl (zi rfl rfl) (zk rfl rfl rfl (fun hg => zZ rfl rfl wH (by exact zLb rfl)) (zk rfl rfl rfl (fun hg => zq rfl rfl) (zk rfl rfl rfl (fun hg => zy (av := [_, _]) rfl ⟨((if_pos hg)), ((if_pos hg)), trivial⟩ (f117 c ms hl)) (zk rfl rfl rfl (fun hg => je rfl (if_pos hg)) (zg rfl rfl (qU rfl rfl rfl rfl) ?_)))))))))))
 refine zo (zf (zx rfl (fun h0 => ?_) (fun h0 => ?_)))
 ·
  exfalso; cases hcb : jA c <;> cases hbb : zuB bk <;> simp_all
 ·
  refine zC (zf (zl (zh (zg rfl rfl (zq rfl rfl) (zg rfl rfl (zq rfl rfl) ?_)))))
  refine zg rfl rfl (zb3 (cs := [_, _]) rfl zBF rfl ⟨_, _, rfl, (kQ rfl), ⟨_, _, rfl, (kQ rfl), rfl⟩⟩ (by rfl) (by simp [ofV])) ?_
  refine jb rfl (zAL (av := [_, _]) rfl rfl rfl rfl (zBz bk ms hl hms hb _ 0 rfl (by omega))) (zg rfl rfl (zq rfl rfl) (zg rfl rfl (zy (av := [_]) rfl ⟨rfl, trivial⟩ (f123 ms hl hms)) ?_))
  refine zg rfl rfl (qg (size := 1) (rows := [[_]]) rfl Tryz.underlying34 ti9 rfl (by decide) rfl (by decide) ⟨_, _, rfl, (jF rfl), rfl⟩ (by rfl) (by simp [ofV]) rfl (by simp)) ?_
  refine jb rfl (vS rfl rfl rfl rfl (by simp) rfl zrL (by simp [rws]) (by simp) (by have := zyP (zuE bk ms); simp; omega) (by unfold maxLen; have := zyP (zuE bk ms); simp; omega)) ?_
  refine zg rfl rfl (qo rfl rfl) (zg rfl rfl (zn rfl rfl) (zo (zf (zP ?_))))
  exact ⟨.inr rfl, ⟨_, rfl, ⟨_, _, rfl, ⟨((zu0 bk ms).map fun s => [eS s]), by show some (PO.row _) = some (PO.row _); simp [zu0, rws], by simp [zu0, rws], rfl⟩, ⟨_, _, rfl, AVle.refl _, rfl⟩⟩⟩⟩
end Go.Av
end
section
namespace Go.Av
open Go.Proofs
set_option maxRecDepth 100000
set_option maxHeartbeats 1000000
variable {G : Glob}
def wmU (l : List Ent) : List (List UInt8 × AV) := l.map fun e => (e.word, AV.agg (zs8 e))
def wmP (l : List Ent) : List (List UInt8 × EV) := (wmU l).map fun p => (p.1, .pub p.2)
theorem zxJ (w : List UInt8) (d : AV) : ∀ l : List Ent, wM w d (wmU l) = match zuK l w with | some e => .agg (zs8 e) | none => d
 | [] => by simp [wmU, wM, zuK]
 | e :: l => by
  have ih := zxJ w d l
  simp only [wmU, List.map_cons, wM, zuK, List.find?_cons] at ih ⊢
  by_cases h : e.word = w
  ·
   simp [h]
  ·
   simp only [h, if_false, decide_false]; exact ih
theorem zxz (w : List UInt8) : ∀ l : List Ent, znX w (wmU l) = (zuK l w).isSome
 | [] => by simp [wmU, znX, zuK]
 | e :: l => by
  have ih := zxz w l
  simp only [wmU, List.map_cons, znX, zuK, List.find?_cons] at ih ⊢
  by_cases h : e.word = w
  ·
   simp [h]
  ·
   simp only [h, if_false, decide_false]; exact ih
theorem zxo (w : List UInt8) (x : AV) : ∀ l : List Ent, w ∉ l.map (·.word) -> yh w (EV.pub x) (wmP l) = wmP l ++ [(w, .pub x)]
 | [], _ => by simp [wmP, wmU, yh]
 | e :: l, h => by
  simp only [List.map_cons, List.mem_cons, not_or] at h
  have ih := zxo w x l h.2
  simp only [wmP, wmU, List.map_cons, yh] at ih ⊢
  rw [if_neg (fun e' => h.1 e'.symm), ih]; rfl
theorem zzy {l : List Ent} {q : Nat} (h : q < l.length) (hn : (l.map (·.word)).Nodup) : yh l[q].word (EV.pub (.agg (zs8 l[q]))) (wmP (l.take q)) = wmP (l.take (q + 1)) := by
 rw [zxo, List.take_succ_eq_append_getElem h]
 ·
  simp only [wmP, wmU, List.map_append, List.map_cons, List.map_nil]
 ·
  intro hm
  obtain ⟨e, he, hw⟩ := List.mem_map.1 hm
  obtain ⟨i, hi, rfl⟩ := List.getElem_of_mem he
  simp only [List.length_take] at hi
  rw [List.getElem_take] at hw
  have hne := (List.pairwise_iff_getElem.1 hn) i q (by simp; omega) (by simp; omega) (by omega)
  simp only [List.getElem_map] at hne
  exact hne hw
theorem zAO (c : Cod) (bk : List Ent) (ts : LS) (hc : c.fields.length <= 1000 /\ c.turns.length <= 1000) (hb : bk.length <= 1000) (hok : (jA c && zuB bk) = true) (hn : ts = []) : ACall Tryz.prog G 71 [.agg (qK c), eBk bk, jD ts] (.tup [.sl [], ei 4]) := by
 refine zS Tryz.func71 rfl (by kernel_rfl) rfl ?_
 refine zl (zh (zg rfl rfl (jf rfl (zY rfl)) (zg rfl rfl (zn rfl rfl) (zg rfl rfl (zn rfl rfl) (zo (zf (zl (zl (zh (zg rfl rfl (zq rfl rfl) (zg rfl rfl (zuz rfl rfl Tryz.underlying34) ?_)))))))))))
 refine zg rfl rfl (qR rfl rfl rfl) (zo (zf (zx rfl (fun h0 => ?_) (fun h0 => ?_))))
 ·
  exfalso; subst hn; simp at h0
 ·
  refine zC (zf (zl (zl (zh (zg rfl rfl (zZ rfl rfl wH (by exact zLb rfl)) (zg rfl rfl (zy (av := [_]) rfl ⟨rfl, trivial⟩ (f116 c hc)) (zg rfl rfl (je rfl rfl) (zg rfl rfl (zi rfl rfl) (zk rfl rfl rfl (fun hg => zq rfl rfl) (zk rfl rfl rfl (fun hg => zy (av := [_]) rfl ⟨((if_pos hg)), trivial⟩ (f102 bk hb)) (zk rfl rfl rfl (fun hg => je rfl (if_pos hg)) ?_)))))))))))
  refine zg rfl rfl (qU rfl rfl rfl rfl) (zo (zf (zx rfl (fun h1 => ?_) (fun h1 => ?_))))
  ·
   exfalso; cases hcb : jA c <;> cases hbb : zuB bk <;> simp_all
  ·
   refine zC (zf (zl (zl (zh (zg rfl rfl (zq rfl rfl) (zg rfl rfl (zuz rfl rfl Tryz.underlying34) (zg rfl rfl (qJ rfl rfl rfl) (zo (zf (zx rfl (fun h2 => ?_) (fun h2 => ?_)))))))))))
   ·
    refine zl (zh (zg rfl rfl (zn rfl rfl) (zg rfl rfl (zn rfl rfl) (zo (zf (zP (zQ ?_)))))))
    exact ⟨.inr rfl, ⟨_, rfl, ⟨_, _, rfl, AVle.nil, ⟨_, _, rfl, AVle.refl _, rfl⟩⟩⟩⟩
   ·
    exfalso; subst hn; simp at h2
theorem zyl {ts : LS} {x : List UInt8} (h : ts.getLast? = some x) (hp : 0 < ts.length) : (ts.map fun s => [eS s])[((ts.length : Int) - 1).toNat]? = some [eS x] := by
 rw [show ((ts.length : Int) - 1).toNat = ts.length - 1 by omega, List.getElem?_map, ← List.getLast?_eq_getElem?, h]; rfl
theorem zz9 {l : List (List UInt8)} {k : Nat} (h : k < l.length) : (l.map fun s => [eS s])[k]? = some [eS l[k]] := by simp [h]
theorem zyI {P : Program} {fr : Nat -> EV} {mem : List PO} {o : Oper} {x y : AV} (h : x = y) (ho : OpY P G fr mem o (.pub x)) : OpY P G fr mem o (.pub y) := h ▸ ho
theorem zBj : (Tryz.prog.info? 152).bind (·.zero) = some (.agg #[.string ⟨#[]⟩, .int .i64 0, .int .i64 0]) := by kernel_rfl
def enD (bk : List Ent) (w : List UInt8) : Ent := (zuK bk w).getD ⟨[], 0, 0⟩
theorem zBm (bk : List Ent) (w : List UInt8) : AV.tup [wM w (ofV (.agg #[.string ⟨#[]⟩, .int .i64 0, .int .i64 0])) (wmU bk), .v (.bool (znX w (wmU bk)))] = .tup [.agg (zs8 (enD bk w)), .v (.bool (zuK bk w).isSome)] := by
 rw [zxJ, zxz]
 unfold enD
 cases zuK bk w with
 | none => rfl
 | some e => rfl
theorem zyN {bk : List Ent} {w : List UInt8} (h : (zuK bk w).isSome = true) : zuM bk w = [(enD bk w).first, (enD bk w).second] /\ zvZ bk w = true := by
 unfold zuM zvZ enD
 cases hw : zuK bk w with
 | none => rw [hw] at h; cases h
 | some e => exact ⟨rfl, rfl⟩
theorem zyb {bk : List Ent} {w : List UInt8} (h : (zuK bk w).isSome = false) : zuM bk w = [zvM w] /\ zvZ bk w = ofB zl8 w := by
 unfold zuM zvZ
 cases hw : zuK bk w with
 | none => exact ⟨rfl, rfl⟩
 | some e => rw [hw] at h; cases h
theorem zwd {bk : List Ent} {R : LS} {k : Nat} (h : k < R.length) : (R.take (k + 1)).flatMap (zuM bk) = (R.take k).flatMap (zuM bk) ++ zuM bk R[k] := by
 rw [List.take_succ_eq_append_getElem h, List.flatMap_append]; simp
theorem zuZ (bk : List Ent) : ∀ R : LS, (R.flatMap (zuM bk)).length <= 2 * R.length
 | [] => by simp
 | t :: R => by
  have ih := zuZ bk R
  have : (zuM bk t).length <= 2 := by unfold zuM; split <;> simp
  rw [List.flatMap_cons, List.length_append, List.length_cons]; omega
theorem zw8 : ∀ (w : List UInt8), (∀ b ∈ w, 48 <= (b.toNat : Int) /\ (b.toNat : Int) <= 57) -> w.length <= 5 -> 0 <= zvM w /\ zvM w <= 99999 := by
 intro w h hl
 match w, hl with
 | [], _ => simp [zvM]
 | [a], _ => have h1 := h a (by simp); simp only [zvM, List.foldl_cons, List.foldl_nil]; omega
 | [a, b], _ => have h1 := h a (by simp); have h2 := h b (by simp); simp only [zvM, List.foldl_cons, List.foldl_nil]; omega
 | [a, b, c], _ => have h1 := h a (by simp); have h2 := h b (by simp); have h3 := h c (by simp); simp only [zvM, List.foldl_cons, List.foldl_nil]; omega
 | [a, b, c, d], _ => have h1 := h a (by simp); have h2 := h b (by simp); have h3 := h c (by simp); have h4 := h d (by simp); simp only [zvM, List.foldl_cons, List.foldl_nil]; omega
 | [a, b, c, d, e], _ => have h1 := h a (by simp); have h2 := h b (by simp); have h3 := h c (by simp); have h4 := h d (by simp); have h5 := h e (by simp); simp only [zvM, List.foldl_cons, List.foldl_nil]; omega
theorem zyq {w : List UInt8} (h : ofB zl8 w = true) : w.length = 5 /\ ∀ b ∈ w, 48 <= (b.toNat : Int) /\ (b.toNat : Int) <= 57 := by
 simp only [ofB, zl8, Bool.and_eq_true, List.all_eq_true, decide_eq_true_eq] at h
 exact ⟨h.2, h.1⟩
theorem zwz (w : List UInt8) (c : UInt8) : zvM (w ++ [c]) = 10 * zvM w + ((c.toNat : Int) - 48) := by simp [zvM]
theorem zAh {ts : LS} : AV.sl (((ts.map fun s => [eS s]).take ((ts.length : Int) - 1).toNat).drop (0 : Int).toNat) = jD ts.dropLast := by
 rw [show ((ts.length : Int) - 1).toNat = ts.length - 1 by omega, List.dropLast_eq_take]
 simp [jD, List.map_take]
theorem zyB {bk : List Ent} (hb : zuB bk = true) {R : LS} (h : R.all (zvZ bk) = true) : ∀ n ∈ R.flatMap (zuM bk), 0 <= n /\ n <= 1000000000000 := fun n hn => by
 obtain ⟨t, ht, hn⟩ := List.mem_flatMap.1 hn
 have hB := List.all_eq_true.1 h t ht
 cases hw : zuK bk t with
 | none =>
  have := zyb (bk := bk) (w := t) (by rw [hw]; rfl)
  rw [this.1, List.mem_singleton] at hn
  rw [this.2] at hB
  have hf := zyq hB
  have := zw8 t hf.2 (by omega)
  subst hn; omega
 | some e =>
  have := zzt hb (List.mem_of_find?_eq_some hw)
  unfold zuM at hn
  rw [hw] at hn
  simp only [List.mem_cons, List.not_mem_nil, or_false] at hn
  rcases hn with rfl | rfl <;> omega
theorem zAn (c : Cod) (bk : List Ent) (ts : LS) (hc : c.fields.length <= 1000 /\ c.turns.length <= 1000) (hb : bk.length <= 1000) (hbk : zuB bk = true) (hcd : jA c = true) (hl : ts.length <= 8) (hne : ts ≠ []) {u : Bool} (hu : zwN c bk ts = u) : ACall Tryz.prog G 71 [.agg (qK c), eBk bk, jD ts] (.tup [zO (if u = true then zvx bk ts else []), ei (if u = true then 0 else 4)]) := by
 obtain ⟨R, hR⟩ : ∃ R, ts.dropLast = R := ⟨_, rfl⟩
 have hpos := List.length_pos_iff.2 hne
 have hRl : R.length + 1 = ts.length := by rw [← hR, List.length_dropLast]; omega
 have hnd := zwk hbk
 obtain ⟨x, hx⟩ : ∃ x, ts.getLast? = some x := ⟨_, List.getLast?_eq_some_getLast hne⟩
 refine zS Tryz.func71 rfl (by kernel_rfl) rfl ?_
 refine zl (zh (zg rfl rfl (jf rfl (zY rfl)) (zg rfl rfl (zn rfl rfl) (zg rfl rfl (zn rfl rfl) (zo (zf (zl (zl (zh (zg rfl rfl (zq rfl rfl) (zg rfl rfl (zuz rfl rfl Tryz.underlying34) ?_)))))))))))
 refine zg rfl rfl (qR rfl rfl rfl) (zo (zf (zx rfl (fun h0 => ?_) (fun h0 => ?_))))
 ·
  exfalso; simp at h0; omega
 ·
  refine zC (zf (zl (zl (zh (zg rfl rfl (zZ rfl rfl wH (by exact zLb rfl)) (zg rfl rfl (zy (av := [_]) rfl ⟨rfl, trivial⟩ (f116 c hc)) (zg rfl rfl (je rfl rfl) (zg rfl rfl (zi rfl rfl) (zk rfl rfl rfl (fun hg => zq rfl rfl) (zk rfl rfl rfl (fun hg => zy (av := [_]) rfl ⟨((if_pos hg)), trivial⟩ (f102 bk hb)) (zk rfl rfl rfl (fun hg => je rfl (if_pos hg)) ?_)))))))))))
  refine zg rfl rfl (qU rfl rfl rfl rfl) (zo (zf (zx rfl (fun h1 => ?_) (fun h1 => ?_))))
  ·
   exfalso; simp [hbk, hcd] at h1
  ·
   refine zC (zf (zl (zl (zh (zg rfl rfl (zq rfl rfl) (zg rfl rfl (zuz rfl rfl Tryz.underlying34) (zg rfl rfl (qJ rfl rfl rfl) (zo (zf (zx rfl (fun h2 => ?_) (fun h2 => ?_)))))))))))
   ·
    exfalso; first | (simp at h2; exact hne h2) | (simp at h2; omega)
   ·
    refine zC (zf (zl (zh (jb rfl (zlZ rfl rfl) (zg rfl rfl (qV rfl rfl) (zo (zf (zl (zl (zh (zg rfl rfl (zq rfl rfl) ?_)))))))))))
    refine zg rfl rfl (qh rfl rfl rfl Tryz.underlying63) (zg rfl rfl (zi rfl rfl) (zo (zf (zB ?_))))
    refine qy (ι := { q : Nat // q <= bk.length }) (fun q => ⟨Tryz.f71.ntmps, frL [(1, .pub (eBk bk)), (2, .pub (jD ts)), (3, .pub (.ptr (qK c))), (8, .mpv 0), (34, .pub (eBk bk)), (35, I (bk.length : Int)), (36, I (q.1 : Int))], [zlS encS (wmP (bk.take q.1))]⟩) (fun q => bk.length - q.1) (⟨0, by omega⟩) ?_ ?_
    ·
     exact zt _ ⟨rfl, rfl, rfl, rfl, rfl, (congrArg (fun x : Nat => I (x : Int)) (List.length_map _)), rfl, trivial⟩ (rfl)
    ·
     rintro ⟨q, hq⟩
     dsimp only
     refine zl (zh (zg rfl rfl (qi rfl rfl rfl) (zo (zf (zl (zx rfl (fun h3 => ?_) (fun h3 => ?_)))))))
     ·
      have hltq : q < bk.length := by simpa [eBk] using h3
      refine zC (zf (zl (zB (zl (zh (zg rfl rfl (zG rfl rfl rfl zu4 (by omega) (zuT hltq) zuN) (zg rfl rfl (zZ rfl rfl zvN (by exact zLb rfl)) ?_)))))))
      refine vI  rfl rfl rfl rfl rfl rfl rfl zxm zvN rfl (by rfl) (zY rfl) rfl ?_
      refine zo (zf (zh (zg rfl rfl (zM rfl rfl) (zg rfl rfl (zu rfl rfl zuW) (zg rfl rfl (zA rfl rfl rfl ty9) (zg rfl rfl (zZ rfl rfl zvN (by exact zLb rfl)) (jb rfl (zwa (enc := encS) (es := wmP (bk.take q)) (a := bk[q].word) (v := .pub (.agg (zs8 bk[q]))) (.inl rfl) rfl rfl rfl rfl zw0 Tryz.underlying172 (zvO Tryz.underlying9) rfl) (zo (zD (zf (zh ?_)))))))))))
      refine zg rfl rfl (zV rfl rfl rfl ⟨(by omega), (by omega)⟩) (zg rfl rfl (zi rfl rfl) (zo ?_))
      exact ⟨⟨q + 1, by omega⟩, by dsimp only; omega, zt _ ⟨rfl, rfl, rfl, rfl, rfl, rfl, rfl, trivial⟩ (congrArg (fun z => [zlS encS z]) (zzy hltq hnd))⟩
     ·
      have hgeq : bk.length <= q := by simpa [eBk] using h3
      have hq2 : bk.take q = bk := List.take_of_length_le hgeq
      refine qp (zL (zL (qw (zf (zl (zh (zg rfl rfl (zn rfl rfl) (zo (zf (zl (zl ?_)))))))))))
      refine zh (zg rfl rfl (zq rfl rfl) (zg rfl rfl (zq rfl rfl) (zg rfl rfl (zuz rfl rfl Tryz.underlying34) (zg rfl rfl (ze5 rfl rfl rfl ⟨(by omega), (by omega)⟩) ?_))))
      refine zg rfl rfl (zyI (y := jD R) (by rw [← hR]; exact zAh) (zhU rfl rfl rfl rfl yJ vZ (by omega) (by omega) (by rw [List.length_map]; omega))) ?_
      refine zg rfl rfl (zuz rfl rfl Tryz.underlying34) (zg rfl rfl (zi rfl rfl) (zo (zf (zB ?_))))
      refine qx (kG 11 rfl) ?_
      refine qy (ι := { k : Nat // k <= R.length /\ (R.take k).all (zvZ bk) = true }) (fun k => ⟨Tryz.f71.ntmps, frL [(2, .pub (jD ts)), (3, .pub (.ptr (qK c))), (8, .mpv 0), (11, .psl 1 ((R.take k.1).flatMap (zuM bk)).length), (49, .pub (jD R)), (50, I (R.length : Int)), (51, I (k.1 : Int))], [zlS encS (wmP bk), .row (((R.take k.1).flatMap (zuM bk)).map fun n => [I n])]⟩) (fun k => R.length - k.1) (⟨0, by simp⟩) ?_ ?_
      ·
       exact zt _ ⟨rfl, rfl, rfl, rfl, rfl, rfl, rfl, trivial⟩ ((by rw [hq2]; rfl))
      ·
       rintro ⟨k, hk⟩
       dsimp only
       refine zl (zh (zg rfl rfl (qi rfl rfl rfl) (zo (zf (zl (zx rfl (fun h4 => ?_) (fun h4 => ?_)))))))
       ·
        have hlt : k < R.length := by simpa using h4
        refine zC (zf (zl (zB (zl (zh (zg rfl rfl (zG rfl rfl rfl yJ (by omega) (zz9 hlt) vZ) (zg rfl rfl (zA rfl rfl rfl ty9) (zg rfl rfl (zn rfl rfl) (zo (zf (zl ?_)))))))))))
        refine zl (zh (zg rfl rfl (zM rfl rfl) (zg rfl rfl (zi rfl rfl) (zg rfl rfl (zyI (zBm bk (R[k]'hlt)) (zxU (enc := encS) (a := R[k]'hlt) (es := wmU bk) rfl rfl rfl rfl zw0 Tryz.underlying172 (zvO Tryz.underlying9) zBj)) (zg rfl rfl (zq rfl rfl) (zg rfl rfl (zN rfl rfl rfl) (zg rfl rfl (zN rfl rfl rfl) ?_)))))))
        refine vI  rfl rfl rfl rfl rfl rfl rfl zxm zvN rfl (by rfl) (zY rfl) rfl ?_
        refine zg rfl rfl (zn rfl rfl) (zo (zf (zl (zh (zg rfl rfl (zi rfl rfl) (zo (zf (zx rfl (fun h5 => ?_) (fun h5 => ?_)))))))))
        ·
         have htk := zyN (bk := bk) (w := R[k]) (by simpa using h5)
         have hst := zwd (bk := bk) hlt
         rw [htk.1] at hst
         refine zl (zh (zg rfl rfl (zI rfl rfl) (zg rfl rfl (zu rfl rfl zvf) (zg rfl rfl (zA rfl rfl rfl ty3) (zg rfl rfl (zu rfl rfl zvc) (zg rfl rfl (zA rfl rfl rfl ty3) ?_))))))
         refine zg rfl rfl (qg (size := 1) (rows := [[_], [_]]) rfl Tryz.underlying23 ti3 rfl (by decide) rfl (by decide) ⟨_, _, rfl, (jF rfl), ⟨_, _, rfl, (jF rfl), rfl⟩⟩ (by rfl) (by simp [ofV]) rfl (by simp)) ?_
         refine jb rfl (vS rfl rfl rfl rfl (by simp) rfl zvw (by intro r hr; obtain ⟨n, _, rfl⟩ := List.mem_map.1 hr; rfl) (by simp) (by have := zuZ bk (R.take k); simp at this ⊢; omega) (by unfold maxLen; have := zuZ bk (R.take k); simp at this ⊢; omega)) ?_
         refine zg rfl rfl (qo rfl rfl) (zo (zf (qp (zL (qw (zf (zh (zg rfl rfl (zV rfl rfl rfl ⟨(by omega), (by omega)⟩) (zg rfl rfl (zi rfl rfl) (zo ?_))))))))))
         exact ⟨⟨k + 1, by omega, xQ hk.2 hlt (htk.2)⟩, by dsimp only; omega, zt _ ⟨rfl, rfl, rfl, (congrArg (EV.psl 1) (by rw [hst]; simp)), rfl, rfl, rfl, trivial⟩ (congrArg (fun z => [zlS encS (wmP bk), PO.row z]) (by rw [hst]; first | (simp [hj2]; done) | simp))⟩
        ·
         have htk := zyb (bk := bk) (w := R[k]) (by simpa using h5)
         have hst := zwd (bk := bk) hlt
         rw [htk.1] at hst
         refine zC (zf (zl (zl (zh (zg rfl rfl (zi rfl rfl) (zg rfl rfl (zy (av := [_, _]) rfl ⟨rfl, rfl, trivial⟩ (f103 (R[k]'hlt) zl8 124 [] [] zqJ (fun r => f124 r))) (zg rfl rfl (je rfl rfl) (zo (zf (zx rfl (fun h6 => ?_) (fun h6 => ?_)))))))))))
         ·
          have hz : u = false := by rw [← hu]; unfold zwN; rw [hR, show R.all (zvZ bk) = false from by rw [List.all_eq_false]; exact ⟨R[k], List.getElem_mem hlt, by rw [htk.2]; simpa using h6⟩]; simp
          refine zl (zh (zg rfl rfl (zn rfl rfl) (zg rfl rfl (zn rfl rfl) (zo (zf (zP (zQ (qF (zQ (zQ (qF ?_)))))))))))
          refine zQ ?_
          exact ⟨.inr rfl, ⟨_, rfl, ⟨_, _, rfl, (by rw [hz]; exact AVle.nil), ⟨_, _, rfl, (by rw [hz]; exact AVle.refl _), rfl⟩⟩⟩⟩
         ·
          have hfg : ofB zl8 R[k] = true := by simpa using h6
          have hfm := zyq hfg
          have htB : zvZ bk R[k] = true := by rw [htk.2]; exact hfg
          refine zC (zf (zl (zh (zg rfl rfl (zn rfl rfl) (zo (zf (zl (zl (zh (zg rfl rfl (zi rfl rfl) ?_))))))))))
          refine zjE rfl rfl rfl rfl Tryz.underlying9 (fun itb => ?_)
          refine zo (zf (zB ?_))
          refine qy (ι := { j : Nat // j <= (R[k]'hlt).length }) (fun j => ⟨⟨Tryz.f71.ntmps, [], [], false, [(itb, .stringIter ⟨(R[k]'hlt).toArray⟩ j.1)]⟩, frL [(2, .pub (jD ts)), (3, .pub (.ptr (qK c))), (8, .mpv 0), (11, .psl 1 ((R.take k).flatMap (zuM bk)).length), (49, .pub (jD R)), (50, I (R.length : Int)), (51, I (k : Int)), (13, SL (R[k]'hlt)), (16, I (zvM ((R[k]'hlt).take j.1))), (73, itP itb)], [zlS encS (wmP bk), .row (((R.take k).flatMap (zuM bk)).map fun n => [I n])]⟩) (fun j => (R[k]'hlt).length - j.1) (⟨0, by omega⟩) ?_ ?_
          ·
           exact zt _ ⟨rfl, rfl, rfl, rfl, rfl, rfl, rfl, rfl, rfl, rfl, trivial⟩ (rfl)
          ·
           rintro ⟨j, hj⟩
           dsimp only
           refine zl (zh ?_)
           refine zlD rfl rfl rfl rfl rfl rfl ?_
           refine zg rfl rfl (zN rfl rfl (zsE _ _)) (zo (zf (zl (zx rfl (fun h7 => ?_) (fun h7 => ?_)))))
           ·
            have hlt0 : j < (⟨(R[k]'hlt).toArray⟩ : ByteArray).size := by simpa using h7
            have hkl : j < (R[k]'hlt).length := by simpa [ByteArray.size] using hlt0
            have hat := hfm.2 _ (List.getElem_mem hkl)
            have hlow : (R[k]'hlt)[j].toNat < 128 := by omega
            have hnx := zls hkl hlow
            have hdec := zln hkl hlow
            have hnb := zw8 ((R[k]'hlt).take j) (fun b hb => hfm.2 b (List.mem_of_mem_take hb)) (by simp; omega)
            have hd1 : ((Utf8.decode ⟨(R[k]).toArray⟩ j).1 : Int) = (R[k][j].toNat : Int) := by rw [hdec]
            refine zC (zf (zB (zl (zh (zg rfl rfl (zN rfl rfl (zsM hlt0)) (zg rfl rfl (zn rfl rfl) (zo (zf (zh (zg rfl rfl (zi rfl rfl) ?_))))))))))
            refine zg rfl rfl (zcY rfl rfl rfl ⟨by omega, by omega⟩) ?_
            refine zg rfl rfl (zi rfl rfl) (zg rfl rfl (zhQ rfl rfl rfl (wrap_i32 (by omega))) (zg rfl rfl (y8 rfl rfl Tryz.underlying21 Tryz.underlying3 (zeq (by omega))) (zg rfl rfl (zV rfl rfl rfl ⟨(by omega), (by omega)⟩) (zg rfl rfl (zn rfl rfl) (zo (zD ?_))))))
            exact ⟨⟨j + 1, by omega⟩, by dsimp only; omega, zeI (congrArg (fun z => (⟨Tryz.f71.ntmps, [], [], false, [(itb, Obj.stringIter ⟨R[k].toArray⟩ z)]⟩ : NS)) hnx) _ ⟨rfl, rfl, rfl, rfl, rfl, rfl, rfl, rfl, (congrArg (fun x : Int => I x) (by dsimp only; rw [hd1, List.take_succ_eq_append_getElem hkl, zwz])), rfl, trivial⟩ rfl⟩
           ·
            have hge : (R[k]'hlt).length <= j := by simpa [ByteArray.size] using h7
            have hj2 : (R[k]'hlt).take j = R[k] := List.take_of_length_le hge
            refine qp (zL (zL (qw (zf ?_))))
            refine qx zm1 ?_
            refine zh (zg rfl rfl (zI rfl rfl) (zg rfl rfl (zi rfl rfl) ?_))
            refine zg rfl rfl (qg (size := 1) (rows := [[_]]) rfl Tryz.underlying23 ti3 rfl (by decide) rfl (by decide) ⟨_, _, rfl, (jF rfl), rfl⟩ (by rfl) (by simp [ofV]) rfl (by simp)) ?_
            refine jb rfl (vS rfl rfl rfl rfl (by simp) rfl zvw (by intro r hr; obtain ⟨n, _, rfl⟩ := List.mem_map.1 hr; rfl) (by simp) (by have := zuZ bk (R.take k); simp at this ⊢; omega) (by unfold maxLen; have := zuZ bk (R.take k); simp at this ⊢; omega)) ?_
            refine zg rfl rfl (qo rfl rfl) (zo (zD (zf (zh (zg rfl rfl (zV rfl rfl rfl ⟨(by omega), (by omega)⟩) (zg rfl rfl (zi rfl rfl) (zo ?_)))))))
            exact ⟨⟨k + 1, by omega, xQ hk.2 hlt (htB)⟩, by dsimp only; omega, zt _ ⟨rfl, rfl, rfl, (congrArg (EV.psl 1) (by rw [hst]; simp)), rfl, rfl, rfl, trivial⟩ (congrArg (fun z => [zlS encS (wmP bk), PO.row z]) (by rw [hst]; first | (simp [hj2]; done) | simp))⟩
       ·
        have hge : R.length <= k := by simpa using h4
        have hk2 : k = R.length := by omega
        subst hk2
        rw [List.take_length] at hk
        have hbd : ∀ n ∈ ((R.take R.length).flatMap (zuM bk)), 0 <= n /\ n <= 1000000000000 := by rw [List.take_length]; exact zyB hbk hk.2
        have hLm : ((R.take R.length).flatMap (zuM bk)) = zvx bk ts := by rw [List.take_length]; unfold zvx; rw [hR]
        have hub : zwN c bk ts = (wS c ((R.take R.length).flatMap (zuM bk)) && decide (some x = some (chk ((R.take R.length).flatMap (zuM bk))).chs)) := by unfold zwN; rw [hR, hk.2, hx, hLm, decide_eq_true hne, Bool.true_and, Bool.true_and]
        refine qp (zL (zL (qw (zf (zl (zl ?_))))))
        refine qx (zcT (k := 1) (m := ((R.take R.length).flatMap (zuM bk)).length) (rows := ((R.take R.length).flatMap (zuM bk)).map fun n => [.v (.int .i64 n)]) [11] (by simp [Function.comp_def]) (by simp) (by intro d hd; rw [List.mem_singleton] at hd; subst hd; rfl)) ?_
        refine qY mixed (by kernel_rfl) rfl ?_
        refine zH rfl (zZ rfl rfl wH (by exact zLb rfl)) (zH rfl (zq rfl rfl) ?_)
        refine zH rfl (zy (av := [_, _]) rfl ⟨rfl, rfl, trivial⟩ (f117 c ((R.take R.length).flatMap (zuM bk)) (by have := zuZ bk R; rw [List.take_length]; omega))) ?_
        refine zH rfl (je rfl rfl) (zH rfl (zi rfl rfl) (jm rfl (fun hg => zq rfl rfl) ?_))
        refine jm rfl (fun hg => zy (av := [_]) rfl ⟨((if_pos hg)), trivial⟩ (f123 ((R.take R.length).flatMap (zuM bk)) (by have := zuZ bk R; rw [List.take_length]; omega) hbd)) ?_
        refine jm rfl (fun hg => zq rfl rfl) (jm rfl (fun hg => zq rfl rfl) (jm rfl (fun hg => zuz rfl (if_pos hg) Tryz.underlying34) ?_))
        refine jm rfl (fun hg => ze5 rfl (if_pos hg) rfl ⟨(by first | omega | (simp at hg; omega)), (by first | omega | (simp at hg; omega))⟩) ?_
        refine jm rfl (fun hg => zG rfl (if_pos hg) (if_pos hg) yJ (by omega) (zyl hx hpos) vZ) (jm rfl (fun hg => zA rfl (if_pos hg) rfl ty9) (jm rfl (fun hg => zue rfl (if_pos hg) (if_pos hg)) (zH rfl (qU rfl rfl rfl rfl) (jw (zf (zx rfl (fun h8 => ?_) (fun h8 => ?_)))))))
        ·
         have hz : u = false := by
          rw [← hu, hub]
          simp at h8 ⊢
          intro h
          rcases h8 with h8 | h8
          ·
           rw [h8] at h; cases h
          ·
           exact fun e => h8 e.symm
         refine zl (zh (zg rfl rfl (zn rfl rfl) (zg rfl rfl (zn rfl rfl) (zo (zf (zP (zQ ?_)))))))
         exact ⟨.inr rfl, ⟨_, rfl, ⟨_, _, rfl, (by rw [hz]; exact AVle.nil), ⟨_, _, rfl, (by rw [hz]; exact AVle.refl _), rfl⟩⟩⟩⟩
        ·
         have hz : u = true := by
          rw [← hu, hub]
          simp at h8 ⊢
          exact ⟨h8.1, h8.2.symm⟩
         refine zC (zf (zl (zh (zg rfl rfl (zq rfl rfl) (zg rfl rfl (zW rfl rfl) (zg rfl rfl (zn rfl rfl) (zo (zf (zP ?_)))))))))
         exact ⟨.inr rfl, ⟨_, rfl, ⟨_, _, rfl, (by rw [hz]; exact AVle.of (by rw [← hLm]; rfl)), ⟨_, _, rfl, (by rw [hz]; exact AVle.refl _), rfl⟩⟩⟩⟩
end Go.Av
end
