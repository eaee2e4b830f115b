
import Derived.Test.YtaphehlgijlfeaaGreatDoorWiP1
import Derived.Test.YtaphehlgijlfeaaGreatDoorLibB
import Derived.Test.YtaphehlgijlfeaaGreatDoorPlatQ
import Derived.Test.YtaphehlgijlfeaaGreatDoorWiN
set_option linter.unusedVariables false
set_option linter.unusedSimpArgs false
section
namespace Go.Av
open Go.Proofs
set_option maxRecDepth 100000
set_option maxHeartbeats 1000000
variable {G : Glob}
theorem zxa : tyIs Tryz.prog 154 false 1 = true := by kernel_rfl
theorem zxg : tyIs Tryz.prog 155 false 1 = true := by kernel_rfl
theorem zu5 : tyIs Tryz.prog 158 true 3 = true := by kernel_rfl
theorem zvE : tyIs Tryz.prog 161 true 4 = true := by kernel_rfl
theorem qf : tyIs Tryz.prog 73 true 2 = true := by kernel_rfl
theorem zuP : tyIs Tryz.prog 71 false 1 = true := by kernel_rfl
theorem ty4 : tyIs Tryz.prog 4 false 1 = true := by kernel_rfl
theorem zwU : tyIs Tryz.prog 156 false 1 = true := by kernel_rfl
theorem zyN : xn Tryz.prog 158 [(0, 1), (1, 1), (2, 1)] [.slice none 0 0, .int .i64 0, .int .i64 0] := ⟨_, Tryz.underlying158, by kernel_rfl, by kernel_rfl⟩
theorem zxn : zau Tryz.prog 155 1 = true := by kernel_rfl
theorem zz1 : elemIs Tryz.prog 154 158 3 40 := ⟨Tryz.underlying154, Tryz.t158, _, by kernel_rfl, rfl, rfl, rfl, rfl, by decide⟩
theorem zv8 : zau Tryz.prog 71 4 = true := by kernel_rfl
theorem zvx : fldIs Tryz.prog 158 2 2 = true := by kernel_rfl
theorem zu3 : fldIs Tryz.prog 158 0 0 = true := by kernel_rfl
theorem zz4 : Tryz.prog.info? 158 = some Tryz.t158 := by kernel_rfl
theorem zuy : fldIs Tryz.prog 73 1 1 = true := by kernel_rfl
theorem zxL : (Tryz.prog.info? 161).bind (·.zero) = some (.agg #[.int .i64 0, .int .i64 0, .int .i64 0, .int .i64 0]) := by kernel_rfl
theorem zuM : fldIs Tryz.prog 161 0 0 = true := by kernel_rfl
theorem zuL : fldIs Tryz.prog 161 1 1 = true := by kernel_rfl
theorem zu4 : fldIs Tryz.prog 158 1 1 = true := by kernel_rfl
theorem zvC : fldIs Tryz.prog 161 2 2 = true := by kernel_rfl
theorem zvt : fldIs Tryz.prog 161 3 3 = true := by kernel_rfl
def zuI (N : Nat) (M : List Int) : List (List EV) := (List.range N).map fun (v : Nat) => [B (decide ((v : Int) ∈ M))]
theorem zuU (N : Nat) (M : List Int) : (zuI N M).length = N := by simp [zuI]
theorem zvI (N : Nat) (M : List Int) : ∀ q ∈ zuI N M, q.length = 1 := by simp [zuI]
theorem zvM {N : Nat} {M : List Int} {p : Int} (h : 0 <= p) (h2 : p < N) : (zuI N M)[p.toNat]? = some [B (decide (p ∈ M))] := by
 have h3 : p.toNat < N := by omega
 have h4 : ((p.toNat : Nat) : Int) = p := by omega
 simp [zuI, h3, h4]
theorem zyB {N : Nat} {M : List Int} {p : Int} (h : 0 <= p) (h2 : p < N) {r : List EV} (hr : r.length = 1) : (zuI N M).set p.toNat (putCells r 0 [B true]) = zuI N (M ++ [p]) := by
 obtain ⟨x, rfl⟩ : ∃ x, r = [x] := by
  cases r with
  | nil => cases hr
  | cons x r => exact ⟨x, by cases r with | nil => rfl | cons => simp at hr⟩
 apply List.ext_getElem
 ·
  simp [zuI]
 ·
  intro i h1 h3
  have hi : i < N := by simpa [zuI] using h3
  rw [List.getElem_set]
  by_cases e : p.toNat = i
  ·
   have : (i : Int) = p := by omega
   simp [zuI, e, putCells, this]
  ·
   have : ¬ (i : Int) = p := by omega
   simp [zuI, e, this]
theorem zx7 {N : Nat} {M : List Int} {p : Int} (h : 0 <= p) (h2 : p < N) (hp : p ∉ M) {r : List EV} (hr : r.length = 1) : (zuI N (M ++ [p])).set p.toNat (putCells r 0 [B false]) = zuI N M := by
 obtain ⟨x, rfl⟩ : ∃ x, r = [x] := by
  cases r with
  | nil => cases hr
  | cons x r => exact ⟨x, by cases r with | nil => rfl | cons => simp at hr⟩
 apply List.ext_getElem
 ·
  simp [zuI]
 ·
  intro i h1 h3
  have hi : i < N := by simpa [zuI] using h3
  rw [List.getElem_set]
  by_cases e : p.toNat = i
  ·
   have : (i : Int) = p := by omega
   simp [zuI, e, putCells, this, hp]
  ·
   have : ¬ (i : Int) = p := by omega
   simp [zuI, e, this]
def rtV (nt : Nt) (words : Int) (l : List Int) : List AV := [nums l, ei (prc nt l * words), ei (grb nt l)]
def zve (nt : Nt) (words : Int) (rs : List (List Int)) : List (List EV) := rs.map fun r => (rtV nt words r).map .pub
theorem zy3 (nt : Nt) (words : Int) (rs : List (List Int)) : ∀ q ∈ zve nt words rs, q.length = 3 := by simp [zve, rtV]
theorem zu6 (nt : Nt) (words : Int) (rs : List (List Int)) : (zve nt words rs).length = rs.length := by simp [zve]
theorem zxo (nt : Nt) (words : Int) (rs : List (List Int)) (l : List Int) : zve nt words rs ++ [(rtV nt words l).map .pub] = zve nt words (rs ++ [l]) := by simp [zve]
def zuX (nt : Nt) (to words most : Int) : List EV := [.pub (.ptr [ei most]), .pub (.ptr [ei to]), .pp 0 1 0 0, .pp 2 1 0 0, .pub (.ptr (eNt nt)), .pp 3 1 0 0, .pub (.ptr [ei words])]
def zuW (nt : Nt) (to words most : Int) (M : List Int) (rs : List (List Int)) : List PO := [.row [[.psl 4 rs.length]], .row (zuI nt.offices.toNat M), .row [[.psl 1 nt.offices.toNat]], .row [[.fnm 111 [] (zuX nt to words most)]], .row (zve nt words rs)]
theorem zzf {nt : Nt} {to words most : Int} {M : List Int} {rs : List (List Int)} {n : Nat} {r1 r2 : List (List EV)} (h1 : n = rs.length) (h2 : r1 = zuI nt.offices.toNat M) (h3 : r2 = zve nt words rs) (D : List PO) :
  [PO.row [[.psl 4 n]], .row r1, .row [[.psl 1 nt.offices.toNat]], .row [[.fnm 111 [] (zuX nt to words most)]], .row r2] ++ D = zuW nt to words most M rs ++ D := by subst h1; subst h2; subst h3; rfl
theorem zvv {nt : Nt} {to words most : Int} {M : List Int} {rs : List (List Int)} {n : Nat} {r1 r2 : List (List EV)} (h1 : n = rs.length) (h2 : r1 = zuI nt.offices.toNat M) (h3 : r2 = zve nt words rs) :
  [PO.row [[.psl 4 n]], .row r1, .row [[.psl 1 nt.offices.toNat]], .row [[.fnm 111 [] (zuX nt to words most)]], .row r2] = zuW nt to words most M rs := by subst h1; subst h2; subst h3; rfl
theorem zxU {nt : Nt} {to words most : Int} {M M' : List Int} {rs rs' : List (List Int)} (h1 : M = M') (h2 : rs = rs') : zuW nt to words most M rs = zuW nt to words most M' rs' := by subst h1; subst h2; rfl
theorem zvU (nt : Nt) (to words most : Int) (M : List Int) (rs : List (List Int)) : zdA (zuW nt to words most M rs).length (zuW nt to words most M rs) := by
 refine ⟨?_, ?_, ?_, ?_, ?_, trivial⟩
 ·
  intro r hr x hx
  simp at hr; subst hr; simp at hx; subst hx
  show 4 < 5
  omega
 ·
  intro r hr x hx
  obtain ⟨y, _, rfl⟩ := List.mem_map.1 hr
  simp at hx; subst hx; trivial
 ·
  intro r hr x hx
  simp at hr; subst hr; simp at hx; subst hx
  show 1 < 5
  omega
 ·
  intro r hr x hx
  simp at hr; subst hr; simp at hx; subst hx
  refine ⟨trivial, trivial, trivial, ?_, ?_, trivial, ?_, trivial, trivial⟩ <;> (show _ < 5; omega)
 ·
  intro r hr x hx
  obtain ⟨y, _, rfl⟩ := List.mem_map.1 hr
  obtain ⟨z, _, rfl⟩ := List.mem_map.1 hx
  trivial
def rtG (nt : Nt) (to most : Int) (fu : Nat) (a : Int) (M l : List Int) : List (List Int) := (rts nt to fu a (M ++ [a]) l).filter fun r => decide (grb nt r <= most)
def zvj (nt : Nt) (to most : Int) (fu : Nat) (a : Int) (M l : List Int) (i : Nat) : List (List Int) := if goB nt a (M ++ [a]) i then rtG nt to most fu (oth (lnA nt i) a) (M ++ [a]) (l ++ [(i : Int)]) else []
def rsJ (nt : Nt) (to most : Int) (fu : Nat) (a : Int) (M l : List Int) (rs : List (List Int)) (j : Nat) : List (List Int) := rs ++ (List.range j).flatMap (zvj nt to most fu a M l)
theorem zvh {α β : Type} (p : β -> Bool) (f : α -> List β) : ∀ l : List α, (l.flatMap f).filter p = l.flatMap fun x => (f x).filter p
 | [] => rfl
 | x :: l => by rw [List.flatMap_cons, List.filter_append, zvh p f l, List.flatMap_cons]
theorem zzM {nt : Nt} {to most : Int} {fu : Nat} {a : Int} {M l : List Int} (h : a ≠ to) : rtG nt to most (fu + 1) a M l = (List.range nt.lines.length).flatMap (zvj nt to most fu a M l) := by
 unfold rtG
 rw [rts, if_neg h, zvh]
 congr 1
 funext i
 unfold zvj
 split <;> rfl
theorem zzK {nt : Nt} {to most : Int} {fu : Nat} {M l : List Int} (h : grb nt l <= most) : rtG nt to most (fu + 1) to M l = [l] := by
 unfold rtG
 rw [rts, if_pos rfl]; simp [h]
theorem zze {nt : Nt} (hn : zuA nt = true) {to most : Int} {fu : Nat} {a : Int} {M l : List Int} (h : most < grb nt l) : rtG nt to most fu a M l = [] := zy5 hn h
theorem zzv {nt : Nt} {to most : Int} {fu : Nat} {a : Int} {M l : List Int} {rs : List (List Int)} : rsJ nt to most fu a M l rs 0 = rs := by simp [rsJ]
theorem zvD {nt : Nt} {to most : Int} {fu : Nat} {a : Int} {M l : List Int} {rs : List (List Int)} (j : Nat) : rsJ nt to most fu a M l rs (j + 1) = rsJ nt to most fu a M l rs j ++ zvj nt to most fu a M l j := by
 simp [rsJ, List.range_succ]
theorem zzI {nt : Nt} {to most : Int} {fu : Nat} {a : Int} {M l : List Int} {rs : List (List Int)} {N : Nat} : ∀ {j : Nat}, j <= N -> (rsJ nt to most fu a M l rs j).length <= (rsJ nt to most fu a M l rs N).length := by
 induction N with
 | zero => intro j h; rw [show j = 0 by omega]; exact Nat.le_refl _
 | succ N ih =>
  intro j h
  by_cases e : j = N + 1
  ·
   rw [e]; exact Nat.le_refl _
  ·
   have := ih (j := j) (by omega)
   rw [zvD (j := N), List.length_append]; omega
theorem zwx {nt : Nt} {to most : Int} {fu : Nat} {a : Int} {M l : List Int} {rs : List (List Int)} (h : a ≠ to) : rsJ nt to most fu a M l rs nt.lines.length = rs ++ rtG nt to most (fu + 1) a M l := by
 rw [zzM h]; rfl
theorem zxC {nt : Nt} {j : Nat} (h : j < nt.lines.length) : nt.lines[j] = lnA nt (j : Int) := by simp [lnA, h]
theorem zxw {nt : Nt} {j : Nat} (h : j < nt.lines.length) : (nt.lines.map zs3)[j]? = some (zs3 (lnA nt (j : Int))) := by rw [← zxC h]; simp [h]
theorem zva {L : List Lin} : ∀ q ∈ L.map zs3, q.length = 4 := by simp [zs3]
theorem zwa {p w P W : Int} (hp : 0 <= p /\ p <= P) (hw : 0 <= w /\ w <= W) : 0 <= p * w /\ p * w <= P * W :=
 ⟨Int.mul_nonneg hp.1 hw.1, Int.mul_le_mul hp.2 hw.2 hw.1 (Int.le_trans hp.1 hp.2)⟩
theorem zyO (l : List Int) : AVle (LN l) (nums l) := by
 cases l with
 | nil => exact zzO rfl
 | cons x l => exact AVle.refl _
theorem zxE (l : List Int) (i : Int) : AV.sl ((l ++ [i]).map fun n => [AV.v (.int .i64 n)]) = LN (l ++ [i]) := by
 cases l <;> rfl
theorem zyM (nt : Nt) (to words most : Int) (hn : zuA nt = true) (hw : 0 <= words /\ words <= 100) (a : Int) (M l : List Int) (rs : List (List Int)) (ha : 0 <= a /\ a <= nt.offices - 1) (hM : a ∉ M) (hll : l.length <= 8) (hg : most < grb nt l) : zjj Tryz.prog G 111 ([I a, .pub (.agg [LN l, ei (prc nt l * words), ei (grb nt l)])] ++ zuX nt to words most) (zuW nt to words most M rs) (.ret (.pub (.tup [])) (zuW nt to words most M rs)) := by
 have h6 := zuH hn
 have hpb := zvi hn l
 have hgb := zvH hn l
 have hpw := zwa (P := 80000) ⟨hpb.1, by omega⟩ hw
 refine zow Tryz.func111 rfl (by kernel_rfl) rfl (fun gh hold => ?_)
 refine zl (zh (zg rfl rfl (jf rfl (zY rfl)) (zo (zf ?_))))
 refine zvW ?_
 refine zl (zl (zh (zg rfl rfl (zu rfl rfl zvx) (zg rfl rfl (zA rfl rfl rfl ty3) (zg rfl rfl (zA rfl rfl rfl ty3) (zg rfl rfl (qR rfl rfl rfl) (zo (zf (zx rfl (fun h0 => ?_) (fun h0 => ?_))))))))))
 ·
  refine zP (zQ ?_)
  refine zyF ?_
  exact zbB [] ((List.append_nil _).symm) (zvU ..) (by exact Nat.le_refl _) (.inr rfl) trivial ⟨[], rfl, rfl⟩
 ·
  exfalso; simp at h0; omega
theorem zzk (nt : Nt) (to words most : Int) (hn : zuA nt = true) (hw : 0 <= words /\ words <= 100) (a : Int) (M l : List Int) (rs : List (List Int)) (ha : 0 <= a /\ a <= nt.offices - 1) (hM : a ∉ M) (hll : l.length <= 8) (hg : grb nt l <= most) (hto : a = to) (hsz : rs.length <= 20000000) : zjj Tryz.prog G 111 ([I a, .pub (.agg [LN l, ei (prc nt l * words), ei (grb nt l)])] ++ zuX nt to words most) (zuW nt to words most M rs) (.ret (.pub (.tup [])) (zuW nt to words most M (rs ++ [l]))) := by
 have h6 := zuH hn
 have hpb := zvi hn l
 have hgb := zvH hn l
 have hpw := zwa (P := 80000) ⟨hpb.1, by omega⟩ hw
 refine zow Tryz.func111 rfl (by kernel_rfl) rfl (fun gh hold => ?_)
 refine zl (zh (jb rfl (zqW rfl rfl (zY rfl)) (zo (zf ?_))))
 refine zvW ?_
 refine zl (zl (zh (zg rfl rfl (qE rfl rfl rfl rfl zvx) (zg rfl rfl (zK rfl rfl rfl rfl rfl rfl ty3) (zg rfl rfl (zA rfl rfl rfl ty3) (zg rfl rfl (qR rfl rfl rfl) (zo (zf (zx rfl (fun h0 => ?_) (fun h0 => ?_))))))))))
 ·
  exfalso; simp at h0; omega
 ·
  refine zC (zf (zl (zl (zh (zg rfl rfl (zi rfl rfl) (zg rfl rfl (zA rfl rfl rfl ty3) (zg rfl rfl (qJ rfl rfl rfl) (zo (zf (zx rfl (fun h1 => ?_) (fun h1 => ?_)))))))))))
  ·
   refine zl (zh (zg rfl rfl (qE rfl rfl rfl rfl zu3) (zg rfl rfl (zK rfl rfl rfl rfl rfl rfl jO) (zg rfl rfl (zpW (av := [nums l]) rfl ⟨zyO l, trivial⟩ (n112 l (by omega))) (zg rfl rfl (qE rfl rfl rfl rfl zu3) ?_)))))
   refine jb rfl (qG rfl rfl rfl rfl rfl rfl (kQ rfl) jO (by rfl) (by exact zLb rfl)) ?_
   refine zo (zf (zl (zh (zg rfl rfl (zK rfl rfl rfl rfl rfl rfl zxa) (zg rfl rfl (qN (cs := [_, _, _]) rfl rfl rfl rfl rfl (by exact zLb rfl) rfl zu5) ?_)))))
   refine zg rfl rfl (qg (size := 3) (rows := [[_, _, _]]) rfl Tryz.underlying154 zz4 rfl (by decide) rfl (by decide) ⟨_, _, rfl, (zY rfl), rfl⟩ (by rfl) (by simp [ofV, ei]) rfl (by simp)) ?_
   refine jb rfl (vS rfl rfl rfl rfl (zu6 ..) rfl zz1 (zy3 nt words rs) (by simp) (by simp; omega) (by unfold maxLen; simp; omega)) ?_
   refine jb rfl (qG rfl rfl rfl rfl rfl rfl (zbO rfl rfl (by simp [zu6])) zxa (by rfl) (by exact zLb rfl)) ?_
   refine zo (zf (zP (zQ ?_)))
   refine zyF ?_
   exact zbB [.row [(rtV nt words l).map EV.pub]] (zzf (by simp [zu6]) rfl (zxo ..) [.row [(rtV nt words l).map EV.pub]]) (zvU ..) (by exact Nat.le_refl _) (.inr rfl) trivial ⟨[], rfl, rfl⟩
  ·
   exfalso; simp [hto] at h1
theorem zyy {fr : Nat -> EV} {mem : List PO} {o : Oper} {x : Operand} {tys : Array TypeId} {k : Nat} {ms : List Int} (ho : o.op = .call { callee := .value (.func 112), args := #[x], argTypes := tys }) (hx : evO fr x = .pub (LN ms)) (hms : ms.length <= 1000000) (hml : mem[k]? = some (.row [])) :
  ∀ mm : List PO, mm[k]? = mem[k]? -> True -> OpB Tryz.prog G fr mm o (.psl k ms.length) (mm.set k (.row (ms.map fun n => [I n]))) /\ True := fun mm hmm _ =>
 ⟨fun N fr2 he hd => zya (st := ⟨N, fr2, mm⟩) ⟨_, Tryz.func112, rfl, rfl⟩ (fun b off n c zs w h1 h2 h3 => Any.slices_Clone_int Tryz.laysNm215 b off n c zs w h1 h2 h3) (fun n c w => Any.slices_Clone_int_nil Tryz.laysNm215 n c w) hms ho hd ((he x (by simp [ho, Op.operands, Call.operands])).trans hx) (hmm.trans hml), trivial⟩
theorem zw5 {nt : Nt} {a : Int} {M : List Int} {j : Nat} {X : Lin} (hX : lnA nt (j : Int) = X) : goB nt a M j = (!((X.src != a && X.dst != a) || decide (oth X a ∈ M))) := by
 unfold goB touch
 rw [hX]
 by_cases h1 : X.src = a <;> by_cases h2 : X.dst = a <;> simp [h1, h2]
theorem zw4 {nt : Nt} {x : Lin} {a : Int} (h : zvO nt x = true) (hg : (!(x.src != a && x.dst != a)) = true) : 0 <= oth x a /\ oth x a <= nt.offices - 1 :=
 (zu0 h (by
  unfold touch
  by_cases h1 : x.src = a
  ·
   simp [h1]
  ·
   by_cases h2 : x.dst = a
   ·
    simp [h2]
   ·
    simp [h1, h2] at hg)).1
theorem zzl (fu : Nat) (nt : Nt) (to words most : Int) (hn : zuA nt = true) (hw : 0 <= words /\ words <= 100) (a : Int) (M l : List Int) (rs : List (List Int)) (ha : 0 <= a /\ a <= nt.offices - 1) (hM : a ∉ M) (hll : l.length <= 8) (hll2 : l.length + 1 <= 8) (hg : grb nt l <= most) (hto : a ≠ to) (hsz : rs.length + (rtG nt to most (fu + 1) a M l).length <= 20000000)
  (ih : ∀ (j : Nat) (rs' : List (List Int)), j < nt.lines.length -> goB nt a (M ++ [a]) j = true -> rs'.length + (rtG nt to most fu (oth (lnA nt (j : Int)) a) (M ++ [a]) (l ++ [(j : Int)])).length <= 20000000 -> zjj Tryz.prog G 111 ([I (oth (lnA nt (j : Int)) a), .pub (.agg [LN (l ++ [(j : Int)]), ei (prc nt (l ++ [(j : Int)]) * words), ei (grb nt (l ++ [(j : Int)]))])] ++ zuX nt to words most) (zuW nt to words most (M ++ [a]) rs') (.ret (.pub (.tup [])) (zuW nt to words most (M ++ [a]) (rs' ++ rtG nt to most fu (oth (lnA nt (j : Int)) a) (M ++ [a]) (l ++ [(j : Int)]))))) : zjj Tryz.prog G 111 ([I a, .pub (.agg [LN l, ei (prc nt l * words), ei (grb nt l)])] ++ zuX nt to words most) (zuW nt to words most M rs) (.ret (.pub (.tup [])) (zuW nt to words most M (rs ++ rtG nt to most (fu + 1) a M l))) := by
 have h6 := zuH hn
 have hpb := zvi hn l
 have hgb := zvH hn l
 have hpw := zwa (P := 80000) ⟨hpb.1, by omega⟩ hw
 have hal : a < (nt.offices.toNat : Int) := by omega
 have hsz2 : (rsJ nt to most fu a M l rs nt.lines.length).length <= 20000000 := by rw [zwx hto, List.length_append]; exact hsz
 refine zx4 Tryz.func111 rfl (by kernel_rfl) rfl (fun gh hold hgl => ?_)
 refine zl (zh (zg rfl rfl (jf rfl (zY rfl)) (zo (zf ?_))))
 refine zvW ?_
 refine zl (zl (zh (zg rfl rfl (zu rfl rfl zvx) (zg rfl rfl (zA rfl rfl rfl ty3) (zg rfl rfl (zA rfl rfl rfl ty3) (zg rfl rfl (qR rfl rfl rfl) (zo (zf (zx rfl (fun h0 => ?_) (fun h0 => ?_))))))))))
 ·
  skip
  exfalso; simp at h0; omega
 ·
  skip
  refine zC (zf (zl (zl (zh (zg rfl rfl (zi rfl rfl) (zg rfl rfl (zA rfl rfl rfl ty3) (zg rfl rfl (qJ rfl rfl rfl) (zo (zf (zx rfl (fun h1 => ?_) (fun h1 => ?_)))))))))))
  ·
   skip
   exfalso; simp [hto] at h1
  ·
   skip
   refine zC (zf (zl (zh (zg rfl rfl (zK rfl rfl rfl rfl rfl rfl zxg) (zg rfl rfl (zi rfl rfl) (zg rfl rfl (qc rfl rfl rfl rfl (zuU ..) zxn (by omega) (by omega) (zvI _ M)) ?_))))))
   refine jb rfl (qG (r := [B (decide (a ∈ M))]) rfl rfl rfl rfl (zuU ..) (zvM (by omega) (by omega)) (jF rfl) ty4 (by rfl) (by exact zLb rfl)) ?_
   refine zo (zf (zl ?_))
   refine zyT ?_
   refine zf (zl (zl (zh (zg rfl rfl (zu rfl rfl zuy) (zg rfl rfl (zA rfl rfl rfl zuP) (zg rfl rfl (qh rfl rfl rfl Tryz.underlying71) (zg rfl rfl (zi rfl rfl) (zo (zf (zB ?_))))))))))
   refine qy (ι := { j : Nat // j <= nt.lines.length }) (fun j => ⟨⟨Tryz.f111.ntmps, [], gh, false, hold⟩, frL [(0, I a), (2, .pub (.ptr [ei most])), (3, .pub (.ptr [ei to])), (4, .pp 0 1 0 0), (5, .pp 2 1 0 0), (6, .pub (.ptr (eNt nt))), (7, .pp 3 1 0 0), (8, .pub (.ptr [ei words])), (10, .pub (.ptr [LN l, ei (prc nt l * words), ei (grb nt l)])), (33, .pub (.sl (nt.lines.map zs3))), (34, I (nt.lines.length : Int)), (35, I (j.1 : Int))], (zuW nt to words most (M ++ [a]) (rsJ nt to most fu a M l rs j.1))⟩) (fun j => nt.lines.length - j.1) (⟨0, by omega⟩) ?_ ?_
   ·
    exact zt _ ⟨rfl, rfl, rfl, rfl, rfl, rfl, rfl, rfl, rfl, rfl, (congrArg (fun z : Nat => I (z : Int)) (List.length_map ..)), rfl, trivial⟩ ((by exact zvv (by rw [zzv]) (zyB (by omega) (by omega) rfl) (by rw [zzv])))
   ·
    rintro ⟨j, hj⟩
    dsimp only
    refine zl (zh (zg rfl rfl (qi rfl rfl rfl) (zo (zf (zl (zx rfl (fun h2 => ?_) (fun h2 => ?_)))))))
    ·
     skip
     have hlt : j < nt.lines.length := by simpa using h2
     have hX := zxC hlt
     have hnl := zvY hn (j : Int)
     have hxl := zvd hn hlt
     have hxb : (0 <= (lnA nt (j : Int)).src /\ (lnA nt (j : Int)).src <= nt.offices - 1) /\ (0 <= (lnA nt (j : Int)).dst /\ (lnA nt (j : Int)).dst <= nt.offices - 1) := by simp only [zvO, Bool.and_eq_true, decide_eq_true_eq] at hxl; omega
     have hmul := zwa hnl.1 hw
     refine zC (zf (zl (zB (zl (zh (zg rfl rfl (zi rfl rfl) (zg rfl rfl (zG rfl rfl rfl zv8 (by omega) (zxw (j := j) hlt) zva) (zg rfl rfl (zZ rfl rfl zvE (by exact zLb rfl)) ?_))))))))
     refine zyn  rfl rfl rfl rfl rfl rfl rfl rfl (zn rfl rfl) rfl rfl rfl zxL zvE rfl (by rfl) (zY rfl) rfl ?_
     refine zo (zf (zl (zh (zg rfl rfl (zu rfl rfl zuM) (zg rfl rfl (zA rfl rfl rfl ty3) (zg rfl rfl (zu rfl rfl zuL) (zg rfl rfl (zA rfl rfl rfl ty3) (zg rfl rfl (zV rfl rfl rfl ⟨(by omega), (by omega)⟩) (zg rfl rfl (zi rfl rfl) (zg rfl rfl (ze5 rfl rfl rfl ⟨(by omega), (by omega)⟩) (zg rfl rfl (zn rfl rfl) ?_)))))))))))
     refine zo (zf (zl (zl (zh (zg rfl rfl (zu rfl rfl zuM) (zg rfl rfl (zA rfl rfl rfl ty3) (zg rfl rfl (zi rfl rfl) (zg rfl rfl (vg rfl rfl rfl) (zg rfl rfl (zi rfl rfl) (zk rfl rfl rfl (fun hg => zu rfl rfl zuL) (zk rfl rfl rfl (fun hg => zA rfl (if_pos hg) rfl ty3) ?_)))))))))))
     refine zk rfl rfl rfl (fun hg => zi rfl rfl) (zk rfl rfl rfl (fun hg => vg rfl (if_pos hg) (if_pos hg)) (zg rfl rfl (qI rfl rfl rfl rfl) (zg rfl rfl (zi rfl rfl) (zk rfl rfl rfl (fun hg => zK rfl rfl rfl rfl rfl rfl zxg) (zk rfl rfl rfl (fun hg => zi rfl rfl) ?_)))))
     refine zk (x := .pp 1 nt.offices.toNat (oth (lnA nt (j : Int)) a).toNat 0) rfl rfl rfl (fun hg => ?_) ?_
     ·
      refine qc (p := oth (lnA nt (j : Int)) a) rfl ?_ ?_ rfl (zuU ..) zxn ?_ ?_ (zvI _ (M ++ [a]))
      ·
       exact if_pos hg
      ·
       exact if_pos hg
      ·
       have := zw4 hxl hg; omega
      ·
       have := zw4 hxl hg; omega
     refine zk (x := B (decide (oth (lnA nt (j : Int)) a ∈ M ++ [a]))) rfl rfl rfl (fun hg => ?_) ?_
     ·
      refine zK (l := 1) (n := nt.offices.toNat) (rows := zuI nt.offices.toNat (M ++ [a])) (i := (oth (lnA nt (j : Int)) a).toNat) (j := 0) rfl ?_ rfl (zuU ..) (zvM ?_ ?_) rfl ty4
      ·
       exact if_pos hg
      ·
       have := zw4 hxl hg; omega
      ·
       have := zw4 hxl hg; omega
     refine zg rfl rfl (qU rfl rfl rfl rfl) (zo (zf (zx rfl (fun h3 => ?_) (fun h3 => ?_))))
     ·
      skip
      have hgo : goB nt a (M ++ [a]) j = false := by rw [zw5 rfl, h3]; rfl
      have hst : zvj nt to most fu a M l j = [] := by unfold zvj; rw [hgo]; rfl
      refine qp (zL (qw (zf (zh (zg rfl rfl (zV rfl rfl rfl ⟨(by omega), (by omega)⟩) (zg rfl rfl (zi rfl rfl) (zo ?_)))))))
      exact ⟨⟨j + 1, by omega⟩, by dsimp only; omega, zt _ ⟨rfl, rfl, rfl, rfl, rfl, rfl, rfl, rfl, rfl, rfl, rfl, rfl, trivial⟩ ((by exact zxU rfl (by rw [zvD, hst]; try simp)))⟩
     ·
      skip
      have hgo : goB nt a (M ++ [a]) j = true := by rw [zw5 rfl, h3]; rfl
      have hst : zvj nt to most fu a M l j = rtG nt to most fu (oth (lnA nt (j : Int)) a) (M ++ [a]) (l ++ [(j : Int)]) := by unfold zvj; rw [hgo]; rfl
      have hsz3 : (rsJ nt to most fu a M l rs j).length + (rtG nt to most fu (oth (lnA nt (j : Int)) a) (M ++ [a]) (l ++ [(j : Int)])).length <= 20000000 := by rw [← hst, ← List.length_append, ← zvD]; exact Nat.le_trans (zzI (by omega)) hsz2
      refine zC (zf ?_)
      refine qx vz ?_
      refine zzm 21 21 rfl (fun _ => True) (fun k => match k with | 0 => .rd [3] | 1 => .stable | 2 => .stable | 3 => .stable | 4 => .own 5 | 5 => .stable | 6 => .stable | 7 => .rw [] 5 | 8 => .stable | 9 => .stable | 10 => .stable | 11 => .stable | 12 => .stable | 13 => .stable | 14 => .stable | 15 => .stable | 16 => .stable | 17 => .stable | 18 => .stable | 19 => .stable | 20 => .rd [5] | _ => .here) mixed (by kernel_rfl) (by kernel_rfl) rfl (by kernel_rfl) trivial ?_
      refine zkx [3] rfl rfl (fun m hm hC => zK rfl rfl ((hm.one 3 rfl).trans rfl) rfl rfl rfl zwU) ?_
      refine wo rfl rfl (fun m hm => zi rfl rfl) (wo rfl rfl (fun m hm => zu rfl rfl zu3) (wo rfl rfl (fun m hm => zA rfl rfl rfl jO) ?_))
      refine zgb rfl rfl (zyy rfl rfl (by omega) rfl) ?_
      refine wo rfl rfl (fun m hm => zi rfl rfl) ?_
      refine wo rfl rfl (fun m hm => qg (size := 1) (rows := [[_]]) rfl Tryz.underlying23 ti3 rfl (by decide) rfl (by decide) ⟨_, _, rfl, (jF rfl), rfl⟩ (by rfl) (by simp [ofV, ei]) rfl (by simp)) ?_
      refine zsL [] 5 rfl rfl (fun _ => trivial) (fun m hm => zj3 rfl rfl ((hm.one 5 rfl).trans rfl) (by simp) rfl zwE (by simp) (by simp) (by simp; omega) (by unfold maxLen; simp; omega)) ?_
      refine wo rfl rfl (fun m hm => zu rfl rfl zu4) (wo rfl rfl (fun m hm => zA rfl rfl rfl ty3) (wo rfl rfl (fun m hm => zu rfl rfl zvC) (wo rfl rfl (fun m hm => zA rfl rfl rfl ty3) (wo rfl rfl (fun m hm => zA rfl rfl rfl ty3) (wo rfl rfl (fun m hm => zcY rfl rfl rfl ⟨(by omega), (by omega)⟩) (wo rfl rfl (fun m hm => zV rfl rfl rfl ⟨(by omega), (by omega)⟩) (wo rfl rfl (fun m hm => zu rfl rfl zvx) (wo rfl rfl (fun m hm => zA rfl rfl rfl ty3) (wo rfl rfl (fun m hm => zu rfl rfl zvt) (wo rfl rfl (fun m hm => zA rfl rfl rfl ty3) (wo rfl rfl (fun m hm => zV rfl rfl rfl ⟨(by omega), (by omega)⟩) ?_)))))))))))
      refine zkx [5] rfl rfl (fun m hm hC => zfH (cs := [_, _, _]) rfl zyN rfl ⟨_, _, rfl, zbO rfl ((hm.one 5 rfl).trans rfl) (by simp), ⟨_, _, rfl, jF rfl, ⟨_, _, rfl, jF rfl, rfl⟩⟩⟩ (by rfl) (by simp [ofV, ei])) ?_
      refine wQ ?_
      refine zvm (zx5 (k := 5) (m := l.length + 1) (rows := (l ++ [(j : Int)]).map fun n => [AV.v (.int .i64 n)]) (xs := [ei (prc nt l * words + (lnA nt (j : Int)).price * words), ei (grb nt l + (lnA nt (j : Int)).wrong)]) 83 ?_ ?_ ?_) ?_
      ·
       exact congrArg (fun z => some (PO.row z)) (by simp)
      ·
       simp
      ·
       rfl
      refine zvm (zt (mem' := (zuW nt to words most (M ++ [a]) (rsJ nt to most fu a M l rs j)) ++ [.dead]) [(0, I a), (2, .pub (.ptr [ei most])), (3, .pub (.ptr [ei to])), (4, .pp 0 1 0 0), (5, .pp 2 1 0 0), (6, .pub (.ptr (eNt nt))), (7, .pp 3 1 0 0), (8, .pub (.ptr [ei words])), (10, .pub (.ptr [LN l, ei (prc nt l * words), ei (grb nt l)])), (33, .pub (.sl (nt.lines.map zs3))), (34, I (nt.lines.length : Int)), (35, I (j : Int)), (63, .fnm 111 [] (zuX nt to words most)), (64, I (oth (lnA nt (j : Int)) a)), (83, .pub (.agg [LN (l ++ [(j : Int)]), ei (prc nt (l ++ [(j : Int)]) * words), ei (grb nt (l ++ [(j : Int)]))]))] ?_ ?_) ?_
      ·
       exact ⟨rfl, rfl, rfl, rfl, rfl, rfl, rfl, rfl, rfl, rfl, rfl, rfl, rfl, rfl, (congrArg (fun z => EV.pub (.agg z)) (by rw [zxE, zwd, zv5, Int.add_mul])), trivial⟩
      ·
       exact (rfl)
      refine zvm (zye 5 ?_ ?_ hgl) ?_
      ·
       exact ⟨trivial, trivial, trivial, (show _ < _ by omega), (show _ < _ by omega), trivial, (show _ < _ by omega), trivial, trivial, trivial, trivial, trivial, ⟨trivial, trivial, trivial, (show _ < _ by omega), (show _ < _ by omega), trivial, (show _ < _ by omega), trivial, trivial⟩, trivial, trivial, trivial⟩
      ·
       exact zvU ..
      refine jb rfl (zij (f := 111) (fs := []) (cs := zuX nt to words most) (av := [I (oth (lnA nt (j : Int)) a), .pub (.agg [LN (l ++ [(j : Int)]), ei (prc nt (l ++ [(j : Int)]) * words), ei (grb nt (l ++ [(j : Int)]))])]) rfl rfl ⟨rfl, rfl, rfl⟩ ⟨rfl, rfl, trivial⟩ (ih j (rsJ nt to most fu a M l rs j) hlt hgo hsz3)) (zo (zD (zf (zh (zg rfl rfl (zV rfl rfl rfl ⟨(by omega), (by omega)⟩) (zg rfl rfl (zi rfl rfl) (zo ?_)))))))
      exact ⟨⟨j + 1, by omega⟩, by dsimp only; omega, zt _ ⟨rfl, rfl, rfl, rfl, rfl, rfl, rfl, rfl, rfl, rfl, rfl, rfl, trivial⟩ ((by exact zxU rfl (by rw [zvD, hst]; try simp)))⟩
    ·
     skip
     have hge : nt.lines.length <= j := by simpa using h2
     have hj2 : j = nt.lines.length := by omega
     refine qp (zL (zL (qw (zf (zh (zg rfl rfl (zK rfl rfl rfl rfl rfl rfl zxg) (zg rfl rfl (zi rfl rfl) (zg rfl rfl (qc rfl rfl rfl rfl (zuU ..) zxn (by omega) (by omega) (zvI _ (M ++ [a]))) ?_))))))))
     refine jb rfl (qG (r := [B (decide (a ∈ (M ++ [a])))]) rfl rfl rfl rfl (zuU ..) (zvM (by omega) (by omega)) (jF rfl) ty4 (by rfl) (by exact zLb rfl)) ?_
     refine zo ?_
     refine zyi ?_
     exact zbB [] (zvv (by rw [hj2, zwx hto]) (zx7 (by omega) (by omega) hM rfl) (by rw [hj2, zwx hto])) (zvU ..) (by exact Nat.le_refl _) (.inl rfl) trivial ⟨[], rfl, rfl⟩
end Go.Av
end
section
namespace Go.Av
open Go.Proofs
set_option maxRecDepth 100000
set_option maxHeartbeats 1000000
variable {G : Glob}
theorem zxx : zau Tryz.prog 154 3 = true := by kernel_rfl
theorem zxW : (Tryz.prog.info? 158).bind (·.zero) = some (.agg #[.slice none 0 0, .int .i64 0, .int .i64 0]) := by kernel_rfl
theorem zzu : (Tryz.prog.info? 154).bind (·.zero) = some (.slice none 0 0) := by kernel_rfl
theorem zuG : fldIs Tryz.prog 73 0 0 = true := by kernel_rfl
theorem zzX (nt : Nt) (to words most : Int) (hn : zuA nt = true) (hw : 0 <= words /\ words <= 100) : ∀ (fu : Nat) (a : Int) (M l : List Int) (rs : List (List Int)), unm nt (M ++ [a]) < fu -> (0 <= a /\ a <= nt.offices - 1) -> a ∉ M -> l.length + fu <= 8 -> rs.length + (rtG nt to most fu a M l).length <= 20000000 ->
  zjj Tryz.prog G 111 ([I a, .pub (.agg [LN l, ei (prc nt l * words), ei (grb nt l)])] ++ zuX nt to words most) (zuW nt to words most M rs) (.ret (.pub (.tup [])) (zuW nt to words most M (rs ++ rtG nt to most fu a M l))) := by
 intro fu
 induction fu with
 | zero => intro a M l rs h; exact absurd h (by omega)
 | succ fu ih =>
  intro a M l rs hu ha hM hl hsz
  by_cases hg : most < grb nt l
  ·
   have := zyM (G := G) nt to words most hn hw a M l rs ha hM (by omega) hg
   rw [zze hn hg, List.append_nil]
   exact this
  ·
   by_cases hto : a = to
   ·
    subst hto
    have := zzk (G := G) nt a words most hn hw a M l rs ha hM (by omega) (by omega) rfl (by omega)
    rw [zzK (by omega)]
    exact this
   ·
    refine zzl fu nt to words most hn hw a M l rs ha hM (by omega) (by omega) (by omega) hto hsz fun j rs' hj hgo hs => ?_
    have hlt := zxR hn hj hgo
    simp only [goB, Bool.and_eq_true, Bool.not_eq_true', decide_eq_false_iff_not] at hgo
    refine ih _ (M ++ [a]) (l ++ [(j : Int)]) rs' (by omega) (zu0 (zvd hn hj) hgo.1).1 hgo.2 (by simp; omega) hs
def zwl (o : Int) (x : Lin) : Bool := inB x.src 0 (o - 1) && inB x.dst 0 (o - 1) && !(x.src == x.dst) && inB x.price 0 10000 && inB x.wrong 0 9
theorem zzo (nt : Nt) (x : Lin) : zwl nt.offices x = zvO nt x := by
 rw [Bool.eq_iff_iff]
 simp only [zwl, zvO, inB, Bool.and_eq_true, decide_eq_true_eq, Bool.not_eq_true', beq_eq_false_iff_ne, ne_eq]
theorem zwK (nt : Nt) : zuA nt = (inB nt.offices 1 6 && decide (nt.lines.length <= 10) && !(nt.lines.any fun x => !zwl nt.offices x)) := by
 rw [Bool.eq_iff_iff]
 simp only [zuA, inB, Bool.and_eq_true, decide_eq_true_eq, Bool.not_eq_true', List.all_eq_true, List.any_eq_false, zzo, Bool.not_eq_true, Bool.not_eq_false', Bool.not_eq_false, and_assoc]
theorem zz0 {α : Type} (l : List α) : decide ((l.length : Int) <= 10) = decide (l.length <= 10) := decide_eq_decide.2 (by omega)
theorem gN {o : Int} {b : Bool} (h : (inB o 1 6 && b) = true) : 1 <= o /\ o <= 6 := by rw [Bool.and_eq_true] at h; exact zdh.1 h.1
theorem zxD {l : List Lin} {k : Nat} (h : k < l.length) : (l.map zs3)[k]? = some (zs3 l[k]) := by simp [h]
theorem f170 (l : List Lin) (h : Lin -> Bool) (f : FuncId) (fs cs : List AV) (hl : l.length <= 1000) (hf : ∀ n ∈ l, ACall Tryz.prog G f (fs ++ [.agg (zs3 n)] ++ cs) (.v (.bool (h n)))) : ACall Tryz.prog G 170 [.sl (l.map zs3), .fn f fs cs] (.v (.int .i64 (ixF h l))) := by
 have hF := Lib.hid hf
 clear hf
 refine zS Tryz.func170 rfl (by kernel_rfl) rfl ?_
 refine zl (zh (zg rfl rfl (zn rfl rfl) (zo (zf (zl (zl (zh (zg rfl rfl (zq rfl rfl) (zg rfl rfl (qh rfl rfl rfl Tryz.underlying71) (zg rfl rfl (zi rfl rfl) (zo ?_)))))))))))
 refine zf (zB ?_)
 refine qy (ι := { k : Nat // k <= l.length /\ (l.take k).any h = false }) (fun k => ⟨Tryz.f170.ntmps, frL [(0, .pub (.sl (l.map zs3))), (1, .pub (.fn f fs cs)), (7, I (l.length : Int)), (8, I (k.1 : Int))], []⟩) (fun k => l.length - k.1) (⟨0, by simp⟩) ?_ ?_
 ·
  exact zt _ ⟨rfl, rfl, (congrArg (fun x : Nat => I (x : Int)) (List.length_map _)), rfl, trivial⟩ (rfl)
 ·
  rintro ⟨k, hk⟩
  dsimp only
  refine zl (zh (zg rfl rfl (qi rfl rfl rfl) (zo (zf (zl (zx rfl (fun h0 => ?_) (fun h0 => ?_)))))))
  ·
   have hlt : k < l.length := by simpa using h0
   refine zC (zf (zl (zB (zl (zh (zg rfl rfl (zi rfl rfl) (zg rfl rfl (zn rfl rfl) (zo (zf (zl (zh ?_)))))))))))
   refine zg rfl rfl (zq rfl rfl) (zg rfl rfl (zq rfl rfl) (zg rfl rfl (zi rfl rfl) (zg rfl rfl (zG rfl rfl rfl zv8 (by omega) (zxD hlt) zva) (zg rfl rfl (zZ rfl rfl zvE (by exact zLb rfl)) (zg rfl rfl (zbX (av := [_]) rfl rfl ⟨rfl, trivial⟩ (hF.out _ (List.getElem_mem hlt))) (zo (zf (zx rfl (fun h1 => ?_) (fun h1 => ?_)))))))))
   ·
    refine zl (zh (zg rfl rfl (zi rfl rfl) (zg rfl rfl (zn rfl rfl) (zo (zf (zP (qF (zQ (zQ (qF (zQ ?_)))))))))))
    exact ⟨.inr rfl, AVle.of (by rw [zkQ hlt hk.2 h1])⟩
   ·
    refine zC (zD (zf (zh (zg rfl rfl (zV rfl rfl rfl ⟨(by omega), (by omega)⟩) (zg rfl rfl (zi rfl rfl) (zo ?_))))))
    exact ⟨⟨k + 1, by omega, zaE hk.2 hlt h1⟩, by dsimp only; omega, zt _ ⟨rfl, rfl, rfl, rfl, trivial⟩ (rfl)⟩
  ·
   have hge : l.length <= k := by simpa using h0
   refine qp (zL (zL (qw (zf (zl (zh (zg rfl rfl (zn rfl rfl) (zo (zf (zP ?_))))))))))
   exact ⟨.inr rfl, AVle.of (by rw [List.take_of_length_le hge] at hk; rw [zhC hk.2])⟩
theorem f143 (l : List Lin) (h : Lin -> Bool) (f : FuncId) (fs cs : List AV) (hl : l.length <= 1000) (hf : ∀ n ∈ l, ACall Tryz.prog G f (fs ++ [.agg (zs3 n)] ++ cs) (.v (.bool (h n)))) : ACall Tryz.prog G 143 [.sl (l.map zs3), .fn f fs cs] (.v (.bool (l.any h))) := by
 refine zS Tryz.func143 rfl (by kernel_rfl) rfl ?_
 refine zl (zh (zg rfl rfl (zn rfl rfl) (zo (zf (zl (zh (zg rfl rfl (zq rfl rfl) (zg rfl rfl (zq rfl rfl) (zg rfl rfl (zy (av := [_, _]) rfl ⟨rfl, rfl, trivial⟩ (f170 l h f fs cs hl hf)) (zg rfl rfl (zbe rfl rfl rfl) (zg rfl rfl (zn rfl rfl) ?_)))))))))))
 refine zo (zf (zP ?_))
 exact ⟨.inr rfl, AVle.of (by rw [← zhj h l])⟩
theorem f144 (nt : Nt) (x : Lin) (ho : 1 <= nt.offices /\ nt.offices <= 6) : ACall Tryz.prog G 144 [.agg (zs3 x), .ptr (eNt nt)] (.v (.bool (!zwl nt.offices x))) := by
 refine zS Tryz.func144 rfl (by kernel_rfl) rfl ?_
 refine zl (zh (zg rfl rfl (jf rfl (zY rfl)) (zg rfl rfl (zn rfl rfl) (zo (zf (zl (zh (zg rfl rfl (zu rfl rfl zuM) (zg rfl rfl (zA rfl rfl rfl ty3) (zg rfl rfl (zu rfl rfl zuG) (zg rfl rfl (zA rfl rfl rfl ty3) ?_)))))))))))
 refine zg rfl rfl (ze5 rfl rfl rfl ⟨(by omega), (by omega)⟩) (zg rfl rfl (zy (av := [_, _, _]) rfl ⟨rfl, rfl, rfl, trivial⟩ (f107 _ _ _)) (zg rfl rfl (je rfl rfl) (zg rfl rfl (zi rfl rfl) (zk rfl rfl rfl (fun hg => zu rfl rfl zuL) (zk rfl rfl rfl (fun hg => zA rfl (if_pos hg) rfl ty3) (zk rfl rfl rfl (fun hg => zu rfl rfl zuG) (zk rfl rfl rfl (fun hg => zA rfl (if_pos hg) rfl ty3) ?_)))))))
 refine zk rfl rfl rfl (fun hg => ze5 rfl (if_pos hg) rfl ⟨(by first | omega | (simp at hg; omega)), (by first | omega | (simp at hg; omega))⟩) ?_
 refine zk rfl rfl rfl (fun hg => zy (av := [_, _, _]) rfl ⟨((if_pos hg)), rfl, ((if_pos hg)), trivial⟩ (f107 _ _ _)) (zk rfl rfl rfl (fun hg => je rfl (if_pos hg)) (zg rfl rfl (qU rfl rfl rfl rfl) (zg rfl rfl (zi rfl rfl) (zk rfl rfl rfl (fun hg => zu rfl rfl zuM) (zk rfl rfl rfl (fun hg => zA rfl (if_pos hg) rfl ty3) (zk rfl rfl rfl (fun hg => zu rfl rfl zuL) (zk rfl rfl rfl (fun hg => zA rfl (if_pos hg) rfl ty3) (zk rfl rfl rfl (fun hg => qJ rfl (if_pos hg) (if_pos hg)) (zg rfl rfl (qU rfl rfl rfl rfl) (zg rfl rfl (zi rfl rfl) (zk rfl rfl rfl (fun hg => zu rfl rfl zvC) ?_)))))))))))
 refine zk rfl rfl rfl (fun hg => zA rfl (if_pos hg) rfl ty3) (zk rfl rfl rfl (fun hg => zy (av := [_, _, _]) rfl ⟨((if_pos hg)), rfl, rfl, trivial⟩ (f107 _ _ _)) (zk rfl rfl rfl (fun hg => je rfl (if_pos hg)) (zg rfl rfl (qU rfl rfl rfl rfl) (zg rfl rfl (zi rfl rfl) (zk rfl rfl rfl (fun hg => zu rfl rfl zvt) (zk rfl rfl rfl (fun hg => zA rfl (if_pos hg) rfl ty3) (zk rfl rfl rfl (fun hg => zy (av := [_, _, _]) rfl ⟨((if_pos hg)), rfl, rfl, trivial⟩ (f107 _ _ _)) (zk rfl rfl rfl (fun hg => je rfl (if_pos hg)) (zg rfl rfl (qU rfl rfl rfl rfl) (zg rfl rfl (zn rfl rfl) (zo ?_)))))))))))
 refine zf (zP ?_)
 exact ⟨.inr rfl, AVle.of (by simp only [zwl, Bool.not_and, Bool.not_not])⟩
theorem f110 (nt : Nt) (hl : nt.lines.length <= 1000) : ACall Tryz.prog G 110 [.agg (eNt nt)] (.v (.bool (zuA nt))) := by
 refine zS Tryz.func110 rfl (by kernel_rfl) rfl ?_
 refine zl (zh (zg rfl rfl (jf rfl (zY rfl)) (zg rfl rfl (zn rfl rfl) (zo (zf (zl (zh (zg rfl rfl (zu rfl rfl zuG) (zg rfl rfl (zA rfl rfl rfl ty3) (zg rfl rfl (zy (av := [_, _, _]) rfl ⟨rfl, rfl, rfl, trivial⟩ (f107 _ _ _)) (zg rfl rfl (zi rfl rfl) ?_)))))))))))
 refine zk rfl rfl rfl (fun hg => zu rfl rfl zuy) (zk rfl rfl rfl (fun hg => zA rfl (if_pos hg) rfl zuP) (zk rfl rfl rfl (fun hg => qh rfl rfl (if_pos hg) Tryz.underlying71) (zk rfl rfl rfl (fun hg => zaq rfl (if_pos hg) rfl) (zg rfl rfl (qI rfl rfl rfl rfl) (zg rfl rfl (zi rfl rfl) (zk rfl rfl rfl (fun hg => zu rfl rfl zuy) (zk rfl rfl rfl (fun hg => zA rfl (if_pos hg) rfl zuP) (zk rfl rfl rfl (fun hg => zcA (fs := []) (cs := [_]) rfl rfl rfl) (zk rfl rfl rfl (fun hg => zy (av := [_, _]) rfl ⟨((if_pos hg)), ((if_pos hg)), trivial⟩ (f143 nt.lines (fun x => !zwl nt.offices x) 144 [] [.ptr (eNt nt)] hl (fun x _ => f144 nt x (gN hg)))) (zk rfl rfl rfl (fun hg => je rfl (if_pos hg)) (zg rfl rfl (qI rfl rfl rfl rfl) ?_)))))))))))
 refine zg rfl rfl (zn rfl rfl) (zo (zf (zP ?_)))
 exact ⟨.inr rfl, AVle.of (by rw [zwK]; simp [zz0])⟩
theorem zzH {nt : Nt} {words : Int} (a b : List Int) : (decide (prc nt a * words < prc nt b * words) || ((prc nt a * words == prc nt b * words) && decide (a.length < b.length))) = bt2 nt words a b := by
 unfold bt2
 rw [Int.mul_comm (prc nt a), Int.mul_comm (prc nt b)]; rfl
theorem f114 (nt : Nt) (words : Int) (a b : List Int) : ACall Tryz.prog G 114 [.agg (rtV nt words a), .agg (rtV nt words b)] (.v (.bool (bt2 nt words a b))) := by
 refine zS Tryz.func114 rfl (by kernel_rfl) rfl ?_
 refine zl (zh (zg rfl rfl (jf rfl (zY rfl)) (zg rfl rfl (jf rfl (zY rfl)) (zg rfl rfl (zn rfl rfl) (zo (zf (zl (zh (zg rfl rfl (zu rfl rfl zu4) (zg rfl rfl (zA rfl rfl rfl ty3) (zg rfl rfl (zu rfl rfl zu4) ?_)))))))))))
 refine zg rfl rfl (zA rfl rfl rfl ty3) (zg rfl rfl (qi rfl rfl rfl) (zg rfl rfl (zi rfl rfl) (zk rfl rfl rfl (fun hg => zu rfl rfl zu4) (zk rfl rfl rfl (fun hg => zA rfl (if_pos hg) rfl ty3) (zk rfl rfl rfl (fun hg => zu rfl rfl zu4) (zk rfl rfl rfl (fun hg => zA rfl (if_pos hg) rfl ty3) (zk rfl rfl rfl (fun hg => qJ rfl (if_pos hg) (if_pos hg)) (zk rfl rfl rfl (fun hg => zi rfl (if_pos hg)) (zk rfl (jH rfl rfl rfl) rfl (fun hg => zu rfl rfl zu3) (zk rfl (jH rfl rfl rfl) rfl (fun hg => zA rfl (if_pos hg) rfl jO) (zk rfl (jH rfl rfl rfl) rfl (fun hg => qh rfl rfl (if_pos hg) Tryz.underlying23) ?_)))))))))))
 refine zk rfl (jH rfl rfl rfl) rfl (fun hg => zu rfl rfl zu3) (zk rfl (jH rfl rfl rfl) rfl (fun hg => zA rfl (if_pos hg) rfl jO) (zk rfl (jH rfl rfl rfl) rfl (fun hg => qh rfl rfl (if_pos hg) Tryz.underlying23) (zk rfl (jH rfl rfl rfl) rfl (fun hg => qi rfl (if_pos hg) (if_pos hg)) (zk rfl rfl rfl (fun hg => qI rfl (if_pos hg) (zha hg) rfl) (zg rfl rfl (qU rfl rfl rfl rfl) (zg rfl rfl (zn rfl rfl) (zo (zf (zP ?_)))))))))
 exact ⟨.inr rfl, AVle.of (by rw [← zzH]; simp [nums])⟩
theorem zyD {nt : Nt} {words : Int} (D : List (List Int)) : (((D.map (rtV nt words)).take (D.map (rtV nt words)).length).drop (1 : Int).toNat) = (D.drop 1).map (rtV nt words) := by rw [List.take_length, List.map_drop]; rfl
theorem zzZ {nt : Nt} {words : Int} {D : List (List Int)} {k : Nat} (h : k < D.length) : (D.map (rtV nt words))[k]? = some (rtV nt words (D.getD k [])) := by simp [h]
theorem zxy {nt : Nt} {words : Int} {D : List (List Int)} : ∀ q ∈ D.map (rtV nt words), q.length = 3 := by simp [rtV]
theorem zzL {nt : Nt} {words : Int} {D : List (List Int)} {k : Nat} (h : k + 1 < D.length) : ((D.drop 1).map (rtV nt words))[k]? = some (rtV nt words (D.getD (k + 1) [])) := by
 rw [List.getElem?_map, List.getElem?_drop, Nat.add_comm 1 k, List.getD_eq_getElem?_getD, List.getElem?_eq_getElem h]; rfl
theorem f113 (nt : Nt) (words : Int) (D : List (List Int)) (h0 : 0 < D.length) (hD : D.length <= 20000000) : ACall Tryz.prog G 113 [.sl (D.map (rtV nt words)), .fn 114 [] []] (.agg (rtV nt words (bsK (bt2 nt words) [] D (D.length - 1)))) := by
 have hz := zyD (nt := nt) (words := words) D
 refine zS Tryz.func113 rfl (by kernel_rfl) rfl ?_
 refine zl (zh (jb rfl (wJ rfl rfl zxW rfl rfl) (zo (zf (zl (zh (zg rfl rfl (zq rfl rfl) (zg rfl rfl (zG rfl rfl rfl zxx (by omega) (zzZ h0) zxy) (zg rfl rfl (zZ rfl rfl zu5 (by exact zLb rfl)) (jb rfl (wJ rfl rfl zxW rfl rfl) ?_))))))))))
 refine jb rfl (qG rfl rfl rfl rfl rfl rfl (zY rfl) zu5 (by rfl) (by exact zLb rfl)) ?_
 refine zo (zf (zl (zl (zh (zg rfl rfl (zq rfl rfl) ?_)))))
 refine zg rfl rfl (zhU rfl rfl rfl rfl zxx zxy (by omega) (by simp; omega) (by simp)) ?_
 refine zg rfl rfl (qh rfl rfl rfl Tryz.underlying154) (zg rfl rfl (zi rfl rfl) (zo (zf (zB ?_))))
 refine qy (ι := { k : Nat // k + 1 <= D.length }) (fun k => ⟨Tryz.f113.ntmps, frL [(1, .pub (.fn 114 [] [])), (4, .pp 0 1 0 0), (5, .pp 1 1 0 0), (12, .pub (.sl ((D.drop 1).map (rtV nt words)))), (13, I ((D.length - 1 : Nat) : Int)), (14, I (k.1 : Int))], [.row [[.pub (.v (.slice none 0 0)), I 0, I 0]], .row [(rtV nt words (bsK (bt2 nt words) [] D k.1)).map .pub]]⟩) (fun k => D.length - k.1) (⟨0, by omega⟩) ?_ ?_
 ·
  exact zt _ ⟨rfl, rfl, rfl, (congrArg (fun z => EV.pub (AV.sl z)) hz), (congrArg (fun z : Nat => I (z : Int)) (by rw [Int.toNat_natCast, hz]; simp)), rfl, trivial⟩ (rfl)
 ·
  rintro ⟨k, hk⟩
  dsimp only
  refine zl (zh (zg rfl rfl (qi rfl rfl rfl) (zo (zf (zl (zx rfl (fun h0_ => ?_) (fun h0_ => ?_)))))))
  ·
   have hlt : k + 1 < D.length := by simp at h0_; omega
   refine zC (zf (zl (zB (zl (zh (zg rfl rfl (zG rfl rfl rfl zxx (by omega) (zzL (by omega)) zxy) (zg rfl rfl (zZ rfl rfl zu5 (by exact zLb rfl)) ?_)))))))
   refine vI  rfl rfl rfl rfl rfl rfl rfl zxW zu5 rfl (by rfl) (zY rfl) rfl ?_
   refine zo (zf (zl (zh (zg rfl rfl (zq rfl rfl) (zg rfl rfl (zZ rfl rfl zu5 (by exact zLb rfl)) (zg rfl rfl (qN (cs := [_, _, _]) rfl rfl rfl rfl rfl (by exact zLb rfl) rfl zu5) (zg rfl rfl (zbX (av := [_, _]) rfl rfl ⟨rfl, rfl, trivial⟩ (f114 nt words (D.getD (k + 1) []) (bsK (bt2 nt words) [] D k))) (zo (zf (zx rfl (fun h1_ => ?_) (fun h1_ => ?_)))))))))))
   ·
    have hb : (bsK (bt2 nt words) [] D (k + 1)) = D.getD (k + 1) [] := by rw [bsK, if_pos (by simpa using h1_)]
    refine zh (zg rfl rfl (zZ rfl rfl zu5 (by exact zLb rfl)) ?_)
    refine jb rfl (qG rfl rfl rfl rfl rfl rfl (zY rfl) zu5 (by rfl) (by exact zLb rfl)) ?_
    refine zo (zD (zf (zh (zg rfl rfl (zV rfl rfl rfl ⟨(by omega), (by omega)⟩) (zg rfl rfl (zi rfl rfl) (zo ?_))))))
    exact ⟨⟨k + 1, by omega⟩, by dsimp only; omega, zt _ ⟨rfl, rfl, rfl, rfl, rfl, rfl, trivial⟩ ((congrArg (fun z => [PO.row [[.pub (.v (.slice none 0 0)), I 0, I 0]], PO.row [(rtV nt words z).map .pub]]) hb.symm))⟩
   ·
    have hb : (bsK (bt2 nt words) [] D (k + 1)) = (bsK (bt2 nt words) [] D k) := by rw [bsK, if_neg (by simpa using h1_)]
    refine zC (zD (zf (zh (zg rfl rfl (zV rfl rfl rfl ⟨(by omega), (by omega)⟩) (zg rfl rfl (zi rfl rfl) (zo ?_))))))
    exact ⟨⟨k + 1, by omega⟩, by dsimp only; omega, zt _ ⟨rfl, rfl, rfl, rfl, rfl, rfl, trivial⟩ ((congrArg (fun z => [PO.row [[.pub (.v (.slice none 0 0)), I 0, I 0]], PO.row [(rtV nt words z).map .pub]]) hb.symm))⟩
  ·
   have hge : D.length <= k + 1 := by simp at h0_; omega
   have hk2 : k = D.length - 1 := by omega
   refine qp (zL (zL (qw (zf (zl (zh (zg rfl rfl (qN (cs := [_, _, _]) rfl rfl rfl rfl rfl (by exact zLb rfl) rfl zu5) ?_)))))))
   refine jb rfl (qG rfl rfl rfl rfl rfl rfl (zY rfl) zu5 (by rfl) (by exact zLb rfl)) ?_
   refine zo (zf (zP ?_))
   exact ⟨.inr rfl, zhe rfl (jK rfl rfl rfl rfl zu5 rfl ⟨_, _, rfl, AVle.of (by rw [hk2]), ⟨_, _, rfl, AVle.of (by rw [hk2]), ⟨_, _, rfl, AVle.of (by rw [hk2]), rfl⟩⟩⟩)⟩
end Go.Av
end
