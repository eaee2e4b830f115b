import Derived.Test.YtdjncbjfejdamaaGreatDoorChLC
import Derived.Test.YtdjncbjfejdamaaGreatDoorChN
set_option linter.unusedVariables false
set_option linter.unusedSimpArgs false
section
namespace Go.Av
open Go.Proofs
set_option maxRecDepth 100000
set_option maxHeartbeats 1000000
variable {G:Glob}
theorem zPW:zh8 Tryz.prog 120 1 [.int .i64 0, .int .i64 0, .int .i64 0, .int .i64 0]:=⟨_, _, Tryz.t3, Tryz.underlying120, by kernel_rfl, by kernel_rfl, by kernel_rfl⟩
theorem zQQ:Tryz.prog.info? 120 = some Tryz.t120:=by kernel_rfl
theorem zQ1:elemIs Tryz.prog 133 120 4 32:=⟨Tryz.underlying133, Tryz.t120, _, by kernel_rfl, rfl, rfl, rfl, rfl, by decide⟩
theorem zNx:xn Tryz.prog 50 [(0, 1), (1, 1)] [.int .i64 0, .int .i64 0]:=⟨_, Tryz.underlying50, by kernel_rfl, by kernel_rfl⟩
theorem zKq:Tryz.prog.info? 50 = some Tryz.t50:=by kernel_rfl
theorem zt5:elemIs Tryz.prog 48 50 2 16:=⟨Tryz.underlying48, Tryz.t50, _, by kernel_rfl, rfl, rfl, rfl, rfl, by decide⟩
def wF (f:Fld):Nat:=f.wide.toNat
def rF (f:Fld):Nat:=(rowsOf f).toNat
theorem zNh {f:Fld} (h:zHz f = true):((wF f:Nat):Int) = f.wide /\ 1 <= wF f /\ wF f <= 6 /\ 1 <= rF f /\ rF f <= 5 /\ f.vals.length = wF f * rF f:=by
 unfold zHz at h
 simp only[zLa] at h
 have h:=zKT h.1
 obtain ⟨h1, h2, h3, h4, h5⟩:=h
 have e1:((wF f:Nat):Int) = f.wide:=by unfold wF; omega
 have e2:((rF f:Nat):Int) = rowsOf f:=by unfold rF; omega
 refine ⟨e1, by omega, by omega, by omega, by omega, ?_⟩
 have:((wF f * rF f:Nat):Int) = f.vals.length:=by rw [Int.natCast_mul, e1, e2]; exact h5.symm
 omega
theorem zKu {a b:Nat} (h1:a <= 6) (h2:b <= 5):a * b <= 30:=Nat.le_trans (Nat.mul_le_mul h1 h2) (by omega)
def rC4 (w p:Nat):List EV:=(zPq w p).map fun (q:Nat)=>I (q:Int)
def eC4 (w p:Nat):List AV:=(zPq w p).map fun (q:Nat)=>ei (q:Int)
def zNN (w r:Nat):AV:=.sl ((wP w r).map (eC4 w))
def zKa (w p:Nat):Bool:=decide (p % w + 1 < w)
theorem zKc {q:Nat -> Bool} {m:Nat}:∀ {n:Nat}, m <= n -> (List.range n).filter (fun p=>q p && decide (p < m)) = (List.range m).filter q
  | 0, h => by have : m = 0 := by omega
               subst this; rfl
  | n + 1, h=>by
    by_cases hm:m = n + 1
    · subst hm
      exact List.filter_congr fun p hp=>by have:=List.mem_range.1 hp; simp [this]
    · rw [List.range_succ, List.filter_append, zKc (show m <= n by omega)]
      simp; omega
theorem zNz {w r:Nat} (hw:1 <= w) (hr:1 <= r):wP w r = (List.range (w * r - w)).filter (zKa w):=by
 rw [← zKc (q:=zKa w) (show w * r - w <= w * r by omega)]
 unfold wP
 refine List.filter_congr fun p hp=>?_
 unfold zIN zKa
 congr 1
 rw [decide_eq_decide]
 rw [show w * r - w = w * (r - 1) by rw [Nat.mul_sub, Nat.mul_one]]
 constructor
 ·
  intro h
  have h1:p < w * (p / w + 1):=Nat.lt_mul_div_succ p (by omega)
  exact Nat.lt_of_lt_of_le h1 (Nat.mul_le_mul_left w (by omega))
 ·
  intro h
  have:=(Nat.div_lt_iff_lt_mul (show 0 < w by omega)).2 (by rw [Nat.mul_comm]; exact h)
  omega
theorem zSn {q:Nat -> Bool} {k:Nat} (h:q k = true):(List.range (k + 1)).filter q = (List.range k).filter q ++ [k]:=by rw [List.range_succ, List.filter_append]; simp [h]
theorem zSD {q:Nat -> Bool} {k:Nat} (h:q k = false):(List.range (k + 1)).filter q = (List.range k).filter q:=by rw [List.range_succ, List.filter_append]; simp [h]
theorem zKv (q:Nat -> Bool) (k:Nat):((List.range k).filter q).length <= k:=by have:=List.length_filter_le q (List.range k); simpa using this
theorem f87 (f:Fld) (hf:zHz f = true):ACall Tryz.prog G 87 [.agg (zHF f)] (zNN (wF f) (rF f)):=by
 obtain ⟨zw, w1, w6, r1, r5, hlen⟩:=zNh hf
 have hwr:=zKu w6 r5
 obtain ⟨b1, b2, b3⟩:=zJI hf
 generalize wF f = w at zw w1 w6 hlen hwr ⊢
 generalize rF f = r at r1 r5 hlen hwr ⊢
 have hwl:w <= w * r:=Nat.le_mul_of_pos_right w (by omega)
 refine zS Tryz.func87 rfl (by kernel_rfl) rfl ?_
 refine zuy (zh ?_)
 refine zg rfl rfl (jf rfl (zY rfl)) ?_
 refine zg rfl rfl (zn rfl rfl) ?_
 refine zo (zf (zuy (zh ?_)))
 refine zg rfl rfl (zn rfl rfl) ?_
 refine zo (zf (zuy (zuy (zh ?_))))
 refine zg rfl rfl (zn rfl rfl) ?_
 refine zo (zf (zB ?_))
 refine qx (kG 3 rfl) ?_
 refine qy (ι:={ k:Nat // k <= w * r - w }) (fun k=>⟨Tryz.f87.ntmps, frL [(1, .pub (.ptr (zHF f))), (3, .psl 0 ((List.range k.1).filter (zKa w)).length), (4, I (k.1:Int))], [.row (((List.range k.1).filter (zKa w)).map (rC4 w))]⟩) (fun k=>w * r - w - k.1) (⟨0, by omega⟩) ?_ ?_
 ·
  exact zt _ ⟨rfl, rfl, rfl, trivial⟩ (rfl)
 ·
  rintro ⟨k, hk⟩
  dsimp only
  refine zuy (zuy (zh ?_))
  refine zg rfl rfl (zi rfl rfl) ?_
  refine zg rfl rfl (zu rfl rfl zHB) ?_
  refine zg rfl rfl (zA rfl rfl rfl ty3) ?_
  refine zg rfl rfl (zV rfl rfl rfl ⟨(by omega), (by omega)⟩) ?_
  refine zg rfl rfl (zu rfl rfl zHx) ?_
  refine zg rfl rfl (zA rfl rfl rfl zHR) ?_
  refine zg rfl rfl (zuB rfl rfl Tryz.underlying27) ?_
  refine zg rfl rfl (qi rfl rfl rfl) ?_
  refine zo (zf (zx rfl (fun h0=>?_) (fun h0=>?_)))
  ·
   have hlt:k < w * r - w:=by simp at h0; omega
   have hd:=Nat.mod_lt k (show 0 < w by omega)
   refine zC (zf (zuy (zB (zuy ?_))))
   refine qY mixed (by kernel_rfl) rfl ?_
   refine zH rfl (zi rfl rfl) ?_
   refine zH rfl (zu rfl rfl zHB) ?_
   refine zH rfl (zA rfl rfl rfl ty3) ?_
   refine zH rfl (yA rfl rfl rfl ⟨(by omega), (by omega)⟩) ?_
   refine zH rfl (zu rfl rfl zHB) ?_
   refine zH rfl (zA rfl rfl rfl ty3) ?_
   refine zH rfl (ze5 rfl rfl rfl ⟨(by omega), (by omega)⟩) ?_
   refine zH rfl (qi rfl rfl rfl) ?_
   refine jw (zf (zx rfl (fun h1=>?_) (fun h1=>?_)))
   ·
    have hcol:zKa w k = true:=by unfold zKa; rw [← zw] at h1; simp at h1 ⊢; omega
    have hfs:=zSn hcol
    refine zh ?_
    refine zg rfl rfl (zI rfl rfl) ?_
    refine zg rfl rfl (zi rfl rfl) ?_
    refine zg rfl rfl (zi rfl rfl) ?_
    refine zg rfl rfl (zV rfl rfl rfl ⟨(by omega), (by omega)⟩) ?_
    refine zg rfl rfl (zi rfl rfl) ?_
    refine zg rfl rfl (zu rfl rfl zHB) ?_
    refine zg rfl rfl (zA rfl rfl rfl ty3) ?_
    refine zg rfl rfl (zV rfl rfl rfl ⟨(by omega), (by omega)⟩) ?_
    refine zg rfl rfl (zV rfl rfl rfl ⟨(by omega), (by omega)⟩) ?_
    refine zg rfl rfl (zi rfl rfl) ?_
    refine zg rfl rfl (zu rfl rfl zHB) ?_
    refine zg rfl rfl (zA rfl rfl rfl ty3) ?_
    refine zg rfl rfl (zV rfl rfl rfl ⟨(by omega), (by omega)⟩) ?_
    refine zg rfl rfl (znx (cs:=[_, _, _, _]) rfl zPW rfl ⟨_, _, rfl, (jF rfl), ⟨_, _, rfl, (jF rfl), ⟨_, _, rfl, (jF rfl), ⟨_, _, rfl, (jF rfl), rfl⟩⟩⟩⟩ (by rfl) (by simp [ofV])) ?_
    refine zg rfl rfl (qg (size:=4) (rows:=[[_, _, _, _]]) rfl Tryz.underlying133 zQQ rfl (by decide) rfl (by decide) ⟨_, _, rfl, (zY rfl), rfl⟩ (by rfl) (by simp [ofV]) rfl (by simp)) ?_
    refine jb rfl (vS rfl rfl rfl rfl (by simp) rfl zQ1 (by intro q hq; obtain ⟨n, _, rfl⟩:=List.mem_map.1 hq; rfl) (by simp [rC4, zPq]) (by have:=zKv (zKa w) k; simp; omega) (by have:=zKv (zKa w) k; unfold maxLen; simp; omega)) ?_
    refine zg rfl rfl (qo rfl rfl) ?_
    refine zo (zD (zf (zh ?_)))
    refine zg rfl rfl (zi rfl rfl) ?_
    refine zg rfl rfl (zV rfl rfl rfl ⟨(by omega), (by omega)⟩) ?_
    refine zg rfl rfl (zn rfl rfl) ?_
    refine zo ?_
    exact ⟨⟨k + 1, by omega⟩, by dsimp only; omega, zt _ ⟨rfl, (by show EV.psl 0 _ = EV.psl 0 _; rw [hfs] <;> simp), rfl, trivial⟩ (congrArg (fun z=>[PO.row z]) (by first | (rw [hfs, List.map_append, ← zw]; rfl) | rw [hfs]))⟩
   ·
    have hcol:zKa w k = false:=by unfold zKa; rw [← zw] at h1; simp at h1 ⊢; omega
    have hfs:=zSD hcol
    refine zC (zD (zf (zh ?_)))
    refine zg rfl rfl (zi rfl rfl) ?_
    refine zg rfl rfl (zV rfl rfl rfl ⟨(by omega), (by omega)⟩) ?_
    refine zg rfl rfl (zn rfl rfl) ?_
    refine zo ?_
    exact ⟨⟨k + 1, by omega⟩, by dsimp only; omega, zt _ ⟨rfl, (by show EV.psl 0 _ = EV.psl 0 _; rw [hfs] <;> simp), rfl, trivial⟩ (congrArg (fun z=>[PO.row z]) (by first | (rw [hfs, List.map_append, ← zw]; rfl) | rw [hfs]))⟩
  ·
   have hge:w * r - w <= k:=by simp at h0; omega
   have hk2:k = w * r - w:=by omega
   subst hk2
   have hcut:=zNz w1 r1
   refine qp (zRQ (zRQ (qw (zf (zuy (zh ?_))))))
   refine zg rfl rfl (zI rfl rfl) ?_
   refine zg rfl rfl (qo rfl rfl) ?_
   refine zo (zf (zP ?_))
   exact ⟨.inr rfl, ⟨(wP w r).map (eC4 w), by rw [hcut]; show some (PO.row _) = some (PO.row _); simp [rC4, eC4, ei, I, Function.comp_def], by rw [hcut]; simp, rfl⟩⟩
def zIm (h:Nat -> Bool) (w r k j:Nat):List Cr:=(List.range k).flatMap (zJq h w r) ++ (List.range j).filterMap fun q=>bif zIn w k q && (!h k && h q) then some (k, q) else none
theorem zJh (h:Nat -> Bool) (w r k:Nat):zIm h w r k 0 = (List.range k).flatMap (zJq h w r):=by simp [zIm]
theorem zOx (h:Nat -> Bool) (w r k:Nat):zIm h w r k (w * r) = (List.range (k + 1)).flatMap (zJq h w r):=by
 unfold zIm; rw [List.range_succ, List.flatMap_append]; simp [zJq]
theorem zNJ {h:Nat -> Bool} {w r k j:Nat} (e:(zIn w k j && (!h k && h j)) = true):zIm h w r k (j + 1) = zIm h w r k j ++ [(k, j)]:=by
 unfold zIm; rw [List.range_succ, List.filterMap_append, List.append_assoc]; simp [e]
theorem zO1 {h:Nat -> Bool} {w r k j:Nat} (e:(zIn w k j && (!h k && h j)) = false):zIm h w r k (j + 1) = zIm h w r k j:=by
 unfold zIm; rw [List.range_succ, List.filterMap_append]; simp [e]
theorem zH9 {α β:Type} {g:α -> List β} {m:Nat} (h:∀ a, (g a).length <= m):∀ l:List α, (l.flatMap g).length <= l.length * m
 | []=>by simp
 | a :: l=>by
  have:=zH9 h l
  have:=h a
  rw [List.flatMap_cons, List.length_append, List.length_cons, Nat.add_mul]; omega
theorem zSu {h:Nat -> Bool} {w r k j:Nat} (hk:k <= 30) (hn:w * r <= 30) (hj:j <= 30):(zIm h w r k j).length <= 930:=by
 have h1:∀ p, (zJq h w r p).length <= 30:=fun p=>by
  unfold zJq
  have:=List.length_filterMap_le (fun q=>bif zIn w p q && (!h p && h q) then some (p, q) else none) (List.range (w * r))
  rw [List.length_range] at this; omega
 have h2:=zH9 h1 (List.range k)
 have h3:=List.length_filterMap_le (fun q=>bif zIn w k q && (!h k && h q) then some (k, q) else none) (List.range j)
 rw [List.length_range] at h2 h3
 unfold zIm
 rw [List.length_append]; omega
theorem zKe {w:Nat} (a b:Nat):(dist (w:Int) (a:Int) (b:Int) == 1) = zIn w a b:=by
 unfold dist zIn zSx
 rw [Bool.eq_iff_iff, beq_iff_eq, decide_eq_true_iff]
 have e1:((a:Int) / (w:Int)) = ((a / w:Nat):Int):=by simp
 have e2:((b:Int) / (w:Int)) = ((b / w:Nat):Int):=by simp
 have e3:((a:Int) % (w:Int)) = ((a % w:Nat):Int):=by simp
 have e4:((b:Int) % (w:Int)) = ((b % w:Nat):Int):=by simp
 rw [e1, e2, e3, e4]
 generalize a / w = a1, b / w = b1, a % w = a2, b % w = b2
 omega
theorem f80 (f:Fld) (lvl:Int) (hf:zHz f = true):ACall Tryz.prog G 80 [.agg (zHF f), ei lvl] ((zHA (zH1 (hiF f lvl) (wF f) (rF f)))):=by
 obtain ⟨zw, w1, w6, r1, r5, hlen⟩:=zNh hf
 have hwr:=zKu w6 r5
 obtain ⟨b1, b2, b3⟩:=zJI hf
 have hlw:f.vals.length <= 30:=by omega
 have hf96:=fun (p:Nat) (hp:p < f.vals.length)=>f96 (G:=G) f lvl p hp (by omega)
 generalize hiF f lvl = h at hf96 ⊢
 generalize wF f = w at zw w1 w6 hlen hwr ⊢
 generalize rF f = r at r1 r5 hlen hwr ⊢
 refine zS Tryz.func80 rfl (by kernel_rfl) rfl ?_
 refine zuy (zh ?_)
 refine zg rfl rfl (jf rfl (zY rfl)) ?_
 refine zg rfl rfl (zn rfl rfl) ?_
 refine zo (zf (zuy (zh ?_)))
 refine zg rfl rfl (zn rfl rfl) ?_
 refine zo (zf (zuy (zuy (zh ?_))))
 refine zg rfl rfl (zn rfl rfl) ?_
 refine zo (zf (zB ?_))
 refine qx (kG 5 rfl) ?_
 refine qy (ι:={ k:Nat // k <= w * r }) (fun k=>⟨Tryz.f80.ntmps, frL [(1, I lvl), (2, .pub (.ptr (zHF f))), (5, .psl 0 (zIm h w r k.1 0).length), (6, I (k.1:Int))], [.row ((zIm h w r k.1 0).map rCr)]⟩) (fun k=>w * r - k.1) (⟨0, by omega⟩) ?_ ?_
 ·
  exact zt _ ⟨rfl, rfl, rfl, rfl, trivial⟩ (rfl)
 ·
  rintro ⟨k, hk⟩
  dsimp only
  refine zuy (zuy (zh ?_))
  refine zg rfl rfl (zi rfl rfl) ?_
  refine zg rfl rfl (zu rfl rfl zHx) ?_
  refine zg rfl rfl (zA rfl rfl rfl zHR) ?_
  refine zg rfl rfl (zuB rfl rfl Tryz.underlying27) ?_
  refine zg rfl rfl (qi rfl rfl rfl) ?_
  refine zo (zf (zx rfl (fun h0=>?_) (fun h0=>?_)))
  ·
   have hlt:k < f.vals.length:=by simpa using h0
   refine zC (zf (zuy (zB (zuy (zh ?_)))))
   refine zg rfl rfl (zn rfl rfl) ?_
   refine zo (zf (zB ?_))
   refine qy (ι:={ j:Nat // j <= w * r }) (fun j=>⟨Tryz.f80.ntmps, frL [(1, I lvl), (2, .pub (.ptr (zHF f))), (5, .psl 0 (zIm h w r k j.1).length), (6, I (k:Int)), (7, I (j.1:Int))], [.row ((zIm h w r k j.1).map rCr)]⟩) (fun j=>w * r - j.1) (⟨0, by omega⟩) ?_ ?_
   ·
    exact zt _ ⟨rfl, rfl, rfl, rfl, rfl, trivial⟩ (rfl)
   ·
    rintro ⟨j, hj⟩
    dsimp only
    refine zuy (zuy (zh ?_))
    refine zg rfl rfl (zi rfl rfl) ?_
    refine zg rfl rfl (zu rfl rfl zHx) ?_
    refine zg rfl rfl (zA rfl rfl rfl zHR) ?_
    refine zg rfl rfl (zuB rfl rfl Tryz.underlying27) ?_
    refine zg rfl rfl (qi rfl rfl rfl) ?_
    refine zo (zf (zx rfl (fun h1=>?_) (fun h1=>?_)))
    ·
     have hjt:j < f.vals.length:=by simpa using h1
     have hcl:=zSu (h:=h) (w:=w) (r:=r) (k:=k) (j:=j) (by omega) hwr (by omega)
     refine zC (zf (zuy (zB (zuy (zh ?_)))))
     refine zg rfl rfl (zu rfl rfl zHB) ?_
     refine zg rfl rfl (zA rfl rfl rfl ty3) ?_
     refine zg rfl rfl (zi rfl rfl) ?_
     refine zg rfl rfl (zi rfl rfl) ?_
     refine zg rfl rfl (zy (av:=[_, _, _]) rfl ⟨rfl, rfl, rfl, trivial⟩ (f35 f.wide (k:Int) (j:Int) (by omega) (by omega) (by omega))) ?_
     refine zg rfl rfl (zi rfl rfl) ?_
     refine zk rfl rfl rfl (fun hg=>zZ rfl rfl zHQ (by exact zLb rfl)) ?_
     refine zk rfl rfl rfl (fun hg=>zi rfl rfl) ?_
     refine zk rfl rfl rfl (fun hg=>zi rfl rfl) ?_
     refine zk rfl rfl rfl (fun hg=>zy (av:=[_, _, _]) rfl ⟨((if_pos hg)), ((if_pos hg)), ((if_pos hg)), trivial⟩ (hf96 k (by omega))) ?_
     refine zk rfl rfl rfl (fun hg=>je rfl (if_pos hg)) ?_
     refine zg rfl rfl (qI rfl rfl rfl rfl) ?_
     refine zg rfl rfl (zi rfl rfl) ?_
     refine zk rfl rfl rfl (fun hg=>zZ rfl rfl zHQ (by exact zLb rfl)) ?_
     refine zk rfl rfl rfl (fun hg=>zi rfl rfl) ?_
     refine zk rfl rfl rfl (fun hg=>zi rfl rfl) ?_
     refine zk rfl rfl rfl (fun hg=>zy (av:=[_, _, _]) rfl ⟨((if_pos hg)), ((if_pos hg)), ((if_pos hg)), trivial⟩ (hf96 j (by omega))) ?_
     refine zg rfl rfl (qI rfl rfl rfl rfl) ?_
     refine zo (zf (zx rfl (fun h2=>?_) (fun h2=>?_)))
     ·
      have hfs:=zNJ (h:=h) (w:=w) (r:=r) (k:=k) (j:=j) (by rw [← zKe, zw]; simpa [and_assoc] using h2)
      refine zh ?_
      refine zg rfl rfl (zI rfl rfl) ?_
      refine zg rfl rfl (zi rfl rfl) ?_
      refine zg rfl rfl (zi rfl rfl) ?_
      refine zg rfl rfl (zb3 (cs:=[_, _]) rfl zNx rfl ⟨_, _, rfl, (jF rfl), ⟨_, _, rfl, (jF rfl), rfl⟩⟩ (by rfl) (by simp [ofV])) ?_
      refine zg rfl rfl (qg (size:=2) (rows:=[[_, _]]) rfl Tryz.underlying48 zKq rfl (by decide) rfl (by decide) ⟨_, _, rfl, (zY rfl), rfl⟩ (by rfl) (by simp [ofV]) rfl (by simp)) ?_
      refine jb rfl (vS rfl rfl rfl rfl (by simp) rfl zt5 (by intro q hq; obtain ⟨n, _, rfl⟩:=List.mem_map.1 hq; rfl) (by simp) (by simp; omega) (by unfold maxLen; simp; omega)) ?_
      refine zg rfl rfl (qo rfl rfl) ?_
      refine zo (zD (zf (zh ?_)))
      refine zg rfl rfl (zi rfl rfl) ?_
      refine zg rfl rfl (zV rfl rfl rfl ⟨(by omega), (by omega)⟩) ?_
      refine zg rfl rfl (zn rfl rfl) ?_
      refine zo ?_
      exact ⟨⟨j + 1, by omega⟩, by dsimp only; omega, zt _ ⟨rfl, rfl, (by show EV.psl 0 _ = EV.psl 0 _; rw [hfs] <;> simp), rfl, rfl, trivial⟩ (congrArg (fun z=>[PO.row z]) (by first | (rw [hfs, List.map_append]; rfl) | rw [hfs]))⟩
     ·
      have hfs:=zO1 (h:=h) (w:=w) (r:=r) (k:=k) (j:=j) (by rw [← zKe, zw]; simpa [and_assoc] using h2)
      refine zC (zD (zf (zh ?_)))
      refine zg rfl rfl (zi rfl rfl) ?_
      refine zg rfl rfl (zV rfl rfl rfl ⟨(by omega), (by omega)⟩) ?_
      refine zg rfl rfl (zn rfl rfl) ?_
      refine zo ?_
      exact ⟨⟨j + 1, by omega⟩, by dsimp only; omega, zt _ ⟨rfl, rfl, (by show EV.psl 0 _ = EV.psl 0 _; rw [hfs] <;> simp), rfl, rfl, trivial⟩ (congrArg (fun z=>[PO.row z]) (by first | (rw [hfs, List.map_append]; rfl) | rw [hfs]))⟩
    ·
     have hjge:f.vals.length <= j:=by simpa using h1
     have hj2:j = w * r:=by omega
     subst hj2
     have hend:=zOx h w r k
     refine qp (zRQ (zRQ (qw (zD (zf (zh ?_))))))
     refine zg rfl rfl (zi rfl rfl) ?_
     refine zg rfl rfl (zV rfl rfl rfl ⟨(by omega), (by omega)⟩) ?_
     refine zg rfl rfl (zn rfl rfl) ?_
     refine zo ?_
     exact ⟨⟨k + 1, by omega⟩, by dsimp only; omega, zt _ ⟨rfl, rfl, (by show EV.psl 0 _ = EV.psl 0 _; rw [zJh, hend]), rfl, trivial⟩ (congrArg (fun z=>[PO.row z]) (by rw [zJh, hend]))⟩
  ·
   have hge:f.vals.length <= k:=by simpa using h0
   have hk2:k = w * r:=by omega
   subst hk2
   refine qp (zRQ (zRQ (qw (zf (zuy (zh ?_))))))
   refine zg rfl rfl (zI rfl rfl) ?_
   refine zg rfl rfl (qo rfl rfl) ?_
   refine zo (zf (zP ?_))
   exact ⟨.inr rfl, ⟨(zH1 h w r).map eCr, by rw [zJh]; show some (PO.row _) = some (PO.row _); rw [← zIg]; rfl, by rw [zJh]; simp [zH1], rfl⟩⟩
end Go.Av
end
section
namespace Go.Av
open Go.Proofs
set_option maxRecDepth 100000
set_option maxHeartbeats 1000000
variable {G:Glob}
theorem zKI:(Tryz.prog.info? 50).bind (·.zero) = some (.agg #[.int .i64 0, .int .i64 0]):=by kernel_rfl
def onR (h:Nat -> Bool) (w p n:Nat):List Cr:=((zKx w p).take n).filterMap fun s=>crO h s.1 s.2
def cnR (w p:Nat) (i:Int):Nat:=(zPq w p).getD i.toNat 0
theorem zN0 {h:Nat -> Bool} {w p n:Nat} (hn:n < 4):onR h w p (n + 1) = onR h w p n ++ (crO h (cnR w p (n:Int)) (cnR w p (((n:Int) + 1) % 4))).toList:=by
 have h4:n = 0 ∨ n = 1 ∨ n = 2 ∨ n = 3:=by omega
 have key:∀ (l:List Cr) (x:Cr), (l ++ [x]).filterMap (fun s=>crO h s.1 s.2) = l.filterMap (fun s=>crO h s.1 s.2) ++ (crO h x.1 x.2).toList:=fun l x=>by
  rw [List.filterMap_append]
  cases e:crO h x.1 x.2 <;> simp [List.filterMap, e]
 rcases h4 with rfl | rfl | rfl | rfl
 ·
  exact key [] (p, p + 1)
 ·
  exact key [(p, p + 1)] (p + 1, p + w + 1)
 ·
  exact key [(p, p + 1), (p + 1, p + w + 1)] (p + w + 1, p + w)
 ·
  exact key [(p, p + 1), (p + 1, p + w + 1), (p + w + 1, p + w)] (p + w, p)
theorem zR6 (h:Nat -> Bool) (w p:Nat):onR h w p 4 = zHr h w p:=rfl
theorem zJu (h:Nat -> Bool) (w p n:Nat):(onR h w p n).length <= 4:=by
 unfold onR
 have:=List.length_filterMap_le (fun s:Cr=>crO h s.1 s.2) ((zKx w p).take n)
 rw [List.length_take] at this
 have:(zKx w p).length = 4:=rfl
 omega
theorem zOu {w p:Nat} {i:Int} (h0:0 <= i) (h4:i < 4):((eC4 w p).drop (i.toNat * 1))[0]? = some (ei ((cnR w p i:Nat):Int)):=by
 have h4:i = 0 ∨ i = 1 ∨ i = 2 ∨ i = 3:=by omega
 rcases h4 with rfl | rfl | rfl | rfl <;> rfl
theorem zOs {w p m:Nat} {i:Int} (h0:0 <= i) (h4:i < 4) (hp:p + w + 1 < m):cnR w p i < m:=by
 have h4:i = 0 ∨ i = 1 ∨ i = 2 ∨ i = 3:=by omega
 rcases h4 with rfl | rfl | rfl | rfl
 ·
  show p < m; omega
 ·
  show p + 1 < m; omega
 ·
  show p + w + 1 < m; omega
 ·
  show p + w < m; omega
theorem zSj {w r p:Nat} (hp:p ∈ wP w r):p + w + 1 < w * r:=by
 unfold wP at hp
 rw [List.mem_filter, List.mem_range] at hp
 obtain ⟨h1, h2⟩:=hp
 unfold zIN at h2
 simp only[zLa, decide_eq_true_eq] at h2
 have e1:=Nat.div_add_mod p w
 have h3:w * (p / w + 1 + 1) <= w * r:=Nat.mul_le_mul_left w (by omega)
 rw [Nat.mul_add, Nat.mul_add, Nat.mul_one] at h3
 omega
def hdP (n:Nat) (L:List Cr) (i:Nat):List (Cr × Cr):=(List.range i).flatMap fun a=>((L.drop (a + 1)).filter fun y=>n == 2 || (L.getD a (0, 0)).2 == y.2).map fun y=>(L.getD a (0, 0), y)
def prT (n:Nat) (L:List Cr) (i t:Nat):List (Cr × Cr):=hdP n L i ++ (((L.take t).drop (i + 1)).filter fun y=>n == 2 || (L.getD i (0, 0)).2 == y.2).map fun y=>(L.getD i (0, 0), y)
theorem zSa (n:Nat):∀ L:List Cr, hdP n L L.length = zIZ n L
 | []=>rfl
 | x :: t=>by
  unfold hdP
  rw [List.length_cons, List.range_succ_eq_map, List.flatMap_cons, List.flatMap_map, zIZ, ← zSa n t]
  congr 1
theorem zQS (n:Nat) (L:List Cr) (i:Nat):prT n L i (i + 1) = hdP n L i:=by
 unfold prT
 rw [show (L.take (i + 1)).drop (i + 1) = [] by rw [List.drop_eq_nil_iff]; simp; omega]
 simp
theorem zPC (n:Nat) (L:List Cr) (i:Nat):prT n L i L.length = hdP n L (i + 1):=by
 unfold prT hdP
 rw [List.take_length, List.range_succ, List.flatMap_append]
 simp
theorem zPF {n:Nat} {L:List Cr} {i t:Nat} (hi:i < L.length) (ht:t < L.length) (hit:i < t) (e:(n == 2 || L[i].2 == L[t].2) = true):prT n L i (t + 1) = prT n L i t ++ [(L[i], L[t])]:=by
 unfold prT
 have e1:L.getD i (0, 0) = L[i]:=by simp [List.getD, hi]
 rw [List.take_add_one, List.getElem?_eq_getElem ht, Option.toList_some, List.drop_append_of_le_length (by simp; omega), List.filter_append, List.map_append, e1]
 simp [e, List.append_assoc]
theorem zQJ {n:Nat} {L:List Cr} {i t:Nat} (hi:i < L.length) (ht:t < L.length) (hit:i < t) (e:(n == 2 || L[i].2 == L[t].2) = false):prT n L i (t + 1) = prT n L i t:=by
 unfold prT
 have e1:L.getD i (0, 0) = L[i]:=by simp [List.getD, hi]
 rw [List.take_add_one, List.getElem?_eq_getElem ht, Option.toList_some, List.drop_append_of_le_length (by simp; omega), List.filter_append, List.map_append, e1]
 simp [e]
theorem zMJ (n:Nat) (L:List Cr) (x:Cr) (M:List Cr) (h:M.length <= L.length):((M.filter fun y=>n == 2 || x.2 == y.2).map fun y=>(x, y)).length <= L.length:=by
 rw [List.length_map]; exact Nat.le_trans (List.length_filter_le _ _) h
theorem zML (n:Nat) (L:List Cr) (i:Nat):(hdP n L i).length <= i * L.length:=by
 have:=zH9 (g:=fun a=>((L.drop (a + 1)).filter fun y=>n == 2 || (L.getD a (0, 0)).2 == y.2).map fun y=>(L.getD a (0, 0), y)) (m:=L.length) (fun a=>zMJ n L _ _ (by simp)) (List.range i)
 rw [List.length_range] at this; exact this
theorem zOZ {n:Nat} {L:List Cr} {i t:Nat} (hL:L.length <= 4) (hi:i <= 4):(prT n L i t).length <= 20:=by
 have h1:=zML n L i
 have h2:=zMJ n L (L.getD i (0, 0)) ((L.take t).drop (i + 1)) (by simp; omega)
 have h3:i * L.length <= 16:=Nat.mul_le_mul hi hL
 unfold prT
 rw [List.length_append]; omega
def jnJ (h:Nat -> Bool) (w:Nat) (cs:List Nat) (k:Nat):List (Nat × Cr × Cr):=(List.range k).flatMap fun i=>(zIL h w (cs.getD i 0)).map fun q=>(i, q)
def zJg (h:Nat -> Bool) (w r:Nat):List (Nat × Cr × Cr):=jnJ h w (wP w r) (wP w r).length
def rJn (q:Nat × Cr × Cr):List EV:=[I (q.1:Int), I (q.2.1.1:Int), I (q.2.1.2:Int), I (q.2.2.1:Int), I (q.2.2.2:Int)]
def eJn (q:Nat × Cr × Cr):List AV:=[ei (q.1:Int), ei (q.2.1.1:Int), ei (q.2.1.2:Int), ei (q.2.2.1:Int), ei (q.2.2.2:Int)]
theorem zM1 (l:List (Nat × Cr × Cr)):l.map rJn = (l.map eJn).map (·.map .pub):=by simp [rJn, eJn, I, ei]
theorem zNT (h:Nat -> Bool) (w:Nat) (cs:List Nat) (k:Nat):jnJ h w cs (k + 1) = jnJ h w cs k ++ (zIL h w (cs.getD k 0)).map fun q=>(k, q):=by
 unfold jnJ; rw [List.range_succ, List.flatMap_append]; simp
theorem zMV {h:Nat -> Bool} {w:Nat} {cs:List Nat} {k:Nat} (hk:k <= 30):(jnJ h w cs k).length <= 480:=by
 have:=zH9 (g:=fun i=>(zIL h w (cs.getD i 0)).map fun q=>(i, q)) (m:=16) (fun i=>by
  rw [List.length_map]; unfold zIL; rw [← zSa]
  have h1:=zML (zHr h w (cs.getD i 0)).length (zHr h w (cs.getD i 0)) (zHr h w (cs.getD i 0)).length
  have h2:=zJu h w (cs.getD i 0) 4
  rw [zR6] at h2
  exact Nat.le_trans h1 (Nat.mul_le_mul h2 h2)) (List.range k)
 rw [List.length_range] at this
 unfold jnJ; omega
def jkJ (h:Nat -> Bool) (w:Nat) (cs:List Nat) (k i t:Nat):List (Nat × Cr × Cr):=jnJ h w cs k ++ (prT (zHr h w (cs.getD k 0)).length (zHr h w (cs.getD k 0)) i t).map fun q=>(k, q)
theorem zOE {l:List Nat} {w:Nat}:∀ q ∈ l.map (eC4 w), q.length = 4:=fun q h=>by obtain ⟨c, _, rfl⟩:=List.mem_map.1 h; rfl
theorem zJz {w r:Nat} (h:w * r <= 30):(wP w r).length <= 30:=by
 unfold wP
 have:=List.length_filter_le (zIN w r) (List.range (w * r))
 rw [List.length_range] at this; omega
theorem f132 (f:Fld) (lvl:Int) (a b:Nat) (ha:a < f.vals.length) (hb:b < f.vals.length) (hl:f.vals.length <= 1000):ACall Tryz.prog G 132 [.agg (zHF f), ei lvl, ei (a:Int), ei (b:Int)] (.tup [.agg (eCr ((crO (hiF f lvl) a b).getD (0, 0))), .v (.bool (crO (hiF f lvl) a b).isSome)]):=by
 have hf96:=fun (p:Nat) (hp:p < f.vals.length)=>f96 (G:=G) f lvl p hp (by omega)
 generalize hiF f lvl = h at hf96 ⊢
 refine zS Tryz.func132 rfl (by kernel_rfl) rfl ?_
 refine zuy (zh ?_)
 refine zg rfl rfl (jf rfl (zY rfl)) ?_
 refine jb rfl (wJ rfl rfl zKI rfl rfl) ?_
 refine zg rfl rfl (zn rfl rfl) ?_
 refine zo (zf (zuy (zuy ?_)))
 refine qY mixed (by kernel_rfl) rfl ?_
 refine zH rfl (zZ rfl rfl zHQ (by exact zLb rfl)) ?_
 refine zH rfl (zi rfl rfl) ?_
 refine zH rfl (zi rfl rfl) ?_
 refine zH rfl (zy (av:=[_, _, _]) rfl ⟨rfl, rfl, rfl, trivial⟩ (hf96 a ha)) ?_
 refine zH rfl (zZ rfl rfl zHQ (by exact zLb rfl)) ?_
 refine zH rfl (zi rfl rfl) ?_
 refine zH rfl (zi rfl rfl) ?_
 refine zH rfl (zy (av:=[_, _, _]) rfl ⟨rfl, rfl, rfl, trivial⟩ (hf96 b hb)) ?_
 refine zH rfl (zQu rfl rfl rfl Tryz.underlying4) ?_
 refine jw (zf (zx rfl (fun h0=>?_) (fun h0=>?_)))
 ·
  have he:crO h a b = none:=by unfold crO; rw [h0]; rfl
  refine zuy (zh ?_)
  refine zg rfl rfl (zb3 (cs:=[_, _]) rfl zNx rfl rfl (by rfl) (by simp [ofV])) ?_
  refine jb rfl (qG rfl rfl rfl rfl rfl rfl (zY rfl) zHs (by rfl) (by exact zLb rfl)) ?_
  refine zg rfl rfl (zn rfl rfl) ?_
  refine zo (zf (zP (zQ ?_)))
  exact ⟨.inr rfl, ⟨_, rfl, ⟨_, _, rfl, (jK rfl rfl rfl rfl zHs rfl ⟨_, _, rfl, AVle.of (by rw [he]; rfl), ⟨_, _, rfl, AVle.of (by rw [he]; rfl), rfl⟩⟩), ⟨_, _, rfl, AVle.of (by rw [he]; rfl), rfl⟩⟩⟩⟩
 ·
  refine zC (zf (zuy (zuy (zh ?_))))
  refine zg rfl rfl (zZ rfl rfl zHQ (by exact zLb rfl)) ?_
  refine zg rfl rfl (zi rfl rfl) ?_
  refine zg rfl rfl (zi rfl rfl) ?_
  refine zg rfl rfl (zy (av:=[_, _, _]) rfl ⟨rfl, rfl, rfl, trivial⟩ (hf96 a ha)) ?_
  refine zo (zf (zx rfl (fun h1=>?_) (fun h1=>?_)))
  ·
   have he:crO h a b = some (b, a):=by unfold crO; rw [h0, h1]; rfl
   refine zuy (zh ?_)
   refine zg rfl rfl (zi rfl rfl) ?_
   refine zg rfl rfl (zi rfl rfl) ?_
   refine zg rfl rfl (zb3 (cs:=[_, _]) rfl zNx rfl ⟨_, _, rfl, (jF rfl), ⟨_, _, rfl, (jF rfl), rfl⟩⟩ (by rfl) (by simp [ofV])) ?_
   refine jb rfl (qG rfl rfl rfl rfl rfl rfl (zY rfl) zHs (by rfl) (by exact zLb rfl)) ?_
   refine zg rfl rfl (zn rfl rfl) ?_
   refine zo (zf (zP (zQ ?_)))
   exact ⟨.inr rfl, ⟨_, rfl, ⟨_, _, rfl, (jK rfl rfl rfl rfl zHs rfl ⟨_, _, rfl, AVle.of (by rw [he]; rfl), ⟨_, _, rfl, AVle.of (by rw [he]; rfl), rfl⟩⟩), ⟨_, _, rfl, AVle.of (by rw [he]; rfl), rfl⟩⟩⟩⟩
  ·
   have he:crO h a b = some (a, b):=by unfold crO; rw [h0, h1]; rfl
   refine zC (zf (zuy (zh ?_)))
   refine zg rfl rfl (zi rfl rfl) ?_
   refine zg rfl rfl (zi rfl rfl) ?_
   refine zg rfl rfl (zb3 (cs:=[_, _]) rfl zNx rfl ⟨_, _, rfl, (jF rfl), ⟨_, _, rfl, (jF rfl), rfl⟩⟩ (by rfl) (by simp [ofV])) ?_
   refine jb rfl (qG rfl rfl rfl rfl rfl rfl (zY rfl) zHs (by rfl) (by exact zLb rfl)) ?_
   refine zg rfl rfl (zn rfl rfl) ?_
   refine zo (zf (zP ?_))
   exact ⟨.inr rfl, ⟨_, rfl, ⟨_, _, rfl, (jK rfl rfl rfl rfl zHs rfl ⟨_, _, rfl, AVle.of (by rw [he]; rfl), ⟨_, _, rfl, AVle.of (by rw [he]; rfl), rfl⟩⟩), ⟨_, _, rfl, AVle.of (by rw [he]; rfl), rfl⟩⟩⟩⟩
end Go.Av
end
