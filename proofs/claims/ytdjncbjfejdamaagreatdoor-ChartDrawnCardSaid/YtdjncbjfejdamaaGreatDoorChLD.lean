import Derived.Test.YtdjncbjfejdamaaGreatDoorChLC
import Derived.Test.YtdjncbjfejdamaaGreatDoorChN
set_option linter.unusedVariables false
set_option linter.unusedSimpArgs false
section
namespace Go.Av
open Go.Proofs
set_option maxRecDepth 100000
set_option maxHeartbeats 1000000
variable {G:Glob}
theorem zPW:zh8 Tryz.prog 120 1 [.int .i64 0, .int .i64 0, .int .i64 0, .int .i64 0]:=⟨_, _, Tryz.t3, Tryz.underlying120, by kernel_rfl, by kernel_rfl, by kernel_rfl⟩
theorem zQQ:Tryz.prog.info? 120 = some Tryz.t120:=by kernel_rfl
theorem zQ1:elemIs Tryz.prog 133 120 4 32:=⟨Tryz.underlying133, Tryz.t120, _, by kernel_rfl, rfl, rfl, rfl, rfl, by decide⟩
theorem zNx:xn Tryz.prog 50 [(0, 1), (1, 1)] [.int .i64 0, .int .i64 0]:=⟨_, Tryz.underlying50, by kernel_rfl, by kernel_rfl⟩
theorem zKq:Tryz.prog.info? 50 = some Tryz.t50:=by kernel_rfl
theorem zt5:elemIs Tryz.prog 48 50 2 16:=⟨Tryz.underlying48, Tryz.t50, _, by kernel_rfl, rfl, rfl, rfl, rfl, by decide⟩
def wF (f:Fld):Nat:=f.wide.toNat
def rF (f:Fld):Nat:=(rowsOf f).toNat
theorem zNh {f:Fld} (h:zHz f = true):((wF f:Nat):Int) = f.wide /\ 1 <= wF f /\ wF f <= 6 /\ 1 <= rF f /\ rF f <= 5 /\ f.vals.length = wF f * rF f:=by
 unfold zHz at h
 simp only[zLa] at h
 have h:=zKT h.1
 obtain ⟨h1, h2, h3, h4, h5⟩:=h
 have e1:((wF f:Nat):Int) = f.wide:=by unfold wF; omega
 have e2:((rF f:Nat):Int) = rowsOf f:=by unfold rF; omega
 refine ⟨e1, by omega, by omega, by omega, by omega, ?_⟩
 have:((wF f * rF f:Nat):Int) = f.vals.length:=by rw [Int.natCast_mul, e1, e2]; exact h5.symm
 omega
theorem zKu {a b:Nat} (h1:a <= 6) (h2:b <= 5):a * b <= 30:=Nat.le_trans (Nat.mul_le_mul h1 h2) (by omega)
def rC4 (w p:Nat):List EV:=(zPq w p).map fun (q:Nat)=>I (q:Int)
def eC4 (w p:Nat):List AV:=(zPq w p).map fun (q:Nat)=>ei (q:Int)
def zNN (w r:Nat):AV:=.sl ((wP w r).map (eC4 w))
def zKa (w p:Nat):Bool:=decide (p % w + 1 < w)
theorem zKc {q:Nat -> Bool} {m:Nat}:∀ {n:Nat}, m <= n -> (List.range n).filter (fun p=>q p && decide (p < m)) = (List.range m).filter q
  | 0, h => by have : m = 0 := by omega
               subst this; rfl
  | n + 1, h=>by
    by_cases hm:m = n + 1
    · subst hm
      exact List.filter_congr fun p hp=>by have:=List.mem_range.1 hp; simp [this]
    · rw [List.range_succ, List.filter_append, zKc (show m <= n by omega)]
      simp; omega
theorem zNz {w r:Nat} (hw:1 <= w) (hr:1 <= r):wP w r = (List.range (w * r - w)).filter (zKa w):=by
 rw [← zKc (q:=zKa w) (show w * r - w <= w * r by omega)]
 unfold wP
 refine List.filter_congr fun p hp=>?_
 unfold zIN zKa
 congr 1
 rw [decide_eq_decide]
 rw [show w * r - w = w * (r - 1) by rw [Nat.mul_sub, Nat.mul_one]]
 constructor
 ·
  intro h
  have h1:p < w * (p / w + 1):=Nat.lt_mul_div_succ p (by omega)
  exact Nat.lt_of_lt_of_le h1 (Nat.mul_le_mul_left w (by omega))
 ·
  intro h
  have:=(Nat.div_lt_iff_lt_mul (show 0 < w by omega)).2 (by rw [Nat.mul_comm]; exact h)
  omega
theorem zSn {q:Nat -> Bool} {k:Nat} (h:q k = true):(List.range (k + 1)).filter q = (List.range k).filter q ++ [k]:=by rw [List.range_succ, List.filter_append]; simp [h]
theorem zSD {q:Nat -> Bool} {k:Nat} (h:q k = false):(List.range (k + 1)).filter q = (List.range k).filter q:=by rw [List.range_succ, List.filter_append]; simp [h]
theorem zKv (q:Nat -> Bool) (k:Nat):((List.range k).filter q).length <= k:=by have:=List.length_filter_le q (List.range k); simpa using this
theorem f87 (f:Fld) (hf:zHz f = true):ACall Tryz.prog G 87 [.agg (zHF f)] (zNN (wF f) (rF f)):=by
 obtain ⟨zw, w1, w6, r1, r5, hlen⟩:=zNh hf
 have hwr:=zKu w6 r5
 obtain ⟨b1, b2, b3⟩:=zJI hf
 generalize wF f = w at zw w1 w6 hlen hwr ⊢
 generalize rF f = r at r1 r5 hlen hwr ⊢
 have hwl:w <= w * r:=Nat.le_mul_of_pos_right w (by omega)
 refine zS Tryz.func87 rfl (by kernel_rfl) rfl ?_
 refine zuy (zh ?_)
 refine zg rfl rfl (jf rfl (zY rfl)) ?_
 refine zg rfl rfl (zn rfl rfl) ?_
 refine zo (zf (zuy (zh ?_)))
 refine zg rfl rfl (zn rfl rfl) ?_
 refine zo (zf (zuy (zuy (zh ?_))))
 refine zg rfl rfl (zn rfl rfl) ?_
 refine zo (zf (zB ?_))
 refine qx (kG 3 rfl) ?_
 refine qy (ι:={ k:Nat // k <= w * r - w }) (fun k=>⟨Tryz.f87.ntmps, frL [(1, .pub (.ptr (zHF f))), (3, .psl 0 ((List.range k.1).filter (zKa w)).length), (4, I (k.1:Int))], [.row (((List.range k.1).filter (zKa w)).map (rC4 w))]⟩) (fun k=>w * r - w - k.1) (⟨0, by omega⟩) ?_ ?_
 ·
  exact zt _ ⟨rfl, rfl, rfl, trivial⟩ (rfl)
 ·
  rintro ⟨k, hk⟩
  dsimp only
  refine zuy (zuy (zh ?_))
  refine zg rfl rfl (zi rfl rfl) ?_
  refine zg rfl rfl (zu rfl rfl zHB) ?_
  refine zg rfl rfl (zA rfl rfl rfl ty3) ?_
  refine zg rfl rfl (zV rfl rfl rfl ⟨(by omega), (by omega)⟩) ?_
  refine zg rfl rfl (zu rfl rfl zHx) ?_
  refine zg rfl rfl (zA rfl rfl rfl zHR) ?_
  refine zg rfl rfl (zuB rfl rfl Tryz.underlying27) ?_
  refine zg rfl rfl (zUB rfl rfl rfl) ?_
  refine zo (zf (zx rfl (fun h0=>?_) (fun h0=>?_)))
  ·
   have hlt:k < w * r - w:=by simp at h0; omega
   have hd:=Nat.mod_lt k (show 0 < w by omega)
   refine zC (zf (zuy (zB (zuy ?_))))
   refine qY mixed (by kernel_rfl) rfl ?_
   refine zH rfl (zi rfl rfl) ?_
   refine zH rfl (zu rfl rfl zHB) ?_
   refine zH rfl (zA rfl rfl rfl ty3) ?_
   refine zH rfl (yA rfl rfl rfl ⟨(by omega), (by omega)⟩) ?_
   refine zH rfl (zu rfl rfl zHB) ?_
   refine zH rfl (zA rfl rfl rfl ty3) ?_
   refine zH rfl (ze5 rfl rfl rfl ⟨(by omega), (by omega)⟩) ?_
   refine zH rfl (zUB rfl rfl rfl) ?_
   refine jw (zf (zx rfl (fun h1=>?_) (fun h1=>?_)))
   ·
    have hcol:zKa w k = true:=by unfold zKa; rw [← zw] at h1; simp at h1 ⊢; omega
    have hfs:=zSn hcol
    refine zh ?_
    refine zg rfl rfl (zI rfl rfl) ?_
    refine zg rfl rfl (zi rfl rfl) ?_
    refine zg rfl rfl (zi rfl rfl) ?_
    refine zg rfl rfl (zV rfl rfl rfl ⟨(by omega), (by omega)⟩) ?_
    refine zg rfl rfl (zi rfl rfl) ?_
    refine zg rfl rfl (zu rfl rfl zHB) ?_
    refine zg rfl rfl (zA rfl rfl rfl ty3) ?_
    refine zg rfl rfl (zV rfl rfl rfl ⟨(by omega), (by omega)⟩) ?_
    refine zg rfl rfl (zV rfl rfl rfl ⟨(by omega), (by omega)⟩) ?_
    refine zg rfl rfl (zi rfl rfl) ?_
    refine zg rfl rfl (zu rfl rfl zHB) ?_
    refine zg rfl rfl (zA rfl rfl rfl ty3) ?_
    refine zg rfl rfl (zV rfl rfl rfl ⟨(by omega), (by omega)⟩) ?_
    refine zg rfl rfl (znx (cs:=[_, _, _, _]) rfl zPW rfl ⟨_, _, rfl, (jF rfl), ⟨_, _, rfl, (jF rfl), ⟨_, _, rfl, (jF rfl), ⟨_, _, rfl, (jF rfl), rfl⟩⟩⟩⟩ (by rfl) (by simp [ofV])) ?_
    refine zg rfl rfl (qg (size:=4) (rows:=[[_, _, _, _]]) rfl Tryz.underlying133 zQQ rfl (by decide) rfl (by decide) ⟨_, _, rfl, (zY rfl), rfl⟩ (by rfl) (by simp [ofV]) rfl (by simp)) ?_
    refine jb rfl (vS rfl rfl rfl rfl (by simp) rfl zQ1 (by intro q hq; obtain ⟨n, _, rfl⟩:=List.mem_map.1 hq; rfl) (by simp [rC4, zPq]) (by have:=zKv (zKa w) k; simp; omega) (by have:=zKv (zKa w) k; unfold maxLen; simp; omega)) ?_
    refine zg rfl rfl (qo rfl rfl) ?_
    refine zo (zD (zf (zh ?_)))
    refine zg rfl rfl (zi rfl rfl) ?_
    refine zg rfl rfl (zV rfl rfl rfl ⟨(by omega), (by omega)⟩) ?_
    refine zg rfl rfl (zn rfl rfl) ?_
    refine zo ?_
    exact ⟨⟨k + 1, by omega⟩, by dsimp only; omega, zt _ ⟨rfl, (by show EV.psl 0 _ = EV.psl 0 _; rw [hfs] <;> simp), rfl, trivial⟩ (congrArg (fun z=>[PO.row z]) (by first | (rw [hfs, List.map_append, ← zw]; rfl) | rw [hfs]))⟩
   ·
    have hcol:zKa w k = false:=by unfold zKa; rw [← zw] at h1; simp at h1 ⊢; omega
    have hfs:=zSD hcol
    refine zC (zD (zf (zh ?_)))
    refine zg rfl rfl (zi rfl rfl) ?_
    refine zg rfl rfl (zV rfl rfl rfl ⟨(by omega), (by omega)⟩) ?_
    refine zg rfl rfl (zn rfl rfl) ?_
    refine zo ?_
    exact ⟨⟨k + 1, by omega⟩, by dsimp only; omega, zt _ ⟨rfl, (by show EV.psl 0 _ = EV.psl 0 _; rw [hfs] <;> simp), rfl, trivial⟩ (congrArg (fun z=>[PO.row z]) (by first | (rw [hfs, List.map_append, ← zw]; rfl) | rw [hfs]))⟩
  ·
   have hge:w * r - w <= k:=by simp at h0; omega
   have hk2:k = w * r - w:=by omega
   subst hk2
   have hcut:=zNz w1 r1
   refine qp (zRQ (zRQ (qw (zf (zuy (zh ?_))))))
   refine zg rfl rfl (zI rfl rfl) ?_
   refine zg rfl rfl (qo rfl rfl) ?_
   refine zo (zf (zP ?_))
   exact ⟨.inr rfl, ⟨(wP w r).map (eC4 w), by rw [hcut]; show some (PO.row _) = some (PO.row _); simp [rC4, eC4, ei, I, Function.comp_def], by rw [hcut]; simp, rfl⟩⟩
def zIm (h:Nat -> Bool) (w r k j:Nat):List Cr:=(List.range k).flatMap (zJq h w r) ++ (List.range j).filterMap fun q=>bif zIn w k q && (!h k && h q) then some (k, q) else none
theorem zJh (h:Nat -> Bool) (w r k:Nat):zIm h w r k 0 = (List.range k).flatMap (zJq h w r):=by simp [zIm]
theorem zH9 {α β:Type} {g:α -> List β} {m:Nat} (h:∀ a, (g a).length <= m):∀ l:List α, (l.flatMap g).length <= l.length * m
 | []=>by simp
 | a :: l=>by
  have:=zH9 h l
  have:=h a
  rw [List.flatMap_cons, List.length_append, List.length_cons, Nat.add_mul]; omega
theorem zSu {h:Nat -> Bool} {w r k j:Nat} (hk:k <= 30) (hn:w * r <= 30) (hj:j <= 30):(zIm h w r k j).length <= 930:=by
 have h1:∀ p, (zJq h w r p).length <= 30:=fun p=>by
  unfold zJq
  have:=List.length_filterMap_le (fun q=>bif zIn w p q && (!h p && h q) then some (p, q) else none) (List.range (w * r))
  rw [List.length_range] at this; omega
 have h2:=zH9 h1 (List.range k)
 have h3:=List.length_filterMap_le (fun q=>bif zIn w k q && (!h k && h q) then some (k, q) else none) (List.range j)
 rw [List.length_range] at h2 h3
 unfold zIm
 rw [List.length_append]; omega
theorem zKe {w:Nat} (a b:Nat):(dist (w:Int) (a:Int) (b:Int) == 1) = zIn w a b:=by
 unfold dist zIn zSx
 rw [Bool.eq_iff_iff, beq_iff_eq, decide_eq_true_iff]
 have e1:((a:Int) / (w:Int)) = ((a / w:Nat):Int):=by simp
 have e2:((b:Int) / (w:Int)) = ((b / w:Nat):Int):=by simp
 have e3:((a:Int) % (w:Int)) = ((a % w:Nat):Int):=by simp
 have e4:((b:Int) % (w:Int)) = ((b % w:Nat):Int):=by simp
 rw [e1, e2, e3, e4]
 generalize a / w = a1, b / w = b1, a % w = a2, b % w = b2
 omega
end Go.Av
end
section
namespace Go.Av
open Go.Proofs
set_option maxRecDepth 100000
set_option maxHeartbeats 1000000
variable {G:Glob}
theorem zKI:(Tryz.prog.info? 50).bind (·.zero) = some (.agg #[.int .i64 0, .int .i64 0]):=by kernel_rfl
def cnR (w p:Nat) (i:Int):Nat:=(zPq w p).getD i.toNat 0
theorem zOu {w p:Nat} {i:Int} (h0:0 <= i) (h4:i < 4):((eC4 w p).drop (i.toNat * 1))[0]? = some (ei ((cnR w p i:Nat):Int)):=by
 have h4:i = 0 ∨ i = 1 ∨ i = 2 ∨ i = 3:=by omega
 rcases h4 with rfl | rfl | rfl | rfl <;> rfl
theorem zSj {w r p:Nat} (hp:p ∈ wP w r):p + w + 1 < w * r:=by
 unfold wP at hp
 rw [List.mem_filter, List.mem_range] at hp
 obtain ⟨h1, h2⟩:=hp
 unfold zIN at h2
 simp only[zLa, decide_eq_true_eq] at h2
 have e1:=Nat.div_add_mod p w
 have h3:w * (p / w + 1 + 1) <= w * r:=Nat.mul_le_mul_left w (by omega)
 rw [Nat.mul_add, Nat.mul_add, Nat.mul_one] at h3
 omega
def rJn (q:Nat × Cr × Cr):List EV:=[I (q.1:Int), I (q.2.1.1:Int), I (q.2.1.2:Int), I (q.2.2.1:Int), I (q.2.2.2:Int)]
def eJn (q:Nat × Cr × Cr):List AV:=[ei (q.1:Int), ei (q.2.1.1:Int), ei (q.2.1.2:Int), ei (q.2.2.1:Int), ei (q.2.2.2:Int)]
theorem zM1 (l:List (Nat × Cr × Cr)):l.map rJn = (l.map eJn).map (·.map .pub):=by simp [rJn, eJn, I, ei]
theorem zOE {l:List Nat} {w:Nat}:∀ q ∈ l.map (eC4 w), q.length = 4:=fun q h=>by obtain ⟨c, _, rfl⟩:=List.mem_map.1 h; rfl
theorem zJz {w r:Nat} (h:w * r <= 30):(wP w r).length <= 30:=by
 unfold wP
 have:=List.length_filter_le (zIN w r) (List.range (w * r))
 rw [List.length_range] at this; omega
end Go.Av
end
