import Derived.Test.YtgmbdadkbominaaGreatDoorChA
import Derived.Lib.Hide
set_option linter.unusedVariables false
set_option linter.unusedSimpArgs false
section
namespace Go.Av
namespace Ct
open Go.Proofs
set_option maxRecDepth 100000
set_option maxHeartbeats 1000000
variable {G:Glob}
def npt (m:Mp):Nat:=(m.wide * m.rows).toNat
def los (m:Mp):List Int:=(List.range (npt m)).map fun p:Nat=>loOf m.wide m.slope (p:Int) m.st
def his (m:Mp):List Int:=(List.range (npt m)).map fun p:Nat=>hiOf m.wide m.slope (p:Int) m.st
theorem yx {α:Type} (f:Nat -> α) (k:Nat):(List.range k).map f ++ [f k] = (List.range (k + 1)).map f:=by simp [List.range_succ]
theorem npt_bd {m:Mp} (hm:okM m):(npt m:Int) = m.wide * m.rows /\ 1 <= npt m /\ npt m <= 30:=by
 obtain ⟨m1, m2, m3, m4, _⟩:=hm
 have:=area m1 m2 m3 m4
 unfold npt; omega
abbrev wG:EV:=.pub (.v (.slice none 0 0))
def loE (m:Mp) (p:Nat):List EV:=[I (loOf m.wide m.slope (p:Int) m.st)]
def hiE (m:Mp) (p:Nat):List EV:=[I (hiOf m.wide m.slope (p:Int) m.st)]
theorem zaB {α:Type} {l:List α} {f:α -> List EV} (h:∀ a, (f a).length = 1):∀ r ∈ l.map f, r.length = 1:=fun r hr=>by
 obtain ⟨a, _, rfl⟩:=List.mem_map.1 hr; exact h a
theorem f64 (m:Mp) (hm:okM m):ACall Tryz.prog G 88 [.agg (qB m)] (.agg [eInts (los m), eInts (his m)]):=by
 have hn:=npt_bd hm
 have ho:=hm
 obtain ⟨m1, m2, m3, m4, m5, m6, m7, m8⟩:=ho
 refine zO Tryz.func88 Y (by kernel_rfl) Y ?_
 refine zn (zf (ql Y (zQ Y)) (qL Y (jr Y Y zbX Y Y) (zo (zn (qL Y (jr Y Y zbX Y Y) (zo (zt ?_)))))))
 refine zn (zf (zK Y Y jF (by exact zLb Y)) (zf (wC (fs:=[_]) (cs:=[]) Y Y Y) (zf (zK Y Y jF (by exact zLb Y)) (zf (wC (fs:=[_]) (cs:=[]) Y Y Y) ?_))))
 refine zf (zkf (cs:=[_, _]) Y ztG Y ⟨_, _, Y, (zg4 Y), ⟨_, _, Y, (zg4 Y), Y⟩⟩ (by rfl) (by simp [ofV])) ?_
 refine zf (zh Y Y) (zo (zF ?_))
 refine qm (ι:={ k:Nat // k < 3 }) (fun k=>match k.1 with | 0=>⟨Tryz.f88.ntmps, frL [(1, .pub (.ptr (qB m))), (2, .pp 0 1 0 0), (3, .pp 1 1 0 0), (12, .pub (.agg [.fn 184 [.agg (qB m)] [], .fn 185 [.agg (qB m)] []])), (13, I 0)], [.row [[wG, wG]], .row [[wG, wG]]]⟩ | 1=>⟨Tryz.f88.ntmps, frL [(1, .pub (.ptr (qB m))), (2, .pp 0 1 0 0), (3, .pp 1 1 0 0), (12, .pub (.agg [.fn 184 [.agg (qB m)] [], .fn 185 [.agg (qB m)] []])), (13, I 1)], [.row [[wG, wG]], .row [[.psl 2 (npt m), wG]], .row ((List.range (npt m)).map (loE m))]⟩ | _=>⟨Tryz.f88.ntmps, frL [(1, .pub (.ptr (qB m))), (2, .pp 0 1 0 0), (3, .pp 1 1 0 0), (12, .pub (.agg [.fn 184 [.agg (qB m)] [], .fn 185 [.agg (qB m)] []])), (13, I 2)], [.row [[wG, wG]], .row [[.psl 2 (npt m), .psl 3 (npt m)]], .row ((List.range (npt m)).map (loE m)), .row ((List.range (npt m)).map (hiE m))]⟩) (fun k=>3 - k.1) (⟨0, by omega⟩) ?_ ?_
 ·exact zy _ ⟨Y, Y, Y, Y, Y, trivial⟩ (Y)
 ·rintro ⟨k, hk⟩
  have hk3:k = 0 ∨ k = 1 ∨ k = 2:=by omega
  rcases hk3 with rfl | rfl | rfl
  ·dsimp only
   refine zn (zf (qx Y Y Y) (zo (zt (zA Y (fun h0=>?_) (fun h0=>?_)))))
   ·refine zH (zk (zt (zF (zn (zf (zh Y Y) ?_)))))
    refine zf (zes Y Y Y znA (fun e he=>by rw [Tryz.underlying296] at he; cases he; exact zro) (by omega) (by omega) Y) ?_
    refine zf (zg Y Y) (zf (qG Y Y) (zo (zn (zf (zi Y Y jQ) (zf (zi Y Y yE) (zf (zl Y Y Y ty3) (zf (zi Y Y jQ) (zf (zi Y Y y9) (zf (zl Y Y Y ty3) ?_)))))))))
    refine zf (ya Y Y Y ⟨by omega, by omega⟩) (zf (zh Y Y) (zo (zF ?_)))
    refine qY (zg8 (k:=1) (i:=0) (j:=0) Y Y Y) ?_
    refine qm (ι:={ k:Nat // k <= npt m }) (fun k=>⟨Tryz.f88.ntmps, frL [(1, .pub (.ptr (qB m))), (2, .pp 0 1 0 0), (3, .pp 1 1 0 0), (12, .pub (.agg [.fn 184 [.agg (qB m)] [], .fn 185 [.agg (qB m)] []])), (13, I 0), (4, I 0), (5, .pub (.fn 184 [.agg (qB m)] [])), (23, I (m.wide * m.rows)), (24, I (k.1:Int))], [.row [[wG, wG]], .row [[.psl 2 k.1, wG]], .row ((List.range k.1).map (loE m))]⟩) (fun k=>npt m - k.1) (⟨0, by omega⟩) ?_ ?_
    ·exact zy _ ⟨Y, Y, Y, Y, Y, Y, Y, Y, Y, trivial⟩ (Y)
    ·rintro ⟨k, hk⟩
     dsimp only
     refine zn (zf (qx Y Y Y) (zo (zt (zA Y (fun h1=>?_) (fun h1=>?_)))))
     ·have hlt:k < npt m:=by have:=of_decide_eq_true h1; omega
      refine zH (zk (zt (zF (zn (zf (zh Y Y) (zf (zg Y Y) (zo (zn ?_))))))))
      refine zf (zI Y Y) (zf (zh Y Y) (zf (vH (av:=[_]) Y Y ⟨Y, trivial⟩ (f114 m (k:Int) hm (by omega))) (zf (zg Y Y) (zo (zx (zf (zh Y Y) (zf (zh Y Y) (zf (zV Y Y Y Y Y ji (by omega) (by omega)) (zf (zX Y Y Y Y Y Y jH) (zf (zh Y Y) ?_))))))))))
      refine zf (qy (size:=1) (rows:=[[_]]) Y Tryz.underlying24 ti3 Y (by decide) Y (by decide) ⟨_, _, Y, (qU Y), Y⟩ (by rfl) (by simp [ofV]) Y (by simp)) ?_
      refine qL Y (yJ Y Y Y Y (by simp) Y zmV (zaB fun _=>rfl) (by simp) (by simp; omega) (by unfold maxLen; simp; omega)) ?_
      refine zf (zV Y Y Y Y Y ji (by omega) (by omega)) ?_
      refine qL Y (qw Y Y Y Y Y Y (zc7 Y Y (by simp)) jH (by rfl) (by exact zLb Y)) ?_
      refine zM (zJ (zk (zx (zf (zW Y Y Y ⟨by omega, by omega⟩) (zf (zh Y Y) (zM ?_))))))
      exact ⟨⟨k + 1, by omega⟩, by dsimp only; omega, zy _ ⟨Y, Y, Y, Y, Y, Y, Y, Y, Y, trivial⟩ (congrArg (fun z=>[PO.row [[wG, wG]], PO.row [[.psl 2 (k + 1), wG]], PO.row z]) (yx (loE m) k))⟩
     ·have hge:npt m <= k:=by have:=of_decide_eq_false h1; omega
      have hk2:k = npt m:=by omega
      subst hk2
      refine qg (zS (zS (qh (zJ (zk (zx (zf (zW Y Y Y ⟨by omega, by omega⟩) (zf (zh Y Y) (zM ?_)))))))))
      exact ⟨⟨1, by omega⟩, by dsimp only; omega, zy (mem':=[.row [[wG, wG]], .row [[.psl 2 (npt m), wG]], .row ((List.range (npt m)).map (loE m))]) [(1, .pub (.ptr (qB m))), (2, .pp 0 1 0 0), (3, .pp 1 1 0 0), (12, .pub (.agg [.fn 184 [.agg (qB m)] [], .fn 185 [.agg (qB m)] []])), (13, I 1)] ⟨Y, Y, Y, Y, Y, trivial⟩ (Y)⟩
   ·exfalso; simp at h0
  ·dsimp only
   refine zn (zf (qx Y Y Y) (zo (zt (zA Y (fun h0=>?_) (fun h0=>?_)))))
   ·refine zH (zk (zt (zF (zn (zf (zh Y Y) ?_)))))
    refine zf (zes Y Y Y znA (fun e he=>by rw [Tryz.underlying296] at he; cases he; exact zro) (by omega) (by omega) Y) ?_
    refine zf (zg Y Y) (zf (qG Y Y) (zo (zn (zf (zi Y Y jQ) (zf (zi Y Y yE) (zf (zl Y Y Y ty3) (zf (zi Y Y jQ) (zf (zi Y Y y9) (zf (zl Y Y Y ty3) ?_)))))))))
    refine zf (ya Y Y Y ⟨by omega, by omega⟩) (zf (zh Y Y) (zo (zF ?_)))
    refine qY (zg8 (k:=1) (i:=0) (j:=1) Y Y Y) ?_
    refine qm (ι:={ k:Nat // k <= npt m }) (fun k=>⟨Tryz.f88.ntmps, frL [(1, .pub (.ptr (qB m))), (2, .pp 0 1 0 0), (3, .pp 1 1 0 0), (12, .pub (.agg [.fn 184 [.agg (qB m)] [], .fn 185 [.agg (qB m)] []])), (13, I 1), (4, I 1), (5, .pub (.fn 185 [.agg (qB m)] [])), (23, I (m.wide * m.rows)), (24, I (k.1:Int))], [.row [[wG, wG]], .row [[.psl 2 (npt m), .psl 3 k.1]], .row ((List.range (npt m)).map (loE m)), .row ((List.range k.1).map (hiE m))]⟩) (fun k=>npt m - k.1) (⟨0, by omega⟩) ?_ ?_
    ·exact zy _ ⟨Y, Y, Y, Y, Y, Y, Y, Y, Y, trivial⟩ (Y)
    ·rintro ⟨k, hk⟩
     dsimp only
     refine zn (zf (qx Y Y Y) (zo (zt (zA Y (fun h1=>?_) (fun h1=>?_)))))
     ·have hlt:k < npt m:=by have:=of_decide_eq_true h1; omega
      refine zH (zk (zt (zF (zn (zf (zh Y Y) (zf (zg Y Y) (zo (zn ?_))))))))
      refine zf (zI Y Y) (zf (zh Y Y) (zf (vH (av:=[_]) Y Y ⟨Y, trivial⟩ (f115 m (k:Int) hm (by omega))) (zf (zg Y Y) (zo (zx (zf (zh Y Y) (zf (zh Y Y) (zf (zV Y Y Y Y Y ji (by omega) (by omega)) (zf (zX Y Y Y Y Y Y jH) (zf (zh Y Y) ?_))))))))))
      refine zf (qy (size:=1) (rows:=[[_]]) Y Tryz.underlying24 ti3 Y (by decide) Y (by decide) ⟨_, _, Y, (qU Y), Y⟩ (by rfl) (by simp [ofV]) Y (by simp)) ?_
      refine qL Y (yJ Y Y Y Y (by simp) Y zmV (zaB fun _=>rfl) (by simp) (by simp; omega) (by unfold maxLen; simp; omega)) ?_
      refine zf (zV Y Y Y Y Y ji (by omega) (by omega)) ?_
      refine qL Y (qw Y Y Y Y Y Y (zc7 Y Y (by simp)) jH (by rfl) (by exact zLb Y)) ?_
      refine zM (zJ (zk (zx (zf (zW Y Y Y ⟨by omega, by omega⟩) (zf (zh Y Y) (zM ?_))))))
      exact ⟨⟨k + 1, by omega⟩, by dsimp only; omega, zy _ ⟨Y, Y, Y, Y, Y, Y, Y, Y, Y, trivial⟩ (congrArg (fun z=>[PO.row [[wG, wG]], PO.row [[.psl 2 (npt m), .psl 3 (k + 1)]], PO.row ((List.range (npt m)).map (loE m)), PO.row z]) (yx (hiE m) k))⟩
     ·have hge:npt m <= k:=by have:=of_decide_eq_false h1; omega
      have hk2:k = npt m:=by omega
      subst hk2
      refine qg (zS (zS (qh (zJ (zk (zx (zf (zW Y Y Y ⟨by omega, by omega⟩) (zf (zh Y Y) (zM ?_)))))))))
      exact ⟨⟨2, by omega⟩, by dsimp only; omega, zy (mem':=[.row [[wG, wG]], .row [[.psl 2 (npt m), .psl 3 (npt m)]], .row ((List.range (npt m)).map (loE m)), .row ((List.range (npt m)).map (hiE m))]) [(1, .pub (.ptr (qB m))), (2, .pp 0 1 0 0), (3, .pp 1 1 0 0), (12, .pub (.agg [.fn 184 [.agg (qB m)] [], .fn 185 [.agg (qB m)] []])), (13, I 2)] ⟨Y, Y, Y, Y, Y, trivial⟩ (Y)⟩
   ·exfalso; simp at h0
  ·dsimp only
   refine zn (zf (qx Y Y Y) (zo (zt (zA Y (fun h0=>?_) (fun h0=>?_)))))
   ·exfalso; simp at h0
   ·refine qg (zS (zS (qh (zk (zn (zf (za9 Y Y Y Y Y (by exact zLb Y) Y zby) ?_))))))
    refine qL Y (qw Y Y Y Y Y Y (zkj Y) zby (by rfl) (by exact zLb Y)) ?_
    refine zo (zN ?_)
    exact ⟨.inr Y, zcp Y (jd Y Y Y Y zby Y ⟨_, _, Y, ⟨((los m).map fun n=>[AV.v (.int .i64 n)]), by show some (PO.row _) = some (PO.row _); simp [los, loE, Function.comp_def], by simp [los], Y⟩, ⟨_, _, Y, ⟨((his m).map fun n=>[AV.v (.int .i64 n)]), by show some (PO.row _) = some (PO.row _); simp [his, hiE, Function.comp_def], by simp [his], Y⟩, Y⟩⟩)⟩
def zfz (m:Mp) (s:Stn):Bool:=!inB s.pt 0 (m.wide * m.rows - 1) || decide (s.lo < 0) || decide (s.hi < s.lo) || decide (99999 < s.hi)
theorem zk9 (m:Mp) (s:Stn):zfz m s = !ziM m s:=by
 rw [Bool.eq_iff_iff]; simp [zfz, ziM, inB]; omega
def zpe:Stn:=⟨0, 0, 0⟩
theorem zot {α:Type} {p:α -> Bool} {l:List α} {k:Nat} (h:(l.take k).any p = false) (hk:k < l.length) (hp:p l[k] = false):(l.take (k + 1)).any p = false:=by
 rw [List.take_succ_eq_append_getElem hk, List.any_append, h]; simp [hp]
theorem zhB {α:Type} {p:α -> Bool} {l:List α} {k:Nat} (h:(l.take k).any p = false) (hk:k < l.length) (hp:p l[k] = true):l.find? p = some l[k]:=by
 have e:l = l.take k ++ l[k] :: l.drop (k + 1):=by rw [← List.drop_eq_getElem_cons hk, List.take_append_drop]
 have h1:(l.take k).find? p = none:=by rw [List.find?_eq_none]; intro x hx hp'; rw [List.any_eq_false] at h; exact h x hx hp'
 have h2:(l.take k ++ l[k] :: l.drop (k + 1)).find? p = some l[k]:=by rw [List.find?_append, h1]; simp only[Option.none_or, List.find?_cons, hp]
 rw [← e] at h2; exact h2
theorem zsh {α:Type} {p:α -> Bool} {l:List α} {k:Nat} (hk:k < l.length) (hp:p l[k] = true):l.any p = true:=by
 rw [List.any_eq_true]; exact ⟨l[k], List.getElem_mem hk, hp⟩
theorem f137 (m:Mp) (s:Stn) (h1:1 <= m.wide /\ m.wide <= 6) (h2:1 <= m.rows /\ m.rows <= 5):ACall Tryz.prog G 177 [.agg (eStn s), .ptr (eMp m)] (.v (.bool (zfz m s))):=by
 have har:=area h1.1 h1.2 h2.1 h2.2
 refine zO Tryz.func177 Y (by kernel_rfl) Y ?_
 refine zn (zf (ql Y (zQ Y)) (zf (zg Y Y) (zo (zn (zf (zi Y Y xk) (zf (zl Y Y Y ty3) (zf (zi Y Y yE) (zf (zl Y Y Y ty3) ?_))))))))
 refine zf (zi Y Y y9) (zf (zl Y Y Y ty3) (zf (ya Y Y Y ⟨by omega, by omega⟩) (zf (vN Y Y Y ⟨by omega, by omega⟩) (zf (zB (av:=[_, _, _]) Y ⟨Y, Y, Y, trivial⟩ (f68 _ _ _)) (zf (qJ Y Y) (zf (zh Y Y) (zC Y (fun hg=>zi Y Y jL) (zC Y (fun hg=>zi Y (if_pos hg) vF) (zC Y (fun hg=>zl Y (if_pos hg) Y ty3) (zC Y (fun hg=>qx Y (if_pos hg) Y) (zf (jf Y Y Y Y) ?_)))))))))))
 refine zf (zh Y Y) (zC Y (fun hg=>zi Y Y jL) (zC Y (fun hg=>zi Y (if_pos hg) vF) (zC Y (fun hg=>zl Y (if_pos hg) Y ty3) (zC Y (fun hg=>zi Y Y jL) (zC Y (fun hg=>zi Y (if_pos hg) vV) (zC Y (fun hg=>zl Y (if_pos hg) Y ty3) (zC Y (fun hg=>jB Y (if_pos hg) (if_pos hg)) (zf (jf Y Y Y Y) (zf (zh Y Y) (zC Y (fun hg=>zi Y Y jL) (zC Y (fun hg=>zi Y (if_pos hg) vV) ?_)))))))))))
 refine zC Y (fun hg=>zl Y (if_pos hg) Y ty3) (zC Y (fun hg=>jB Y (if_pos hg) Y) (zf (jf Y Y Y Y) (zf (zg Y Y) (zo (zN ?_)))))
 exact ⟨.inr Y, AVle.refl _⟩
theorem f103 (l:List Stn) (h:Stn -> Bool) (f:FuncId) (fs cs:List AV) (hl:l.length <= 1000) (hf:∀ s ∈ l, ACall Tryz.prog G f (fs ++ [.agg (eStn s)] ++ cs) (.v (.bool (h s)))):ACall Tryz.prog G 80 [.sl (l.map eStn), .fn f fs cs] (.tup [.agg (eStn ((l.find? h).getD zpe)), .v (.bool (l.any h))]):=by
 have hF:=Lib.hid hf
 clear hf
 refine zO Tryz.func80 Y (by kernel_rfl) Y ?_
 refine zn (qL Y (jr Y Y zgF Y Y) (zf (zg Y Y) (zo (zt (zn (zf (zI Y Y) (zf (qA Y Y Y Tryz.underlying67) (zf (zh Y Y) ?_))))))))
 refine zo (zF ?_)
 refine qm (ι:={ k:Nat // k <= l.length /\ (l.take k).any h = false }) (fun k=>⟨Tryz.f80.ntmps, frL [(1, .pub (.fn f fs cs)), (4, .pp 0 1 0 0), (9, .pub (.sl (l.map eStn))), (10, I (l.length:Int)), (11, I (k.1:Int))], [.row [[I 0, I 0, I 0]]]⟩) (fun k=>l.length - k.1) (⟨0, by simp⟩) ?_ ?_
 ·exact zy _ ⟨Y, Y, Y, (congrArg (fun x:Nat=>I (x:Int)) (List.length_map _)), Y, trivial⟩ (Y)
 ·rintro ⟨k, hk⟩
  dsimp only
  refine zn (zf (qx Y Y Y) (zo (zt (zA Y (fun h0=>?_) (fun h0=>?_)))))
  ·have hlt:k < l.length:=by simpa using h0
   refine zH (zk (zt (zF (zn (zf (zD Y Y Y zaC (by omega) (zcR hlt) zbj) (zf (zK Y Y xC (by exact zLb Y)) ?_))))))
   refine qP  Y Y Y Y Y Y Y zgF xC Y (by rfl) (zQ Y) Y ?_
   refine zo (zn (zf (zI Y Y) (zf (zK Y Y xC (by exact zLb Y)) (zf (vH (av:=[_]) Y Y ⟨Y, trivial⟩ (hF.out _ (List.getElem_mem hlt))) (zo (zA Y (fun h1=>?_) (fun h1=>?_)))))))
   ·refine zn (zf (zK Y Y xC (by exact zLb Y)) ?_)
    refine qL Y (qw Y Y Y Y Y Y (zQ Y) xC (by rfl) (by exact zLb Y)) ?_
    refine zf (zg Y Y) (zo (zN (zZ (zP (zP (zZ (zP ?_)))))))
    exact ⟨.inr Y, ⟨_, Y, ⟨_, _, Y, (jd Y Y Y Y xC Y ⟨_, _, Y, AVle.of (by rw [zhB hk.2 hlt h1]; rfl), ⟨_, _, Y, AVle.of (by rw [zhB hk.2 hlt h1]; rfl), ⟨_, _, Y, AVle.of (by rw [zhB hk.2 hlt h1]; rfl), Y⟩⟩⟩), ⟨_, _, Y, AVle.of (by rw [zsh hlt h1]), Y⟩⟩⟩⟩
   ·refine zH (zJ (zk (zx (zf (zW Y Y Y ⟨by omega, by omega⟩) (zf (zh Y Y) (zM ?_))))))
    exact ⟨⟨k + 1, by omega, zot hk.2 hlt h1⟩, by dsimp only; omega, zy _ ⟨Y, Y, Y, Y, Y, trivial⟩ (Y)⟩
  ·have hge:l.length <= k:=by simpa using h0
   refine qg (zS (zS (qh (zk (zn (qL Y (jr Y Y zgF Y Y) (zo (zn ?_))))))))
   refine zf (qV (cs:=[_, _, _]) Y Y Y Y Y (by exact zLb Y) Y xC) ?_
   refine qL Y (qw Y Y Y Y Y Y (zQ Y) xC (by rfl) (by exact zLb Y)) ?_
   refine zf (zg Y Y) (zo (zN ?_))
   exact ⟨.inr Y, ⟨_, Y, ⟨_, _, Y, (jd Y Y Y Y xC Y ⟨_, _, Y, AVle.of (by rw [List.take_of_length_le hge] at hk; rw [List.find?_eq_none.2 (by have:=hk.2; rw [List.any_eq_false] at this; simpa using this)]; rfl), ⟨_, _, Y, AVle.of (by rw [List.take_of_length_le hge] at hk; rw [List.find?_eq_none.2 (by have:=hk.2; rw [List.any_eq_false] at this; simpa using this)]; rfl), ⟨_, _, Y, AVle.of (by rw [List.take_of_length_le hge] at hk; rw [List.find?_eq_none.2 (by have:=hk.2; rw [List.any_eq_false] at this; simpa using this)]; rfl), Y⟩⟩⟩), ⟨_, _, Y, AVle.of (by rw [List.take_of_length_le hge] at hk; rw [hk.2]), Y⟩⟩⟩⟩
theorem zoO (m:Mp) (h:zbH m = true):zfP m = !(m.st.any (zfz m)):=by
 unfold zfP; rw [h, Bool.true_and]
 induction m.st with
 | nil=>rfl
 | cons s l ih=>simp [zk9, ih, List.any_cons, List.all_cons, Bool.not_or]
theorem f99 (m:Mp):ACall Tryz.prog G 78 [.agg (eMp m)] (.v (.bool (zfP m))):=by
 refine zO Tryz.func78 Y (by kernel_rfl) Y ?_
 refine zn (zf (ql Y (zQ Y)) (zf (zg Y Y) (zo (zt (zn (zf (zi Y Y yE) (zf (zl Y Y Y ty3) (zf (zB (av:=[_, _, _]) Y ⟨Y, Y, Y, trivial⟩ (f68 _ _ _)) ?_))))))))
 refine zf (qJ Y Y) (zf (zh Y Y) (zC Y (fun hg=>zi Y Y y9) (zC Y (fun hg=>zl Y (if_pos hg) Y ty3) (zC Y (fun hg=>zB (av:=[_, _, _]) Y ⟨((if_pos hg)), Y, Y, trivial⟩ (f68 _ _ _)) (zC Y (fun hg=>qJ Y (if_pos hg)) (zf (jf Y Y Y Y) (zf (zh Y Y) (zC Y (fun hg=>zi Y Y yO) (zC Y (fun hg=>zl Y (if_pos hg) Y ty3) (zC Y (fun hg=>zB (av:=[_, _, _]) Y ⟨((if_pos hg)), Y, Y, trivial⟩ (f68 _ _ _)) (zC Y (fun hg=>qJ Y (if_pos hg)) ?_)))))))))))
 refine zf (jf Y Y Y Y) (zf (zh Y Y) (zC Y (fun hg=>zi Y Y vZ) (zC Y (fun hg=>zl Y (if_pos hg) Y kS) (zC Y (fun hg=>qA Y Y (if_pos hg) Tryz.underlying67) (zC Y (fun hg=>jB Y (if_pos hg) Y) (zf (jf Y Y Y Y) (zo (zA Y (fun h0=>?_) (fun h0=>?_)))))))))
 ·have hf : zbH m = false := by
      rw [Bool.eq_false_iff]; intro hc; simp [zbH, inB] at hc h0; omega
  refine zn (zf (zg Y Y) (zo (zN (zP ?_))))
  exact ⟨.inr Y, AVle.of (by simp [zfP, hf])⟩
 ·have hh:zbH m = true:=by simp [zbH, inB] at h0 ⊢; omega
  have hw:1 <= m.wide /\ m.wide <= 6:=by simp_all [zbH, inB]
  have hr:1 <= m.rows /\ m.rows <= 5:=by simp_all [zbH, inB]
  have hl:m.st.length <= 12:=by simp [zbH] at hh; omega
  refine zH (zk (zn (zf (zi Y Y vZ) (zf (zl Y Y Y kS) (zf (wC (fs:=[]) (cs:=[_]) Y Y Y) (zf (zB (av:=[_, _]) Y ⟨Y, Y, trivial⟩ (f103 m.st (zfz m) 177 [] [.ptr (eMp m)] (by omega) (fun s _=>f137 m s hw hr))) (zf (zI Y Y) (zf (zU Y Y Y) (zf (zU Y Y Y) ?_)))))))))
  refine qP  Y Y Y Y Y Y Y zgF xC Y (by rfl) (zQ Y) Y ?_
  refine zf (zg Y Y) (zo (zn (zf (zh Y Y) (zf (qJ Y Y) (zf (zg Y Y) (zo (zN ?_)))))))
  exact ⟨.inr Y, AVle.of (by rw [zoO m hh])⟩
def apartB (m:Mp) (a b:Stn):Bool:=decide (b.hi < a.lo - m.slope * dist m.wide a.pt b.pt) || decide (a.hi < b.lo - m.slope * dist m.wide a.pt b.pt)
def zld (s:Stn):Prop:=0 <= s.pt /\ s.pt <= 30 /\ 0 <= s.lo /\ s.lo <= 99999 /\ 0 <= s.hi /\ s.hi <= 99999
theorem okM.st {m:Mp} (hm:okM m):∀ s ∈ m.st, zld s:=fun s hs=>by
 obtain ⟨m1, m2, m3, m4, m5, m6, m7, m8⟩:=hm
 have h:=m8 s hs
 have har:=area m1 m2 m3 m4
 unfold zld; omega
def zaG (p:Nat -> Nat -> Bool) (n:Nat):Option (Nat × Nat):=(List.range n).findSome? fun i=>((List.range n).find? fun j=>decide (i < j) && p i j).map fun j=>(i, j)
theorem find_range {p:Nat -> Bool} {n k:Nat} (hk:k < n) (hp:p k = true) (h:∀ i < k, p i = false):(List.range n).find? p = some k:=by
 rw [List.find?_range_eq_some]
 exact ⟨hp, by simpa using hk, fun j hj=>by simp [h j hj]⟩
theorem zgi {p:Nat -> Nat -> Bool} {n i j:Nat} (hi:i < j) (hj:j < n) (hp:p i j = true) (h1:∀ a < i, ∀ b < n, a < b -> p a b = false) (h2:∀ b, i < b -> b < j -> p i b = false):zaG p n = some (i, j):=by
 unfold zaG
 have e:∀ a, a < i -> ((List.range n).find? fun j=>decide (a < j) && p a j) = none:=fun a ha=>by
  rw [List.find?_range_eq_none]; intro b hb
  by_cases hab:a < b
  ·simp [h1 a ha b hb hab]
  ·simp [hab]
 have e2:((List.range n).find? fun b=>decide (i < b) && p i b) = some j:=find_range hj (by simp [hi, hp]) (fun b hb=>by
  by_cases hab:i < b
  ·simp [h2 b hab hb]
  ·simp [hab])
 have e3:List.range n = List.range i ++ i :: (List.range n).drop (i + 1):=by
  have:i < (List.range n).length:=by simp; omega
  have h:=List.take_append_drop i (List.range n)
  rw [List.drop_eq_getElem_cons this, List.take_range, List.getElem_range, Nat.min_eq_left (by omega)] at h
  exact h.symm
 generalize hf:(fun a=>((List.range n).find? fun j=>decide (a < j) && p a j).map fun j=>(a, j)) = f
 have hfi:f i = some (i, j):=by rw [← hf]; simp only[e2, Option.map_some]
 have hfn:∀ a ∈ List.range i, f a = none:=fun a ha=>by rw [← hf]; simp only[e a (List.mem_range.1 ha), Option.map_none]
 rw [e3, List.findSome?_append, List.findSome?_eq_none_iff.2 hfn, Option.none_or, List.findSome?_cons, hfi]
theorem zb1 {p:Nat -> Nat -> Bool} {n:Nat} (h:∀ a < n, ∀ b < n, a < b -> p a b = false):zaG p n = none:=by
 unfold zaG
 rw [List.findSome?_eq_none_iff]; intro a ha
 rw [Option.map_eq_none_iff, List.find?_range_eq_none]; intro b hb
 by_cases hab:a < b
 ·simp [h a (List.mem_range.1 ha) b hb hab]
 ·simp [hab]
def zgh (m:Mp) (i j:Nat):Bool:=apartB m (m.st.getD i zpe) (m.st.getD j zpe)
def y7 (m:Mp):Option (Nat × Nat):=zaG (zgh m) m.st.length
theorem zf7 {m:Mp} {i j:Nat} (hi:i < m.st.length) (hj:j < m.st.length):zgh m i j = apartB m m.st[i] m.st[j]:=by
 unfold zgh; rw [show m.st.getD i zpe = m.st[i] by simp [List.getD, hi], show m.st.getD j zpe = m.st[j] by simp [List.getD, hj]]
def zsB:Option (Nat × Nat) -> AV
 | some (i, j)=>.tup [ei i, ei j, .v (.bool true)]
 | none=>.tup [ei 0, ei 0, .v (.bool false)]
theorem f138 (m:Mp) (a b:Stn) (hm:okM m) (ha:zld a) (hb:zld b):ACall Tryz.prog G 183 [.agg (qB m), .agg (eStn a), .agg (eStn b)] (.v (.bool (apartB m a b))):=by
 obtain ⟨m1, m2, m3, m4, m5, m6, m7, m8⟩:=hm
 obtain ⟨a1, a2, a3, a4, a5, a6⟩:=ha
 obtain ⟨b1, b2, b3, b4, b5, b6⟩:=hb
 have hd:=zh4 (N:=30) (w:=m.wide) (a:=a.pt) (b:=b.pt) m1 (by omega) (by omega)
 have hsd:=zrk m5 m6 hd.1 (by omega:dist m.wide a.pt b.pt <= 100)
 refine zO Tryz.func183 Y (by kernel_rfl) Y ?_
 refine zn (zf (ql Y (zQ Y)) (zf (ql Y (zQ Y)) (zf (ql Y (zQ Y)) (zf (zg Y Y) (zo (zt ?_))))))
 refine qp mixed (by kernel_rfl) Y ?_
 refine zu Y (zi Y Y jQ) (zu Y (zi Y Y yO) (zu Y (zl Y Y Y ty3) (zu Y (zi Y Y yI) (zu Y (zK Y Y yw (by exact zLb Y)) (zu Y (zi Y Y xk) (zu Y (zl Y Y Y ty3) (zu Y (zi Y Y xk) (zu Y (zl Y Y Y ty3) (zu Y (zB (av:=[_, _, _]) Y ⟨Y, Y, Y, trivial⟩ (f119 m.wide m.rows _ _ (by omega) (by omega) (by omega))) (zu Y (ya Y Y Y ⟨by omega, by omega⟩) (zu Y (zg Y Y) ?_)))))))))))
 refine qF (zk (zn (zf (zi Y Y jL) (zf (zi Y Y vF) (zf (zl Y Y Y ty3) (zf (zh Y Y) (zf (vN Y Y Y ⟨by omega, by omega⟩) (zf (zi Y Y jL) (zf (zi Y Y vV) (zf (zl Y Y Y ty3) ?_))))))))))
 refine zf (jB Y Y Y) (zf (zh Y Y) (zC Y (fun hg=>zi Y Y jL) (zC Y (fun hg=>zi Y (if_pos hg) vF) (zC Y (fun hg=>zl Y (if_pos hg) Y ty3) (zC Y (fun hg=>zh Y Y) ?_)))))
 refine zC Y (fun hg=>vN Y (if_pos hg) (if_pos hg) ⟨(by first | omega | (simp at hg; omega)), (by first | omega | (simp at hg; omega))⟩) ?_
 refine zC Y (fun hg=>zi Y Y jL) (zC Y (fun hg=>zi Y (if_pos hg) vV) (zC Y (fun hg=>zl Y (if_pos hg) Y ty3) (zC Y (fun hg=>jB Y (if_pos hg) (if_pos hg)) (zf (jf Y Y Y Y) (zf (zg Y Y) (zo (zN ?_)))))))
 exact ⟨.inr Y, AVle.refl _⟩
theorem f101 (m:Mp) (hm:okM m):ACall Tryz.prog G 85 [.agg (qB m)] (zsB (y7 m)):=by
 have hln:=hm.2.2.2.2.2.2.1
 refine zO Tryz.func85 Y (by kernel_rfl) Y ?_
 refine zn (zf (ql Y (zQ Y)) (zf (zg Y Y) (zf (zg Y Y) (zf (zg Y Y) (zo (zt (zn (zf (zi Y Y jQ) ?_))))))))
 refine zf (zi Y Y vZ) (zf (zl Y Y Y kS) (zf (qA Y Y Y Tryz.underlying67) (zf (zh Y Y) (zo (zF ?_)))))
 refine qm (ι:={ k:Nat // k <= m.st.length /\ ∀ a < k, ∀ b < m.st.length, a < b -> zgh m a b = false }) (fun k=>⟨Tryz.f85.ntmps, frL [(1, .pub (.ptr (qB m))), (10, .pub (.sl (m.st.map eStn))), (11, I (m.st.length:Int)), (12, I (k.1:Int))], []⟩) (fun k=>m.st.length - k.1) (⟨0, by omega, fun a ha=>absurd ha (by omega)⟩) ?_ ?_
 ·exact zy _ ⟨Y, Y, (congrArg (fun x:Nat=>I (x:Int)) (List.length_map _)), Y, trivial⟩ (Y)
 ·rintro ⟨k, hk⟩
  dsimp only
  refine zn (zf (qx Y Y Y) (zo (zt (zA Y (fun h0=>?_) (fun h0=>?_)))))
  ·have hlt:k < m.st.length:=by simpa using h0
   refine zH (zk (zt (zF (zn (zf (zh Y Y) (zf (zD Y Y Y zaC (by omega) (zcR hlt) zbj) (zf (zK Y Y xC (by exact zLb Y)) ?_)))))))
   refine zjZ  Y Y Y Y Y Y Y Y (zg Y Y) Y Y Y zgF xC Y (by rfl) (zQ Y) Y ?_
   refine zo (zn (zf (zh Y Y) (zf (zW Y Y Y ⟨by omega, by omega⟩) (zf (zg Y Y) (zo (zF ?_))))))
   refine qm (ι:={ j:Nat // k < j /\ j <= m.st.length /\ ∀ b, k < b -> b < j -> b < m.st.length -> zgh m k b = false }) (fun j=>⟨Tryz.f85.ntmps, frL [(1, .pub (.ptr (qB m))), (10, .pub (.sl (m.st.map eStn))), (11, I (m.st.length:Int)), (12, I (k:Int)), (5, I (k:Int)), (6, .pub (.ptr (eStn m.st[k]))), (7, I (j.1:Int))], []⟩) (fun j=>m.st.length - j.1) (⟨k + 1, by omega, by omega, fun b h1 h2=>absurd h1 (by omega)⟩) ?_ ?_
   ·exact zy _ ⟨Y, Y, Y, Y, Y, Y, Y, trivial⟩ (Y)
   ·rintro ⟨j, hj⟩
    dsimp only
    refine zt (zn (zf (zh Y Y) (zf (zi Y Y jQ) (zf (zi Y Y vZ) (zf (zl Y Y Y kS) (zf (qA Y Y Y Tryz.underlying67) (zf (qx Y Y Y) (zo (zA Y (fun h1=>?_) (fun h1=>?_))))))))))
    ·have hjt:j < m.st.length:=by simp at h1; omega
     refine zH (zk (zt (zF (zt ?_))))
     refine qp mixed (by kernel_rfl) Y ?_
     refine zu Y (zK Y Y jF (by exact zLb Y)) (zu Y (zK Y Y xC (by exact zLb Y)) (zu Y (zi Y Y jQ) (zu Y (zi Y Y vZ) (zu Y (zl Y Y Y kS) (zu Y (zh Y Y) (zu Y (zD Y Y Y zaC (by omega) (zcR hjt) zbj) (zu Y (zK Y Y xC (by exact zLb Y)) (zu Y (zB (av:=[_, _, _]) Y ⟨Y, Y, Y, trivial⟩ (f138 m _ _ hm (hm.st _ (List.getElem_mem hlt)) (hm.st _ (List.getElem_mem hjt)))) (qF (zk (zA Y (fun h2=>?_) (fun h2=>?_))))))))))))
     ·have hyes:zgh m k j = true:=(zf7 hlt hjt).trans h2
      have hc:y7 m = some (k, j):=zgi hj.1 hjt hyes hk.2 (fun b b1 b2=>hj.2.2 b b1 b2 (by omega))
      refine zn (zf (zh Y Y) (zf (zh Y Y) (zf (zg Y Y) (zf (zg Y Y) (zf (zg Y Y) (zo (zN (zZ (zP ?_)))))))))
      refine zP (zZ (zZ (zP (zP (zZ (zP ?_))))))
      refine ⟨.inr Y, ?_⟩
      rw [hc]
      exact ⟨_, Y, ⟨_, _, Y, AVle.refl _, ⟨_, _, Y, AVle.refl _, ⟨_, _, Y, AVle.refl _, Y⟩⟩⟩⟩
     ·have hno:zgh m k j = false:=(zf7 hlt hjt).trans h2
      refine zH (zJ (zk (zx (zf (zh Y Y) (zf (zW Y Y Y ⟨by omega, by omega⟩) (zf (zg Y Y) (zM ?_)))))))
      exact ⟨⟨j + 1, by omega, by omega, fun b b1 b2 b3 => by
               by_cases e:b = j
               ·subst e; exact hno
               ·exact hj.2.2 b b1 (by omega) b3⟩, by dsimp only; omega, zy _ ⟨Y, Y, Y, Y, Y, Y, Y, trivial⟩ (Y)⟩
    ·have hjge:m.st.length <= j:=by simp at h1; omega
     refine qg (zS (zS (qh (zJ (zk (zx (zf (zW Y Y Y ⟨by omega, by omega⟩) (zf (zh Y Y) (zM ?_)))))))))
     exact ⟨⟨k + 1, by omega, fun a ha b hb hab => by
               by_cases e:a = k
               ·subst e; exact hj.2.2 b hab (by omega) hb
               ·exact hk.2 a (by omega) b hb hab⟩, by dsimp only; omega, zy _ ⟨Y, Y, Y, Y, trivial⟩ (Y)⟩
  ·have hge:m.st.length <= k:=by simpa using h0
   refine qg (zS (zS (qh (zk (zn (zf (zg Y Y) (zf (zg Y Y) (zf (zg Y Y) (zo ?_)))))))))
   refine zN ?_
   refine ⟨.inr Y, ?_⟩
   rw [show y7 m = none from zb1 (fun a ha b hb hab=>hk.2 a (by omega) b hb hab)]
   exact ⟨_, Y, ⟨_, _, Y, AVle.refl _, ⟨_, _, Y, AVle.refl _, ⟨_, _, Y, AVle.refl _, Y⟩⟩⟩⟩
theorem f100 (m:Mp):ACall Tryz.prog G 79 [.agg (eMp m)] (.agg (qB m)):=by
 refine zO Tryz.func79 Y (by kernel_rfl) Y ?_
 refine zn (zf (ql Y (zQ Y)) (qL Y (jr Y Y zex Y Y) (zo (zn (zf (zK Y Y kN (by exact zLb Y)) (zf (zi Y Y yE) (zf (zl Y Y Y ty3) (zf (zi Y Y y9) ?_))))))))
 refine zf (zl Y Y Y ty3) ?_
 refine zf (yl (cs:=[_, _]) Y zt6 Y ⟨_, _, Y, (qU Y), ⟨_, _, Y, (qU Y), Y⟩⟩ (by rfl) (by simp [ofV])) ?_
 refine zf (yl (cs:=[_, _, _, _, _, _]) Y ztn Y ⟨_, _, Y, (zQ Y), ⟨_, _, Y, (zQ Y), Y⟩⟩ (by rfl) (by simp [ofV])) ?_
 refine qL Y (qw Y Y Y Y Y Y (zQ Y) jF (by rfl) (by exact zLb Y)) ?_
 refine zo (zN ?_)
 exact ⟨.inr Y, zcp Y (jd Y Y Y Y jF Y ⟨_, _, Y, AVle.refl _, ⟨_, _, Y, AVle.refl _, ⟨_, _, Y, AVle.refl _, ⟨_, _, Y, AVle.refl _, ⟨_, _, Y, AVle.refl _, ⟨_, _, Y, AVle.refl _, Y⟩⟩⟩⟩⟩⟩)⟩
theorem f63 (m:Mp):ACall Tryz.prog G 87 [.agg (qB m)] (.v (.bool true)):=by
 refine zO Tryz.func87 Y (by kernel_rfl) Y ?_
 refine zn (zf (ql Y (zQ Y)) (zf (zg Y Y) (zo (zn (zf (zg Y Y) (zo (zN ?_)))))))
 exact ⟨.inr Y, AVle.refl _⟩
theorem zpf (m:Mp) (hm:okM m) (f:FuncId) (fs cs:List AV) (hf:ACall Tryz.prog G f (fs ++ [.agg (qB m)] ++ cs) (.v (.bool true))) (hc:y7 m = none):ACall Tryz.prog G 86 [.agg (eMp m), .fn f fs cs] (.tup [.agg (qB m), ei 0]):=by
 have hmb:=(okM_iff m).2 hm
 refine zO Tryz.func86 Y (by kernel_rfl) Y ?_
 refine zn (zf (ql Y (zQ Y)) (qL Y (jr Y Y zex Y Y) (zf (zg Y Y) (zo (zt (zn (zf (zK Y Y kN (by exact zLb Y)) (zf (zB (av:=[_]) Y ⟨Y, trivial⟩ (f99 m)) ?_))))))))
 refine zf (qJ Y Y) (zo (zA Y (fun h0=>?_) (fun h0=>?_)))
 ·exfalso; simp [hmb] at h0
 ·refine zH (zk (zn (zf (zK Y Y kN (by exact zLb Y)) (zf (zB (av:=[_]) Y ⟨Y, trivial⟩ (f100 m)) ?_))))
  refine qP  Y Y Y Y Y Y Y zex jF Y (by rfl) (zQ Y) Y ?_
  refine zo (zt (zn (zf (zI Y Y) (zf (zK Y Y jF (by exact zLb Y)) (zf (vH (av:=[_]) Y Y ⟨Y, trivial⟩ hf) (zf (qJ Y Y) (zo (zA Y (fun h1=>?_) (fun h1=>?_)))))))))
  ·exfalso; simp at h1
  ·refine zH (zk (zt (zn (zf (zK Y Y jF (by exact zLb Y)) ?_))))
   refine zf (zB (av:=[_]) Y ⟨Y, trivial⟩ (r:=.tup [ei 0, ei 0, .v (.bool false)]) (by have h:=f101 (G:=G) m hm; rw [hc] at h; exact h)) ?_
   refine zf (zI Y Y) (zf (zU Y Y Y) (zf (zU Y Y Y) (zf (zU Y Y Y) (zf (zg Y Y) (zf (zg Y Y) (zf (zg Y Y) (zo (zn (zf (zh Y Y) ?_)))))))))
   refine zo (zA Y (fun h2=>?_) (fun h2=>?_))
   ·exfalso; simp at h2
   ·refine zH (zk (zn (zf (zK Y Y jF (by exact zLb Y)) ?_)))
    refine qL Y (qw Y Y Y Y Y Y (zQ Y) jF (by rfl) (by exact zLb Y)) ?_
    refine zf (zg Y Y) (zo (zN ?_))
    exact ⟨.inr Y, ⟨_, Y, ⟨_, _, Y, (jd Y Y Y Y jF Y ⟨_, _, Y, AVle.refl _, ⟨_, _, Y, AVle.refl _, ⟨_, _, Y, AVle.refl _, ⟨_, _, Y, AVle.refl _, ⟨_, _, Y, AVle.refl _, ⟨_, _, Y, AVle.refl _, Y⟩⟩⟩⟩⟩⟩), ⟨_, _, Y, AVle.refl _, Y⟩⟩⟩⟩
theorem wU (m:Mp):(los m).length = npt m:=by simp [los]
theorem wS (m:Mp):(his m).length = npt m:=by simp [his]
theorem zoh {m:Mp} {k:Nat} (h:k < (los m).length):(los m)[k] = loOf m.wide m.slope (k:Int) m.st:=by simp [los]
theorem zof {m:Mp} {k:Nat} (h:k < (his m).length):(his m)[k] = hiOf m.wide m.slope (k:Int) m.st:=by simp [his]
theorem zsc {m:Mp} (hm:okM m) {k:Nat} (h:k < (los m).length):0 <= (los m)[k] /\ (los m)[k] <= 99999:=by
 have hn:=npt_bd hm
 rw [zoh h]; rw [wU] at h
 have:=hm.lo (p:=(k:Int)) (by omega) m.st.length
 rwa [List.take_of_length_le (Nat.le_refl _)] at this
theorem zrG {m:Mp} (hm:okM m) {k:Nat} (h:k < (his m).length):0 <= (his m)[k] /\ (his m)[k] <= 99999:=by
 have hn:=npt_bd hm
 rw [zof h]; rw [wS] at h
 have:=hm.hi (p:=(k:Int)) (by omega) m.st.length
 rwa [List.take_of_length_le (Nat.le_refl _)] at this
def eSpans (l:List (Int × Int)):AV:=.sl (l.map fun s=>[.v (.int .i64 s.1), .v (.int .i64 s.2)])
def bds (m:Mp):List (Int × Int):=(List.range (npt m)).map fun p:Nat=>(loOf m.wide m.slope (p:Int) m.st, hiOf m.wide m.slope (p:Int) m.st)
def bdE (m:Mp) (p:Nat):List EV:=[I (loOf m.wide m.slope (p:Int) m.st), I (hiOf m.wide m.slope (p:Int) m.st)]
theorem znp {α:Type} {l:List α} {f:α -> List EV} (h:∀ a, (f a).length = 2):∀ r ∈ l.map f, r.length = 2:=fun r hr=>by
 obtain ⟨a, _, rfl⟩:=List.mem_map.1 hr; exact h a
end Ct
end Go.Av
end
