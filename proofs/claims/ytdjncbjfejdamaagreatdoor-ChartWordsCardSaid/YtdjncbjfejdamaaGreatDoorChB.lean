import Derived.Test.YtdjncbjfejdamaaGreatDoorChA
import Derived.Lib.Hide
set_option linter.unusedVariables false
set_option linter.unusedSimpArgs false
section
namespace Go.Av
open Go.Proofs
set_option maxRecDepth 100000
set_option maxHeartbeats 1000000
variable {G:Glob}
def npt (m:Mp):Nat:=(m.wide * m.rows).toNat
def los (m:Mp):List Int:=(List.range (npt m)).map fun p:Nat=>zIE m.wide m.slope (p:Int) m.st
def his (m:Mp):List Int:=(List.range (npt m)).map fun p:Nat=>zIJ m.wide m.slope (p:Int) m.st
theorem zIh {α:Type} (f:Nat -> α) (k:Nat):(List.range k).map f ++ [f k] = (List.range (k + 1)).map f:=by simp [List.range_succ]
theorem zJF {m:Mp} (hm:okM m):(npt m:Int) = m.wide * m.rows /\ 1 <= npt m /\ npt m <= 30:=by
 obtain ⟨m1, m2, m3, m4, _⟩:=hm
 have:=area m1 m2 m3 m4
 unfold npt; omega
abbrev wZ:EV:=.pub (.v (.slice none 0 0))
def loE (m:Mp) (p:Nat):List EV:=[I (zIE m.wide m.slope (p:Int) m.st)]
def hiE (m:Mp) (p:Nat):List EV:=[I (zIJ m.wide m.slope (p:Int) m.st)]
theorem zJs {α:Type} {l:List α} {f:α -> List EV} (h:∀ a, (f a).length = 1):∀ r ∈ l.map f, r.length = 1:=fun r hr=>by
 obtain ⟨a, _, rfl⟩:=List.mem_map.1 hr; exact h a
theorem f64 (m:Mp) (hm:okM m):ACall Tryz.prog G 64 [.agg (zHt m)] (.agg [zO (los m), zO (his m)]):=by
 have hn:=zJF hm
 have ho:=hm
 obtain ⟨m1, m2, m3, m4, m5, m6, m7, m8⟩:=ho
 refine zS Tryz.func64 rfl (by kernel_rfl) rfl ?_
 refine zuy (zh (zg rfl rfl (jf rfl (zY rfl)) (jb rfl (wJ rfl rfl zNH rfl rfl) (zo (zf (zuy (zh (jb rfl (wJ rfl rfl zNH rfl rfl) (zo (zf (zuy ?_)))))))))))
 refine zuy (zh (zg rfl rfl (zZ rfl rfl zIw (by exact zLb rfl)) (zg rfl rfl (zcA (fs:=[_]) (cs:=[]) rfl rfl rfl) (zg rfl rfl (zZ rfl rfl zIw (by exact zLb rfl)) (zg rfl rfl (zcA (fs:=[_]) (cs:=[]) rfl rfl rfl) ?_)))))
 refine zg rfl rfl (znx (cs:=[_, _]) rfl zRh rfl ⟨_, _, rfl, (zux rfl), ⟨_, _, rfl, (zux rfl), rfl⟩⟩ (by rfl) (by simp [ofV])) ?_
 refine zg rfl rfl (zi rfl rfl) (zo (zf (zB ?_)))
 refine qy (ι:={ k:Nat // k < 3 }) (fun k=>match k.1 with | 0=>⟨Tryz.f64.ntmps, frL [(1, .pub (.ptr (zHt m))), (2, .pp 0 1 0 0), (3, .pp 1 1 0 0), (12, .pub (.agg [.fn 114 [.agg (zHt m)] [], .fn 115 [.agg (zHt m)] []])), (13, I 0)], [.row [[wZ, wZ]], .row [[wZ, wZ]]]⟩ | 1=>⟨Tryz.f64.ntmps, frL [(1, .pub (.ptr (zHt m))), (2, .pp 0 1 0 0), (3, .pp 1 1 0 0), (12, .pub (.agg [.fn 114 [.agg (zHt m)] [], .fn 115 [.agg (zHt m)] []])), (13, I 1)], [.row [[wZ, wZ]], .row [[.psl 2 (npt m), wZ]], .row ((List.range (npt m)).map (loE m))]⟩ | _=>⟨Tryz.f64.ntmps, frL [(1, .pub (.ptr (zHt m))), (2, .pp 0 1 0 0), (3, .pp 1 1 0 0), (12, .pub (.agg [.fn 114 [.agg (zHt m)] [], .fn 115 [.agg (zHt m)] []])), (13, I 2)], [.row [[wZ, wZ]], .row [[.psl 2 (npt m), .psl 3 (npt m)]], .row ((List.range (npt m)).map (loE m)), .row ((List.range (npt m)).map (hiE m))]⟩) (fun k=>3 - k.1) (⟨0, by omega⟩) ?_ ?_
 ·
  exact zt _ ⟨rfl, rfl, rfl, rfl, rfl, trivial⟩ (rfl)
 ·
  rintro ⟨k, hk⟩
  have hk3:k = 0 ∨ k = 1 ∨ k = 2:=by omega
  rcases hk3 with rfl | rfl | rfl
  ·
   dsimp only
   refine zuy (zh (zg rfl rfl (zUB rfl rfl rfl) (zo (zf (zuy (zx rfl (fun h0=>?_) (fun h0=>?_)))))))
   ·
    refine zC (zf (zuy (zB (zuy (zh (zg rfl rfl (zi rfl rfl) ?_))))))
    refine zg rfl rfl (ztp rfl rfl rfl zNK (fun e he=>by rw [Tryz.underlying162] at he; cases he; exact zvk) (by omega) (by omega) rfl) ?_
    refine zg rfl rfl (zn rfl rfl) (zg rfl rfl (zW rfl rfl) (zo (zf (zuy (zh (zg rfl rfl (zu rfl rfl zHL) (zg rfl rfl (zu rfl rfl zH6) (zg rfl rfl (zA rfl rfl rfl ty3) (zg rfl rfl (zu rfl rfl zHL) (zg rfl rfl (zu rfl rfl zI9) (zg rfl rfl (zA rfl rfl rfl ty3) ?_)))))))))))
    refine zg rfl rfl (zcY rfl rfl rfl ⟨(by omega), (by omega)⟩) (zg rfl rfl (zi rfl rfl) (zo (zf (zB ?_))))
    refine qx (zI4 (k:=1) (i:=0) (j:=0) rfl rfl rfl) ?_
    refine qy (ι:={ k:Nat // k <= npt m }) (fun k=>⟨Tryz.f64.ntmps, frL [(1, .pub (.ptr (zHt m))), (2, .pp 0 1 0 0), (3, .pp 1 1 0 0), (12, .pub (.agg [.fn 114 [.agg (zHt m)] [], .fn 115 [.agg (zHt m)] []])), (13, I 0), (4, I 0), (5, .pub (.fn 114 [.agg (zHt m)] [])), (23, I (m.wide * m.rows)), (24, I (k.1:Int))], [.row [[wZ, wZ]], .row [[.psl 2 k.1, wZ]], .row ((List.range k.1).map (loE m))]⟩) (fun k=>npt m - k.1) (⟨0, by omega⟩) ?_ ?_
    ·
     exact zt _ ⟨rfl, rfl, rfl, rfl, rfl, rfl, rfl, rfl, rfl, trivial⟩ (rfl)
    ·
     rintro ⟨k, hk⟩
     dsimp only
     refine zuy (zh (zg rfl rfl (zUB rfl rfl rfl) (zo (zf (zuy (zx rfl (fun h1=>?_) (fun h1=>?_)))))))
     ·
      have hlt:k < npt m:=by have:=of_decide_eq_true h1; omega
      refine zC (zf (zuy (zB (zuy (zh (zg rfl rfl (zi rfl rfl) (zg rfl rfl (zn rfl rfl) (zo (zf (zuy (zh ?_)))))))))))
      refine zg rfl rfl (zq rfl rfl) (zg rfl rfl (zi rfl rfl) (zg rfl rfl (zbX (av:=[_]) rfl rfl ⟨rfl, trivial⟩ (f114 m (k:Int) hm (by omega))) (zg rfl rfl (zn rfl rfl) (zo (zf (zh (zg rfl rfl (zi rfl rfl) (zg rfl rfl (zi rfl rfl) (zg rfl rfl (zJ rfl rfl rfl rfl rfl zJf (by omega) (by omega)) (zg rfl rfl (zK rfl rfl rfl rfl rfl rfl zHR) (zg rfl rfl (zi rfl rfl) ?_)))))))))))
      refine zg rfl rfl (qg (size:=1) (rows:=[[_]]) rfl Tryz.underlying27 ti3 rfl (by decide) rfl (by decide) ⟨_, _, rfl, (jF rfl), rfl⟩ (by rfl) (by simp [ofV]) rfl (by simp)) ?_
      refine jb rfl (vS rfl rfl rfl rfl (by simp) rfl zPI (zJs fun _=>rfl) (by simp) (by simp; omega) (by unfold maxLen; simp; omega)) ?_
      refine zg rfl rfl (zJ rfl rfl rfl rfl rfl zJf (by omega) (by omega)) ?_
      refine jb rfl (qG rfl rfl rfl rfl rfl rfl (zbO rfl rfl (by simp)) zHR (by rfl) (by exact zLb rfl)) ?_
      refine zo (zD (zf (zh (zg rfl rfl (zV rfl rfl rfl ⟨(by omega), (by omega)⟩) (zg rfl rfl (zi rfl rfl) (zo ?_))))))
      exact ⟨⟨k + 1, by omega⟩, by dsimp only; omega, zt _ ⟨rfl, rfl, rfl, rfl, rfl, rfl, rfl, rfl, rfl, trivial⟩ (congrArg (fun z=>[PO.row [[wZ, wZ]], PO.row [[.psl 2 (k + 1), wZ]], PO.row z]) (zIh (loE m) k))⟩
     ·
      have hge:npt m <= k:=by have:=of_decide_eq_false h1; omega
      have hk2:k = npt m:=by omega
      subst hk2
      refine qp (zRQ (zRQ (qw (zD (zf (zh (zg rfl rfl (zV rfl rfl rfl ⟨(by omega), (by omega)⟩) (zg rfl rfl (zi rfl rfl) (zo ?_)))))))))
      exact ⟨⟨1, by omega⟩, by dsimp only; omega, zt (mem':=[.row [[wZ, wZ]], .row [[.psl 2 (npt m), wZ]], .row ((List.range (npt m)).map (loE m))]) [(1, .pub (.ptr (zHt m))), (2, .pp 0 1 0 0), (3, .pp 1 1 0 0), (12, .pub (.agg [.fn 114 [.agg (zHt m)] [], .fn 115 [.agg (zHt m)] []])), (13, I 1)] ⟨rfl, rfl, rfl, rfl, rfl, trivial⟩ (rfl)⟩
   ·
    exfalso; simp at h0
  ·
   dsimp only
   refine zuy (zh (zg rfl rfl (zUB rfl rfl rfl) (zo (zf (zuy (zx rfl (fun h0=>?_) (fun h0=>?_)))))))
   ·
    refine zC (zf (zuy (zB (zuy (zh (zg rfl rfl (zi rfl rfl) ?_))))))
    refine zg rfl rfl (ztp rfl rfl rfl zNK (fun e he=>by rw [Tryz.underlying162] at he; cases he; exact zvk) (by omega) (by omega) rfl) ?_
    refine zg rfl rfl (zn rfl rfl) (zg rfl rfl (zW rfl rfl) (zo (zf (zuy (zh (zg rfl rfl (zu rfl rfl zHL) (zg rfl rfl (zu rfl rfl zH6) (zg rfl rfl (zA rfl rfl rfl ty3) (zg rfl rfl (zu rfl rfl zHL) (zg rfl rfl (zu rfl rfl zI9) (zg rfl rfl (zA rfl rfl rfl ty3) ?_)))))))))))
    refine zg rfl rfl (zcY rfl rfl rfl ⟨(by omega), (by omega)⟩) (zg rfl rfl (zi rfl rfl) (zo (zf (zB ?_))))
    refine qx (zI4 (k:=1) (i:=0) (j:=1) rfl rfl rfl) ?_
    refine qy (ι:={ k:Nat // k <= npt m }) (fun k=>⟨Tryz.f64.ntmps, frL [(1, .pub (.ptr (zHt m))), (2, .pp 0 1 0 0), (3, .pp 1 1 0 0), (12, .pub (.agg [.fn 114 [.agg (zHt m)] [], .fn 115 [.agg (zHt m)] []])), (13, I 1), (4, I 1), (5, .pub (.fn 115 [.agg (zHt m)] [])), (23, I (m.wide * m.rows)), (24, I (k.1:Int))], [.row [[wZ, wZ]], .row [[.psl 2 (npt m), .psl 3 k.1]], .row ((List.range (npt m)).map (loE m)), .row ((List.range k.1).map (hiE m))]⟩) (fun k=>npt m - k.1) (⟨0, by omega⟩) ?_ ?_
    ·
     exact zt _ ⟨rfl, rfl, rfl, rfl, rfl, rfl, rfl, rfl, rfl, trivial⟩ (rfl)
    ·
     rintro ⟨k, hk⟩
     dsimp only
     refine zuy (zh (zg rfl rfl (zUB rfl rfl rfl) (zo (zf (zuy (zx rfl (fun h1=>?_) (fun h1=>?_)))))))
     ·
      have hlt:k < npt m:=by have:=of_decide_eq_true h1; omega
      refine zC (zf (zuy (zB (zuy (zh (zg rfl rfl (zi rfl rfl) (zg rfl rfl (zn rfl rfl) (zo (zf (zuy (zh ?_)))))))))))
      refine zg rfl rfl (zq rfl rfl) (zg rfl rfl (zi rfl rfl) (zg rfl rfl (zbX (av:=[_]) rfl rfl ⟨rfl, trivial⟩ (f115 m (k:Int) hm (by omega))) (zg rfl rfl (zn rfl rfl) (zo (zf (zh (zg rfl rfl (zi rfl rfl) (zg rfl rfl (zi rfl rfl) (zg rfl rfl (zJ rfl rfl rfl rfl rfl zJf (by omega) (by omega)) (zg rfl rfl (zK rfl rfl rfl rfl rfl rfl zHR) (zg rfl rfl (zi rfl rfl) ?_)))))))))))
      refine zg rfl rfl (qg (size:=1) (rows:=[[_]]) rfl Tryz.underlying27 ti3 rfl (by decide) rfl (by decide) ⟨_, _, rfl, (jF rfl), rfl⟩ (by rfl) (by simp [ofV]) rfl (by simp)) ?_
      refine jb rfl (vS rfl rfl rfl rfl (by simp) rfl zPI (zJs fun _=>rfl) (by simp) (by simp; omega) (by unfold maxLen; simp; omega)) ?_
      refine zg rfl rfl (zJ rfl rfl rfl rfl rfl zJf (by omega) (by omega)) ?_
      refine jb rfl (qG rfl rfl rfl rfl rfl rfl (zbO rfl rfl (by simp)) zHR (by rfl) (by exact zLb rfl)) ?_
      refine zo (zD (zf (zh (zg rfl rfl (zV rfl rfl rfl ⟨(by omega), (by omega)⟩) (zg rfl rfl (zi rfl rfl) (zo ?_))))))
      exact ⟨⟨k + 1, by omega⟩, by dsimp only; omega, zt _ ⟨rfl, rfl, rfl, rfl, rfl, rfl, rfl, rfl, rfl, trivial⟩ (congrArg (fun z=>[PO.row [[wZ, wZ]], PO.row [[.psl 2 (npt m), .psl 3 (k + 1)]], PO.row ((List.range (npt m)).map (loE m)), PO.row z]) (zIh (hiE m) k))⟩
     ·
      have hge:npt m <= k:=by have:=of_decide_eq_false h1; omega
      have hk2:k = npt m:=by omega
      subst hk2
      refine qp (zRQ (zRQ (qw (zD (zf (zh (zg rfl rfl (zV rfl rfl rfl ⟨(by omega), (by omega)⟩) (zg rfl rfl (zi rfl rfl) (zo ?_)))))))))
      exact ⟨⟨2, by omega⟩, by dsimp only; omega, zt (mem':=[.row [[wZ, wZ]], .row [[.psl 2 (npt m), .psl 3 (npt m)]], .row ((List.range (npt m)).map (loE m)), .row ((List.range (npt m)).map (hiE m))]) [(1, .pub (.ptr (zHt m))), (2, .pp 0 1 0 0), (3, .pp 1 1 0 0), (12, .pub (.agg [.fn 114 [.agg (zHt m)] [], .fn 115 [.agg (zHt m)] []])), (13, I 2)] ⟨rfl, rfl, rfl, rfl, rfl, trivial⟩ (rfl)⟩
   ·
    exfalso; simp at h0
  ·
   dsimp only
   refine zuy (zh (zg rfl rfl (zUB rfl rfl rfl) (zo (zf (zuy (zx rfl (fun h0=>?_) (fun h0=>?_)))))))
   ·
    exfalso; simp at h0
   ·
    refine qp (zRQ (zRQ (qw (zf (zuy (zh (zg rfl rfl (zuz rfl rfl rfl rfl rfl (by exact zLb rfl) rfl zMy) ?_)))))))
    refine jb rfl (qG rfl rfl rfl rfl rfl rfl (zkN rfl) zMy (by rfl) (by exact zLb rfl)) ?_
    refine zo (zf (zP ?_))
    exact ⟨.inr rfl, zhe rfl (jK rfl rfl rfl rfl zMy rfl ⟨_, _, rfl, ⟨((los m).map fun n=>[AV.v (.int .i64 n)]), by show some (PO.row _) = some (PO.row _); simp [los, loE, Function.comp_def], by simp [los], rfl⟩, ⟨_, _, rfl, ⟨((his m).map fun n=>[AV.v (.int .i64 n)]), by show some (PO.row _) = some (PO.row _); simp [his, hiE, Function.comp_def], by simp [his], rfl⟩, rfl⟩⟩)⟩
end Go.Av
end
section
namespace Go.Av
open Go.Proofs
set_option maxRecDepth 100000
set_option maxHeartbeats 1000000
variable {G:Glob}
def zKg (m:Mp) (s:Stn):Bool:=!inB s.pt 0 (m.wide * m.rows - 1) || decide (s.lo < 0) || decide (s.hi < s.lo) || decide (99999 < s.hi)
theorem zSQ (m:Mp) (s:Stn):zKg m s = !zO7 m s:=by
 rw [Bool.eq_iff_iff]; simp [zKg, zO7, inB]; omega
def zOC:Stn:=⟨0, 0, 0⟩
theorem zNO {α:Type} {p:α -> Bool} {l:List α} {k:Nat} (h:(l.take k).any p = false) (hk:k < l.length) (hp:p l[k] = false):(l.take (k + 1)).any p = false:=by
 rw [List.take_succ_eq_append_getElem hk, List.any_append, h]; simp [hp]
theorem zAp {α:Type} {p:α -> Bool} {l:List α} {k:Nat} (h:(l.take k).any p = false) (hk:k < l.length) (hp:p l[k] = true):l.find? p = some l[k]:=by
 have e:l = l.take k ++ l[k] :: l.drop (k + 1):=by rw [← List.drop_eq_getElem_cons hk, List.take_append_drop]
 have h1:(l.take k).find? p = none:=by rw [List.find?_eq_none]; intro x hx hp'; rw [List.any_eq_false] at h; exact h x hx hp'
 have h2:(l.take k ++ l[k] :: l.drop (k + 1)).find? p = some l[k]:=by rw [List.find?_append, h1]; simp only[Option.none_or, List.find?_cons, hp]
 rw [← e] at h2; exact h2
theorem zP7 {α:Type} {p:α -> Bool} {l:List α} {k:Nat} (hk:k < l.length) (hp:p l[k] = true):l.any p = true:=by
 rw [List.any_eq_true]; exact ⟨l[k], List.getElem_mem hk, hp⟩
theorem f137 (m:Mp) (s:Stn) (h1:1 <= m.wide /\ m.wide <= 6) (h2:1 <= m.rows /\ m.rows <= 5):ACall Tryz.prog G 137 [.agg (zIW s), .ptr (eMp m)] (.v (.bool (zKg m s))):=by
 have har:=area h1.1 h1.2 h2.1 h2.2
 refine zS Tryz.func137 rfl (by kernel_rfl) rfl ?_
 refine zuy (zh (zg rfl rfl (jf rfl (zY rfl)) (zg rfl rfl (zn rfl rfl) (zo (zf (zuy (zh (zg rfl rfl (zu rfl rfl zIq) (zg rfl rfl (zA rfl rfl rfl ty3) (zg rfl rfl (zu rfl rfl zH6) (zg rfl rfl (zA rfl rfl rfl ty3) ?_)))))))))))
 refine zg rfl rfl (zu rfl rfl zI9) (zg rfl rfl (zA rfl rfl rfl ty3) (zg rfl rfl (zcY rfl rfl rfl ⟨(by omega), (by omega)⟩) (zg rfl rfl (ze5 rfl rfl rfl ⟨(by omega), (by omega)⟩) (zg rfl rfl (zy (av:=[_, _, _]) rfl ⟨rfl, rfl, rfl, trivial⟩ (f68 _ _ _)) (zg rfl rfl (je rfl rfl) (zg rfl rfl (zi rfl rfl) (zk rfl rfl rfl (fun hg=>zu rfl rfl zHJ) (zk rfl rfl rfl (fun hg=>zu rfl (if_pos hg) zHY) (zk rfl rfl rfl (fun hg=>zA rfl (if_pos hg) rfl ty3) (zk rfl rfl rfl (fun hg=>zUB rfl (if_pos hg) rfl) (zg rfl rfl (qU rfl rfl rfl rfl) ?_)))))))))))
 refine zg rfl rfl (zi rfl rfl) (zk rfl rfl rfl (fun hg=>zu rfl rfl zHJ) (zk rfl rfl rfl (fun hg=>zu rfl (if_pos hg) zHY) (zk rfl rfl rfl (fun hg=>zA rfl (if_pos hg) rfl ty3) (zk rfl rfl rfl (fun hg=>zu rfl rfl zHJ) (zk rfl rfl rfl (fun hg=>zu rfl (if_pos hg) zHX) (zk rfl rfl rfl (fun hg=>zA rfl (if_pos hg) rfl ty3) (zk rfl rfl rfl (fun hg=>qR rfl (if_pos hg) (if_pos hg)) (zg rfl rfl (qU rfl rfl rfl rfl) (zg rfl rfl (zi rfl rfl) (zk rfl rfl rfl (fun hg=>zu rfl rfl zHJ) (zk rfl rfl rfl (fun hg=>zu rfl (if_pos hg) zHX) ?_)))))))))))
 refine zk rfl rfl rfl (fun hg=>zA rfl (if_pos hg) rfl ty3) (zk rfl rfl rfl (fun hg=>qR rfl (if_pos hg) rfl) (zg rfl rfl (qU rfl rfl rfl rfl) (zg rfl rfl (zn rfl rfl) (zo (zf (zP ?_))))))
 exact ⟨.inr rfl, AVle.refl _⟩
theorem f103 (l:List Stn) (h:Stn -> Bool) (f:FuncId) (fs cs:List AV) (hl:l.length <= 1000) (hf:∀ s ∈ l, ACall Tryz.prog G f (fs ++ [.agg (zIW s)] ++ cs) (.v (.bool (h s)))):ACall Tryz.prog G 103 [.sl (l.map zIW), .fn f fs cs] (.tup [.agg (zIW ((l.find? h).getD zOC)), .v (.bool (l.any h))]):=by
 have hF:=Lib.hid hf
 clear hf
 refine zS Tryz.func103 rfl (by kernel_rfl) rfl ?_
 refine zuy (zh (jb rfl (wJ rfl rfl zKF rfl rfl) (zg rfl rfl (zn rfl rfl) (zo (zf (zuy (zuy (zh (zg rfl rfl (zq rfl rfl) (zg rfl rfl (qh rfl rfl rfl Tryz.underlying22) (zg rfl rfl (zi rfl rfl) ?_)))))))))))
 refine zo (zf (zB ?_))
 refine qy (ι:={ k:Nat // k <= l.length /\ (l.take k).any h = false }) (fun k=>⟨Tryz.f103.ntmps, frL [(1, .pub (.fn f fs cs)), (4, .pp 0 1 0 0), (9, .pub (.sl (l.map zIW))), (10, I (l.length:Int)), (11, I (k.1:Int))], [.row [[I 0, I 0, I 0]]]⟩) (fun k=>l.length - k.1) (⟨0, by simp⟩) ?_ ?_
 ·
  exact zt _ ⟨rfl, rfl, rfl, (congrArg (fun x:Nat=>I (x:Int)) (List.length_map _)), rfl, trivial⟩ (rfl)
 ·
  rintro ⟨k, hk⟩
  dsimp only
  refine zuy (zh (zg rfl rfl (zUB rfl rfl rfl) (zo (zf (zuy (zx rfl (fun h0=>?_) (fun h0=>?_)))))))
  ·
   have hlt:k < l.length:=by simpa using h0
   refine zC (zf (zuy (zB (zuy (zh (zg rfl rfl (zVZ rfl rfl rfl zjm (by omega) (zIR hlt) zIs) (zg rfl rfl (zZ rfl rfl zIf (by exact zLb rfl)) ?_)))))))
   refine vI  rfl rfl rfl rfl rfl rfl rfl zKF zIf rfl (by rfl) (zY rfl) rfl ?_
   refine zo (zf (zuy (zh (zg rfl rfl (zq rfl rfl) (zg rfl rfl (zZ rfl rfl zIf (by exact zLb rfl)) (zg rfl rfl (zbX (av:=[_]) rfl rfl ⟨rfl, trivial⟩ (hF.out _ (List.getElem_mem hlt))) (zo (zf (zx rfl (fun h1=>?_) (fun h1=>?_))))))))))
   ·
    refine zuy (zh (zg rfl rfl (zZ rfl rfl zIf (by exact zLb rfl)) ?_))
    refine jb rfl (qG rfl rfl rfl rfl rfl rfl (zY rfl) zIf (by rfl) (by exact zLb rfl)) ?_
    refine zg rfl rfl (zn rfl rfl) (zo (zf (zP (qF (zQ (zQ (qF (zQ ?_))))))))
    exact ⟨.inr rfl, ⟨_, rfl, ⟨_, _, rfl, (jK rfl rfl rfl rfl zIf rfl ⟨_, _, rfl, AVle.of (by rw [zAp hk.2 hlt h1]; rfl), ⟨_, _, rfl, AVle.of (by rw [zAp hk.2 hlt h1]; rfl), ⟨_, _, rfl, AVle.of (by rw [zAp hk.2 hlt h1]; rfl), rfl⟩⟩⟩), ⟨_, _, rfl, AVle.of (by rw [zP7 hlt h1]), rfl⟩⟩⟩⟩
   ·
    refine zC (zD (zf (zh (zg rfl rfl (zV rfl rfl rfl ⟨(by omega), (by omega)⟩) (zg rfl rfl (zi rfl rfl) (zo ?_))))))
    exact ⟨⟨k + 1, by omega, zNO hk.2 hlt h1⟩, by dsimp only; omega, zt _ ⟨rfl, rfl, rfl, rfl, rfl, trivial⟩ (rfl)⟩
  ·
   have hge:l.length <= k:=by simpa using h0
   refine qp (zRQ (zRQ (qw (zf (zuy (zh (jb rfl (wJ rfl rfl zKF rfl rfl) (zo (zf (zuy (zh ?_)))))))))))
   refine zg rfl rfl (qN (cs:=[_, _, _]) rfl rfl rfl rfl rfl (by exact zLb rfl) rfl zIf) ?_
   refine jb rfl (qG rfl rfl rfl rfl rfl rfl (zY rfl) zIf (by rfl) (by exact zLb rfl)) ?_
   refine zg rfl rfl (zn rfl rfl) (zo (zf (zP ?_)))
   exact ⟨.inr rfl, ⟨_, rfl, ⟨_, _, rfl, (jK rfl rfl rfl rfl zIf rfl ⟨_, _, rfl, AVle.of (by rw [List.take_of_length_le hge] at hk; rw [List.find?_eq_none.2 (by have:=hk.2; rw [List.any_eq_false] at this; simpa using this)]; rfl), ⟨_, _, rfl, AVle.of (by rw [List.take_of_length_le hge] at hk; rw [List.find?_eq_none.2 (by have:=hk.2; rw [List.any_eq_false] at this; simpa using this)]; rfl), ⟨_, _, rfl, AVle.of (by rw [List.take_of_length_le hge] at hk; rw [List.find?_eq_none.2 (by have:=hk.2; rw [List.any_eq_false] at this; simpa using this)]; rfl), rfl⟩⟩⟩), ⟨_, _, rfl, AVle.of (by rw [List.take_of_length_le hge] at hk; rw [hk.2]), rfl⟩⟩⟩⟩
theorem zOO (m:Mp) (h:zKD m = true):zNr m = !(m.st.any (zKg m)):=by
 unfold zNr; rw [h, Bool.true_and]
 induction m.st with
 | nil=>rfl
 | cons s l ih=>simp [zSQ, ih, List.any_cons, List.all_cons, Bool.not_or]
theorem f99 (m:Mp):ACall Tryz.prog G 99 [.agg (eMp m)] (.v (.bool (zNr m))):=by
 refine zS Tryz.func99 rfl (by kernel_rfl) rfl ?_
 refine zuy (zh (zg rfl rfl (jf rfl (zY rfl)) (zg rfl rfl (zn rfl rfl) (zo (zf (zuy (zuy (zh (zg rfl rfl (zu rfl rfl zH6) (zg rfl rfl (zA rfl rfl rfl ty3) (zg rfl rfl (zy (av:=[_, _, _]) rfl ⟨rfl, rfl, rfl, trivial⟩ (f68 _ _ _)) ?_)))))))))))
 refine zg rfl rfl (je rfl rfl) (zg rfl rfl (zi rfl rfl) (zk rfl rfl rfl (fun hg=>zu rfl rfl zI9) (zk rfl rfl rfl (fun hg=>zA rfl (if_pos hg) rfl ty3) (zk rfl rfl rfl (fun hg=>zy (av:=[_, _, _]) rfl ⟨((if_pos hg)), rfl, rfl, trivial⟩ (f68 _ _ _)) (zk rfl rfl rfl (fun hg=>je rfl (if_pos hg)) (zg rfl rfl (qU rfl rfl rfl rfl) (zg rfl rfl (zi rfl rfl) (zk rfl rfl rfl (fun hg=>zu rfl rfl zI7) (zk rfl rfl rfl (fun hg=>zA rfl (if_pos hg) rfl ty3) (zk rfl rfl rfl (fun hg=>zy (av:=[_, _, _]) rfl ⟨((if_pos hg)), rfl, rfl, trivial⟩ (f68 _ _ _)) (zk rfl rfl rfl (fun hg=>je rfl (if_pos hg)) ?_)))))))))))
 refine zg rfl rfl (qU rfl rfl rfl rfl) (zg rfl rfl (zi rfl rfl) (zk rfl rfl rfl (fun hg=>zu rfl rfl zHN) (zk rfl rfl rfl (fun hg=>zA rfl (if_pos hg) rfl zah) (zk rfl rfl rfl (fun hg=>qh rfl rfl (if_pos hg) Tryz.underlying22) (zk rfl rfl rfl (fun hg=>qR rfl (if_pos hg) rfl) (zg rfl rfl (qU rfl rfl rfl rfl) (zo (zf (zx rfl (fun h0=>?_) (fun h0=>?_))))))))))
 ·
  have hf : zKD m = false := by
      rw [Bool.eq_false_iff]; intro hc; simp [zKD, inB] at hc h0; omega
  refine zuy (zh (zg rfl rfl (zn rfl rfl) (zo (zf (zP (zQ ?_))))))
  exact ⟨.inr rfl, AVle.of (by simp [zNr, hf])⟩
 ·
  have hh:zKD m = true:=by simp [zKD, inB] at h0 ⊢; omega
  have hw:1 <= m.wide /\ m.wide <= 6:=by simp_all [zKD, inB]
  have hr:1 <= m.rows /\ m.rows <= 5:=by simp_all [zKD, inB]
  have hl:m.st.length <= 12:=by simp [zKD] at hh; omega
  refine zC (zf (zuy (zh (zg rfl rfl (zu rfl rfl zHN) (zg rfl rfl (zA rfl rfl rfl zah) (zg rfl rfl (zcA (fs:=[]) (cs:=[_]) rfl rfl rfl) (zg rfl rfl (zy (av:=[_, _]) rfl ⟨rfl, rfl, trivial⟩ (f103 m.st (zKg m) 137 [] [.ptr (eMp m)] (by omega) (fun s _=>f137 m s hw hr))) (zg rfl rfl (zq rfl rfl) (zg rfl rfl (zN rfl rfl rfl) (zg rfl rfl (zN rfl rfl rfl) ?_))))))))))
  refine vI  rfl rfl rfl rfl rfl rfl rfl zKF zIf rfl (by rfl) (zY rfl) rfl ?_
  refine zg rfl rfl (zn rfl rfl) (zo (zf (zuy (zh (zg rfl rfl (zi rfl rfl) (zg rfl rfl (je rfl rfl) (zg rfl rfl (zn rfl rfl) (zo (zf (zP ?_))))))))))
  exact ⟨.inr rfl, AVle.of (by rw [zOO m hh])⟩
end Go.Av
end
