import Derived.Test.YtdjncbjfejdamaaGreatDoorChB
set_option linter.unusedVariables false
set_option linter.unusedSimpArgs false
section
namespace Go.Av
open Go.Proofs
set_option maxRecDepth 100000
set_option maxHeartbeats 1000000
variable {G:Glob}
def apartB (m:Mp) (a b:Stn):Bool:=decide (b.hi < a.lo - m.slope * dist m.wide a.pt b.pt) || decide (a.hi < b.lo - m.slope * dist m.wide a.pt b.pt)
def zNd (s:Stn):Prop:=0 <= s.pt /\ s.pt <= 30 /\ 0 <= s.lo /\ s.lo <= 99999 /\ 0 <= s.hi /\ s.hi <= 99999
theorem okM.st {m:Mp} (hm:okM m):∀ s ∈ m.st, zNd s:=fun s hs=>by
 obtain ⟨m1, m2, m3, m4, m5, m6, m7, m8⟩:=hm
 have h:=m8 s hs
 have har:=area m1 m2 m3 m4
 unfold zNd; omega
def zIy (p:Nat -> Nat -> Bool) (n:Nat):Option (Nat × Nat):=(List.range n).findSome? fun i=>((List.range n).find? fun j=>decide (i < j) && p i j).map fun j=>(i, j)
theorem find_range {p:Nat -> Bool} {n k:Nat} (hk:k < n) (hp:p k = true) (h:∀ i < k, p i = false):(List.range n).find? p = some k:=by
 rw [List.find?_range_eq_some]
 exact ⟨hp, by simpa using hk, fun j hj=>by simp [h j hj]⟩
theorem zIS {p:Nat -> Nat -> Bool} {n i j:Nat} (hi:i < j) (hj:j < n) (hp:p i j = true) (h1:∀ a < i, ∀ b < n, a < b -> p a b = false) (h2:∀ b, i < b -> b < j -> p i b = false):zIy p n = some (i, j):=by
 unfold zIy
 have e:∀ a, a < i -> ((List.range n).find? fun j=>decide (a < j) && p a j) = none:=fun a ha=>by
  rw [List.find?_range_eq_none]; intro b hb
  by_cases hab:a < b
  ·
   simp [h1 a ha b hb hab]
  ·
   simp [hab]
 have e2:((List.range n).find? fun b=>decide (i < b) && p i b) = some j:=find_range hj (by simp [hi, hp]) (fun b hb=>by
  by_cases hab:i < b
  ·
   simp [h2 b hab hb]
  ·
   simp [hab])
 have e3:List.range n = List.range i ++ i :: (List.range n).drop (i + 1):=by
  have:i < (List.range n).length:=by simp; omega
  have h:=List.take_append_drop i (List.range n)
  rw [List.drop_eq_getElem_cons this, List.take_range, List.getElem_range, Nat.min_eq_left (by omega)] at h
  exact h.symm
 generalize hf:(fun a=>((List.range n).find? fun j=>decide (a < j) && p a j).map fun j=>(a, j)) = f
 have hfi:f i = some (i, j):=by rw [← hf]; simp only[e2, Option.map_some]
 have hfn:∀ a ∈ List.range i, f a = none:=fun a ha=>by rw [← hf]; simp only[e a (List.mem_range.1 ha), Option.map_none]
 rw [e3, List.findSome?_append, List.findSome?_eq_none_iff.2 hfn, Option.none_or, List.findSome?_cons, hfi]
theorem zI0 {p:Nat -> Nat -> Bool} {n:Nat} (h:∀ a < n, ∀ b < n, a < b -> p a b = false):zIy p n = none:=by
 unfold zIy
 rw [List.findSome?_eq_none_iff]; intro a ha
 rw [Option.map_eq_none_iff, List.find?_range_eq_none]; intro b hb
 by_cases hab:a < b
 ·
  simp [h a (List.mem_range.1 ha) b hb hab]
 ·
  simp [hab]
def zIK (m:Mp) (i j:Nat):Bool:=apartB m (m.st.getD i zOC) (m.st.getD j zOC)
def zH5 (m:Mp):Option (Nat × Nat):=zIy (zIK m) m.st.length
theorem zKf {m:Mp} {i j:Nat} (hi:i < m.st.length) (hj:j < m.st.length):zIK m i j = apartB m m.st[i] m.st[j]:=by
 unfold zIK; rw [show m.st.getD i zOC = m.st[i] by simp [List.getD, hi], show m.st.getD j zOC = m.st[j] by simp [List.getD, hj]]
def zOA:Option (Nat × Nat) -> AV
 | some (i, j)=>.tup [ei i, ei j, .v (.bool true)]
 | none=>.tup [ei 0, ei 0, .v (.bool false)]
theorem f138 (m:Mp) (a b:Stn) (hm:okM m) (ha:zNd a) (hb:zNd b):ACall Tryz.prog G 138 [.agg (zHt m), .agg (zIW a), .agg (zIW b)] (.v (.bool (apartB m a b))):=by
 obtain ⟨m1, m2, m3, m4, m5, m6, m7, m8⟩:=hm
 obtain ⟨a1, a2, a3, a4, a5, a6⟩:=ha
 obtain ⟨b1, b2, b3, b4, b5, b6⟩:=hb
 have hd:=zJZ (N:=30) (w:=m.wide) (a:=a.pt) (b:=b.pt) m1 (by omega) (by omega)
 have hsd:=zMP m5 m6 hd.1 (by omega:dist m.wide a.pt b.pt <= 100)
 refine zS Tryz.func138 rfl (by kernel_rfl) rfl ?_
 refine zuy (zh (zg rfl rfl (jf rfl (zY rfl)) (zg rfl rfl (jf rfl (zY rfl)) (zg rfl rfl (jf rfl (zY rfl)) (zg rfl rfl (zn rfl rfl) (zo (zf (zuy ?_))))))))
 refine qY mixed (by kernel_rfl) rfl ?_
 refine zH rfl (zu rfl rfl zHL) (zH rfl (zu rfl rfl zI7) (zH rfl (zA rfl rfl rfl ty3) (zH rfl (zu rfl rfl zKl) (zH rfl (zZ rfl rfl zIO (by exact zLb rfl)) (zH rfl (zu rfl rfl zIq) (zH rfl (zA rfl rfl rfl ty3) (zH rfl (zu rfl rfl zIq) (zH rfl (zA rfl rfl rfl ty3) (zH rfl (zy (av:=[_, _, _]) rfl ⟨rfl, rfl, rfl, trivial⟩ (f119 m.wide m.rows _ _ (by omega) (by omega) (by omega))) (zH rfl (zcY rfl rfl rfl ⟨(by omega), (by omega)⟩) (zH rfl (zn rfl rfl) ?_)))))))))))
 refine jw (zf (zuy (zh (zg rfl rfl (zu rfl rfl zHJ) (zg rfl rfl (zu rfl rfl zHY) (zg rfl rfl (zA rfl rfl rfl ty3) (zg rfl rfl (zi rfl rfl) (zg rfl rfl (ze5 rfl rfl rfl ⟨(by omega), (by omega)⟩) (zg rfl rfl (zu rfl rfl zHJ) (zg rfl rfl (zu rfl rfl zHX) (zg rfl rfl (zA rfl rfl rfl ty3) ?_)))))))))))
 refine zg rfl rfl (qR rfl rfl rfl) (zg rfl rfl (zi rfl rfl) (zk rfl rfl rfl (fun hg=>zu rfl rfl zHJ) (zk rfl rfl rfl (fun hg=>zu rfl (if_pos hg) zHY) (zk rfl rfl rfl (fun hg=>zA rfl (if_pos hg) rfl ty3) (zk rfl rfl rfl (fun hg=>zi rfl rfl) ?_)))))
 refine zk rfl rfl rfl (fun hg=>ze5 rfl (if_pos hg) (if_pos hg) ⟨(by first | omega | (simp at hg; omega)), (by first | omega | (simp at hg; omega))⟩) ?_
 refine zk rfl rfl rfl (fun hg=>zu rfl rfl zHJ) (zk rfl rfl rfl (fun hg=>zu rfl (if_pos hg) zHX) (zk rfl rfl rfl (fun hg=>zA rfl (if_pos hg) rfl ty3) (zk rfl rfl rfl (fun hg=>qR rfl (if_pos hg) (if_pos hg)) (zg rfl rfl (qU rfl rfl rfl rfl) (zg rfl rfl (zn rfl rfl) (zo (zf (zP ?_))))))))
 exact ⟨.inr rfl, AVle.refl _⟩
theorem f101 (m:Mp) (hm:okM m):ACall Tryz.prog G 101 [.agg (zHt m)] (zOA (zH5 m)):=by
 have hln:=hm.2.2.2.2.2.2.1
 refine zS Tryz.func101 rfl (by kernel_rfl) rfl ?_
 refine zuy (zh (zg rfl rfl (jf rfl (zY rfl)) (zg rfl rfl (zn rfl rfl) (zg rfl rfl (zn rfl rfl) (zg rfl rfl (zn rfl rfl) (zo (zf (zuy (zuy (zh (zg rfl rfl (zu rfl rfl zHL) ?_)))))))))))
 refine zg rfl rfl (zu rfl rfl zHN) (zg rfl rfl (zA rfl rfl rfl zah) (zg rfl rfl (qh rfl rfl rfl Tryz.underlying22) (zg rfl rfl (zi rfl rfl) (zo (zf (zB ?_))))))
 refine qy (ι:={ k:Nat // k <= m.st.length /\ ∀ a < k, ∀ b < m.st.length, a < b -> zIK m a b = false }) (fun k=>⟨Tryz.f101.ntmps, frL [(1, .pub (.ptr (zHt m))), (10, .pub (.sl (m.st.map zIW))), (11, I (m.st.length:Int)), (12, I (k.1:Int))], []⟩) (fun k=>m.st.length - k.1) (⟨0, by omega, fun a ha=>absurd ha (by omega)⟩) ?_ ?_
 ·
  exact zt _ ⟨rfl, rfl, (congrArg (fun x:Nat=>I (x:Int)) (List.length_map _)), rfl, trivial⟩ (rfl)
 ·
  rintro ⟨k, hk⟩
  dsimp only
  refine zuy (zh (zg rfl rfl (zUB rfl rfl rfl) (zo (zf (zuy (zx rfl (fun h0=>?_) (fun h0=>?_)))))))
  ·
   have hlt:k < m.st.length:=by simpa using h0
   refine zC (zf (zuy (zB (zuy (zh (zg rfl rfl (zi rfl rfl) (zg rfl rfl (zVZ rfl rfl rfl zjm (by omega) (zIR hlt) zIs) (zg rfl rfl (zZ rfl rfl zIf (by exact zLb rfl)) ?_))))))))
   refine zyM  rfl rfl rfl rfl rfl rfl rfl rfl (zn rfl rfl) rfl rfl rfl zKF zIf rfl (by rfl) (zY rfl) rfl ?_
   refine zo (zf (zuy (zh (zg rfl rfl (zi rfl rfl) (zg rfl rfl (zV rfl rfl rfl ⟨(by omega), (by omega)⟩) (zg rfl rfl (zn rfl rfl) (zo (zf (zB ?_)))))))))
   refine qy (ι:={ j:Nat // k < j /\ j <= m.st.length /\ ∀ b, k < b -> b < j -> b < m.st.length -> zIK m k b = false }) (fun j=>⟨Tryz.f101.ntmps, frL [(1, .pub (.ptr (zHt m))), (10, .pub (.sl (m.st.map zIW))), (11, I (m.st.length:Int)), (12, I (k:Int)), (5, I (k:Int)), (6, .pub (.ptr (zIW m.st[k]))), (7, I (j.1:Int))], []⟩) (fun j=>m.st.length - j.1) (⟨k + 1, by omega, by omega, fun b h1 h2=>absurd h1 (by omega)⟩) ?_ ?_
   ·
    exact zt _ ⟨rfl, rfl, rfl, rfl, rfl, rfl, rfl, trivial⟩ (rfl)
   ·
    rintro ⟨j, hj⟩
    dsimp only
    refine zuy (zuy (zh (zg rfl rfl (zi rfl rfl) (zg rfl rfl (zu rfl rfl zHL) (zg rfl rfl (zu rfl rfl zHN) (zg rfl rfl (zA rfl rfl rfl zah) (zg rfl rfl (qh rfl rfl rfl Tryz.underlying22) (zg rfl rfl (zUB rfl rfl rfl) (zo (zf (zx rfl (fun h1=>?_) (fun h1=>?_))))))))))))
    ·
     have hjt:j < m.st.length:=by simp at h1; omega
     refine zC (zf (zuy (zB (zuy ?_))))
     refine qY mixed (by kernel_rfl) rfl ?_
     refine zH rfl (zZ rfl rfl zIw (by exact zLb rfl)) (zH rfl (zZ rfl rfl zIf (by exact zLb rfl)) (zH rfl (zu rfl rfl zHL) (zH rfl (zu rfl rfl zHN) (zH rfl (zA rfl rfl rfl zah) (zH rfl (zi rfl rfl) (zH rfl (zVZ rfl rfl rfl zjm (by omega) (zIR hjt) zIs) (zH rfl (zZ rfl rfl zIf (by exact zLb rfl)) (zH rfl (zy (av:=[_, _, _]) rfl ⟨rfl, rfl, rfl, trivial⟩ (f138 m _ _ hm (hm.st _ (List.getElem_mem hlt)) (hm.st _ (List.getElem_mem hjt)))) (jw (zf (zx rfl (fun h2=>?_) (fun h2=>?_))))))))))))
     ·
      have hyes:zIK m k j = true:=(zKf hlt hjt).trans h2
      have hc:zH5 m = some (k, j):=zIS hj.1 hjt hyes hk.2 (fun b b1 b2=>hj.2.2 b b1 b2 (by omega))
      refine zuy (zh (zg rfl rfl (zi rfl rfl) (zg rfl rfl (zi rfl rfl) (zg rfl rfl (zn rfl rfl) (zg rfl rfl (zn rfl rfl) (zg rfl rfl (zn rfl rfl) (zo (zf (zP (qF (zQ ?_)))))))))))
      refine zQ (qF (qF (zQ (zQ (qF (zQ ?_))))))
      refine ⟨.inr rfl, ?_⟩
      rw [hc]
      exact ⟨_, rfl, ⟨_, _, rfl, AVle.refl _, ⟨_, _, rfl, AVle.refl _, ⟨_, _, rfl, AVle.refl _, rfl⟩⟩⟩⟩
     ·
      have hno:zIK m k j = false:=(zKf hlt hjt).trans h2
      refine zC (zD (zf (zh (zg rfl rfl (zi rfl rfl) (zg rfl rfl (zV rfl rfl rfl ⟨(by omega), (by omega)⟩) (zg rfl rfl (zn rfl rfl) (zo ?_)))))))
      exact ⟨⟨j + 1, by omega, by omega, fun b b1 b2 b3 => by
               by_cases e:b = j
               ·
                subst e; exact hno
               ·
                exact hj.2.2 b b1 (by omega) b3⟩, by dsimp only; omega, zt _ ⟨rfl, rfl, rfl, rfl, rfl, rfl, rfl, trivial⟩ (rfl)⟩
    ·
     have hjge:m.st.length <= j:=by simp at h1; omega
     refine qp (zRQ (zRQ (qw (zD (zf (zh (zg rfl rfl (zV rfl rfl rfl ⟨(by omega), (by omega)⟩) (zg rfl rfl (zi rfl rfl) (zo ?_)))))))))
     exact ⟨⟨k + 1, by omega, fun a ha b hb hab => by
               by_cases e:a = k
               ·
                subst e; exact hj.2.2 b hab (by omega) hb
               ·
                exact hk.2 a (by omega) b hb hab⟩, by dsimp only; omega, zt _ ⟨rfl, rfl, rfl, rfl, trivial⟩ (rfl)⟩
  ·
   have hge:m.st.length <= k:=by simpa using h0
   refine qp (zRQ (zRQ (qw (zf (zuy (zh (zg rfl rfl (zn rfl rfl) (zg rfl rfl (zn rfl rfl) (zg rfl rfl (zn rfl rfl) (zo (zf ?_)))))))))))
   refine zP ?_
   refine ⟨.inr rfl, ?_⟩
   rw [show zH5 m = none from zI0 (fun a ha b hb hab=>hk.2 a (by omega) b hb hab)]
   exact ⟨_, rfl, ⟨_, _, rfl, AVle.refl _, ⟨_, _, rfl, AVle.refl _, ⟨_, _, rfl, AVle.refl _, rfl⟩⟩⟩⟩
def zVF:List AV:=[.v (.int .i64 0), .v (.int .i64 0), .v (.int .i64 0), .v (.slice none 0 0), .v (.int .i64 0), .v (.int .i64 0)]
theorem f100 (m:Mp):ACall Tryz.prog G 100 [.agg (eMp m)] (.agg (zHt m)):=by
 refine zS Tryz.func100 rfl (by kernel_rfl) rfl ?_
 refine zuy (zh (zg rfl rfl (jf rfl (zY rfl)) (jb rfl (wJ rfl rfl zM2 rfl rfl) (zo (zf (zuy (zh (zg rfl rfl (zZ rfl rfl zMg (by exact zLb rfl)) (zg rfl rfl (zu rfl rfl zH6) (zg rfl rfl (zA rfl rfl rfl ty3) (zg rfl rfl (zu rfl rfl zI9) ?_)))))))))))
 refine zg rfl rfl (zA rfl rfl rfl ty3) ?_
 refine zg rfl rfl (zb3 (cs:=[_, _]) rfl zRm rfl ⟨_, _, rfl, (jF rfl), ⟨_, _, rfl, (jF rfl), rfl⟩⟩ (by rfl) (by simp [ofV])) ?_
 refine zg rfl rfl (zb3 (cs:=[_, _, _, _, _, _]) rfl zQX rfl ⟨_, _, rfl, (zY rfl), ⟨_, _, rfl, (zY rfl), rfl⟩⟩ (by rfl) (by simp [ofV])) ?_
 refine jb rfl (qG rfl rfl rfl rfl rfl rfl (zY rfl) zIw (by rfl) (by exact zLb rfl)) ?_
 refine zo (zf (zP ?_))
 exact ⟨.inr rfl, zhe rfl (jK rfl rfl rfl rfl zIw rfl ⟨_, _, rfl, AVle.refl _, ⟨_, _, rfl, AVle.refl _, ⟨_, _, rfl, AVle.refl _, ⟨_, _, rfl, AVle.refl _, ⟨_, _, rfl, AVle.refl _, ⟨_, _, rfl, AVle.refl _, rfl⟩⟩⟩⟩⟩⟩)⟩
theorem f63 (m:Mp):ACall Tryz.prog G 63 [.agg (zHt m)] (.v (.bool true)):=by
 refine zS Tryz.func63 rfl (by kernel_rfl) rfl ?_
 refine zuy (zh (zg rfl rfl (jf rfl (zY rfl)) (zg rfl rfl (zn rfl rfl) (zo (zf (zuy (zh (zg rfl rfl (zn rfl rfl) (zo (zf (zP ?_)))))))))))
 exact ⟨.inr rfl, AVle.refl _⟩
theorem zZ2 (m:Mp) (h:zNr m = false) (f:FuncId) (fs cs:List AV):ACall Tryz.prog G 62 [.agg (eMp m), .fn f fs cs] (.tup [.agg zVF, ei 2]):=by
 refine zS Tryz.func62 rfl (by kernel_rfl) rfl ?_
 refine zuy (zh (zg rfl rfl (jf rfl (zY rfl)) (jb rfl (wJ rfl rfl zM2 rfl rfl) (zg rfl rfl (zn rfl rfl) (zo (zf (zuy (zuy (zh (zg rfl rfl (zZ rfl rfl zMg (by exact zLb rfl)) (zg rfl rfl (zy (av:=[_]) rfl ⟨rfl, trivial⟩ (f99 m)) ?_)))))))))))
 refine zg rfl rfl (je rfl rfl) (zo (zf (zx rfl (fun h0=>?_) (fun h0=>?_))))
 ·
  refine zuy (zh ?_)
  refine zg rfl rfl (zb3 (cs:=[_, _, _, _, _, _]) rfl zQX rfl rfl (by rfl) (by simp [ofV])) ?_
  refine jb rfl (qG rfl rfl rfl rfl rfl rfl (zY rfl) zIw (by rfl) (by exact zLb rfl)) ?_
  refine zg rfl rfl (zn rfl rfl) (zo (zf (zP (zQ ?_))))
  exact ⟨.inr rfl, ⟨_, rfl, ⟨_, _, rfl, (jK rfl rfl rfl rfl zIw rfl ⟨_, _, rfl, AVle.refl _, ⟨_, _, rfl, AVle.refl _, ⟨_, _, rfl, AVle.refl _, ⟨_, _, rfl, AVle.refl _, ⟨_, _, rfl, AVle.refl _, ⟨_, _, rfl, AVle.refl _, rfl⟩⟩⟩⟩⟩⟩), ⟨_, _, rfl, AVle.refl _, rfl⟩⟩⟩⟩
 ·
  exfalso; simp [h] at h0
theorem zZY (m:Mp) (hm:okM m) (f:FuncId) (fs cs:List AV) (hf:ACall Tryz.prog G f (fs ++ [.agg (zHt m)] ++ cs) (.v (.bool false))):ACall Tryz.prog G 62 [.agg (eMp m), .fn f fs cs] (.tup [.agg zVF, ei 2]):=by
 have hmb:=(zMw m).2 hm
 refine zS Tryz.func62 rfl (by kernel_rfl) rfl ?_
 refine zuy (zh (zg rfl rfl (jf rfl (zY rfl)) (jb rfl (wJ rfl rfl zM2 rfl rfl) (zg rfl rfl (zn rfl rfl) (zo (zf (zuy (zuy (zh (zg rfl rfl (zZ rfl rfl zMg (by exact zLb rfl)) (zg rfl rfl (zy (av:=[_]) rfl ⟨rfl, trivial⟩ (f99 m)) ?_)))))))))))
 refine zg rfl rfl (je rfl rfl) (zo (zf (zx rfl (fun h0=>?_) (fun h0=>?_))))
 ·
  exfalso; simp [hmb] at h0
 ·
  refine zC (zf (zuy (zh (zg rfl rfl (zZ rfl rfl zMg (by exact zLb rfl)) (zg rfl rfl (zy (av:=[_]) rfl ⟨rfl, trivial⟩ (f100 m)) ?_)))))
  refine vI  rfl rfl rfl rfl rfl rfl rfl zM2 zIw rfl (by rfl) (zY rfl) rfl ?_
  refine zo (zf (zuy (zuy (zh (zg rfl rfl (zq rfl rfl) (zg rfl rfl (zZ rfl rfl zIw (by exact zLb rfl)) (zg rfl rfl (zbX (av:=[_]) rfl rfl ⟨rfl, trivial⟩ hf) (zg rfl rfl (je rfl rfl) (zo (zf (zx rfl (fun h1=>?_) (fun h1=>?_))))))))))))
  ·
   refine zuy (zh ?_)
   refine zg rfl rfl (zb3 (cs:=[_, _, _, _, _, _]) rfl zQX rfl rfl (by rfl) (by simp [ofV])) ?_
   refine jb rfl (qG rfl rfl rfl rfl rfl rfl (zY rfl) zIw (by rfl) (by exact zLb rfl)) ?_
   refine zg rfl rfl (zn rfl rfl) (zo (zf (zP (zQ ?_))))
   exact ⟨.inr rfl, ⟨_, rfl, ⟨_, _, rfl, (jK rfl rfl rfl rfl zIw rfl ⟨_, _, rfl, AVle.refl _, ⟨_, _, rfl, AVle.refl _, ⟨_, _, rfl, AVle.refl _, ⟨_, _, rfl, AVle.refl _, ⟨_, _, rfl, AVle.refl _, ⟨_, _, rfl, AVle.refl _, rfl⟩⟩⟩⟩⟩⟩), ⟨_, _, rfl, AVle.refl _, rfl⟩⟩⟩⟩
  ·
   exfalso; simp at h1
theorem zVj (m:Mp) (hm:okM m) (f:FuncId) (fs cs:List AV) (hf:ACall Tryz.prog G f (fs ++ [.agg (zHt m)] ++ cs) (.v (.bool true))) (p:Nat × Nat) (hc:zH5 m = some p):ACall Tryz.prog G 62 [.agg (eMp m), .fn f fs cs] (.tup [.agg zVF, ei 7]):=by
 have hmb:=(zMw m).2 hm
 refine zS Tryz.func62 rfl (by kernel_rfl) rfl ?_
 refine zuy (zh (zg rfl rfl (jf rfl (zY rfl)) (jb rfl (wJ rfl rfl zM2 rfl rfl) (zg rfl rfl (zn rfl rfl) (zo (zf (zuy (zuy (zh (zg rfl rfl (zZ rfl rfl zMg (by exact zLb rfl)) (zg rfl rfl (zy (av:=[_]) rfl ⟨rfl, trivial⟩ (f99 m)) ?_)))))))))))
 refine zg rfl rfl (je rfl rfl) (zo (zf (zx rfl (fun h0=>?_) (fun h0=>?_))))
 ·
  exfalso; simp [hmb] at h0
 ·
  refine zC (zf (zuy (zh (zg rfl rfl (zZ rfl rfl zMg (by exact zLb rfl)) (zg rfl rfl (zy (av:=[_]) rfl ⟨rfl, trivial⟩ (f100 m)) ?_)))))
  refine vI  rfl rfl rfl rfl rfl rfl rfl zM2 zIw rfl (by rfl) (zY rfl) rfl ?_
  refine zo (zf (zuy (zuy (zh (zg rfl rfl (zq rfl rfl) (zg rfl rfl (zZ rfl rfl zIw (by exact zLb rfl)) (zg rfl rfl (zbX (av:=[_]) rfl rfl ⟨rfl, trivial⟩ hf) (zg rfl rfl (je rfl rfl) (zo (zf (zx rfl (fun h1=>?_) (fun h1=>?_))))))))))))
  ·
   exfalso; simp at h1
  ·
   refine zC (zf (zuy (zuy (zh (zg rfl rfl (zZ rfl rfl zIw (by exact zLb rfl)) ?_)))))
   refine zg rfl rfl (zy (av:=[_]) rfl ⟨rfl, trivial⟩ (r:=.tup [ei p.1, ei p.2, .v (.bool true)]) (by have h:=f101 (G:=G) m hm; rw [hc] at h; exact h)) ?_
   refine zg rfl rfl (zq rfl rfl) (zg rfl rfl (zN rfl rfl rfl) (zg rfl rfl (zN rfl rfl rfl) (zg rfl rfl (zN rfl rfl rfl) (zg rfl rfl (zn rfl rfl) (zg rfl rfl (zn rfl rfl) (zg rfl rfl (zn rfl rfl) (zo (zf (zuy (zh (zg rfl rfl (zi rfl rfl) ?_)))))))))))
   refine zo (zf (zx rfl (fun h2=>?_) (fun h2=>?_)))
   ·
    refine zuy (zh ?_)
    refine zg rfl rfl (zb3 (cs:=[_, _, _, _, _, _]) rfl zQX rfl rfl (by rfl) (by simp [ofV])) ?_
    refine jb rfl (qG rfl rfl rfl rfl rfl rfl (zY rfl) zIw (by rfl) (by exact zLb rfl)) ?_
    refine zg rfl rfl (zn rfl rfl) (zo (zf (zP (zQ ?_))))
    exact ⟨.inr rfl, ⟨_, rfl, ⟨_, _, rfl, (jK rfl rfl rfl rfl zIw rfl ⟨_, _, rfl, AVle.refl _, ⟨_, _, rfl, AVle.refl _, ⟨_, _, rfl, AVle.refl _, ⟨_, _, rfl, AVle.refl _, ⟨_, _, rfl, AVle.refl _, ⟨_, _, rfl, AVle.refl _, rfl⟩⟩⟩⟩⟩⟩), ⟨_, _, rfl, AVle.refl _, rfl⟩⟩⟩⟩
   ·
    exfalso; simp at h2
theorem zQp (m:Mp) (hm:okM m) (f:FuncId) (fs cs:List AV) (hf:ACall Tryz.prog G f (fs ++ [.agg (zHt m)] ++ cs) (.v (.bool true))) (hc:zH5 m = none):ACall Tryz.prog G 62 [.agg (eMp m), .fn f fs cs] (.tup [.agg (zHt m), ei 0]):=by
 have hmb:=(zMw m).2 hm
 refine zS Tryz.func62 rfl (by kernel_rfl) rfl ?_
 refine zuy (zh (zg rfl rfl (jf rfl (zY rfl)) (jb rfl (wJ rfl rfl zM2 rfl rfl) (zg rfl rfl (zn rfl rfl) (zo (zf (zuy (zuy (zh (zg rfl rfl (zZ rfl rfl zMg (by exact zLb rfl)) (zg rfl rfl (zy (av:=[_]) rfl ⟨rfl, trivial⟩ (f99 m)) ?_)))))))))))
 refine zg rfl rfl (je rfl rfl) (zo (zf (zx rfl (fun h0=>?_) (fun h0=>?_))))
 ·
  exfalso; simp [hmb] at h0
 ·
  refine zC (zf (zuy (zh (zg rfl rfl (zZ rfl rfl zMg (by exact zLb rfl)) (zg rfl rfl (zy (av:=[_]) rfl ⟨rfl, trivial⟩ (f100 m)) ?_)))))
  refine vI  rfl rfl rfl rfl rfl rfl rfl zM2 zIw rfl (by rfl) (zY rfl) rfl ?_
  refine zo (zf (zuy (zuy (zh (zg rfl rfl (zq rfl rfl) (zg rfl rfl (zZ rfl rfl zIw (by exact zLb rfl)) (zg rfl rfl (zbX (av:=[_]) rfl rfl ⟨rfl, trivial⟩ hf) (zg rfl rfl (je rfl rfl) (zo (zf (zx rfl (fun h1=>?_) (fun h1=>?_))))))))))))
  ·
   exfalso; simp at h1
  ·
   refine zC (zf (zuy (zuy (zh (zg rfl rfl (zZ rfl rfl zIw (by exact zLb rfl)) ?_)))))
   refine zg rfl rfl (zy (av:=[_]) rfl ⟨rfl, trivial⟩ (r:=.tup [ei 0, ei 0, .v (.bool false)]) (by have h:=f101 (G:=G) m hm; rw [hc] at h; exact h)) ?_
   refine zg rfl rfl (zq rfl rfl) (zg rfl rfl (zN rfl rfl rfl) (zg rfl rfl (zN rfl rfl rfl) (zg rfl rfl (zN rfl rfl rfl) (zg rfl rfl (zn rfl rfl) (zg rfl rfl (zn rfl rfl) (zg rfl rfl (zn rfl rfl) (zo (zf (zuy (zh (zg rfl rfl (zi rfl rfl) ?_)))))))))))
   refine zo (zf (zx rfl (fun h2=>?_) (fun h2=>?_)))
   ·
    exfalso; simp at h2
   ·
    refine zC (zf (zuy (zh (zg rfl rfl (zZ rfl rfl zIw (by exact zLb rfl)) ?_))))
    refine jb rfl (qG rfl rfl rfl rfl rfl rfl (zY rfl) zIw (by rfl) (by exact zLb rfl)) ?_
    refine zg rfl rfl (zn rfl rfl) (zo (zf (zP ?_)))
    exact ⟨.inr rfl, ⟨_, rfl, ⟨_, _, rfl, (jK rfl rfl rfl rfl zIw rfl ⟨_, _, rfl, AVle.refl _, ⟨_, _, rfl, AVle.refl _, ⟨_, _, rfl, AVle.refl _, ⟨_, _, rfl, AVle.refl _, ⟨_, _, rfl, AVle.refl _, ⟨_, _, rfl, AVle.refl _, rfl⟩⟩⟩⟩⟩⟩), ⟨_, _, rfl, AVle.refl _, rfl⟩⟩⟩⟩
end Go.Av
end
