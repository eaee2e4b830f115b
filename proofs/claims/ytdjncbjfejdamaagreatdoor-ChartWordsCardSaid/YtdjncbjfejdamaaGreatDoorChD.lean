import Derived.Test.YtdjncbjfejdamaaGreatDoorChC
set_option linter.unusedVariables false
set_option linter.unusedSimpArgs false
section
namespace Go.Av
open Go.Proofs
set_option maxRecDepth 100000
set_option maxHeartbeats 1000000
variable {G:Glob}
def zJ4 (m:Mp):List Int:=(List.range (npt m)).map fun p:Nat=>(zIE m.wide m.slope (p:Int) m.st + zIJ m.wide m.slope (p:Int) m.st) / 2
def zN6 (m:Mp):Fld:=⟨m.wide, zJ4 m⟩
def zVY:Fld:=⟨0, []⟩
def drE (m:Mp) (p:Nat):List EV:=[I ((zIE m.wide m.slope (p:Int) m.st + zIJ m.wide m.slope (p:Int) m.st) / 2)]
theorem zK2 (m:Mp):(los m).length = npt m:=by simp [los]
theorem zK3 (m:Mp):(his m).length = npt m:=by simp [his]
theorem zMh {m:Mp} {k:Nat} (h:k < (los m).length):(los m)[k] = zIE m.wide m.slope (k:Int) m.st:=by simp [los]
theorem zMv {m:Mp} {k:Nat} (h:k < (his m).length):(his m)[k] = zIJ m.wide m.slope (k:Int) m.st:=by simp [his]
theorem zOa {m:Mp} (hm:okM m) {k:Nat} (h:k < (los m).length):0 <= (los m)[k] /\ (los m)[k] <= 99999:=by
 have hn:=zJF hm
 rw [zMh h]; rw [zK2] at h
 have:=hm.lo (p:=(k:Int)) (by omega) m.st.length
 rwa [List.take_of_length_le (Nat.le_refl _)] at this
theorem zOR {m:Mp} (hm:okM m) {k:Nat} (h:k < (his m).length):0 <= (his m)[k] /\ (his m)[k] <= 99999:=by
 have hn:=zJF hm
 rw [zMv h]; rw [zK3] at h
 have:=hm.hi (p:=(k:Int)) (by omega) m.st.length
 rwa [List.take_of_length_le (Nat.le_refl _)] at this
theorem zPn {m:Mp} {k:Nat} (h1:k < (los m).length) (h2:k < (his m).length):(List.range k).map (drE m) ++ [[I (((los m)[k] + (his m)[k]) / 2)]] = (List.range (k + 1)).map (drE m):=by
 rw [zMh h1, zMv h2]; exact zIh (drE m) k
theorem zQt (m:Mp) (hm:okM m) (hc:zH5 m = none):ACall Tryz.prog G 22 [.agg (eMp m)] (.tup [.agg (zHF (zN6 m)), ei 0]):=by
 have hn:=zJF hm
 refine zS Tryz.func22 rfl (by kernel_rfl) rfl ?_
 refine zuy (zh (zg rfl rfl (jf rfl (zY rfl)) (jb rfl (wJ rfl rfl zNn rfl rfl) (zg rfl rfl (zn rfl rfl) (zo (zf (zuy (zh (zg rfl rfl (zZ rfl rfl zMg (by exact zLb rfl)) (zg rfl rfl (zy (av:=[_, _]) rfl ⟨rfl, rfl, trivial⟩ (zQp m hm 63 [] [] (f63 m) hc)) (zg rfl rfl (zq rfl rfl) ?_)))))))))))
 refine zg rfl rfl (zN rfl rfl rfl) (zg rfl rfl (zN rfl rfl rfl) ?_)
 refine vI  rfl rfl rfl rfl rfl rfl rfl zM2 zIw rfl (by rfl) (zY rfl) rfl ?_
 refine zg rfl rfl (zn rfl rfl) (zo (zf (zuy (zuy (zh (zg rfl rfl (zi rfl rfl) (zg rfl rfl (vg rfl rfl rfl) (zo (zf (zx rfl (fun h0=>?_) (fun h0=>?_)))))))))))
 ·
  exfalso; simp at h0
 ·
  refine zC (zf (zuy (zh (zg rfl rfl (zZ rfl rfl zIw (by exact zLb rfl)) (zg rfl rfl (zy (av:=[_]) rfl ⟨rfl, trivial⟩ (f64 m hm)) ?_)))))
  refine vI  rfl rfl rfl rfl rfl rfl rfl zNH zMy rfl (by rfl) (zY rfl) rfl ?_
  refine zo (zf (zuy (zh (zg rfl rfl (zu rfl rfl zH6) (zg rfl rfl (zA rfl rfl rfl ty3) ?_)))))
  refine zg rfl rfl (zb3 (cs:=[_, _]) rfl zQH rfl ⟨_, _, rfl, (jF rfl), rfl⟩ (by rfl) (by simp [ofV])) ?_
  refine jb rfl (wJ rfl rfl zNn rfl rfl) ?_
  refine jb rfl (qG rfl rfl rfl rfl rfl rfl (zY rfl) zHQ (by rfl) (by exact zLb rfl)) ?_
  refine zo (zf (zuy (zuy (zh (zg rfl rfl (vP rfl rfl rfl zJf (by omega) (by omega)) (zg rfl rfl (zA rfl rfl rfl zHR) (zg rfl rfl (qh rfl rfl rfl Tryz.underlying27) (zg rfl rfl (zi rfl rfl) (zo (zf (zB ?_)))))))))))
  refine qx (zI4 (k:=1) (i:=0) (j:=1) rfl rfl rfl) ?_
  refine qy (ι:={ k:Nat // k <= npt m }) (fun k=>⟨Tryz.f22.ntmps, frL [(2, .pp 0 1 0 0), (6, .pub (.ptr [zO (los m), zO (his m)])), (7, .pp 1 1 0 0), (25, I (npt m:Int)), (26, I (k.1:Int))], [.row [[I 0, wZ]], .row [[I m.wide, .psl 2 k.1]], .row ((List.range k.1).map (drE m))]⟩) (fun k=>npt m - k.1) (⟨0, by omega⟩) ?_ ?_
  ·
   exact zt _ ⟨rfl, rfl, rfl, (congrArg (fun x:Nat=>I (x:Int)) (by simp [los])), rfl, trivial⟩ (rfl)
  ·
   rintro ⟨k, hk⟩
   dsimp only
   refine zuy (zh (zg rfl rfl (zUB rfl rfl rfl) (zo (zf (zuy (zx rfl (fun h1=>?_) (fun h1=>?_)))))))
   ·
    have hlt:k < npt m:=by simpa using h1
    have hl1:k < (los m).length:=by rw [zK2]; exact hlt
    have hl2:k < (his m).length:=by rw [zK3]; exact hlt
    have hb1:=zOa hm hl1
    have hb2:=zOR hm hl2
    refine zC (zf (zuy (zB (zuy (zh (zg rfl rfl (zi rfl rfl) (zg rfl rfl (zn rfl rfl) (zo (zf ?_)))))))))
    refine wR (fun m=>∃ rows, m[1]? = some (.row rows) /\ rows.length = 1) (fun k=>match k with | 0=>.stable | 2=>.stable | 3=>.stable | 4=>.stable | 5=>.stable | 6=>.stable | 7=>.stable | 8=>.stable | 9=>.stable | 10=>.stable | 11=>.stable | 12=>.stable | 13=>.stable | 15=>.writes | 16=>.stable | 17=>.writes | _=>.here) mixed (by kernel_rfl) rfl (by kernel_rfl) ⟨_, rfl, rfl⟩ ?_
    refine zuC rfl rfl (fun m hm=>qE rfl rfl hm.choose_spec.1 hm.choose_spec.2 zHx) (zX rfl rfl (zK rfl rfl rfl rfl rfl rfl zHR) (zuC rfl rfl (fun m hm=>vP rfl rfl rfl zJf (by omega) (by omega)) (zuC rfl rfl (fun m hm=>zA rfl rfl rfl zHR) (zuC rfl rfl (fun m hm=>zi rfl rfl) (zuC rfl rfl (fun m hm=>zVZ rfl rfl rfl zIz (by omega) (wu hl1) jC) (zuC rfl rfl (fun m hm=>zA rfl rfl rfl ty3) (zuC rfl rfl (fun m hm=>vP rfl rfl rfl zJf (by omega) (by omega)) (zuC rfl rfl (fun m hm=>zA rfl rfl rfl zHR) (zuC rfl rfl (fun m hm=>zi rfl rfl) (zuC rfl rfl (fun m hm=>zVZ rfl rfl rfl zIz (by omega) (wu hl2) jC) (zuC rfl rfl (fun m hm=>zA rfl rfl rfl ty3) ?_)))))))))))
    refine zuC rfl rfl (fun m hm=>zV rfl rfl rfl ⟨(by omega), (by omega)⟩) (zuC rfl rfl (fun m hm=>zcj rfl rfl rfl ⟨(by omega), (by omega), (by omega)⟩) ?_)
    refine zX rfl rfl (qg (size:=1) (rows:=[[_]]) rfl Tryz.underlying27 ti3 rfl (by decide) rfl (by decide) ⟨_, _, rfl, (jF rfl), rfl⟩ (by rfl) (by simp [ofV]) rfl (by simp)) ?_
    refine zaw rfl rfl (zj3 rfl rfl rfl (by simp) rfl zPI (zJs fun _=>rfl) (by simp) (by simp; omega) (by unfold maxLen; simp; omega)) ⟨_, rfl, rfl⟩ ?_
    refine zuC rfl rfl (fun m hm=>qE rfl rfl hm.choose_spec.1 hm.choose_spec.2 zHx) ?_
    refine zaw rfl rfl (jk rfl rfl rfl rfl rfl rfl (zbO rfl rfl (by simp)) zHR (by rfl) (by rfl)) ⟨_, rfl, rfl⟩ ?_
    refine wQ (zD (zf (zh (zg rfl rfl (zV rfl rfl rfl ⟨(by omega), (by omega)⟩) (zg rfl rfl (zi rfl rfl) (zo ?_))))))
    exact ⟨⟨k + 1, by omega⟩, by dsimp only; omega, zt _ ⟨rfl, rfl, rfl, rfl, rfl, trivial⟩ (congrArg (fun z=>[PO.row [[I 0, wZ]], PO.row [[I m.wide, .psl 2 (k + 1)]], PO.row z]) (zPn hl1 hl2))⟩
   ·
    have hge:npt m <= k:=by simpa using h1
    have hk2:k = npt m:=by omega
    subst hk2
    refine qp (zRQ (zRQ (qw (zf (zuy (zh (zg rfl rfl (zuz rfl rfl rfl rfl rfl (by exact zLb rfl) rfl zHQ) ?_)))))))
    refine jb rfl (qG rfl rfl rfl rfl rfl rfl (zkN rfl) zHQ (by rfl) (by exact zLb rfl)) ?_
    refine zg rfl rfl (zn rfl rfl) (zo (zf (zP ?_)))
    exact ⟨.inr rfl, ⟨_, rfl, ⟨_, _, rfl, (jK rfl rfl rfl rfl zHQ rfl ⟨_, _, rfl, AVle.refl _, ⟨_, _, rfl, ⟨((zJ4 m).map fun n=>[AV.v (.int .i64 n)]), by show some (PO.row _) = some (PO.row _); simp [zJ4, drE, Function.comp_def], by simp [zJ4], rfl⟩, rfl⟩⟩), ⟨_, _, rfl, AVle.refl _, rfl⟩⟩⟩⟩
end Go.Av
end
section
namespace Go.Av
open Go.Proofs
set_option maxRecDepth 100000
set_option maxHeartbeats 1000000
variable {G:Glob}
def zOJ (l:List (Int × Int)):AV:=.sl (l.map fun s=>[.v (.int .i64 s.1), .v (.int .i64 s.2)])
def bds (m:Mp):List (Int × Int):=(List.range (npt m)).map fun p:Nat=>(zIE m.wide m.slope (p:Int) m.st, zIJ m.wide m.slope (p:Int) m.st)
def bdE (m:Mp) (p:Nat):List EV:=[I (zIE m.wide m.slope (p:Int) m.st), I (zIJ m.wide m.slope (p:Int) m.st)]
theorem zRR (m:Mp):(bds m).length = npt m:=by simp [bds]
theorem zOp {m:Mp} {k:Nat} (h:k < (bds m).length):(bds m)[k] = (zIE m.wide m.slope (k:Int) m.st, zIJ m.wide m.slope (k:Int) m.st):=by simp [bds]
theorem zMN {l:List (Int × Int)} {k:Nat} (h:k < l.length):(l.map fun s=>[AV.v (.int .i64 s.1), AV.v (.int .i64 s.2)])[k]? = some [.v (.int .i64 l[k].1), .v (.int .i64 l[k].2)]:=by simp [h]
theorem zSo {l:List (Int × Int)}:∀ q ∈ l.map (fun s=>[AV.v (.int .i64 s.1), AV.v (.int .i64 s.2)]), q.length = 2:=fun q hq=>by
 obtain ⟨s, _, rfl⟩:=List.mem_map.1 hq; rfl
theorem zQA {m:Mp} (hm:okM m) {k:Nat} (h:k < (bds m).length):0 <= (bds m)[k].1 /\ (bds m)[k].1 <= 99999 /\ 0 <= (bds m)[k].2 /\ (bds m)[k].2 <= 99999:=by
 have h':=h
 rw [zRR] at h'
 have h1:=zOa hm (k:=k) (by rw [zK2]; exact h')
 have h2:=zOR hm (k:=k) (by rw [zK3]; exact h')
 rw [zMh] at h1; rw [zMv] at h2
 rw [zOp h]; exact ⟨h1.1, h1.2, h2.1, h2.2⟩
theorem zN9 {α:Type} {l:List α} {f:α -> List EV} (h:∀ a, (f a).length = 2):∀ r ∈ l.map f, r.length = 2:=fun r hr=>by
 obtain ⟨a, _, rfl⟩:=List.mem_map.1 hr; exact h a
theorem zNq {l r:List Int} {k:Nat} (h:l.take k = r.take k) (h1:k < l.length) (h2:k < r.length) (he:l[k] = r[k]):l.take (k + 1) = r.take (k + 1):=by
 rw [List.take_succ_eq_append_getElem h1, List.take_succ_eq_append_getElem h2, h, he]
theorem f53 (m:Mp) (hm:okM m):ACall Tryz.prog G 53 [.agg (eMp m)] (zOJ (bds m)):=by
 have hn:=zJF hm
 have ho:=hm
 obtain ⟨m1, m2, m3, m4, m5, m6, m7, m8⟩:=ho
 have har:=area m1 m2 m3 m4
 refine zS Tryz.func53 rfl (by kernel_rfl) rfl ?_
 refine zuy (zh (zg rfl rfl (jf rfl (zY rfl)) (zg rfl rfl (zn rfl rfl) (zo (zf (zuy (zh (zg rfl rfl (zn rfl rfl) (zo (zf (zuy ?_)))))))))))
 refine zuy (zh (zg rfl rfl (zn rfl rfl) (zo (zf (zB ?_)))))
 refine qx (kG 3 rfl) ?_
 refine qy (ι:={ k:Nat // k <= npt m }) (fun k=>⟨Tryz.f53.ntmps, frL [(1, .pub (.ptr (eMp m))), (3, .psl 0 k.1), (4, I (k.1:Int))], [.row ((List.range k.1).map (bdE m))]⟩) (fun k=>npt m - k.1) (⟨0, by omega⟩) ?_ ?_
 ·
  exact zt _ ⟨rfl, rfl, rfl, trivial⟩ (rfl)
 ·
  rintro ⟨k, hk⟩
  dsimp only
  refine zuy (zuy (zh (zg rfl rfl (zi rfl rfl) (zg rfl rfl (zu rfl rfl zH6) (zg rfl rfl (zA rfl rfl rfl ty3) (zg rfl rfl (zu rfl rfl zI9) (zg rfl rfl (zA rfl rfl rfl ty3) (zg rfl rfl (zcY rfl rfl rfl ⟨(by omega), (by omega)⟩) (zg rfl rfl (zUB rfl rfl rfl) (zo (zf (zx rfl (fun h0=>?_) (fun h0=>?_)))))))))))))
  ·
   have hlt:k < npt m:=by have:=of_decide_eq_true h0; omega
   refine zC (zf (zuy (zB (zh (zg rfl rfl (zI rfl rfl) (zg rfl rfl (zZ rfl rfl zMg (by exact zLb rfl)) (zg rfl rfl (zi rfl rfl) (zg rfl rfl (zy (av:=[_, _]) rfl ⟨rfl, rfl, trivial⟩ (f92 m _ hm (by omega))) ?_))))))))
   refine zg rfl rfl (qg (size:=2) (rows:=[[_, _]]) rfl Tryz.underlying79 zRn rfl (by decide) rfl (by decide) ⟨_, _, rfl, (zY rfl), rfl⟩ (by rfl) (by simp [ofV]) rfl (by simp)) ?_
   refine jb rfl (vS rfl rfl rfl rfl (by simp) rfl zRq (zN9 fun _=>rfl) (by simp) (by simp; omega) (by unfold maxLen; simp; omega)) ?_
   refine zg rfl rfl (qo rfl rfl) (zo (zD (zf (zh (zg rfl rfl (zi rfl rfl) (zg rfl rfl (zV rfl rfl rfl ⟨(by omega), (by omega)⟩) (zg rfl rfl (zn rfl rfl) (zo ?_))))))))
   exact ⟨⟨k + 1, by omega⟩, by dsimp only; omega, zt _ ⟨rfl, rfl, rfl, trivial⟩ (congrArg (fun z=>[PO.row z]) (zIh (bdE m) k))⟩
  ·
   have hge:npt m <= k:=by have:=of_decide_eq_false h0; omega
   have hk2:k = npt m:=by omega
   subst hk2
   refine qp (zRQ (zRQ (qw (zf (zuy (zh (zg rfl rfl (zI rfl rfl) (zg rfl rfl (qo rfl rfl) (zo (zf (zP ?_)))))))))))
   exact ⟨.inr rfl, ⟨((bds m).map fun s=>[AV.v (.int .i64 s.1), AV.v (.int .i64 s.2)]), by show some (PO.row _) = some (PO.row _); simp [bds, bdE, Function.comp_def], by simp [bds], rfl⟩⟩
theorem f66 (l r:List Int) (hl:l.length <= 1000) (hr:r.length <= 1000):ACall Tryz.prog G 66 [zO l, zO r] (.v (.bool (decide (l = r)))):=by
 refine zS Tryz.func66 rfl (by kernel_rfl) rfl ?_
 refine zuy (zh (zg rfl rfl (zn rfl rfl) (zo (zf (zuy (zuy (zh (zg rfl rfl (zq rfl rfl) (zg rfl rfl (qh rfl rfl rfl Tryz.underlying27) (zg rfl rfl (zq rfl rfl) (zg rfl rfl (qh rfl rfl rfl Tryz.underlying27) ?_)))))))))))
 refine zg rfl rfl (vg rfl rfl rfl) (zo (zf (zx rfl (fun h0=>?_) (fun h0=>?_))))
 ·
  have hne:l.length ≠ r.length:=by simp at h0; omega
  refine zuy (zh (zg rfl rfl (zn rfl rfl) (zo (zf (zP (zQ ?_))))))
  exact ⟨.inr rfl, AVle.of (by rw [decide_eq_false (fun e=>hne (by rw [e]))])⟩
 ·
  have he:l.length = r.length:=by simp at h0; omega
  refine zC (zf (zuy (zuy (zh (zg rfl rfl (zn rfl rfl) (zo (zf (zB ?_))))))))
  refine qy (ι:={ k:Nat // k <= l.length /\ l.take k = r.take k }) (fun k=>⟨Tryz.f66.ntmps, frL [(0, .pub (zO l)), (1, .pub (zO r)), (5, I (k.1:Int))], []⟩) (fun k=>l.length - k.1) (⟨0, by simp⟩) ?_ ?_
  ·
   exact zt _ ⟨rfl, rfl, rfl, trivial⟩ (rfl)
  ·
   rintro ⟨k, hk⟩
   dsimp only
   refine zuy (zuy (zh (zg rfl rfl (zi rfl rfl) (zg rfl rfl (zq rfl rfl) (zg rfl rfl (qh rfl rfl rfl Tryz.underlying27) (zg rfl rfl (zUB rfl rfl rfl) (zo (zf (zx rfl (fun h1=>?_) (fun h1=>?_))))))))))
   ·
    have hlt:k < l.length:=by simpa using h1
    have hlt2:k < r.length:=by omega
    refine zC (zf (zuy (zB (zuy ?_))))
    refine qY mixed (by kernel_rfl) rfl ?_
    refine zH rfl (zq rfl rfl) (zH rfl (zi rfl rfl) (zH rfl (zVZ rfl rfl rfl zIz (by omega) (wu hlt) jC) (zH rfl (zA rfl rfl rfl ty3) (zH rfl (zq rfl rfl) (zH rfl (zi rfl rfl) (zH rfl (zVZ rfl rfl rfl zIz (by omega) (wu hlt2) jC) (zH rfl (zA rfl rfl rfl ty3) (zH rfl (vg rfl rfl rfl) (jw (zf (zx rfl (fun h2=>?_) (fun h2=>?_))))))))))))
    ·
     have hd:l[k] ≠ r[k]:=by simpa using h2
     refine zuy (zh (zg rfl rfl (zn rfl rfl) (zo (zf (zP (qF (zQ (zQ (qF (zQ ?_))))))))))
     exact ⟨.inr rfl, AVle.of (by rw [decide_eq_false (fun e=>hd (by subst e; rfl))])⟩
    ·
     have hd:l[k] = r[k]:=by simpa using h2
     refine zC (zD (zf (zh (zg rfl rfl (zi rfl rfl) (zg rfl rfl (zV rfl rfl rfl ⟨(by omega), (by omega)⟩) (zg rfl rfl (zn rfl rfl) (zo ?_)))))))
     exact ⟨⟨k + 1, by omega, zNq hk.2 hlt hlt2 hd⟩, by dsimp only; omega, zt _ ⟨rfl, rfl, rfl, trivial⟩ (rfl)⟩
   ·
    have hge:l.length <= k:=by simpa using h1
    refine qp (zRQ (zRQ (qw (zf (zuy (zh (zg rfl rfl (zn rfl rfl) (zo (zf (zP ?_))))))))))
    exact ⟨.inr rfl, AVle.of (by have h:=hk.2; rw [List.take_of_length_le hge, List.take_of_length_le (by omega)] at h; rw [decide_eq_true h])⟩
def zRd (f g:Fld):Bool:=(f.wide == g.wide) && decide (f.vals = g.vals)
theorem f24 (f g:Fld) (hf:f.vals.length <= 1000) (hg:g.vals.length <= 1000):ACall Tryz.prog G 24 [.agg (zHF f), .agg (zHF g)] (.v (.bool (zRd f g))):=by
 refine zS Tryz.func24 rfl (by kernel_rfl) rfl ?_
 refine zuy (zh (zg rfl rfl (jf rfl (zY rfl)) (zg rfl rfl (jf rfl (zY rfl)) (zg rfl rfl (zn rfl rfl) (zo (zf (zuy (zh (zg rfl rfl (zu rfl rfl zHB) (zg rfl rfl (zA rfl rfl rfl ty3) (zg rfl rfl (zu rfl rfl zHB) ?_)))))))))))
 refine zg rfl rfl (zA rfl rfl rfl ty3) (zg rfl rfl (qJ rfl rfl rfl) (zg rfl rfl (zi rfl rfl) (zk rfl rfl rfl (fun hg=>zu rfl rfl zHx) (zk rfl rfl rfl (fun hg=>zA rfl (if_pos hg) rfl zHR) (zk rfl rfl rfl (fun hg=>zu rfl rfl zHx) (zk rfl rfl rfl (fun hg=>zA rfl (if_pos hg) rfl zHR) ?_))))))
 refine zk rfl rfl rfl (fun hg=>zy (av:=[_, _]) rfl ⟨((if_pos hg)), ((if_pos hg)), trivial⟩ (f66 f.vals g.vals (by omega) (by assumption))) ?_
 refine zg rfl rfl (qI rfl rfl rfl rfl) (zg rfl rfl (zn rfl rfl) (zo (zf (zP ?_))))
 exact ⟨.inr rfl, AVle.refl _⟩
def zMH (m:Mp) (a b:Stn):Bool:=decide (m.slope * dist m.wide a.pt b.pt < max (a.lo - b.hi) (b.lo - a.hi))
theorem zK5 (m:Mp) (a b:Stn):zMH m a b = apartB m a b:=by
 rw [Bool.eq_iff_iff]; simp only[zMH, apartB, Bool.or_eq_true, decide_eq_true_eq]; omega
theorem f102 (m:Mp) (hm:okM m) (i j:Nat) (hi:i < m.st.length) (hj:j < m.st.length):ACall Tryz.prog G 102 [.agg (eMp m), .v (.int .i64 (i:Int)), .v (.int .i64 (j:Int))] (.v (.bool (zIK m i j))):=by
 obtain ⟨a1, a2, a3, a4, a5, a6⟩:=hm.st _ (List.getElem_mem hi)
 obtain ⟨b1, b2, b3, b4, b5, b6⟩:=hm.st _ (List.getElem_mem hj)
 obtain ⟨m1, m2, m3, m4, m5, m6, m7, m8⟩:=hm
 have hd:=zJZ (N:=30) (w:=m.wide) (a:=m.st[i].pt) (b:=m.st[j].pt) m1 (by omega) (by omega)
 have hsd:=zMP m5 m6 hd.1 (by omega:dist m.wide m.st[i].pt m.st[j].pt <= 100)
 refine zS Tryz.func102 rfl (by kernel_rfl) rfl ?_
 refine zuy (zh (zg rfl rfl (jf rfl (zY rfl)) (zg rfl rfl (zn rfl rfl) (zo (zf (zuy ?_))))))
 refine qx vz ?_
 refine qx vz ?_
 refine wR (fun _=>True) (fun k=>match k with | 0=>.stable | 1=>.stable | 2=>.stable | 3=>.stable | 4=>.stable | 5=>.stable | 6=>.stable | 7=>.stable | 8=>.stable | 9=>.stable | 10=>.own 0 | 11=>.own 1 | 12=>.writes | 13=>.writes | _=>.here) mixed (by kernel_rfl) rfl (by kernel_rfl) trivial ?_
 refine zuC rfl rfl (fun m hm=>zu rfl rfl zHN) (zuC rfl rfl (fun m hm=>zA rfl rfl rfl zah) (zuC rfl rfl (fun m hm=>zi rfl rfl) (zuC rfl rfl (fun m hm=>zVZ rfl rfl rfl zjm (by omega) (zIR hi) zIs) (zuC rfl rfl (fun m hm=>zZ rfl rfl zIf (by exact zLb rfl)) (zuC rfl rfl (fun m hm=>zu rfl rfl zHN) (zuC rfl rfl (fun m hm=>zA rfl rfl rfl zah) (zuC rfl rfl (fun m hm=>zi rfl rfl) (zuC rfl rfl (fun m hm=>zVZ rfl rfl rfl zjm (by omega) (zIR hj) zIs) (zuC rfl rfl (fun m hm=>zZ rfl rfl zIf (by exact zLb rfl)) ?_)))))))))
 refine zgb rfl rfl (zb1 rfl zKF rfl rfl rfl) ?_
 refine zgb rfl rfl (zb1 rfl zKF rfl rfl rfl) ?_
 refine zaw rfl rfl (jk rfl rfl rfl rfl rfl rfl (zY rfl) zIf (by rfl) (by rfl)) trivial ?_
 refine zaw rfl rfl (jk rfl rfl rfl rfl rfl rfl (zY rfl) zIf (by rfl) (by rfl)) trivial ?_
 refine wQ (zf (zuy ?_))
 refine qY mixed (by kernel_rfl) rfl ?_
 refine zH rfl (qE rfl rfl rfl rfl zHJ) (zH rfl (qE rfl rfl rfl rfl zHY) (zH rfl (zK rfl rfl rfl rfl rfl rfl ty3) (zH rfl (qE rfl rfl rfl rfl zHJ) (zH rfl (qE rfl rfl rfl rfl zHX) (zH rfl (zK rfl rfl rfl rfl rfl rfl ty3) (zH rfl (ze5 rfl rfl rfl ⟨(by omega), (by omega)⟩) (zH rfl (qE rfl rfl rfl rfl zHJ) (zH rfl (qE rfl rfl rfl rfl zHY) (zH rfl (zK rfl rfl rfl rfl rfl rfl ty3) (zH rfl (qE rfl rfl rfl rfl zHJ) (zH rfl (qE rfl rfl rfl rfl zHX) ?_)))))))))))
 refine zH rfl (zK rfl rfl rfl rfl rfl rfl ty3) (zH rfl (ze5 rfl rfl rfl ⟨(by omega), (by omega)⟩) (zH rfl (zq3 rfl rfl rfl) (zH rfl (zu rfl rfl zI7) (zH rfl (zA rfl rfl rfl ty3) (zH rfl (zu rfl rfl zH6) (zH rfl (zA rfl rfl rfl ty3) (zH rfl (qE rfl rfl rfl rfl zIq) (zH rfl (zK rfl rfl rfl rfl rfl rfl ty3) (zH rfl (qE rfl rfl rfl rfl zIq) (zH rfl (zK rfl rfl rfl rfl rfl rfl ty3) (zH rfl (zy (av:=[_, _, _]) rfl ⟨rfl, rfl, rfl, trivial⟩ (f55 _ _ _ (by omega) (by omega) (by omega))) ?_)))))))))))
 refine zH rfl (zcY rfl rfl rfl ⟨(by omega), (by omega)⟩) (zH rfl (qR rfl rfl rfl) (zH rfl (zn rfl rfl) (jw (zf (zP ?_)))))
 exact ⟨.inr rfl, AVle.of (by rw [zKf hi hj, ← zK5]; rfl)⟩
end Go.Av
end
