import Derived.Test.YtdjncbjfejdamaaGreatDoorChO
import Derived.Test.YtdjncbjfejdamaaGreatDoorChF
import Derived.Test.YtdjncbjfejdamaaGreatDoorChLD
import Derived.Test.YtdjncbjfejdamaaGreatDoorPlatW
import Derived.Test.YtdjncbjfejdamaaGreatDoorChN
set_option linter.unusedVariables false
set_option linter.unusedSimpArgs false
section
namespace Go.Av
open Go.Proofs
set_option maxRecDepth 100000
set_option maxHeartbeats 1000000
variable {G:Glob}
def zX9 (w a b:Int):Bool:=(a != b) && (decide (zSx (a / w) (b / w) <= 1) && decide (zSx (a % w) (b % w) <= 1))
def zW4 (f:Fld) (p:Int):Bool:=(p / f.wide == 0) || ((p / f.wide == ((f.vals.length:Int) / f.wide) - 1) || ((p % f.wide == 0) || (p % f.wide == f.wide - 1)))
def hmE (m:Mp) (p:Nat):List EV:=[I (zIJ m.wide m.slope (p:Int) m.st)]
def lmE (m:Mp) (p:Nat):List EV:=[I (zIE m.wide m.slope (p:Int) m.st)]
theorem zZL {m:Mp} {k:Nat} (h:k < (bds m).length):(List.range k).map (hmE m) ++ [[I (bds m)[k].2]] = (List.range (k + 1)).map (hmE m):=by
 rw [zOp h]; exact zIh (hmE m) k
theorem zZN {m:Mp} {k:Nat} (h:k < (bds m).length):(List.range k).map (lmE m) ++ [[I (bds m)[k].1]] = (List.range (k + 1)).map (lmE m):=by
 rw [zOp h]; exact zIh (lmE m) k
theorem f97 (w a b:Int) (hw:1 <= w /\ w <= 1000) (ha:0 <= a /\ a <= 100000) (hb:0 <= b /\ b <= 100000):ACall Tryz.prog G 97 [.v (.int .i64 w), .v (.int .i64 a), .v (.int .i64 b)] (.v (.bool (zX9 w a b))):=by
 have h1:=dm hw.1 ha
 have h2:=dm hw.1 hb
 have h3:=zI3 (N:=100000) ⟨h1.1, h1.2.1⟩ ⟨h2.1, h2.2.1⟩
 have h4:=zI3 (N:=w) ⟨h1.2.2.1, by omega⟩ ⟨h2.2.2.1, by omega⟩
 refine zS Tryz.func97 rfl (by kernel_rfl) rfl ?_
 refine zuy (zh ?_)
 refine zg rfl rfl (zn rfl rfl) ?_
 refine zo (zf (zuy ?_))
 refine qY mixed (by kernel_rfl) rfl ?_
 refine zH rfl (zi rfl rfl) ?_
 refine zH rfl (zi rfl rfl) ?_
 refine zH rfl (vg rfl rfl rfl) ?_
 refine zH rfl (zi rfl rfl) ?_
 refine jm rfl (fun hg=>zi rfl rfl) ?_
 refine jm rfl (fun hg=>zi rfl rfl) ?_
 refine jm rfl (fun hg=>zcj rfl (if_pos hg) (if_pos hg) ⟨(by first | omega | (simp at hg; omega)), (by first | omega | (simp at hg; omega)), (by first | omega | (simp at hg; omega))⟩) ?_
 refine jm rfl (fun hg=>zi rfl rfl) ?_
 refine jm rfl (fun hg=>zi rfl rfl) ?_
 refine jm rfl (fun hg=>zcj rfl (if_pos hg) (if_pos hg) ⟨(by first | omega | (simp at hg; omega)), (by first | omega | (simp at hg; omega)), (by first | omega | (simp at hg; omega))⟩) ?_
 refine jm rfl (fun hg=>zy (av:=[_, _]) rfl ⟨(by exact if_pos hg), (by exact if_pos hg), trivial⟩ (f95 _ _ (by omega) (by omega))) ?_
 refine jm rfl (fun hg=>zaq rfl (if_pos hg) rfl) ?_
 refine zH rfl (qI rfl rfl rfl rfl) ?_
 refine zH rfl (zi rfl rfl) ?_
 refine jm rfl (fun hg=>zi rfl rfl) ?_
 refine jm rfl (fun hg=>zi rfl rfl) ?_
 refine jm rfl (fun hg=>yA rfl (if_pos hg) (if_pos hg) ⟨(by first | omega | (simp at hg; omega)), (by first | omega | (simp at hg; omega))⟩) ?_
 refine jm rfl (fun hg=>zi rfl rfl) ?_
 refine jm rfl (fun hg=>zi rfl rfl) ?_
 refine jm rfl (fun hg=>yA rfl (if_pos hg) (if_pos hg) ⟨(by first | omega | (simp at hg; omega)), (by first | omega | (simp at hg; omega))⟩) ?_
 refine jm rfl (fun hg=>zy (av:=[_, _]) rfl ⟨(by exact if_pos hg), (by exact if_pos hg), trivial⟩ (f95 _ _ (by omega) (by omega))) ?_
 refine jm rfl (fun hg=>zaq rfl (if_pos hg) rfl) ?_
 refine zH rfl (qI rfl rfl rfl rfl) ?_
 refine zH rfl (zn rfl rfl) ?_
 refine jw (zf (zP ?_))
 exact ⟨.inr rfl, AVle.of (by unfold zX9; simp [Bool.and_assoc])⟩
theorem f98 (f:Fld) (p:Int) (hw:1 <= f.wide /\ f.wide <= 1000) (hp:0 <= p /\ p <= 100000) (hl:f.vals.length <= 1000):ACall Tryz.prog G 98 [.agg (zHF f), .v (.int .i64 p)] (.v (.bool (zW4 f p))):=by
 have h1:=dm hw.1 hp
 have h2:=dm hw.1 (show 0 <= (f.vals.length:Int) /\ (f.vals.length:Int) <= 100000 by omega)
 refine zS Tryz.func98 rfl (by kernel_rfl) rfl ?_
 refine zuy (zh ?_)
 refine zg rfl rfl (jf rfl (zY rfl)) ?_
 refine zg rfl rfl (zn rfl rfl) ?_
 refine zo (zf (zuy (zh ?_)))
 refine zg rfl rfl (zu rfl rfl zHx) ?_
 refine zg rfl rfl (zA rfl rfl rfl zHR) ?_
 refine zg rfl rfl (zuB rfl rfl Tryz.underlying27) ?_
 refine zg rfl rfl (zu rfl rfl zHB) ?_
 refine zg rfl rfl (zA rfl rfl rfl ty3) ?_
 refine zg rfl rfl (zcj rfl rfl rfl ⟨(by omega), (by omega), (by omega)⟩) ?_
 refine zg rfl rfl (zn rfl rfl) ?_
 refine zo (zf (zuy ?_))
 refine qY mixed (by kernel_rfl) rfl ?_
 refine zH rfl (zi rfl rfl) ?_
 refine zH rfl (zu rfl rfl zHB) ?_
 refine zH rfl (zA rfl rfl rfl ty3) ?_
 refine zH rfl (zcj rfl rfl rfl ⟨(by omega), (by omega), (by omega)⟩) ?_
 refine zH rfl (qJ rfl rfl rfl) ?_
 refine zH rfl (zi rfl rfl) ?_
 refine jm rfl (fun hg=>zi rfl rfl) ?_
 refine jm rfl (fun hg=>zu rfl rfl zHB) ?_
 refine jm rfl (fun hg=>zA rfl (if_pos hg) rfl ty3) ?_
 refine jm rfl (fun hg=>zcj rfl (if_pos hg) (if_pos hg) ⟨(by first | omega | (simp at hg; omega)), (by first | omega | (simp at hg; omega)), (by first | omega | (simp at hg; omega))⟩) ?_
 refine jm rfl (fun hg=>zi rfl rfl) ?_
 refine jm rfl (fun hg=>ze5 rfl (if_pos hg) rfl ⟨(by first | omega | (simp at hg; omega)), (by first | omega | (simp at hg; omega))⟩) ?_
 refine jm rfl (fun hg=>qJ rfl (if_pos hg) (if_pos hg)) ?_
 refine zH rfl (qU rfl rfl rfl rfl) ?_
 refine zH rfl (zi rfl rfl) ?_
 refine jm rfl (fun hg=>zi rfl rfl) ?_
 refine jm rfl (fun hg=>zu rfl rfl zHB) ?_
 refine jm rfl (fun hg=>zA rfl (if_pos hg) rfl ty3) ?_
 refine jm rfl (fun hg=>yA rfl (if_pos hg) (if_pos hg) ⟨(by first | omega | (simp at hg; omega)), (by first | omega | (simp at hg; omega))⟩) ?_
 refine jm rfl (fun hg=>qJ rfl (if_pos hg) rfl) ?_
 refine zH rfl (qU rfl rfl rfl rfl) ?_
 refine zH rfl (zi rfl rfl) ?_
 refine jm rfl (fun hg=>zi rfl rfl) ?_
 refine jm rfl (fun hg=>zu rfl rfl zHB) ?_
 refine jm rfl (fun hg=>zA rfl (if_pos hg) rfl ty3) ?_
 refine jm rfl (fun hg=>yA rfl (if_pos hg) (if_pos hg) ⟨(by first | omega | (simp at hg; omega)), (by first | omega | (simp at hg; omega))⟩) ?_
 refine jm rfl (fun hg=>zu rfl rfl zHB) ?_
 refine jm rfl (fun hg=>zA rfl (if_pos hg) rfl ty3) ?_
 refine jm rfl (fun hg=>ze5 rfl (if_pos hg) rfl ⟨(by first | omega | (simp at hg; omega)), (by first | omega | (simp at hg; omega))⟩) ?_
 refine jm rfl (fun hg=>qJ rfl (if_pos hg) (if_pos hg)) ?_
 refine zH rfl (qU rfl rfl rfl rfl) ?_
 refine zH rfl (zn rfl rfl) ?_
 refine jw (zf (zP ?_))
 exact ⟨.inr rfl, AVle.of (by unfold zW4; simp [Bool.or_assoc])⟩
theorem f93 (m:Mp) (hm:okM m):ACall Tryz.prog G 93 [.agg (eMp m)] (.agg (zHF (fnF m (hiG m)))):=by
 have hn:=zJF hm
 have ho:=hm
 obtain ⟨m1, m2, m3, m4, m5, m6, m7, m8⟩:=ho
 have har:=area m1 m2 m3 m4
 refine zS Tryz.func93 rfl (by kernel_rfl) rfl ?_
 refine zuy (zh ?_)
 refine zg rfl rfl (jf rfl (zY rfl)) ?_
 refine jb rfl (wJ rfl rfl zNn rfl rfl) ?_
 refine zo (zf (zuy (zh ?_)))
 refine zg rfl rfl (zZ rfl rfl zMg (by exact zLb rfl)) ?_
 refine zg rfl rfl (zy (av:=[_]) rfl ⟨rfl, trivial⟩ (f53 m hm)) ?_
 refine zg rfl rfl (zW rfl rfl) ?_
 refine zo (zf (zuy (zh ?_)))
 refine zg rfl rfl (zu rfl rfl zH6) ?_
 refine zg rfl rfl (zA rfl rfl rfl ty3) ?_
 refine zg rfl rfl (zb3 (cs:=[_, _]) rfl zQH rfl ⟨_, _, rfl, (jF rfl), rfl⟩ (by rfl) (by simp [ofV])) ?_
 refine jb rfl (wJ rfl rfl zNn rfl rfl) ?_
 refine jb rfl (qG rfl rfl rfl rfl rfl rfl (zY rfl) zHQ (by rfl) (by exact zLb rfl)) ?_
 refine zo (zf (zuy (zuy (zh ?_))))
 refine zg rfl rfl (zn rfl rfl) ?_
 refine zo (zf (zB ?_))
 refine qx (zI4 (k:=1) (i:=0) (j:=1) rfl rfl rfl) ?_
 refine qy (ι:={ k:Nat // k <= npt m }) (fun k=>⟨Tryz.f93.ntmps, frL [(2, .pp 0 1 0 0), (3, .pub (zOJ (bds m))), (4, .pp 1 1 0 0), (5, I (k.1:Int))], [.row [[I 0, wZ]], .row [[I m.wide, .psl 2 k.1]], .row ((List.range k.1).map (hmE m))]⟩) (fun k=>npt m - k.1) (⟨0, by omega⟩) ?_ ?_
 ·
  exact zt _ ⟨rfl, rfl, rfl, rfl, trivial⟩ (rfl)
 ·
  rintro ⟨k, hk⟩
  dsimp only
  refine zuy (zuy (zh ?_))
  refine zg rfl rfl (zi rfl rfl) ?_
  refine zg rfl rfl (zq rfl rfl) ?_
  refine zg rfl rfl (qh rfl rfl rfl Tryz.underlying79) ?_
  refine zg rfl rfl (zUB rfl rfl rfl) ?_
  refine zo (zf (zx rfl (fun h0=>?_) (fun h0=>?_)))
  ·
   have hlt:k < (bds m).length:=by simpa using h0
   have hlt2:k < npt m:=by rw [zRR] at hlt; exact hlt
   have hb:=zQA hm hlt
   refine zC (zf (zuy (zB ?_)))
   refine wR (fun m=>∃ rows, m[1]? = some (.row rows) /\ rows.length = 1) (fun k=>match k with | 0=>.stable | 2=>.stable | 3=>.stable | 4=>.stable | 5=>.stable | 6=>.stable | 8=>.writes | 9=>.stable | 10=>.writes | _=>.here) mixed (by kernel_rfl) rfl (by kernel_rfl) ⟨_, rfl, rfl⟩ ?_
   refine zuC rfl rfl (fun m hm=>qE rfl rfl hm.choose_spec.1 hm.choose_spec.2 zHx) ?_
   refine zX rfl rfl (zK rfl rfl rfl rfl rfl rfl zHR) ?_
   refine zuC rfl rfl (fun m hm=>zq rfl rfl) ?_
   refine zuC rfl rfl (fun m hm=>zi rfl rfl) ?_
   refine zuC rfl rfl (fun m hm=>zVZ rfl rfl rfl zPO (by omega) (zMN hlt) zSo) ?_
   refine zuC rfl rfl (fun m hm=>zu rfl rfl zHX) ?_
   refine zuC rfl rfl (fun m hm=>zA rfl rfl rfl ty3) ?_
   refine zX rfl rfl (qg (size:=1) (rows:=[[_]]) rfl Tryz.underlying27 ti3 rfl (by decide) rfl (by decide) ⟨_, _, rfl, (jF rfl), rfl⟩ (by rfl) (by simp [ofV]) rfl (by simp)) ?_
   refine zaw rfl rfl (zj3 rfl rfl rfl (by simp) rfl zPI (zJs fun _=>rfl) (by simp) (by simp; omega) (by unfold maxLen; simp; omega)) ⟨_, rfl, rfl⟩ ?_
   refine zuC rfl rfl (fun m hm=>qE rfl rfl hm.choose_spec.1 hm.choose_spec.2 zHx) ?_
   refine zaw rfl rfl (jk rfl rfl rfl rfl rfl rfl (zbO rfl rfl (by simp)) zHR (by rfl) (by rfl)) ⟨_, rfl, rfl⟩ ?_
   refine wQ (zD (zf (zh ?_)))
   refine zg rfl rfl (zi rfl rfl) ?_
   refine zg rfl rfl (zV rfl rfl rfl ⟨(by omega), (by omega)⟩) ?_
   refine zg rfl rfl (zn rfl rfl) ?_
   refine zo ?_
   exact ⟨⟨k + 1, by omega⟩, by dsimp only; omega, zt _ ⟨rfl, rfl, rfl, rfl, trivial⟩ (congrArg (fun z=>[PO.row [[I 0, wZ]], PO.row [[I m.wide, .psl 2 (k + 1)]], PO.row z]) (zZL hlt))⟩
  ·
   have hge:(bds m).length <= k:=by simpa using h0
   have hk2:k = npt m:=by rw [zRR] at hge; omega
   subst hk2
   refine qp (zRQ (zRQ (qw (zf (zuy (zh ?_))))))
   refine zg rfl rfl (zuz rfl rfl rfl rfl rfl (by exact zLb rfl) rfl zHQ) ?_
   refine jb rfl (qG rfl rfl rfl rfl rfl rfl (zkN rfl) zHQ (by rfl) (by exact zLb rfl)) ?_
   refine zo (zf (zP ?_))
   exact ⟨.inr rfl, zhe rfl (jK rfl rfl rfl rfl zHQ rfl ⟨_, _, rfl, AVle.refl _, ⟨_, _, rfl, ⟨((fnF m (hiG m)).vals.map fun n=>[AV.v (.int .i64 n)]), by show some (PO.row _) = some (PO.row _); simp [fnF, hiG, hmE, Function.comp_def], by simp [fnF, hiG], rfl⟩, rfl⟩⟩)⟩
theorem f94 (m:Mp) (hm:okM m):ACall Tryz.prog G 94 [.agg (eMp m)] (.agg (zHF (fnF m (loG m)))):=by
 have hn:=zJF hm
 have ho:=hm
 obtain ⟨m1, m2, m3, m4, m5, m6, m7, m8⟩:=ho
 have har:=area m1 m2 m3 m4
 refine zS Tryz.func94 rfl (by kernel_rfl) rfl ?_
 refine zuy (zh ?_)
 refine zg rfl rfl (jf rfl (zY rfl)) ?_
 refine jb rfl (wJ rfl rfl zNn rfl rfl) ?_
 refine zo (zf (zuy (zh ?_)))
 refine zg rfl rfl (zZ rfl rfl zMg (by exact zLb rfl)) ?_
 refine zg rfl rfl (zy (av:=[_]) rfl ⟨rfl, trivial⟩ (f53 m hm)) ?_
 refine zg rfl rfl (zW rfl rfl) ?_
 refine zo (zf (zuy (zh ?_)))
 refine zg rfl rfl (zu rfl rfl zH6) ?_
 refine zg rfl rfl (zA rfl rfl rfl ty3) ?_
 refine zg rfl rfl (zb3 (cs:=[_, _]) rfl zQH rfl ⟨_, _, rfl, (jF rfl), rfl⟩ (by rfl) (by simp [ofV])) ?_
 refine jb rfl (wJ rfl rfl zNn rfl rfl) ?_
 refine jb rfl (qG rfl rfl rfl rfl rfl rfl (zY rfl) zHQ (by rfl) (by exact zLb rfl)) ?_
 refine zo (zf (zuy (zuy (zh ?_))))
 refine zg rfl rfl (zn rfl rfl) ?_
 refine zo (zf (zB ?_))
 refine qx (zI4 (k:=1) (i:=0) (j:=1) rfl rfl rfl) ?_
 refine qy (ι:={ k:Nat // k <= npt m }) (fun k=>⟨Tryz.f94.ntmps, frL [(2, .pp 0 1 0 0), (3, .pub (zOJ (bds m))), (4, .pp 1 1 0 0), (5, I (k.1:Int))], [.row [[I 0, wZ]], .row [[I m.wide, .psl 2 k.1]], .row ((List.range k.1).map (lmE m))]⟩) (fun k=>npt m - k.1) (⟨0, by omega⟩) ?_ ?_
 ·
  exact zt _ ⟨rfl, rfl, rfl, rfl, trivial⟩ (rfl)
 ·
  rintro ⟨k, hk⟩
  dsimp only
  refine zuy (zuy (zh ?_))
  refine zg rfl rfl (zi rfl rfl) ?_
  refine zg rfl rfl (zq rfl rfl) ?_
  refine zg rfl rfl (qh rfl rfl rfl Tryz.underlying79) ?_
  refine zg rfl rfl (zUB rfl rfl rfl) ?_
  refine zo (zf (zx rfl (fun h0=>?_) (fun h0=>?_)))
  ·
   have hlt:k < (bds m).length:=by simpa using h0
   have hlt2:k < npt m:=by rw [zRR] at hlt; exact hlt
   have hb:=zQA hm hlt
   refine zC (zf (zuy (zB ?_)))
   refine wR (fun m=>∃ rows, m[1]? = some (.row rows) /\ rows.length = 1) (fun k=>match k with | 0=>.stable | 2=>.stable | 3=>.stable | 4=>.stable | 5=>.stable | 6=>.stable | 8=>.writes | 9=>.stable | 10=>.writes | _=>.here) mixed (by kernel_rfl) rfl (by kernel_rfl) ⟨_, rfl, rfl⟩ ?_
   refine zuC rfl rfl (fun m hm=>qE rfl rfl hm.choose_spec.1 hm.choose_spec.2 zHx) ?_
   refine zX rfl rfl (zK rfl rfl rfl rfl rfl rfl zHR) ?_
   refine zuC rfl rfl (fun m hm=>zq rfl rfl) ?_
   refine zuC rfl rfl (fun m hm=>zi rfl rfl) ?_
   refine zuC rfl rfl (fun m hm=>zVZ rfl rfl rfl zPO (by omega) (zMN hlt) zSo) ?_
   refine zuC rfl rfl (fun m hm=>zu rfl rfl zHY) ?_
   refine zuC rfl rfl (fun m hm=>zA rfl rfl rfl ty3) ?_
   refine zX rfl rfl (qg (size:=1) (rows:=[[_]]) rfl Tryz.underlying27 ti3 rfl (by decide) rfl (by decide) ⟨_, _, rfl, (jF rfl), rfl⟩ (by rfl) (by simp [ofV]) rfl (by simp)) ?_
   refine zaw rfl rfl (zj3 rfl rfl rfl (by simp) rfl zPI (zJs fun _=>rfl) (by simp) (by simp; omega) (by unfold maxLen; simp; omega)) ⟨_, rfl, rfl⟩ ?_
   refine zuC rfl rfl (fun m hm=>qE rfl rfl hm.choose_spec.1 hm.choose_spec.2 zHx) ?_
   refine zaw rfl rfl (jk rfl rfl rfl rfl rfl rfl (zbO rfl rfl (by simp)) zHR (by rfl) (by rfl)) ⟨_, rfl, rfl⟩ ?_
   refine wQ (zD (zf (zh ?_)))
   refine zg rfl rfl (zi rfl rfl) ?_
   refine zg rfl rfl (zV rfl rfl rfl ⟨(by omega), (by omega)⟩) ?_
   refine zg rfl rfl (zn rfl rfl) ?_
   refine zo ?_
   exact ⟨⟨k + 1, by omega⟩, by dsimp only; omega, zt _ ⟨rfl, rfl, rfl, rfl, trivial⟩ (congrArg (fun z=>[PO.row [[I 0, wZ]], PO.row [[I m.wide, .psl 2 (k + 1)]], PO.row z]) (zZN hlt))⟩
  ·
   have hge:(bds m).length <= k:=by simpa using h0
   have hk2:k = npt m:=by rw [zRR] at hge; omega
   subst hk2
   refine qp (zRQ (zRQ (qw (zf (zuy (zh ?_))))))
   refine zg rfl rfl (zuz rfl rfl rfl rfl rfl (by exact zLb rfl) rfl zHQ) ?_
   refine jb rfl (qG rfl rfl rfl rfl rfl rfl (zkN rfl) zHQ (by rfl) (by exact zLb rfl)) ?_
   refine zo (zf (zP ?_))
   exact ⟨.inr rfl, zhe rfl (jK rfl rfl rfl rfl zHQ rfl ⟨_, _, rfl, AVle.refl _, ⟨_, _, rfl, ⟨((fnF m (loG m)).vals.map fun n=>[AV.v (.int .i64 n)]), by show some (PO.row _) = some (PO.row _); simp [fnF, loG, lmE, Function.comp_def], by simp [fnF, loG], rfl⟩, rfl⟩⟩)⟩
end Go.Av
end
section
namespace Go.Av
open Go.Proofs
set_option maxRecDepth 100000
set_option maxHeartbeats 1000000
variable {G:Glob}
theorem ti4:Tryz.prog.info? 4 = some Tryz.t4:=by kernel_rfl
def zWh (b:Bool):List EV:=[B b]
theorem zXf {l:List Bool}:∀ q ∈ l.map zWh, q.length = 1:=fun q h=>by obtain ⟨c, _, rfl⟩:=List.mem_map.1 h; rfl
theorem zXS {l:List Bool} {k:Nat} (h:k < l.length):(l.map zWh)[k]? = some (zWh (l.getD k false)):=by simp [h, List.getD]
def zWS (f:Fld) (lvl:Int) (hi:Bool) (p q:Nat):Bool:=(hiF f lvl q == hi) && ((dist f.wide (p:Int) (q:Int) == 1) || (!hi && zX9 f.wide (p:Int) (q:Int)))
theorem zXe:zau Tryz.prog 144 1 = true:=by kernel_rfl
section
variable (f:Fld) (lvl:Int) (hi:Bool)
def stQ (p q:Nat) (m:List Bool):List Bool:=bif m.getD p false && zWS f lvl hi p q then m.set q true else m
def foQ (p:Nat) (m:List Bool) (k:Nat):List Bool:=(List.range k).foldl (fun m q=>stQ f lvl hi p q m) m
def foP (m:List Bool) (k:Nat):List Bool:=(List.range k).foldl (fun m p=>foQ f lvl hi p m f.vals.length) m
def foA (m:List Bool) (k:Nat):List Bool:=(List.range k).foldl (fun m _=>foP f lvl hi m f.vals.length) m
def zWs (p:Nat):List Bool:=foA f lvl hi ((List.replicate f.vals.length false).set p true) f.vals.length
def zV2 (p:Nat):Bool:=(hiF f lvl p == hi) && (List.range f.vals.length).all fun q=>!((zWs f lvl hi p).getD q false && zW4 f (q:Int))
end
theorem zWe {f:Fld} {lvl:Int} {hi:Bool} {p:Nat} {m:List Bool} {k:Nat}:foQ f lvl hi p m (k + 1) = stQ f lvl hi p k (foQ f lvl hi p m k):=by unfold foQ; rw [List.range_succ, List.foldl_append]; rfl
theorem foP_succ {f:Fld} {lvl:Int} {hi:Bool} {m:List Bool} {k:Nat}:foP f lvl hi m (k + 1) = foQ f lvl hi k (foP f lvl hi m k) f.vals.length:=by unfold foP; rw [List.range_succ, List.foldl_append]; rfl
theorem foA_succ {f:Fld} {lvl:Int} {hi:Bool} {m:List Bool} {k:Nat}:foA f lvl hi m (k + 1) = foP f lvl hi (foA f lvl hi m k) f.vals.length:=by unfold foA; rw [List.range_succ, List.foldl_append]; rfl
theorem zYH {f:Fld} {lvl:Int} {hi:Bool} {p q:Nat} {m:List Bool}:(stQ f lvl hi p q m).length = m.length:=by unfold stQ; cases (m.getD p false && zWS f lvl hi p q) <;> simp
theorem zWi {f:Fld} {lvl:Int} {hi:Bool} {p:Nat} {m:List Bool}:∀ k, (foQ f lvl hi p m k).length = m.length
 | 0=>rfl
 | k + 1=>by rw [zWe, zYH, zWi k]
theorem zWd {f:Fld} {lvl:Int} {hi:Bool} {m:List Bool}:∀ k, (foP f lvl hi m k).length = m.length
 | 0=>rfl
 | k + 1=>by rw [foP_succ, zWi, zWd k]
theorem zWp {f:Fld} {lvl:Int} {hi:Bool} {m:List Bool}:∀ k, (foA f lvl hi m k).length = m.length
 | 0=>rfl
 | k + 1=>by rw [foA_succ, zWd, zWp k]
theorem zYe {l:List Bool} {k:Nat}:(l.map zWh).set k [B true] = (l.set k true).map zWh:=by rw [List.map_set]; rfl
theorem f46 (f:Fld) (p:Nat) (lvl:Int) (hi:Bool) (hf:zHz f = true) (hp:p < f.vals.length) (hl:f.vals.length <= 1000):ACall Tryz.prog G 46 [.agg (zHF f), ei (p:Int), ei lvl, .v (.bool hi)] (.v (.bool (zV2 f lvl hi p))):=by
 obtain ⟨zw, w1, w6, r1, r5, hlen⟩:=zNh hf
 have hML:((List.replicate f.vals.length false).set p true).length = f.vals.length:=by simp
 have hAL:=fun k=>(zWp (f:=f) (lvl:=lvl) (hi:=hi) (m:=((List.replicate f.vals.length false).set p true)) k).trans hML
 have hPL:=fun k i=>(zWd (f:=f) (lvl:=lvl) (hi:=hi) (m:=(foA f lvl hi ((List.replicate f.vals.length false).set p true) k)) i).trans (hAL k)
 have hQL:=fun k a j=>(zWi (f:=f) (lvl:=lvl) (hi:=hi) (p:=a) (m:=(foP f lvl hi (foA f lvl hi ((List.replicate f.vals.length false).set p true) k) a)) j).trans (hPL k a)
 refine zS Tryz.func46 rfl (by kernel_rfl) rfl ?_
 refine zuy (zh ?_)
 refine zg rfl rfl (jf rfl (zY rfl)) ?_
 refine zg rfl rfl (zn rfl rfl) ?_
 refine zo (zf (zuy (zuy (zh ?_))))
 refine zg rfl rfl (zZ rfl rfl zHQ (by exact zLb rfl)) ?_
 refine zg rfl rfl (zi rfl rfl) ?_
 refine zg rfl rfl (zi rfl rfl) ?_
 refine zg rfl rfl (zy (av:=[_, _, _]) rfl ⟨rfl, rfl, rfl, trivial⟩ (f96 f lvl p hp hl)) ?_
 refine zg rfl rfl (zi rfl rfl) ?_
 refine zg rfl rfl (zwJ rfl rfl rfl Tryz.underlying4) ?_
 refine zo (zf (zx rfl (fun h0=>?_) (fun h0=>?_)))
 ·
  have hz:zV2 f lvl hi p = false:=by unfold zV2; rw [show (hiF f lvl p == hi) = false by simpa using h0]; rfl
  refine zuy (zh ?_)
  refine zg rfl rfl (zn rfl rfl) ?_
  refine zo (zf (zP (zQ ?_)))
  exact ⟨.inr rfl, AVle.of (by rw [hz])⟩
 ·
  have hz:(hiF f lvl p == hi) = true:=by simpa using h0
  refine zC (zf (zuy (zh ?_)))
  refine zg rfl rfl (zu rfl rfl zHx) ?_
  refine zg rfl rfl (zA rfl rfl rfl zHR) ?_
  refine zg rfl rfl (zuB rfl rfl Tryz.underlying27) ?_
  refine jb rfl (zrx rfl rfl rfl Tryz.underlying144 ti4 rfl rfl rfl (zs:=[.bool false]) rfl rfl rfl (by decide) (by omega) (by omega) (by decide)) ?_
  refine zg rfl rfl (qo rfl rfl) ?_
  refine zo (zf (zuy ?_))
  refine qx (zt (mem':=[.row ((List.replicate f.vals.length false).map zWh)]) [(1, I (p:Int)), (2, I lvl), (3, B hi), (4, .pub (.ptr (zHF f))), (9, .psl 0 f.vals.length)] ?_ ?_) ?_
  ·
   exact ⟨rfl, rfl, rfl, rfl, (congrArg (EV.psl 0) (Int.toNat_natCast _)), trivial⟩
  ·
   exact (by rw [List.map_replicate]; rfl)
  refine zh ?_
  refine zg rfl rfl (zI rfl rfl) ?_
  refine zg rfl rfl (zi rfl rfl) ?_
  refine zg rfl rfl (qc rfl rfl rfl rfl (by first | (rw [List.length_map]; exact hML0) | simp) zXe (by omega) (by omega) zXf) ?_
  refine jb rfl (qG (r:=zWh ((List.replicate f.vals.length false).getD p false)) rfl rfl rfl rfl (by rw [List.length_map]; exact List.length_replicate) (zXS (by rw [List.length_replicate]; exact hp)) (jF rfl) ty4 (by rfl) (by exact zLb rfl)) ?_
  refine zo (zf (zuy (zuy (zh ?_))))
  refine zg rfl rfl (zn rfl rfl) ?_
  refine zo (zf (zB ?_))
  refine qy (ι:={ k:Nat // k <= f.vals.length }) (fun k=>⟨Tryz.f46.ntmps, frL [(2, I lvl), (3, B hi), (4, .pub (.ptr (zHF f))), (9, .psl 0 f.vals.length), (10, I (k.1:Int))], [.row ((foA f lvl hi ((List.replicate f.vals.length false).set p true) k.1).map zWh)]⟩) (fun k=>f.vals.length - k.1) (⟨0, by omega⟩) ?_ ?_
  ·
   exact zt _ ⟨rfl, rfl, rfl, rfl, rfl, trivial⟩ ((congrArg (fun z=>[PO.row z]) zYe))
  ·
   rintro ⟨k, hk⟩
   dsimp only
   refine zuy (zuy (zh ?_))
   refine zg rfl rfl (zi rfl rfl) ?_
   refine zg rfl rfl (zu rfl rfl zHx) ?_
   refine zg rfl rfl (zA rfl rfl rfl zHR) ?_
   refine zg rfl rfl (zuB rfl rfl Tryz.underlying27) ?_
   refine zg rfl rfl (zUB rfl rfl rfl) ?_
   refine zo (zf (zx rfl (fun h1=>?_) (fun h1=>?_)))
   ·
    have hk1:k < f.vals.length:=by simpa using h1
    refine zC (zf (zuy (zB (zuy (zh ?_)))))
    refine zg rfl rfl (zn rfl rfl) ?_
    refine zo (zf (zB ?_))
    refine qy (ι:={ a:Nat // a <= f.vals.length }) (fun a=>⟨Tryz.f46.ntmps, frL [(2, I lvl), (3, B hi), (4, .pub (.ptr (zHF f))), (9, .psl 0 f.vals.length), (10, I (k:Int)), (11, I (a.1:Int))], [.row ((foP f lvl hi (foA f lvl hi ((List.replicate f.vals.length false).set p true) k) a.1).map zWh)]⟩) (fun a=>f.vals.length - a.1) (⟨0, by omega⟩) ?_ ?_
    ·
     exact zt _ ⟨rfl, rfl, rfl, rfl, rfl, rfl, trivial⟩ (rfl)
    ·
     rintro ⟨a, ha⟩
     dsimp only
     refine zuy (zuy (zh ?_))
     refine zg rfl rfl (zi rfl rfl) ?_
     refine zg rfl rfl (zu rfl rfl zHx) ?_
     refine zg rfl rfl (zA rfl rfl rfl zHR) ?_
     refine zg rfl rfl (zuB rfl rfl Tryz.underlying27) ?_
     refine zg rfl rfl (zUB rfl rfl rfl) ?_
     refine zo (zf (zx rfl (fun h2=>?_) (fun h2=>?_)))
     ·
      have ha1:a < f.vals.length:=by simpa using h2
      refine zC (zf (zuy (zB (zuy (zh ?_)))))
      refine zg rfl rfl (zn rfl rfl) ?_
      refine zo (zf (zB ?_))
      refine qy (ι:={ j:Nat // j <= f.vals.length }) (fun j=>⟨Tryz.f46.ntmps, frL [(2, I lvl), (3, B hi), (4, .pub (.ptr (zHF f))), (9, .psl 0 f.vals.length), (10, I (k:Int)), (11, I (a:Int)), (12, I (j.1:Int))], [.row ((foQ f lvl hi a (foP f lvl hi (foA f lvl hi ((List.replicate f.vals.length false).set p true) k) a) j.1).map zWh)]⟩) (fun j=>f.vals.length - j.1) (⟨0, by omega⟩) ?_ ?_
      ·
       exact zt _ ⟨rfl, rfl, rfl, rfl, rfl, rfl, rfl, trivial⟩ (rfl)
      ·
       rintro ⟨j, hj⟩
       dsimp only
       refine zuy (zuy (zh ?_))
       refine zg rfl rfl (zi rfl rfl) ?_
       refine zg rfl rfl (zu rfl rfl zHx) ?_
       refine zg rfl rfl (zA rfl rfl rfl zHR) ?_
       refine zg rfl rfl (zuB rfl rfl Tryz.underlying27) ?_
       refine zg rfl rfl (zUB rfl rfl rfl) ?_
       refine zo (zf (zx rfl (fun h3=>?_) (fun h3=>?_)))
       ·
        have hj1:j < f.vals.length:=by simpa using h3
        refine zC (zf (zuy (zB (zuy (zh ?_)))))
        refine zg rfl rfl (zI rfl rfl) ?_
        refine zg rfl rfl (zi rfl rfl) ?_
        refine zg rfl rfl (qc rfl rfl rfl rfl (by first | (rw [List.length_map]; exact (hQL k a j)) | simp) zXe (by omega) (by omega) zXf) ?_
        refine zg rfl rfl (zK (r:=zWh ((foQ f lvl hi a (foP f lvl hi (foA f lvl hi ((List.replicate f.vals.length false).set p true) k) a) j).getD a false)) rfl rfl rfl (by rw [List.length_map]; exact (hQL k a j)) (zXS (by rw [hQL]; exact ha1)) rfl ty4) ?_
        refine zg rfl rfl (zi rfl rfl) ?_
        refine zk rfl rfl rfl (fun hg=>zZ rfl rfl zHQ (by exact zLb rfl)) ?_
        refine zk rfl rfl rfl (fun hg=>zi rfl rfl) ?_
        refine zk rfl rfl rfl (fun hg=>zi rfl rfl) ?_
        refine zk rfl rfl rfl (fun hg=>zy (av:=[_, _, _]) rfl ⟨(by exact if_pos hg), (by exact if_pos hg), (by exact if_pos hg), trivial⟩ (f96 f lvl j hj1 hl)) ?_
        refine zk rfl rfl rfl (fun hg=>zi rfl rfl) ?_
        refine zk rfl rfl rfl (fun hg=>zQu rfl (if_pos hg) (if_pos hg) Tryz.underlying4) ?_
        refine zg rfl rfl (qI rfl rfl rfl rfl) ?_
        refine zg rfl rfl (zi rfl rfl) ?_
        refine zk rfl rfl rfl (fun hg=>zu rfl rfl zHB) ?_
        refine zk rfl rfl rfl (fun hg=>zA rfl (if_pos hg) rfl ty3) ?_
        refine zk rfl rfl rfl (fun hg=>zi rfl rfl) ?_
        refine zk rfl rfl rfl (fun hg=>zi rfl rfl) ?_
        refine zk rfl rfl rfl (fun hg=>zy (av:=[_, _, _]) rfl ⟨(by exact if_pos hg), (by exact if_pos hg), (by exact if_pos hg), trivial⟩ (f35 f.wide (a:Int) (j:Int) (by omega) (by omega) (by omega))) ?_
        refine zk rfl rfl rfl (fun hg=>zi rfl (if_pos hg)) ?_
        refine zk rfl (jH rfl rfl rfl) rfl (fun hg=>zi rfl rfl) ?_
        refine zk rfl (jH rfl rfl rfl) rfl (fun hg=>je rfl (if_pos hg)) ?_
        refine zk rfl (jH rfl rfl rfl) rfl (fun hg=>zi rfl (if_pos hg)) ?_
        refine zk rfl (jH rfl rfl rfl) rfl (fun hg=>zu rfl rfl zHB) ?_
        refine zk rfl (jH rfl rfl rfl) rfl (fun hg=>zA rfl (if_pos hg) rfl ty3) ?_
        refine zk rfl (jH rfl rfl rfl) rfl (fun hg=>zi rfl rfl) ?_
        refine zk rfl (jH rfl rfl rfl) rfl (fun hg=>zi rfl rfl) ?_
        refine zk rfl (jH rfl rfl rfl) rfl (fun hg=>zy (av:=[_, _, _]) rfl ⟨(by exact if_pos hg), (by exact if_pos hg), (by exact if_pos hg), trivial⟩ (f97 f.wide (a:Int) (j:Int) (by omega) (by omega) (by omega))) ?_
        refine zk rfl (jH rfl rfl rfl) rfl (fun hg=>qI rfl (if_pos hg) (zha hg) rfl) ?_
        refine zk rfl rfl rfl (fun hg=>qU rfl (if_pos hg) rfl (zha hg)) ?_
        refine zg rfl rfl (qI rfl rfl rfl rfl) ?_
        refine zo (zf (zx rfl (fun h4=>?_) (fun h4=>?_)))
        ·
         have hst:((foQ f lvl hi a (foP f lvl hi (foA f lvl hi ((List.replicate f.vals.length false).set p true) k) a) j).set j true) = foQ f lvl hi a (foP f lvl hi (foA f lvl hi ((List.replicate f.vals.length false).set p true) k) a) (j + 1):=by rw [zWe]; unfold stQ; rw [show ((foQ f lvl hi a (foP f lvl hi (foA f lvl hi ((List.replicate f.vals.length false).set p true) k) a) j).getD a false && zWS f lvl hi a j) = true from (Bool.and_assoc _ _ _).symm.trans h4]; rfl
         have hmE:([.row (((foQ f lvl hi a (foP f lvl hi (foA f lvl hi ((List.replicate f.vals.length false).set p true) k) a) j).map zWh).set j [B true])]:List PO) = [.row ((foQ f lvl hi a (foP f lvl hi (foA f lvl hi ((List.replicate f.vals.length false).set p true) k) a) (j + 1)).map zWh)]:=by rw [zYe, hst]
         refine zh ?_
         refine zg rfl rfl (zI rfl rfl) ?_
         refine zg rfl rfl (zi rfl rfl) ?_
         refine zg rfl rfl (qc rfl rfl rfl rfl (by first | (rw [List.length_map]; exact (hQL k a j)) | simp) zXe (by omega) (by omega) zXf) ?_
         refine jb rfl (qG (r:=zWh ((foQ f lvl hi a (foP f lvl hi (foA f lvl hi ((List.replicate f.vals.length false).set p true) k) a) j).getD j false)) rfl rfl rfl rfl (by rw [List.length_map]; exact (hQL k a j)) (zXS (by rw [hQL]; exact hj1)) (jF rfl) ty4 (by rfl) (by exact zLb rfl)) ?_
         refine zo (zD (zf (zh ?_)))
         refine zg rfl rfl (zi rfl rfl) ?_
         refine zg rfl rfl (zV rfl rfl rfl ⟨(by omega), (by omega)⟩) ?_
         refine zg rfl rfl (zn rfl rfl) ?_
         refine zo ?_
         exact ⟨⟨j + 1, by omega⟩, by dsimp only; omega, zt _ ⟨rfl, rfl, rfl, rfl, rfl, rfl, rfl, trivial⟩ (hmE)⟩
        ·
         have hst:(foQ f lvl hi a (foP f lvl hi (foA f lvl hi ((List.replicate f.vals.length false).set p true) k) a) j) = foQ f lvl hi a (foP f lvl hi (foA f lvl hi ((List.replicate f.vals.length false).set p true) k) a) (j + 1):=by rw [zWe]; unfold stQ; rw [show ((foQ f lvl hi a (foP f lvl hi (foA f lvl hi ((List.replicate f.vals.length false).set p true) k) a) j).getD a false && zWS f lvl hi a j) = false from (Bool.and_assoc _ _ _).symm.trans h4]; rfl
         have hmE:([.row ((foQ f lvl hi a (foP f lvl hi (foA f lvl hi ((List.replicate f.vals.length false).set p true) k) a) j).map zWh)]:List PO) = [.row ((foQ f lvl hi a (foP f lvl hi (foA f lvl hi ((List.replicate f.vals.length false).set p true) k) a) (j + 1)).map zWh)]:=by rw [hst]
         refine zC (zD (zf (zh ?_)))
         refine zg rfl rfl (zi rfl rfl) ?_
         refine zg rfl rfl (zV rfl rfl rfl ⟨(by omega), (by omega)⟩) ?_
         refine zg rfl rfl (zn rfl rfl) ?_
         refine zo ?_
         exact ⟨⟨j + 1, by omega⟩, by dsimp only; omega, zt _ ⟨rfl, rfl, rfl, rfl, rfl, rfl, rfl, trivial⟩ (hmE)⟩
       ·
        have hge:j = f.vals.length:=by have:=h3; simp at this; omega
        subst hge
        refine qp (zRQ (zRQ (qw (zD (zf (zh ?_))))))
        refine zg rfl rfl (zi rfl rfl) ?_
        refine zg rfl rfl (zV rfl rfl rfl ⟨(by omega), (by omega)⟩) ?_
        refine zg rfl rfl (zn rfl rfl) ?_
        refine zo ?_
        exact ⟨⟨a + 1, by omega⟩, by dsimp only; omega, zt _ ⟨rfl, rfl, rfl, rfl, rfl, rfl, trivial⟩ ((congrArg (fun z:List Bool=>([.row (z.map zWh)]:List PO)) foP_succ.symm))⟩
     ·
      have hge:a = f.vals.length:=by have:=h2; simp at this; omega
      subst hge
      refine qp (zRQ (zRQ (qw (zD (zf (zh ?_))))))
      refine zg rfl rfl (zi rfl rfl) ?_
      refine zg rfl rfl (zV rfl rfl rfl ⟨(by omega), (by omega)⟩) ?_
      refine zg rfl rfl (zn rfl rfl) ?_
      refine zo ?_
      exact ⟨⟨k + 1, by omega⟩, by dsimp only; omega, zt _ ⟨rfl, rfl, rfl, rfl, rfl, trivial⟩ ((congrArg (fun z:List Bool=>([.row (z.map zWh)]:List PO)) foA_succ.symm))⟩
   ·
    have hge:k = f.vals.length:=by have:=h1; simp at this; omega
    subst hge
    refine qp (zRQ (zRQ (qw (zf (zuy (zuy (zh ?_)))))))
    refine zg rfl rfl (zn rfl rfl) ?_
    refine zo (zf (zB ?_))
    refine qy (ι:={ k:Nat // k <= f.vals.length /\ ∀ q, q < k -> ((zWs f lvl hi p).getD q false && zW4 f (q:Int)) = false }) (fun k=>⟨Tryz.f46.ntmps, frL [(2, I lvl), (3, B hi), (4, .pub (.ptr (zHF f))), (9, .psl 0 f.vals.length), (13, I (k.1:Int))], [.row ((zWs f lvl hi p).map zWh)]⟩) (fun k=>f.vals.length - k.1) (⟨0, by omega, fun _ h=>absurd h (by omega)⟩) ?_ ?_
    ·
     exact zt _ ⟨rfl, rfl, rfl, rfl, rfl, trivial⟩ (rfl)
    ·
     rintro ⟨k, hk⟩
     dsimp only
     have hAE:(zWs f lvl hi p).length = f.vals.length:=hAL f.vals.length
     refine zuy (zuy (zh ?_))
     refine zg rfl rfl (zi rfl rfl) ?_
     refine zg rfl rfl (zu rfl rfl zHx) ?_
     refine zg rfl rfl (zA rfl rfl rfl zHR) ?_
     refine zg rfl rfl (zuB rfl rfl Tryz.underlying27) ?_
     refine zg rfl rfl (zUB rfl rfl rfl) ?_
     refine zo (zf (zx rfl (fun h5=>?_) (fun h5=>?_)))
     ·
      have hk1:k < f.vals.length:=by simpa using h5
      refine zC (zf (zuy (zB (zuy (zh ?_)))))
      refine zg rfl rfl (zI rfl rfl) ?_
      refine zg rfl rfl (zi rfl rfl) ?_
      refine zg rfl rfl (qc rfl rfl rfl rfl (by first | (rw [List.length_map]; exact hAE) | simp) zXe (by omega) (by omega) zXf) ?_
      refine zg rfl rfl (zK (r:=zWh ((zWs f lvl hi p).getD k false)) rfl rfl rfl (by rw [List.length_map]; exact hAE) (zXS (by rw [hAE]; exact hk1)) rfl ty4) ?_
      refine zg rfl rfl (zi rfl rfl) ?_
      refine zk rfl rfl rfl (fun hg=>zZ rfl rfl zHQ (by exact zLb rfl)) ?_
      refine zk rfl rfl rfl (fun hg=>zi rfl rfl) ?_
      refine zk rfl rfl rfl (fun hg=>zy (av:=[_, _]) rfl ⟨(by exact if_pos hg), (by exact if_pos hg), trivial⟩ (f98 f (k:Int) (by omega) (by omega) hl)) ?_
      refine zg rfl rfl (qI rfl rfl rfl rfl) ?_
      refine zo (zf (zx rfl (fun h6=>?_) (fun h6=>?_)))
      ·
       have hz2:zV2 f lvl hi p = false:=by unfold zV2; rw [hz, Bool.true_and, ← Bool.not_eq_true, List.all_eq_true]; intro hA; have:=hA k (List.mem_range.2 hk1); rw [h6] at this; cases this
       refine zuy (zh ?_)
       refine zg rfl rfl (zn rfl rfl) ?_
       refine zo (zf (zP (qF (zQ (zQ (qF (zQ ?_)))))))
       exact ⟨.inr rfl, AVle.of (by rw [hz2])⟩
      ·
       refine zC (zD (zf (zh ?_)))
       refine zg rfl rfl (zi rfl rfl) ?_
       refine zg rfl rfl (zV rfl rfl rfl ⟨(by omega), (by omega)⟩) ?_
       refine zg rfl rfl (zn rfl rfl) ?_
       refine zo ?_
       exact ⟨⟨k + 1, by omega, fun q hq=>(if e:q = k then by subst e; exact h6 else hk.2 q (by omega))⟩, by dsimp only; omega, zt _ ⟨rfl, rfl, rfl, rfl, rfl, trivial⟩ (rfl)⟩
     ·
      have hge:k = f.vals.length:=by have:=h5; simp at this; omega
      refine qp (zRQ (zRQ (qw (zf (zuy (zh ?_))))))
      refine zg rfl rfl (zn rfl rfl) ?_
      refine zo (zf (zP ?_))
      exact ⟨.inr rfl, AVle.of (by unfold zV2; rw [hz, Bool.true_and, List.all_eq_true.2 fun q hq=>by rw [hk.2 q (by have:=List.mem_range.1 hq; omega)]; rfl])⟩
end Go.Av
end
section
namespace Go.Av.Pn
open Go.Av Go.Proofs Go.RowKit
set_option maxRecDepth 100000
set_option maxHeartbeats 1000000
variable {G:Glob}
theorem zYW (w r p:Int) (c:Bool) (hw:1 <= w /\ w <= 6) (hr:1 <= r /\ r <= 5) (hp:0 <= p /\ p <= 30):zlr Tryz.prog G 118 [] [.ptr (zId w r), .ptr [ei p], .ptr [.v (.bool c)]] (nbQ w r p c):=by
 have har:=area hw.1 hw.2 hr.1 hr.2
 have hN:((w * r).toNat:Int) = w * r:=by omega
 obtain ⟨N, hNe⟩:∃ N, N = (w * r).toNat:=⟨_, rfl⟩
 rw [← hNe] at hN
 refine zp5 (qs:=(nbQ w r p c)) Tryz.func118 rfl (by kernel_rfl) rfl rfl (fun C hC=>?_)
 refine zcv ?_
 refine zgy ?_
 refine zh ?_
 refine zg rfl rfl (zu rfl rfl zIp) ?_
 refine zg rfl rfl (zA rfl rfl rfl ty3) ?_
 refine zg rfl rfl (zu rfl rfl zJ3) ?_
 refine zg rfl rfl (zA rfl rfl rfl ty3) ?_
 refine zg rfl rfl (zcY rfl rfl rfl ⟨(by omega), (by omega)⟩) ?_
 refine zg rfl rfl (zi rfl rfl) ?_
 refine zo ?_
 refine zZk ?_
 refine ziI ?_
 refine zp1 (ι:={ k:Nat // k <= N }) (fun k=>⟨Tryz.f118.ntmps, frL [(0, .pub (.v (.func (.yield C.l) #[] #[]))), (1, .pub (.ptr (zId w r))), (2, .pub (.ptr [ei p])), (3, .pub (.ptr [.v (.bool c)])), (12, I (w * r)), (13, I (k.1:Int))], []⟩) (fun k=>.on (zfo (zR1 w p c) k.1)) (fun k=>N - k.1) (⟨0, by omega⟩) rfl ?_ ?_
 ·
  exact zt _ ⟨rfl, rfl, rfl, rfl, rfl, rfl, trivial⟩ (rfl)
 ·
  rintro ⟨k, hk⟩
  dsimp only
  refine zcv ?_
  refine zgy ?_
  refine zh ?_
  refine zg rfl rfl (zUB rfl rfl rfl) ?_
  refine zo ?_
  refine zZk ?_
  refine zcv ?_
  refine zes rfl (fun h0=>?_) (fun h0=>?_)
  ·
   have hlt:k < N:=by simp at h0; omega
   refine zhp ?_
   refine zZk ?_
   refine zcv ?_
   refine ziI ?_
   refine zcv ?_
   refine zgy ?_
   refine zh ?_
   refine zg rfl rfl (zi rfl rfl) ?_
   refine zg rfl rfl (zn rfl rfl) ?_
   refine zo ?_
   refine zZk ?_
   refine zcv ?_
   refine zgy ?_
   refine zh ?_
   refine zg rfl rfl (zZ rfl rfl zIO (by exact zLb rfl)) ?_
   refine zg rfl rfl (zA rfl rfl rfl ty3) ?_
   refine zg rfl rfl (zi rfl rfl) ?_
   refine zg rfl rfl (zy (av:=[_, _, _]) rfl ⟨rfl, rfl, rfl, trivial⟩ (f119 w r p (k:Int) (by omega) (by omega) (by omega))) ?_
   refine zg rfl rfl (zn rfl rfl) ?_
   refine zo ?_
   refine zZk ?_
   refine zcv ?_
   refine zgy ?_
   refine qY mixed (by kernel_rfl) rfl ?_
   refine zH rfl (zi rfl rfl) ?_
   refine zH rfl (qJ rfl rfl rfl) ?_
   refine zH rfl (zi rfl rfl) ?_
   refine jm rfl (fun hg=>zA rfl rfl rfl ty4) ?_
   refine jm rfl (fun hg=>zi rfl (if_pos hg)) ?_
   refine jm (jH rfl rfl rfl) (fun hg=>zi rfl rfl) ?_
   refine jm (jH rfl rfl rfl) (fun hg=>qJ rfl (if_pos hg) rfl) ?_
   refine jm rfl (fun hg=>qI rfl (if_pos hg) (zha hg) rfl) ?_
   refine jm rfl (fun hg=>zi rfl (if_pos hg)) ?_
   refine jm (jH rfl rfl rfl) (fun hg=>zZ rfl rfl zIO (by exact zLb rfl)) ?_
   refine jm (jH rfl rfl rfl) (fun hg=>zA rfl rfl rfl ty3) ?_
   refine jm (jH rfl rfl rfl) (fun hg=>zy (av:=[_, _]) rfl ⟨(by exact if_pos hg), (by exact if_pos hg), trivial⟩ (f120 w r p (by omega) (by omega))) ?_
   refine jm (jH rfl rfl rfl) (fun hg=>zZ rfl rfl zIO (by exact zLb rfl)) ?_
   refine jm (jH rfl rfl rfl) (fun hg=>zi rfl rfl) ?_
   refine jm (jH rfl rfl rfl) (fun hg=>zy (av:=[_, _]) rfl ⟨(by exact if_pos hg), (by exact if_pos hg), trivial⟩ (f120 w r (k:Int) (by omega) (by omega))) ?_
   refine jm (jH rfl rfl rfl) (fun hg=>vg rfl (if_pos hg) (if_pos hg)) ?_
   refine jm rfl (fun hg=>qI rfl (if_pos hg) (zha hg) rfl) ?_
   refine jm rfl (fun hg=>zi rfl (if_pos hg)) ?_
   refine jm (jH rfl rfl rfl) (fun hg=>zZ rfl rfl zIO (by exact zLb rfl)) ?_
   refine jm (jH rfl rfl rfl) (fun hg=>zA rfl rfl rfl ty3) ?_
   refine jm (jH rfl rfl rfl) (fun hg=>zy (av:=[_, _]) rfl ⟨(by exact if_pos hg), (by exact if_pos hg), trivial⟩ (f121 w r p (by omega) (by omega))) ?_
   refine jm (jH rfl rfl rfl) (fun hg=>zZ rfl rfl zIO (by exact zLb rfl)) ?_
   refine jm (jH rfl rfl rfl) (fun hg=>zi rfl rfl) ?_
   refine jm (jH rfl rfl rfl) (fun hg=>zy (av:=[_, _]) rfl ⟨(by exact if_pos hg), (by exact if_pos hg), trivial⟩ (f121 w r (k:Int) (by omega) (by omega))) ?_
   refine jm (jH rfl rfl rfl) (fun hg=>vg rfl (if_pos hg) (if_pos hg)) ?_
   refine jm rfl (fun hg=>qI rfl (if_pos hg) (zha hg) rfl) ?_
   refine zH rfl (qU rfl rfl rfl rfl) ?_
   refine zH rfl (zn rfl rfl) ?_
   refine jw ?_
   refine zZk ?_
   refine zcv ?_
   cases hb:zR1 w p c k with
   | false=>
    refine zla (zt (mem':=[]) [(0, .pub (.v (.func (.yield C.l) #[] #[]))), (1, .pub (.ptr (zId w r))), (2, .pub (.ptr [ei p])), (3, .pub (.ptr [.v (.bool c)])), (12, I (w * r)), (5, I (k:Int)), (7, B false), (13, I (k:Int))] ⟨rfl, rfl, rfl, rfl, rfl, rfl, congrArg B hb, rfl, trivial⟩ rfl) ?_
    refine zgf ?_
    refine zjW rfl rfl (zi rfl rfl) ?_
    refine zjW rfl rfl (zi rfl rfl) ?_
    refine yR (x:=.pub .top) rfl rfl rfl (fun h=>absurd h (by decide)) ?_
    refine yR (x:=.pub .top) rfl rfl rfl (fun h=>absurd h (by decide)) ?_
    refine zi6 (q:=[]) (c:=false) rfl rfl rfl rfl (fun h=>absurd h (by decide)) (fun h=>absurd h (by decide)) (fun h=>absurd h (by decide)) rfl rfl rfl rfl rfl (fun _=>?_) (fun h=>absurd h (by decide)) (fun h=>absurd h (by decide)) (fun h=>absurd h (by decide))
    refine yR (x:=.pub .top) rfl rfl rfl (fun h=>absurd h (by decide)) ?_
    refine zjW rfl rfl (zU rfl rfl (fun h=>absurd h (by decide)) (fun _=>rfl)) ?_
    refine zkH ?_
    refine zZk ?_
    refine zes (b:=false) rfl (fun h=>absurd h (by decide)) (fun _=>?_)
    refine zhp ?_
    refine zgg ?_
    refine zZk ?_
    refine zgy ?_
    refine zh ?_
    refine zg rfl rfl (zV rfl rfl rfl ⟨(by omega), (by omega)⟩) ?_
    refine zg rfl rfl (zi rfl rfl) ?_
    refine zo ?_
    exact ⟨⟨k + 1, by omega⟩, by dsimp only; omega, by simp only[zgP, hb]; rfl, zt _ ⟨rfl, rfl, rfl, rfl, rfl, rfl, trivial⟩ rfl⟩
   | true=>
    refine zla (zt (mem':=[]) [(0, .pub (.v (.func (.yield C.l) #[] #[]))), (1, .pub (.ptr (zId w r))), (2, .pub (.ptr [ei p])), (3, .pub (.ptr [.v (.bool c)])), (12, I (w * r)), (5, I (k:Int)), (7, B true), (13, I (k:Int))] ⟨rfl, rfl, rfl, rfl, rfl, rfl, congrArg B hb, rfl, trivial⟩ rfl) ?_
    refine zgf ?_
    refine zjW rfl rfl (zi rfl rfl) ?_
    refine zjW rfl rfl (zi rfl rfl) ?_
    refine yR rfl rfl rfl (fun _=>zi rfl rfl) ?_
    refine yR rfl rfl rfl (fun _=>zi rfl rfl) ?_
    refine zi6 (q:=[ei (k:Int)]) (c:=true) rfl rfl rfl rfl (fun _=>rfl) (fun _=>rfl) (fun _=>by rw [hC]; exact zQd (by omega) hb) rfl rfl rfl rfl rfl (fun h=>absurd h (by decide)) (fun _=>?_) (fun _=>?_) (fun _ ch=>?_)
    ·
     refine yR rfl rfl rfl (fun _=>je rfl rfl) ?_
     refine zjW rfl rfl (zU rfl rfl (fun _=>rfl) (fun h=>absurd h (by decide))) ?_
     refine zkH ?_
     refine zZk ?_
     refine zes (b:=false) rfl (fun h=>absurd h (by decide)) (fun _=>?_)
     refine zhp ?_
     refine zgg ?_
     refine zZk ?_
     refine zgy ?_
     refine zh ?_
     refine zg rfl rfl (zV rfl rfl rfl ⟨(by omega), (by omega)⟩) ?_
     refine zg rfl rfl (zi rfl rfl) ?_
     refine zo ?_
     exact ⟨⟨k + 1, by omega⟩, by dsimp only; omega, by simp only[zgP, hb]; rfl, zt _ ⟨rfl, rfl, rfl, rfl, rfl, rfl, trivial⟩ rfl⟩
    ·
     refine yR rfl rfl rfl (fun _=>je rfl rfl) ?_
     refine zjW rfl rfl (zU rfl rfl (fun _=>rfl) (fun h=>absurd h (by decide))) ?_
     refine zkH ?_
     refine zZk ?_
     refine zes (b:=true) rfl (fun _=>?_) (fun h=>absurd h (by decide))
     refine zrT ?_
     refine zo1 ?_
     refine zoe ?_
     refine zoe ?_
     refine zo1 ?_
     exact ⟨rfl, .inl ⟨.inr rfl, .inr ⟨_, rfl⟩⟩⟩
    ·
     exact ⟨rfl, .inr ⟨ch, rfl, rfl⟩⟩
  ·
   have hge:N <= k:=by simp at h0; omega
   refine zpr ?_
   refine zlv ?_
   refine zlv ?_
   refine zqj ?_
   exact ⟨rfl, .inl ⟨.inl rfl, .inl (by rw [zPv, ← hNe, show N = k from by omega])⟩⟩
end Go.Av.Pn
end
section
namespace Go.Av
open Go.Proofs
set_option maxRecDepth 100000
set_option maxHeartbeats 1000000
variable {G:Glob}
def zWb (w r p:Int):Bool:=(((p / w == 0) || (p / w == r - 1)) || (p % w == 0)) || (p % w == w - 1)
theorem f190 (w r p:Int) (hw:1 <= w /\ w <= 1000) (hr:1 <= r /\ r <= 1000) (hp:0 <= p /\ p <= 100000):ACall Tryz.prog G 190 [.agg (zId w r), .v (.int .i64 p)] (.v (.bool (zWb w r p))):=by
 refine zS Tryz.func190 rfl (by kernel_rfl) rfl ?_
 refine zuy (zh ?_)
 refine zg rfl rfl (jf rfl (zY rfl)) ?_
 refine zg rfl rfl (zn rfl rfl) ?_
 refine zo (zf (zuy ?_))
 refine qY mixed (by kernel_rfl) rfl ?_
 refine zH rfl (zZ rfl rfl zIO (by exact zLb rfl)) ?_
 refine zH rfl (zi rfl rfl) ?_
 refine zH rfl (zy (av:=[_, _]) rfl ⟨rfl, rfl, trivial⟩ (f120 w r p hw.1 hp)) ?_
 refine zH rfl (qJ rfl rfl rfl) ?_
 refine zH rfl (zi rfl rfl) ?_
 refine jm rfl (fun hg=>zZ rfl rfl zIO (by exact zLb rfl)) ?_
 refine jm rfl (fun hg=>zi rfl rfl) ?_
 refine jm rfl (fun hg=>zy (av:=[_, _]) rfl ⟨(by exact if_pos hg), (by exact if_pos hg), trivial⟩ (f120 w r p hw.1 hp)) ?_
 refine jm rfl (fun hg=>zu rfl rfl zJ3) ?_
 refine jm rfl (fun hg=>zA rfl (if_pos hg) rfl ty3) ?_
 refine jm rfl (fun hg=>ze5 rfl (if_pos hg) rfl ⟨(by first | omega | (simp at hg; omega)), (by first | omega | (simp at hg; omega))⟩) ?_
 refine jm rfl (fun hg=>qJ rfl (if_pos hg) (if_pos hg)) ?_
 refine zH rfl (qU rfl rfl rfl rfl) ?_
 refine zH rfl (zi rfl rfl) ?_
 refine jm rfl (fun hg=>zZ rfl rfl zIO (by exact zLb rfl)) ?_
 refine jm rfl (fun hg=>zi rfl rfl) ?_
 refine jm rfl (fun hg=>zy (av:=[_, _]) rfl ⟨(by exact if_pos hg), (by exact if_pos hg), trivial⟩ (f121 w r p hw.1 hp)) ?_
 refine jm rfl (fun hg=>qJ rfl (if_pos hg) rfl) ?_
 refine zH rfl (qU rfl rfl rfl rfl) ?_
 refine zH rfl (zi rfl rfl) ?_
 refine jm rfl (fun hg=>zZ rfl rfl zIO (by exact zLb rfl)) ?_
 refine jm rfl (fun hg=>zi rfl rfl) ?_
 refine jm rfl (fun hg=>zy (av:=[_, _]) rfl ⟨(by exact if_pos hg), (by exact if_pos hg), trivial⟩ (f121 w r p hw.1 hp)) ?_
 refine jm rfl (fun hg=>zu rfl rfl zIp) ?_
 refine jm rfl (fun hg=>zA rfl (if_pos hg) rfl ty3) ?_
 refine jm rfl (fun hg=>ze5 rfl (if_pos hg) rfl ⟨(by first | omega | (simp at hg; omega)), (by first | omega | (simp at hg; omega))⟩) ?_
 refine jm rfl (fun hg=>qJ rfl (if_pos hg) (if_pos hg)) ?_
 refine zH rfl (qU rfl rfl rfl rfl) ?_
 refine zH rfl (zn rfl rfl) ?_
 refine jw (zf (zP ?_))
 exact ⟨.inr rfl, AVle.refl _⟩
end Go.Av
end
