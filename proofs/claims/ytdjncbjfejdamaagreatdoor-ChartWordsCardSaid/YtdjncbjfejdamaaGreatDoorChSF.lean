import Derived.Test.YtdjncbjfejdamaaGreatDoorChSA
import Derived.Test.YtdjncbjfejdamaaGreatDoorPlatJ
import Derived.Test.YtdjncbjfejdamaaGreatDoorChSC
import Derived.Test.YtdjncbjfejdamaaGreatDoorChSD
import Derived.Test.YtdjncbjfejdamaaGreatDoorChO
set_option linter.unusedVariables false
set_option linter.unusedSimpArgs false
section
namespace Go.Av
open Go.Proofs
set_option maxRecDepth 100000
set_option maxHeartbeats 1000000
variable {G:Glob}
theorem okV {m:Mp} {g:Nat -> Int} {k:Nat}:PO.okL k (.row ((List.range (npt m)).map fun i=>[I (g i)])):=fun r hr x hx=>by
 obtain ⟨i, _, rfl⟩:=List.mem_map.1 hr
 rw [List.mem_singleton.1 hx]; simp [EV.lt, I]
theorem zZn {w:Int} {k n j:Nat} (h:j < k):PO.okL k (.row [[I w, .psl j n]]):=fun r hr x hx=>by
 rw [List.mem_singleton.1 hr] at hx
 simp only[List.mem_cons, List.not_mem_nil, or_false] at hx
 rcases hx with rfl | rfl
 ·
  simp [EV.lt, I]
 ·
  simpa [EV.lt] using h
theorem m93 (m:Mp) (hm:okM m) (X0:PO) (hX0:X0.okL 4):zjj Tryz.prog G 93 [.pub (.agg (eMp m))] [X0] (.ret (.mix [I m.wide, .psl 3 (npt m)]) [X0, .row [[I m.wide, .psl 3 (npt m)]], .row [[I m.wide, .psl 3 (npt m)]], .row ((List.range (npt m)).map (hmE m))]):=by
 have hn:=zJF hm
 have ho:=hm
 obtain ⟨m1, m2, m3, m4, m5, m6, m7, m8⟩:=ho
 have har:=area m1 m2 m3 m4
 refine zow Tryz.func93 rfl (by kernel_rfl) rfl (fun gh hold=>?_)
 refine zuy (zh ?_)
 refine zg rfl rfl (jf rfl (zY rfl)) ?_
 refine jb rfl (wJ rfl rfl zNn rfl rfl) ?_
 refine zo (zf (zuy (zh ?_)))
 refine zg rfl rfl (zZ rfl rfl zMg (by exact zLb rfl)) ?_
 refine zg rfl rfl (zy (av:=[_]) rfl ⟨rfl, trivial⟩ (f53 m hm)) ?_
 refine zg rfl rfl (zW rfl rfl) ?_
 refine zo (zf (zuy (zh ?_)))
 refine zg rfl rfl (zu rfl rfl zH6) ?_
 refine zg rfl rfl (zA rfl rfl rfl ty3) ?_
 refine zg rfl rfl (zb3 (cs:=[_, _]) rfl zQH rfl ⟨_, _, rfl, (jF rfl), rfl⟩ (by rfl) (by simp [ofV])) ?_
 refine jb rfl (wJ rfl rfl zNn rfl rfl) ?_
 refine jb rfl (qG rfl rfl rfl rfl rfl rfl (zY rfl) zHQ (by rfl) (by exact zLb rfl)) ?_
 refine zo (zf (zuy (zuy (zh ?_))))
 refine zg rfl rfl (zn rfl rfl) ?_
 refine zo (zf (zB ?_))
 refine qx (zl2 (k:=2) (i:=0) (j:=1) rfl rfl rfl) ?_
 refine qy (ι:={ k:Nat // k <= npt m }) (fun k=>⟨(⟨Tryz.f93.ntmps, [], gh, false, hold⟩:NS), frL [(2, .pp 1 1 0 0), (3, .pub (zOJ (bds m))), (4, .pp 2 1 0 0), (5, I (k.1:Int))], [X0, .row [[I 0, wZ]], .row [[I m.wide, .psl 3 k.1]], .row ((List.range k.1).map (hmE m))]⟩) (fun k=>npt m - k.1) (⟨0, by omega⟩) ?_ ?_
 ·
  exact zt _ ⟨rfl, rfl, rfl, rfl, trivial⟩ (rfl)
 ·
  rintro ⟨k, hk⟩
  dsimp only
  refine zuy (zuy (zh ?_))
  refine zg rfl rfl (zi rfl rfl) ?_
  refine zg rfl rfl (zq rfl rfl) ?_
  refine zg rfl rfl (qh rfl rfl rfl Tryz.underlying79) ?_
  refine zg rfl rfl (zUB rfl rfl rfl) ?_
  refine zo (zf (zx rfl (fun h0=>?_) (fun h0=>?_)))
  ·
   have hlt:k < (bds m).length:=by simpa using h0
   have hlt2:k < npt m:=by rw [zRR] at hlt; exact hlt
   have hb:=zQA hm hlt
   refine zC (zf (zuy (zB ?_)))
   refine wR (fun m=>∃ rows, m[2]? = some (.row rows) /\ rows.length = 1) (fun k=>match k with | 0=>.stable | 2=>.stable | 3=>.stable | 4=>.stable | 5=>.stable | 6=>.stable | 8=>.writes | 9=>.stable | 10=>.writes | _=>.here) mixed (by kernel_rfl) rfl (by kernel_rfl) ⟨_, rfl, rfl⟩ ?_
   refine zuC rfl rfl (fun m hm=>qE rfl rfl hm.choose_spec.1 hm.choose_spec.2 zHx) ?_
   refine zX rfl rfl (zK rfl rfl rfl rfl rfl rfl zHR) ?_
   refine zuC rfl rfl (fun m hm=>zq rfl rfl) ?_
   refine zuC rfl rfl (fun m hm=>zi rfl rfl) ?_
   refine zuC rfl rfl (fun m hm=>zVZ rfl rfl rfl zPO (by omega) (zMN hlt) zSo) ?_
   refine zuC rfl rfl (fun m hm=>zu rfl rfl zHX) ?_
   refine zuC rfl rfl (fun m hm=>zA rfl rfl rfl ty3) ?_
   refine zX rfl rfl (qg (size:=1) (rows:=[[_]]) rfl Tryz.underlying27 ti3 rfl (by decide) rfl (by decide) ⟨_, _, rfl, (jF rfl), rfl⟩ (by rfl) (by simp [ofV]) rfl (by simp)) ?_
   refine zaw rfl rfl (zj3 rfl rfl rfl (by simp) rfl zPI (zJs fun _=>rfl) (by simp) (by simp; omega) (by unfold maxLen; simp; omega)) ⟨_, rfl, rfl⟩ ?_
   refine zuC rfl rfl (fun m hm=>qE rfl rfl hm.choose_spec.1 hm.choose_spec.2 zHx) ?_
   refine zaw rfl rfl (jk rfl rfl rfl rfl rfl rfl (zbO rfl rfl (by simp)) zHR (by rfl) (by rfl)) ⟨_, rfl, rfl⟩ ?_
   refine wQ (zD (zf (zh ?_)))
   refine zg rfl rfl (zi rfl rfl) ?_
   refine zg rfl rfl (zV rfl rfl rfl ⟨(by omega), (by omega)⟩) ?_
   refine zg rfl rfl (zn rfl rfl) ?_
   refine zo ?_
   exact ⟨⟨k + 1, by omega⟩, by dsimp only; omega, zt _ ⟨rfl, rfl, rfl, rfl, trivial⟩ (congrArg (fun z=>[X0, PO.row [[I 0, wZ]], PO.row [[I m.wide, .psl 3 (k + 1)]], PO.row z]) (zZL hlt))⟩
  ·
   have hge:(bds m).length <= k:=by simpa using h0
   have hk2:k = npt m:=by rw [zRR] at hge; omega
   subst hk2
   refine qp (zRQ (zRQ (qw (zf (zuy (zh ?_))))))
   refine zg rfl rfl (zuz rfl rfl rfl rfl rfl (by exact zLb rfl) rfl zHQ) ?_
   refine jb rfl (qG rfl rfl rfl rfl rfl rfl (zkN rfl) zHQ (by rfl) (by exact zLb rfl)) ?_
   refine zo (zf (zP ?_))
   exact zbB [] rfl ⟨hX0, zZn (show 3 < 4 by omega), zZn (show 3 < 4 by omega), okV, trivial⟩ (by simp) (.inr rfl) (by simp [EV.lt, EV.ltL, I]) ⟨_, _, rfl, rfl, rfl, .inr ⟨2, zHQ, zLb rfl, rfl⟩⟩
theorem m94 (m:Mp) (hm:okM m) (X0 X1 X2 X3 X4:PO) (hX0:X0.okL 8) (hX1:X1.okL 8) (hX2:X2.okL 8) (hX3:X3.okL 8) (hX4:X4.okL 8):zjj Tryz.prog G 94 [.pub (.agg (eMp m))] [X0, X1, X2, X3, X4] (.ret (.mix [I m.wide, .psl 7 (npt m)]) [X0, X1, X2, X3, X4, .row [[I m.wide, .psl 7 (npt m)]], .row [[I m.wide, .psl 7 (npt m)]], .row ((List.range (npt m)).map (lmE m))]):=by
 have hn:=zJF hm
 have ho:=hm
 obtain ⟨m1, m2, m3, m4, m5, m6, m7, m8⟩:=ho
 have har:=area m1 m2 m3 m4
 refine zow Tryz.func94 rfl (by kernel_rfl) rfl (fun gh hold=>?_)
 refine zuy (zh ?_)
 refine zg rfl rfl (jf rfl (zY rfl)) ?_
 refine jb rfl (wJ rfl rfl zNn rfl rfl) ?_
 refine zo (zf (zuy (zh ?_)))
 refine zg rfl rfl (zZ rfl rfl zMg (by exact zLb rfl)) ?_
 refine zg rfl rfl (zy (av:=[_]) rfl ⟨rfl, trivial⟩ (f53 m hm)) ?_
 refine zg rfl rfl (zW rfl rfl) ?_
 refine zo (zf (zuy (zh ?_)))
 refine zg rfl rfl (zu rfl rfl zH6) ?_
 refine zg rfl rfl (zA rfl rfl rfl ty3) ?_
 refine zg rfl rfl (zb3 (cs:=[_, _]) rfl zQH rfl ⟨_, _, rfl, (jF rfl), rfl⟩ (by rfl) (by simp [ofV])) ?_
 refine jb rfl (wJ rfl rfl zNn rfl rfl) ?_
 refine jb rfl (qG rfl rfl rfl rfl rfl rfl (zY rfl) zHQ (by rfl) (by exact zLb rfl)) ?_
 refine zo (zf (zuy (zuy (zh ?_))))
 refine zg rfl rfl (zn rfl rfl) ?_
 refine zo (zf (zB ?_))
 refine qx (zl2 (k:=6) (i:=0) (j:=1) rfl rfl rfl) ?_
 refine qy (ι:={ k:Nat // k <= npt m }) (fun k=>⟨(⟨Tryz.f94.ntmps, [], gh, false, hold⟩:NS), frL [(2, .pp 5 1 0 0), (3, .pub (zOJ (bds m))), (4, .pp 6 1 0 0), (5, I (k.1:Int))], [X0, X1, X2, X3, X4, .row [[I 0, wZ]], .row [[I m.wide, .psl 7 k.1]], .row ((List.range k.1).map (lmE m))]⟩) (fun k=>npt m - k.1) (⟨0, by omega⟩) ?_ ?_
 ·
  exact zt _ ⟨rfl, rfl, rfl, rfl, trivial⟩ (rfl)
 ·
  rintro ⟨k, hk⟩
  dsimp only
  refine zuy (zuy (zh ?_))
  refine zg rfl rfl (zi rfl rfl) ?_
  refine zg rfl rfl (zq rfl rfl) ?_
  refine zg rfl rfl (qh rfl rfl rfl Tryz.underlying79) ?_
  refine zg rfl rfl (zUB rfl rfl rfl) ?_
  refine zo (zf (zx rfl (fun h0=>?_) (fun h0=>?_)))
  ·
   have hlt:k < (bds m).length:=by simpa using h0
   have hlt2:k < npt m:=by rw [zRR] at hlt; exact hlt
   have hb:=zQA hm hlt
   refine zC (zf (zuy (zB ?_)))
   refine wR (fun m=>∃ rows, m[6]? = some (.row rows) /\ rows.length = 1) (fun k=>match k with | 0=>.stable | 2=>.stable | 3=>.stable | 4=>.stable | 5=>.stable | 6=>.stable | 8=>.writes | 9=>.stable | 10=>.writes | _=>.here) mixed (by kernel_rfl) rfl (by kernel_rfl) ⟨_, rfl, rfl⟩ ?_
   refine zuC rfl rfl (fun m hm=>qE rfl rfl hm.choose_spec.1 hm.choose_spec.2 zHx) ?_
   refine zX rfl rfl (zK rfl rfl rfl rfl rfl rfl zHR) ?_
   refine zuC rfl rfl (fun m hm=>zq rfl rfl) ?_
   refine zuC rfl rfl (fun m hm=>zi rfl rfl) ?_
   refine zuC rfl rfl (fun m hm=>zVZ rfl rfl rfl zPO (by omega) (zMN hlt) zSo) ?_
   refine zuC rfl rfl (fun m hm=>zu rfl rfl zHY) ?_
   refine zuC rfl rfl (fun m hm=>zA rfl rfl rfl ty3) ?_
   refine zX rfl rfl (qg (size:=1) (rows:=[[_]]) rfl Tryz.underlying27 ti3 rfl (by decide) rfl (by decide) ⟨_, _, rfl, (jF rfl), rfl⟩ (by rfl) (by simp [ofV]) rfl (by simp)) ?_
   refine zaw rfl rfl (zj3 rfl rfl rfl (by simp) rfl zPI (zJs fun _=>rfl) (by simp) (by simp; omega) (by unfold maxLen; simp; omega)) ⟨_, rfl, rfl⟩ ?_
   refine zuC rfl rfl (fun m hm=>qE rfl rfl hm.choose_spec.1 hm.choose_spec.2 zHx) ?_
   refine zaw rfl rfl (jk rfl rfl rfl rfl rfl rfl (zbO rfl rfl (by simp)) zHR (by rfl) (by rfl)) ⟨_, rfl, rfl⟩ ?_
   refine wQ (zD (zf (zh ?_)))
   refine zg rfl rfl (zi rfl rfl) ?_
   refine zg rfl rfl (zV rfl rfl rfl ⟨(by omega), (by omega)⟩) ?_
   refine zg rfl rfl (zn rfl rfl) ?_
   refine zo ?_
   exact ⟨⟨k + 1, by omega⟩, by dsimp only; omega, zt _ ⟨rfl, rfl, rfl, rfl, trivial⟩ (congrArg (fun z=>[X0, X1, X2, X3, X4, PO.row [[I 0, wZ]], PO.row [[I m.wide, .psl 7 (k + 1)]], PO.row z]) (zZN hlt))⟩
  ·
   have hge:(bds m).length <= k:=by simpa using h0
   have hk2:k = npt m:=by rw [zRR] at hge; omega
   subst hk2
   refine qp (zRQ (zRQ (qw (zf (zuy (zh ?_))))))
   refine zg rfl rfl (zuz rfl rfl rfl rfl rfl (by exact zLb rfl) rfl zHQ) ?_
   refine jb rfl (qG rfl rfl rfl rfl rfl rfl (zkN rfl) zHQ (by rfl) (by exact zLb rfl)) ?_
   refine zo (zf (zP ?_))
   exact zbB [] rfl ⟨hX0, hX1, hX2, hX3, hX4, zZn (show 7 < 8 by omega), zZn (show 7 < 8 by omega), okV, trivial⟩ (by simp) (.inr rfl) (by simp [EV.lt, EV.ltL, I]) ⟨_, _, rfl, rfl, rfl, .inr ⟨2, zHQ, zLb rfl, rfl⟩⟩
end Go.Av
end
section
namespace Go.Av
open Go.Proofs
set_option maxRecDepth 100000
set_option maxHeartbeats 1000000
variable {G:Glob}
def vR (mp:Mp) (p:Nat) (lvl:Int) (k:Nat):List (List EV):=(List.range (npt mp)).map fun i=>[I (if i < k then zG mp p (lvl - 1) i else hiG mp i)]
theorem zZT {mp:Mp} {p:Nat} {lvl:Int} {k:Nat}:∀ q ∈ vR mp p lvl k, q.length = 1:=fun q h=>by obtain ⟨c, _, rfl⟩:=List.mem_map.1 h; rfl
theorem zZ7 {mp:Mp} {p:Nat} {lvl:Int} {k:Nat} (h:k < npt mp):(vR mp p lvl k)[k]? = some [I (hiG mp k)]:=by unfold vR; simp [h]
theorem zZ8 {mp:Mp} {p:Nat} {lvl:Int} {k:Nat} (h:k < npt mp):(vR mp p lvl k).set k [I (zG mp p (lvl - 1) k)] = vR mp p lvl (k + 1):=by
 apply List.ext_getElem?
 intro i
 unfold vR
 rw [List.getElem?_set]
 by_cases e:k = i
 ·
  subst e; simp [h]
 ·
  rw [if_neg e]
  simp only[List.getElem?_map, List.getElem?_range]
  by_cases hi:i < npt mp
  ·
   rw [List.getElem?_range hi]
   simp only[Option.map_some]
   by_cases h2:i < k
   ·
    rw [if_pos h2, if_pos (by omega)]
   ·
    rw [if_neg h2, if_neg (by omega)]
  ·
   simp [hi]
theorem z0h {mp:Mp} {p:Nat} {lvl:Int}:(List.range (npt mp)).map (hmE mp) = vR mp p lvl 0:=List.map_congr_left fun i _=>by
 rw [if_neg (Nat.not_lt_zero i)]; rfl
theorem z0c {mp:Mp} {p:Nat} {lvl:Int}:vR mp p lvl (npt mp) = ((fnF mp (zG mp p (lvl - 1))).vals.map fun n=>[AV.v (.int .i64 n)]).map (·.map .pub):=by
 unfold vR fnF
 rw [List.map_map, List.map_map]
 exact List.map_congr_left fun i hi=>by rw [if_pos (List.mem_range.1 hi)]; rfl
theorem zZF {k:Nat}:PO.okL k (.row [[I 0, wZ]]):=fun r hr x hx=>by
 rw [List.mem_singleton.1 hr] at hx
 simp only[List.mem_cons, List.not_mem_nil, or_false] at hx
 rcases hx with rfl | rfl <;> simp [EV.lt, I, wZ]
theorem zZp (mp:Mp) (p:Nat) (lvl:Int) (ho:okM mp) (hp:p < npt mp) (hv:1 <= lvl /\ lvl <= 99999) (hn:loG mp p < lvl):ACall Tryz.prog G 43 [.agg (eMp mp), ei (p:Int), ei lvl, .v (.bool false)] (.tup [.agg (zHF (fnF mp (zG mp p (lvl - 1)))), .v (.bool true)]):=by
 have hnp:=zJF ho
 have ho2:=ho
 obtain ⟨m1, m2, m3, m4, m5, m6, m7, m8⟩:=ho2
 have h93:=m93 (G:=G) mp ho (.row [[I 0, wZ]]) zZF
 refine zS Tryz.func43 rfl (by kernel_rfl) rfl ?_
 refine zuy (zh ?_)
 refine zg rfl rfl (jf rfl (zY rfl)) ?_
 refine jb rfl (wJ rfl rfl zNn rfl rfl) ?_
 refine zg rfl rfl (zn rfl rfl) ?_
 refine zo (zf (zuy (zh ?_)))
 refine zg rfl rfl (zZ rfl rfl zMg (by exact zLb rfl)) ?_
 refine zg rfl rfl (zi rfl rfl) ?_
 refine zg rfl rfl (zy (av:=[_, _]) rfl ⟨rfl, rfl, trivial⟩ (f92 mp (p:Int) ho (by omega))) ?_
 refine vI  rfl rfl rfl rfl rfl rfl rfl zQT zPK rfl (by rfl) (zY rfl) rfl ?_
 refine zo (zf (zuy (zh ?_)))
 refine zg rfl rfl (zZ rfl rfl zMg (by exact zLb rfl)) ?_
 refine jb rfl (zij (f:=93) (fs:=[]) (cs:=[]) (av:=[.pub (.agg (eMp mp))]) rfl rfl ⟨rfl, rfl, rfl⟩ ⟨rfl, trivial⟩ h93) ?_
 refine jb rfl (wJ rfl rfl zNn rfl rfl) ?_
 refine jb rfl (qG rfl rfl rfl rfl rfl rfl (zkN rfl) zHQ (by rfl) (by exact zLb rfl)) ?_
 refine zo (zf (zuy (zuy (zh ?_))))
 refine zg rfl rfl (zi rfl rfl) ?_
 refine zo (zf (zx rfl (fun h0=>?_) (fun h0=>?_)))
 ·
  exfalso; cases h0
 ·
  refine zC (zf (zuy (zuy (zh ?_))))
  refine zg rfl rfl (zi rfl rfl) ?_
  refine zg rfl rfl (zi rfl rfl) ?_
  refine zk rfl rfl rfl (fun hg=>zi rfl rfl) ?_
  refine zk rfl rfl rfl (fun hg=>zu rfl rfl zHX) ?_
  refine zk (x:=.pub (.tup [])) rfl rfl rfl (fun hg=>absurd hg (by decide)) ?_
  refine zk (x:=.pub (.tup [])) rfl rfl rfl (fun hg=>absurd hg (by decide)) ?_
  refine zg rfl rfl (zU rfl rfl (fun h=>absurd h (by decide)) (fun _=>rfl)) ?_
  refine zg rfl rfl (zi rfl rfl) ?_
  refine zk rfl rfl rfl (fun hg=>zi rfl rfl) ?_
  refine zk rfl rfl rfl (fun hg=>je rfl (rfl)) ?_
  refine zk rfl rfl rfl (fun hg=>zi rfl (rfl)) ?_
  refine zk rfl rfl rfl (fun hg=>zi rfl rfl) ?_
  refine zk rfl rfl rfl (fun hg=>zu rfl rfl zHY) ?_
  refine zk rfl rfl rfl (fun hg=>zA rfl rfl rfl ty3) ?_
  refine zk rfl rfl rfl (fun hg=>zaq rfl rfl rfl) ?_
  refine zk rfl rfl rfl (fun hg=>qI rfl rfl rfl rfl) ?_
  refine zg rfl rfl (qU rfl rfl rfl rfl) ?_
  refine zo (zf (zx rfl (fun h1=>?_) (fun h1=>?_)))
  ·
   exfalso; unfold loG at hn; simp at h1; omega
  ·
   refine zC (zf (zuy (zuy (zh ?_))))
   refine zg rfl rfl (zn rfl rfl) ?_
   refine zo (zf (zB ?_))
   refine qy (ι:={ k:Nat // k <= npt mp }) (fun k=>⟨Tryz.f43.ntmps, frL [(1, I (p:Int)), (2, I lvl), (3, B false), (4, .pub (.ptr (eMp mp))), (8, .pp 0 1 0 0), (11, .pp 4 1 0 0), (12, I (k.1:Int))], [.row [[I 0, wZ]], .row [[I mp.wide, .psl 3 (npt mp)]], .row [[I mp.wide, .psl 3 (npt mp)]], .row (vR mp p lvl k.1), .row [[I mp.wide, .psl 3 (npt mp)]]]⟩) (fun k=>npt mp - k.1) (⟨0, by omega⟩) ?_ ?_
   ·
    exact zt _ ⟨rfl, rfl, rfl, rfl, rfl, rfl, rfl, trivial⟩ ((congrArg (fun z=>[PO.row [[I 0, wZ]], PO.row [[I mp.wide, .psl 3 (npt mp)]], PO.row [[I mp.wide, .psl 3 (npt mp)]], PO.row z, PO.row [[I mp.wide, .psl 3 (npt mp)]]]) z0h))
   ·
    rintro ⟨k, hk⟩
    dsimp only
    refine zuy (zuy (zh ?_))
    refine zg rfl rfl (zi rfl rfl) ?_
    refine zg rfl rfl (qE rfl rfl rfl rfl zHx) ?_
    refine zg rfl rfl (zK rfl rfl rfl rfl rfl rfl zHR) ?_
    refine zg rfl rfl (jE rfl rfl rfl (by simp [vR]) Tryz.underlying27) ?_
    refine zg rfl rfl (zUB rfl rfl rfl) ?_
    refine zo (zf (zx rfl (fun h2=>?_) (fun h2=>?_)))
    ·
     have hlt:k < npt mp:=by simpa [fnF, vR] using h2
     have hdb:=zW2 ho (p:=p) (i:=k) (by omega) (by omega)
     unfold shD at hdb
     refine zC (zf (zuy (zB (zuy ?_))))
     refine qY mixed (by kernel_rfl) rfl ?_
     refine zH rfl (zu rfl rfl zI7) ?_
     refine zH rfl (zA rfl rfl rfl ty3) ?_
     refine zH rfl (zu rfl rfl zH6) ?_
     refine zH rfl (zA rfl rfl rfl ty3) ?_
     refine zH rfl (zi rfl rfl) ?_
     refine zH rfl (zi rfl rfl) ?_
     refine zH rfl (zy (av:=[_, _, _]) rfl ⟨rfl, rfl, rfl, trivial⟩ (f55 mp.wide (p:Int) (k:Int) (by omega) (by omega) (by omega))) ?_
     refine zH rfl (zcY rfl rfl rfl ⟨(by omega), (by omega)⟩) ?_
     refine zH rfl (zn rfl rfl) ?_
     refine jw (zf (zuy (zh ?_)))
     refine zg rfl rfl (zi rfl rfl) ?_
     refine zo (zf (zx rfl (fun h3=>?_) (fun h3=>?_)))
     ·
      exfalso; cases h3
     ·
      refine wR (fun _=>True) (fun k=>match k with | 0=>.rd [4] | 1=>.rd [4] | 3=>.rd [4] | 4=>.rd [4] | 6=>.rd [3] | 7=>.rd [3] | 13=>.rd [3] | 14=>.rw [] (3) | _=>.here) mixed (by kernel_rfl) rfl (by kernel_rfl) trivial ?_
      refine zkx [4] rfl rfl (fun m hm hC=>qE rfl rfl ((hm.one 4 rfl).trans rfl) rfl zHx) ?_
      refine zkx [4] rfl rfl (fun m hm hC=>zK (r:=[I mp.wide, .psl 3 (npt mp)]) (c:=.psl 3 (npt mp)) rfl rfl ((hm.one 4 rfl).trans rfl) rfl rfl rfl zHR) ?_
      refine zX rfl rfl (zi rfl rfl) ?_
      refine zkx [4] rfl rfl (fun m hm hC=>qE rfl rfl ((hm.one 4 rfl).trans rfl) rfl zHx) ?_
      refine zkx [4] rfl rfl (fun m hm hC=>zK (r:=[I mp.wide, .psl 3 (npt mp)]) (c:=.psl 3 (npt mp)) rfl rfl ((hm.one 4 rfl).trans rfl) rfl rfl rfl zHR) ?_
      refine zX rfl rfl (zi rfl rfl) ?_
      refine zkx [3] rfl rfl (fun m hm hC=>qc rfl rfl rfl ((hm.one 3 rfl).trans rfl) (by simp [vR]) zIz (by omega) (by omega) zZT) ?_
      refine zkx [3] rfl rfl (fun m hm hC=>zK (r:=[I (hiG mp k)]) rfl rfl ((hm.one 3 rfl).trans rfl) (by simp [vR]) (zZ7 hlt) rfl ty3) ?_
      refine zX rfl rfl (zi rfl rfl) ?_
      refine zX rfl rfl (ze5 rfl rfl rfl ⟨(by omega), (by omega)⟩) ?_
      refine zX rfl rfl (zi rfl rfl) ?_
      refine zX rfl rfl (zV rfl rfl rfl ⟨(by omega), (by omega)⟩) ?_
      refine zX rfl rfl (zPN rfl rfl rfl) ?_
      refine zkx [3] rfl rfl (fun m hm hC=>qc rfl rfl rfl ((hm.one 3 rfl).trans rfl) (by simp [vR]) zIz (by omega) (by omega) zZT) ?_
      refine zsL [] (3) rfl rfl (fun _=>trivial) (fun m hm=>jk (r:=[I (hiG mp k)]) rfl rfl rfl ((hm.one 3 rfl).trans rfl) (by simp [vR]) (zZ7 hlt) (jF rfl) ty3 (by rfl) (by rfl)) ?_
      refine wQ (zD (zf (zh ?_)))
      refine zg rfl rfl (zi rfl rfl) ?_
      refine zg rfl rfl (zV rfl rfl rfl ⟨(by omega), (by omega)⟩) ?_
      refine zg rfl rfl (zn rfl rfl) ?_
      refine zo ?_
      exact ⟨⟨k + 1, by omega⟩, by dsimp only; omega, zt _ ⟨rfl, rfl, rfl, rfl, rfl, rfl, rfl, trivial⟩ ((congrArg (fun z=>[PO.row [[I 0, wZ]], PO.row [[I mp.wide, .psl 3 (npt mp)]], PO.row [[I mp.wide, .psl 3 (npt mp)]], PO.row z, PO.row [[I mp.wide, .psl 3 (npt mp)]]]) (zZ8 hlt)))⟩
    ·
     have hge:k = npt mp:=by have:=h2; simp [fnF, vR] at this; omega
     subst hge
     refine qp (zRQ (zRQ (qw (zf (zuy (zh ?_))))))
     refine zg rfl rfl (zuz rfl rfl rfl rfl rfl (by exact zLb rfl) rfl zHQ) ?_
     refine jb rfl (qG rfl rfl rfl rfl rfl rfl (zkN rfl) zHQ (by rfl) (by exact zLb rfl)) ?_
     refine zg rfl rfl (zn rfl rfl) ?_
     refine zo (zf (zP ?_))
     exact ⟨.inr rfl, ⟨_, rfl, ⟨_, _, rfl, (jK rfl rfl rfl rfl zHQ rfl ⟨_, _, rfl, AVle.refl _, ⟨_, _, rfl, ⟨((fnF mp (zG mp p (lvl - 1))).vals.map fun n=>[AV.v (.int .i64 n)]), (congrArg (fun z=>some (PO.row z)) z0c), by simp [fnF], rfl⟩, rfl⟩⟩), ⟨_, _, rfl, AVle.refl _, rfl⟩⟩⟩⟩
theorem zZo (mp:Mp) (p:Nat) (lvl:Int) (ho:okM mp) (hp:p < npt mp) (hv:1 <= lvl /\ lvl <= 99999) (hn:lvl <= loG mp p):ACall Tryz.prog G 43 [.agg (eMp mp), ei (p:Int), ei lvl, .v (.bool false)] (.tup [.agg (zHF zVY), .v (.bool false)]):=by
 have hnp:=zJF ho
 have ho2:=ho
 obtain ⟨m1, m2, m3, m4, m5, m6, m7, m8⟩:=ho2
 have h93:=m93 (G:=G) mp ho (.row [[I 0, wZ]]) zZF
 have h94:=m94 (G:=G) mp ho (.row [[I 0, wZ]]) (.row [[I mp.wide, .psl 3 (npt mp)]]) (.row [[I mp.wide, .psl 3 (npt mp)]]) (.row ((List.range (npt mp)).map (hmE mp))) (.row [[I mp.wide, .psl 3 (npt mp)]]) zZF (zZn (show 3 < 8 by omega)) (zZn (show 3 < 8 by omega)) okV (zZn (show 3 < 8 by omega))
 refine zS Tryz.func43 rfl (by kernel_rfl) rfl ?_
 refine zuy (zh ?_)
 refine zg rfl rfl (jf rfl (zY rfl)) ?_
 refine jb rfl (wJ rfl rfl zNn rfl rfl) ?_
 refine zg rfl rfl (zn rfl rfl) ?_
 refine zo (zf (zuy (zh ?_)))
 refine zg rfl rfl (zZ rfl rfl zMg (by exact zLb rfl)) ?_
 refine zg rfl rfl (zi rfl rfl) ?_
 refine zg rfl rfl (zy (av:=[_, _]) rfl ⟨rfl, rfl, trivial⟩ (f92 mp (p:Int) ho (by omega))) ?_
 refine vI  rfl rfl rfl rfl rfl rfl rfl zQT zPK rfl (by rfl) (zY rfl) rfl ?_
 refine zo (zf (zuy (zh ?_)))
 refine zg rfl rfl (zZ rfl rfl zMg (by exact zLb rfl)) ?_
 refine jb rfl (zij (f:=93) (fs:=[]) (cs:=[]) (av:=[.pub (.agg (eMp mp))]) rfl rfl ⟨rfl, rfl, rfl⟩ ⟨rfl, trivial⟩ h93) ?_
 refine jb rfl (wJ rfl rfl zNn rfl rfl) ?_
 refine jb rfl (qG rfl rfl rfl rfl rfl rfl (zkN rfl) zHQ (by rfl) (by exact zLb rfl)) ?_
 refine zo (zf (zuy (zuy (zh ?_))))
 refine zg rfl rfl (zi rfl rfl) ?_
 refine zo (zf (zx rfl (fun h0=>?_) (fun h0=>?_)))
 ·
  exfalso; cases h0
 ·
  refine zC (zf (zuy (zuy (zh ?_))))
  refine zg rfl rfl (zi rfl rfl) ?_
  refine zg rfl rfl (zi rfl rfl) ?_
  refine zk rfl rfl rfl (fun hg=>zi rfl rfl) ?_
  refine zk rfl rfl rfl (fun hg=>zu rfl rfl zHX) ?_
  refine zk (x:=.pub (.tup [])) rfl rfl rfl (fun hg=>absurd hg (by decide)) ?_
  refine zk (x:=.pub (.tup [])) rfl rfl rfl (fun hg=>absurd hg (by decide)) ?_
  refine zg rfl rfl (zU rfl rfl (fun h=>absurd h (by decide)) (fun _=>rfl)) ?_
  refine zg rfl rfl (zi rfl rfl) ?_
  refine zk rfl rfl rfl (fun hg=>zi rfl rfl) ?_
  refine zk rfl rfl rfl (fun hg=>je rfl (rfl)) ?_
  refine zk rfl rfl rfl (fun hg=>zi rfl (rfl)) ?_
  refine zk rfl rfl rfl (fun hg=>zi rfl rfl) ?_
  refine zk rfl rfl rfl (fun hg=>zu rfl rfl zHY) ?_
  refine zk rfl rfl rfl (fun hg=>zA rfl rfl rfl ty3) ?_
  refine zk rfl rfl rfl (fun hg=>zaq rfl rfl rfl) ?_
  refine zk rfl rfl rfl (fun hg=>qI rfl rfl rfl rfl) ?_
  refine zg rfl rfl (qU rfl rfl rfl rfl) ?_
  refine zo (zf (zx rfl (fun h1=>?_) (fun h1=>?_)))
  ·
   refine zuy (zh ?_)
   refine zg rfl rfl (zb3 (cs:=[_, _]) rfl zQH rfl rfl (by rfl) (by simp [ofV])) ?_
   refine jb rfl (qG rfl rfl rfl rfl rfl rfl (zY rfl) zHQ (by rfl) (by exact zLb rfl)) ?_
   refine zg rfl rfl (zn rfl rfl) ?_
   refine zo (zf (zP (zQ ?_)))
   exact ⟨.inr rfl, ⟨_, rfl, ⟨_, _, rfl, (jK rfl rfl rfl rfl zHQ rfl ⟨_, _, rfl, AVle.refl _, ⟨_, _, rfl, AVle.nil, rfl⟩⟩), ⟨_, _, rfl, AVle.refl _, rfl⟩⟩⟩⟩
  ·
   exfalso; unfold loG at hn; simp at h1; omega
theorem zZq (mp:Mp) (p:Nat) (lvl:Int) (ho:okM mp) (hp:p < npt mp) (hv:1 <= lvl /\ lvl <= 99999) (hn:hiG mp p < lvl):ACall Tryz.prog G 43 [.agg (eMp mp), ei (p:Int), ei lvl, .v (.bool true)] (.tup [.agg (zHF zVY), .v (.bool false)]):=by
 have hnp:=zJF ho
 have ho2:=ho
 obtain ⟨m1, m2, m3, m4, m5, m6, m7, m8⟩:=ho2
 have h93:=m93 (G:=G) mp ho (.row [[I 0, wZ]]) zZF
 have h94:=m94 (G:=G) mp ho (.row [[I 0, wZ]]) (.row [[I mp.wide, .psl 3 (npt mp)]]) (.row [[I mp.wide, .psl 3 (npt mp)]]) (.row ((List.range (npt mp)).map (hmE mp))) (.row [[I mp.wide, .psl 3 (npt mp)]]) zZF (zZn (show 3 < 8 by omega)) (zZn (show 3 < 8 by omega)) okV (zZn (show 3 < 8 by omega))
 refine zS Tryz.func43 rfl (by kernel_rfl) rfl ?_
 refine zuy (zh ?_)
 refine zg rfl rfl (jf rfl (zY rfl)) ?_
 refine jb rfl (wJ rfl rfl zNn rfl rfl) ?_
 refine zg rfl rfl (zn rfl rfl) ?_
 refine zo (zf (zuy (zh ?_)))
 refine zg rfl rfl (zZ rfl rfl zMg (by exact zLb rfl)) ?_
 refine zg rfl rfl (zi rfl rfl) ?_
 refine zg rfl rfl (zy (av:=[_, _]) rfl ⟨rfl, rfl, trivial⟩ (f92 mp (p:Int) ho (by omega))) ?_
 refine vI  rfl rfl rfl rfl rfl rfl rfl zQT zPK rfl (by rfl) (zY rfl) rfl ?_
 refine zo (zf (zuy (zh ?_)))
 refine zg rfl rfl (zZ rfl rfl zMg (by exact zLb rfl)) ?_
 refine jb rfl (zij (f:=93) (fs:=[]) (cs:=[]) (av:=[.pub (.agg (eMp mp))]) rfl rfl ⟨rfl, rfl, rfl⟩ ⟨rfl, trivial⟩ h93) ?_
 refine jb rfl (wJ rfl rfl zNn rfl rfl) ?_
 refine jb rfl (qG rfl rfl rfl rfl rfl rfl (zkN rfl) zHQ (by rfl) (by exact zLb rfl)) ?_
 refine zo (zf (zuy (zuy (zh ?_))))
 refine zg rfl rfl (zi rfl rfl) ?_
 refine zo (zf (zx rfl (fun h0=>?_) (fun h0=>?_)))
 ·
  refine zh ?_
  refine zg rfl rfl (zZ rfl rfl zMg (by exact zLb rfl)) ?_
  refine jb rfl (zij (f:=94) (fs:=[]) (cs:=[]) (av:=[.pub (.agg (eMp mp))]) rfl rfl ⟨rfl, rfl, rfl⟩ ⟨rfl, trivial⟩ h94) ?_
  refine jb rfl (qG rfl rfl rfl rfl rfl rfl (zkN rfl) zHQ (by rfl) (by exact zLb rfl)) ?_
  refine zo (zf (zuy (zuy (zh ?_))))
  refine zg rfl rfl (zi rfl rfl) ?_
  refine zg rfl rfl (zi rfl rfl) ?_
  refine zk rfl rfl rfl (fun hg=>zi rfl rfl) ?_
  refine zk rfl rfl rfl (fun hg=>zu rfl rfl zHX) ?_
  refine zk rfl rfl rfl (fun hg=>zA rfl (rfl) rfl ty3) ?_
  refine zk rfl rfl rfl (fun hg=>qR rfl (rfl) (rfl)) ?_
  refine zg rfl rfl (qI rfl rfl rfl rfl) ?_
  refine zg rfl rfl (zi rfl rfl) ?_
  refine zk rfl rfl rfl (fun hg=>zi rfl rfl) ?_
  refine zk rfl rfl rfl (fun hg=>je rfl (if_pos hg)) ?_
  refine zk rfl rfl rfl (fun hg=>zi rfl (if_pos hg)) ?_
  refine zk rfl (jH rfl rfl rfl) rfl (fun hg=>zi rfl rfl) ?_
  refine zk rfl (jH rfl rfl rfl) rfl (fun hg=>zu rfl rfl zHY) ?_
  refine zk rfl (jH rfl rfl rfl) rfl (fun hg=>zA rfl (if_pos hg) rfl ty3) ?_
  refine zk rfl (jH rfl rfl rfl) rfl (fun hg=>zaq rfl (if_pos hg) (if_pos hg)) ?_
  refine zk rfl rfl rfl (fun hg=>qI rfl (if_pos hg) (zha hg) rfl) ?_
  refine zg rfl rfl (qU rfl rfl rfl rfl) ?_
  refine zo (zf (zx rfl (fun h1=>?_) (fun h1=>?_)))
  ·
   refine zuy (zh ?_)
   refine zg rfl rfl (zb3 (cs:=[_, _]) rfl zQH rfl rfl (by rfl) (by simp [ofV])) ?_
   refine jb rfl (qG rfl rfl rfl rfl rfl rfl (zY rfl) zHQ (by rfl) (by exact zLb rfl)) ?_
   refine zg rfl rfl (zn rfl rfl) ?_
   refine zo (zf (zP (zQ ?_)))
   exact ⟨.inr rfl, ⟨_, rfl, ⟨_, _, rfl, (jK rfl rfl rfl rfl zHQ rfl ⟨_, _, rfl, AVle.refl _, ⟨_, _, rfl, AVle.nil, rfl⟩⟩), ⟨_, _, rfl, AVle.refl _, rfl⟩⟩⟩⟩
  ·
   exfalso; unfold hiG at hn; simp at h1; omega
 ·
  exfalso; cases h0
def vT (mp:Mp) (p:Nat) (lvl:Int) (k:Nat):List (List EV):=(List.range (npt mp)).map fun i=>[I (if i < k then Pn.xG mp p lvl i else loG mp i)]
theorem zZV {mp:Mp} {p:Nat} {lvl:Int} {k:Nat}:∀ q ∈ vT mp p lvl k, q.length = 1:=fun q h=>by obtain ⟨c, _, rfl⟩:=List.mem_map.1 h; rfl
theorem zZ5 {mp:Mp} {p:Nat} {lvl:Int} {k:Nat} (h:k < npt mp):(vT mp p lvl k)[k]? = some [I (loG mp k)]:=by unfold vT; simp [h]
theorem z0a {mp:Mp} {p:Nat} {lvl:Int} {k:Nat} (h:k < npt mp):(vT mp p lvl k).set k [I (Pn.xG mp p lvl k)] = vT mp p lvl (k + 1):=by
 apply List.ext_getElem?
 intro i
 unfold vT
 rw [List.getElem?_set]
 by_cases e:k = i
 ·
  subst e; simp [h]
 ·
  rw [if_neg e]
  simp only[List.getElem?_map, List.getElem?_range]
  by_cases hi:i < npt mp
  ·
   rw [List.getElem?_range hi]
   simp only[Option.map_some]
   by_cases h2:i < k
   ·
    rw [if_pos h2, if_pos (by omega)]
   ·
    rw [if_neg h2, if_neg (by omega)]
  ·
   simp [hi]
theorem z0g {mp:Mp} {p:Nat} {lvl:Int}:(List.range (npt mp)).map (lmE mp) = vT mp p lvl 0:=List.map_congr_left fun i _=>by
 rw [if_neg (Nat.not_lt_zero i)]; rfl
theorem zZ9 {mp:Mp} {p:Nat} {lvl:Int}:vT mp p lvl (npt mp) = ((fnF mp (Pn.xG mp p lvl)).vals.map fun n=>[AV.v (.int .i64 n)]).map (·.map .pub):=by
 unfold vT fnF
 rw [List.map_map, List.map_map]
 exact List.map_congr_left fun i hi=>by rw [if_pos (List.mem_range.1 hi)]; rfl
theorem zZr (mp:Mp) (p:Nat) (lvl:Int) (ho:okM mp) (hp:p < npt mp) (hv:1 <= lvl /\ lvl <= 99999) (hn:lvl <= hiG mp p):ACall Tryz.prog G 43 [.agg (eMp mp), ei (p:Int), ei lvl, .v (.bool true)] (.tup [.agg (zHF (fnF mp (Pn.xG mp p lvl))), .v (.bool true)]):=by
 have hnp:=zJF ho
 have ho2:=ho
 obtain ⟨m1, m2, m3, m4, m5, m6, m7, m8⟩:=ho2
 have h93:=m93 (G:=G) mp ho (.row [[I 0, wZ]]) zZF
 have h94:=m94 (G:=G) mp ho (.row [[I 0, wZ]]) (.row [[I mp.wide, .psl 3 (npt mp)]]) (.row [[I mp.wide, .psl 3 (npt mp)]]) (.row ((List.range (npt mp)).map (hmE mp))) (.row [[I mp.wide, .psl 3 (npt mp)]]) zZF (zZn (show 3 < 8 by omega)) (zZn (show 3 < 8 by omega)) okV (zZn (show 3 < 8 by omega))
 refine zS Tryz.func43 rfl (by kernel_rfl) rfl ?_
 refine zuy (zh ?_)
 refine zg rfl rfl (jf rfl (zY rfl)) ?_
 refine jb rfl (wJ rfl rfl zNn rfl rfl) ?_
 refine zg rfl rfl (zn rfl rfl) ?_
 refine zo (zf (zuy (zh ?_)))
 refine zg rfl rfl (zZ rfl rfl zMg (by exact zLb rfl)) ?_
 refine zg rfl rfl (zi rfl rfl) ?_
 refine zg rfl rfl (zy (av:=[_, _]) rfl ⟨rfl, rfl, trivial⟩ (f92 mp (p:Int) ho (by omega))) ?_
 refine vI  rfl rfl rfl rfl rfl rfl rfl zQT zPK rfl (by rfl) (zY rfl) rfl ?_
 refine zo (zf (zuy (zh ?_)))
 refine zg rfl rfl (zZ rfl rfl zMg (by exact zLb rfl)) ?_
 refine jb rfl (zij (f:=93) (fs:=[]) (cs:=[]) (av:=[.pub (.agg (eMp mp))]) rfl rfl ⟨rfl, rfl, rfl⟩ ⟨rfl, trivial⟩ h93) ?_
 refine jb rfl (wJ rfl rfl zNn rfl rfl) ?_
 refine jb rfl (qG rfl rfl rfl rfl rfl rfl (zkN rfl) zHQ (by rfl) (by exact zLb rfl)) ?_
 refine zo (zf (zuy (zuy (zh ?_))))
 refine zg rfl rfl (zi rfl rfl) ?_
 refine zo (zf (zx rfl (fun h0=>?_) (fun h0=>?_)))
 ·
  refine zh ?_
  refine zg rfl rfl (zZ rfl rfl zMg (by exact zLb rfl)) ?_
  refine jb rfl (zij (f:=94) (fs:=[]) (cs:=[]) (av:=[.pub (.agg (eMp mp))]) rfl rfl ⟨rfl, rfl, rfl⟩ ⟨rfl, trivial⟩ h94) ?_
  refine jb rfl (qG rfl rfl rfl rfl rfl rfl (zkN rfl) zHQ (by rfl) (by exact zLb rfl)) ?_
  refine zo (zf (zuy (zuy (zh ?_))))
  refine zg rfl rfl (zi rfl rfl) ?_
  refine zg rfl rfl (zi rfl rfl) ?_
  refine zk rfl rfl rfl (fun hg=>zi rfl rfl) ?_
  refine zk rfl rfl rfl (fun hg=>zu rfl rfl zHX) ?_
  refine zk rfl rfl rfl (fun hg=>zA rfl (rfl) rfl ty3) ?_
  refine zk rfl rfl rfl (fun hg=>qR rfl (rfl) (rfl)) ?_
  refine zg rfl rfl (qI rfl rfl rfl rfl) ?_
  refine zg rfl rfl (zi rfl rfl) ?_
  refine zk rfl rfl rfl (fun hg=>zi rfl rfl) ?_
  refine zk rfl rfl rfl (fun hg=>je rfl (if_pos hg)) ?_
  refine zk rfl rfl rfl (fun hg=>zi rfl (if_pos hg)) ?_
  refine zk rfl (jH rfl rfl rfl) rfl (fun hg=>zi rfl rfl) ?_
  refine zk rfl (jH rfl rfl rfl) rfl (fun hg=>zu rfl rfl zHY) ?_
  refine zk rfl (jH rfl rfl rfl) rfl (fun hg=>zA rfl (if_pos hg) rfl ty3) ?_
  refine zk rfl (jH rfl rfl rfl) rfl (fun hg=>zaq rfl (if_pos hg) (if_pos hg)) ?_
  refine zk rfl rfl rfl (fun hg=>qI rfl (if_pos hg) (zha hg) rfl) ?_
  refine zg rfl rfl (qU rfl rfl rfl rfl) ?_
  refine zo (zf (zx rfl (fun h1=>?_) (fun h1=>?_)))
  ·
   exfalso; unfold hiG at hn; simp at h1; omega
  ·
   refine zC (zf (zuy (zuy (zh ?_))))
   refine zg rfl rfl (zn rfl rfl) ?_
   refine zo (zf (zB ?_))
   refine qy (ι:={ k:Nat // k <= npt mp }) (fun k=>⟨Tryz.f43.ntmps, frL [(1, I (p:Int)), (2, I lvl), (3, B true), (4, .pub (.ptr (eMp mp))), (8, .pp 0 1 0 0), (11, .pp 4 1 0 0), (12, I (k.1:Int))], [.row [[I 0, wZ]], .row [[I mp.wide, .psl 3 (npt mp)]], .row [[I mp.wide, .psl 3 (npt mp)]], .row ((List.range (npt mp)).map (hmE mp)), .row [[I mp.wide, .psl 7 (npt mp)]], .row [[I mp.wide, .psl 7 (npt mp)]], .row [[I mp.wide, .psl 7 (npt mp)]], .row (vT mp p lvl k.1)]⟩) (fun k=>npt mp - k.1) (⟨0, by omega⟩) ?_ ?_
   ·
    exact zt _ ⟨rfl, rfl, rfl, rfl, rfl, rfl, rfl, trivial⟩ ((congrArg (fun z=>([.row [[I 0, wZ]], .row [[I mp.wide, .psl 3 (npt mp)]], .row [[I mp.wide, .psl 3 (npt mp)]], .row ((List.range (npt mp)).map (hmE mp)), .row [[I mp.wide, .psl 7 (npt mp)]], .row [[I mp.wide, .psl 7 (npt mp)]], .row [[I mp.wide, .psl 7 (npt mp)]], .row z]:List PO)) z0g))
   ·
    rintro ⟨k, hk⟩
    dsimp only
    refine zuy (zuy (zh ?_))
    refine zg rfl rfl (zi rfl rfl) ?_
    refine zg rfl rfl (qE rfl rfl rfl rfl zHx) ?_
    refine zg rfl rfl (zK rfl rfl rfl rfl rfl rfl zHR) ?_
    refine zg rfl rfl (jE rfl rfl rfl (by simp [vT]) Tryz.underlying27) ?_
    refine zg rfl rfl (zUB rfl rfl rfl) ?_
    refine zo (zf (zx rfl (fun h2=>?_) (fun h2=>?_)))
    ·
     have hlt:k < npt mp:=by simpa [fnF, vT] using h2
     have hdb:=zW2 ho (p:=p) (i:=k) (by omega) (by omega)
     unfold shD at hdb
     refine zC (zf (zuy (zB (zuy ?_))))
     refine qY mixed (by kernel_rfl) rfl ?_
     refine zH rfl (zu rfl rfl zI7) ?_
     refine zH rfl (zA rfl rfl rfl ty3) ?_
     refine zH rfl (zu rfl rfl zH6) ?_
     refine zH rfl (zA rfl rfl rfl ty3) ?_
     refine zH rfl (zi rfl rfl) ?_
     refine zH rfl (zi rfl rfl) ?_
     refine zH rfl (zy (av:=[_, _, _]) rfl ⟨rfl, rfl, rfl, trivial⟩ (f55 mp.wide (p:Int) (k:Int) (by omega) (by omega) (by omega))) ?_
     refine zH rfl (zcY rfl rfl rfl ⟨(by omega), (by omega)⟩) ?_
     refine zH rfl (zn rfl rfl) ?_
     refine jw (zf (zuy (zh ?_)))
     refine zg rfl rfl (zi rfl rfl) ?_
     refine zo (zf (zx rfl (fun h3=>?_) (fun h3=>?_)))
     ·
      refine wR (fun _=>True) (fun k=>match k with | 0=>.rd [4] | 1=>.rd [4] | 3=>.rd [4] | 4=>.rd [4] | 6=>.rd [7] | 7=>.rd [7] | 12=>.rd [7] | 13=>.rw [] (7) | _=>.here) mixed (by kernel_rfl) rfl (by kernel_rfl) trivial ?_
      refine zkx [4] rfl rfl (fun m hm hC=>qE rfl rfl ((hm.one 4 rfl).trans rfl) rfl zHx) ?_
      refine zkx [4] rfl rfl (fun m hm hC=>zK (r:=[I mp.wide, .psl 7 (npt mp)]) (c:=.psl 7 (npt mp)) rfl rfl ((hm.one 4 rfl).trans rfl) rfl rfl rfl zHR) ?_
      refine zX rfl rfl (zi rfl rfl) ?_
      refine zkx [4] rfl rfl (fun m hm hC=>qE rfl rfl ((hm.one 4 rfl).trans rfl) rfl zHx) ?_
      refine zkx [4] rfl rfl (fun m hm hC=>zK (r:=[I mp.wide, .psl 7 (npt mp)]) (c:=.psl 7 (npt mp)) rfl rfl ((hm.one 4 rfl).trans rfl) rfl rfl rfl zHR) ?_
      refine zX rfl rfl (zi rfl rfl) ?_
      refine zkx [7] rfl rfl (fun m hm hC=>qc rfl rfl rfl ((hm.one 7 rfl).trans rfl) (by simp [vT]) zIz (by omega) (by omega) zZV) ?_
      refine zkx [7] rfl rfl (fun m hm hC=>zK (r:=[I (loG mp k)]) rfl rfl ((hm.one 7 rfl).trans rfl) (by simp [vT]) (zZ5 hlt) rfl ty3) ?_
      refine zX rfl rfl (zi rfl rfl) ?_
      refine zX rfl rfl (zi rfl rfl) ?_
      refine zX rfl rfl (ze5 rfl rfl rfl ⟨(by omega), (by omega)⟩) ?_
      refine zX rfl rfl (zq3 rfl rfl rfl) ?_
      refine zkx [7] rfl rfl (fun m hm hC=>qc rfl rfl rfl ((hm.one 7 rfl).trans rfl) (by simp [vT]) zIz (by omega) (by omega) zZV) ?_
      refine zsL [] (7) rfl rfl (fun _=>trivial) (fun m hm=>jk (r:=[I (loG mp k)]) rfl rfl rfl ((hm.one 7 rfl).trans rfl) (by simp [vT]) (zZ5 hlt) (jF rfl) ty3 (by rfl) (by rfl)) ?_
      refine wQ (zD (zf (zh ?_)))
      refine zg rfl rfl (zi rfl rfl) ?_
      refine zg rfl rfl (zV rfl rfl rfl ⟨(by omega), (by omega)⟩) ?_
      refine zg rfl rfl (zn rfl rfl) ?_
      refine zo ?_
      exact ⟨⟨k + 1, by omega⟩, by dsimp only; omega, zt _ ⟨rfl, rfl, rfl, rfl, rfl, rfl, rfl, trivial⟩ ((congrArg (fun z=>([.row [[I 0, wZ]], .row [[I mp.wide, .psl 3 (npt mp)]], .row [[I mp.wide, .psl 3 (npt mp)]], .row ((List.range (npt mp)).map (hmE mp)), .row [[I mp.wide, .psl 7 (npt mp)]], .row [[I mp.wide, .psl 7 (npt mp)]], .row [[I mp.wide, .psl 7 (npt mp)]], .row z]:List PO)) (z0a hlt)))⟩
     ·
      exfalso; cases h3
    ·
     have hge:k = npt mp:=by have:=h2; simp [fnF, vT] at this; omega
     subst hge
     refine qp (zRQ (zRQ (qw (zf (zuy (zh ?_))))))
     refine zg rfl rfl (zuz rfl rfl rfl rfl rfl (by exact zLb rfl) rfl zHQ) ?_
     refine jb rfl (qG rfl rfl rfl rfl rfl rfl (zkN rfl) zHQ (by rfl) (by exact zLb rfl)) ?_
     refine zg rfl rfl (zn rfl rfl) ?_
     refine zo (zf (zP ?_))
     exact ⟨.inr rfl, ⟨_, rfl, ⟨_, _, rfl, (jK rfl rfl rfl rfl zHQ rfl ⟨_, _, rfl, AVle.refl _, ⟨_, _, rfl, ⟨((fnF mp (Pn.xG mp p lvl)).vals.map fun n=>[AV.v (.int .i64 n)]), (congrArg (fun z=>some (PO.row z)) zZ9), by simp [fnF], rfl⟩, rfl⟩⟩), ⟨_, _, rfl, AVle.refl _, rfl⟩⟩⟩⟩
 ·
  exfalso; cases h0
end Go.Av
end
section
namespace Go.Av
open Go.Proofs
set_option maxRecDepth 100000
set_option maxHeartbeats 1000000
variable {G:Glob}
theorem zZU (mp:Mp) (p:Nat) (lvl:Int) (ho:okM mp) (hp:p < npt mp) (R:Fld) (b2:Bool) (h43:ACall Tryz.prog G 43 [.agg (eMp mp), ei (p:Int), ei lvl, .v (.bool true)] (.tup [.agg (zHF R), .v (.bool b2)])) (hR:b2 = true -> zHz R = true /\ R.vals.length = npt mp):ACall Tryz.prog G 42 [.agg (eMp mp), ei (p:Int), ei lvl, .v (.bool true)] (ei (if (decide (loG mp p ≥ lvl) && zV2 (fnF mp (hiG mp)) lvl true p) = true then 3 else if (b2 && zV2 R lvl true p) = true then 2 else 1)):=by
 have hnp:=zJF ho
 refine zS Tryz.func42 rfl (by kernel_rfl) rfl ?_
 refine zuy (zh ?_)
 refine zg rfl rfl (jf rfl (zY rfl)) ?_
 refine zg rfl rfl (zn rfl rfl) ?_
 refine zo (zf (zuy (zh ?_)))
 refine zg rfl rfl (zZ rfl rfl zMg (by exact zLb rfl)) ?_
 refine zg rfl rfl (zi rfl rfl) ?_
 refine zg rfl rfl (zy (av:=[_, _]) rfl ⟨rfl, rfl, trivial⟩ (f92 mp (p:Int) ho (by omega))) ?_
 refine vI  rfl rfl rfl rfl rfl rfl rfl zQT zPK rfl (by rfl) (zY rfl) rfl ?_
 refine zo (zf (zuy (zuy (zh ?_))))
 refine zg rfl rfl (zi rfl rfl) ?_
 refine zg rfl rfl (zi rfl rfl) ?_
 refine zk rfl rfl rfl (fun hg=>zu rfl rfl zHY) ?_
 refine zk rfl rfl rfl (fun hg=>zA rfl (rfl) rfl ty3) ?_
 refine zk rfl rfl rfl (fun hg=>zi rfl rfl) ?_
 refine zk rfl rfl rfl (fun hg=>zbe rfl (rfl) (rfl)) ?_
 refine zg rfl rfl (qI rfl rfl rfl rfl) ?_
 refine zg rfl rfl (zi rfl rfl) ?_
 refine zk rfl rfl rfl (fun hg=>zZ rfl rfl zMg (by exact zLb rfl)) ?_
 refine zk rfl rfl rfl (fun hg=>zy (av:=[_]) rfl ⟨((if_pos hg)), trivial⟩ (f93 mp ho)) ?_
 refine zk rfl rfl rfl (fun hg=>zi rfl rfl) ?_
 refine zk rfl rfl rfl (fun hg=>zi rfl rfl) ?_
 refine zk rfl rfl rfl (fun hg=>zy (av:=[_, _, _, _]) rfl ⟨((if_pos hg)), ((if_pos hg)), ((if_pos hg)), rfl, trivial⟩ (f46 (fnF mp (hiG mp)) p lvl true (zVn ho fun i hi=>zVH ho hi) (by rw [zUT]; exact hp) (by rw [zUT]; omega))) ?_
 refine zg rfl rfl (qI rfl rfl rfl rfl) ?_
 refine zg rfl rfl (zi rfl rfl) ?_
 refine zk rfl rfl rfl (fun hg=>zi rfl rfl) ?_
 refine zk rfl rfl rfl (fun hg=>je rfl (if_pos hg)) ?_
 refine zk rfl rfl rfl (fun hg=>zi rfl (if_pos hg)) ?_
 refine zk rfl (jH rfl rfl rfl) rfl (fun hg=>zu rfl rfl zHX) ?_
 refine zk rfl (jH rfl rfl rfl) rfl (fun hg=>zA rfl (if_pos hg) rfl ty3) ?_
 refine zk rfl (jH rfl rfl rfl) rfl (fun hg=>zi rfl rfl) ?_
 refine zk rfl (jH rfl rfl rfl) rfl (fun hg=>zUB rfl (if_pos hg) (if_pos hg)) ?_
 refine zk rfl rfl rfl (fun hg=>qI rfl (if_pos hg) (zha hg) rfl) ?_
 refine zk rfl rfl rfl (fun hg=>zi rfl (if_pos hg)) ?_
 refine zk rfl (jH rfl rfl rfl) rfl (fun hg=>zZ rfl rfl zMg (by exact zLb rfl)) ?_
 refine zk rfl (jH rfl rfl rfl) rfl (fun hg=>zy (av:=[_]) rfl ⟨((if_pos hg)), trivial⟩ (f94 mp ho)) ?_
 refine zk rfl (jH rfl rfl rfl) rfl (fun hg=>zi rfl rfl) ?_
 refine zk rfl (jH rfl rfl rfl) rfl (fun hg=>zi rfl rfl) ?_
 refine zk rfl (jH rfl rfl rfl) rfl (fun hg=>zy (av:=[_, _, _, _]) rfl ⟨((if_pos hg)), ((if_pos hg)), ((if_pos hg)), rfl, trivial⟩ (f46 (fnF mp (loG mp)) p lvl false (zVn ho fun i hi=>zVK ho hi) (by rw [zUT]; exact hp) (by rw [zUT]; omega))) ?_
 refine zk rfl rfl rfl (fun hg=>qI rfl (if_pos hg) (zha hg) rfl) ?_
 refine zg rfl rfl (qU rfl rfl rfl rfl) ?_
 refine zo (zf (zx rfl (fun h0=>?_) (fun h0=>?_)))
 ·
  have hs:(decide (loG mp p ≥ lvl) && zV2 (fnF mp (hiG mp)) lvl true p) = true:=by first | exact h0 | (have e:=h0; simp at e; simp; exact e)
  refine zuy (zh ?_)
  refine zg rfl rfl (zn rfl rfl) ?_
  refine zo (zf (zP (zQ ?_)))
  exact ⟨.inr rfl, AVle.of (by rw [if_pos hs]; rfl)⟩
 ·
  have hs:¬ (decide (loG mp p ≥ lvl) && zV2 (fnF mp (hiG mp)) lvl true p) = true:=fun e=>by first | (rw [show _ = true from e] at h0; cases h0) | (have e1:=e; have e0:=h0; simp at e1 e0; first | exact absurd e1.2 (by simp [e0 e1.1]) | omega)
  refine zC (zf (zuy (zuy (zh ?_))))
  refine zg rfl rfl (zZ rfl rfl zMg (by exact zLb rfl)) ?_
  refine zg rfl rfl (zi rfl rfl) ?_
  refine zg rfl rfl (zi rfl rfl) ?_
  refine zg rfl rfl (zi rfl rfl) ?_
  refine zg rfl rfl (zy (av:=[_, _, _, _]) rfl ⟨rfl, rfl, rfl, rfl, trivial⟩ h43) ?_
  refine zg rfl rfl (zq rfl rfl) ?_
  refine zg rfl rfl (zN rfl rfl rfl) ?_
  refine zg rfl rfl (zN rfl rfl rfl) ?_
  refine vI  rfl rfl rfl rfl rfl rfl rfl zNn zHQ rfl (by rfl) (zY rfl) rfl ?_
  refine zg rfl rfl (zn rfl rfl) ?_
  refine zo (zf (zuy (zh ?_)))
  refine zg rfl rfl (zi rfl rfl) ?_
  refine zg rfl rfl (zi rfl rfl) ?_
  refine zk rfl rfl rfl (fun hg=>zZ rfl rfl zHQ (by exact zLb rfl)) ?_
  refine zk rfl rfl rfl (fun hg=>zi rfl rfl) ?_
  refine zk rfl rfl rfl (fun hg=>zi rfl rfl) ?_
  refine zk rfl rfl rfl (fun hg=>zi rfl rfl) ?_
  refine zk rfl rfl rfl (fun hg=>zy (av:=[_, _, _, _]) rfl ⟨((if_pos hg)), ((if_pos hg)), ((if_pos hg)), ((if_pos hg)), trivial⟩ (f46 R p lvl true (hR hg).1 (by have:=(hR hg).2; omega) (by have:=(hR hg).2; omega))) ?_
  refine zg rfl rfl (qI rfl rfl rfl rfl) ?_
  refine zo (zf (zx rfl (fun h1=>?_) (fun h1=>?_)))
  ·
   have hm:(b2 && zV2 R lvl true p) = true:=h1
   refine zuy (zh ?_)
   refine zg rfl rfl (zn rfl rfl) ?_
   refine zo (zf (zP (zQ ?_)))
   exact ⟨.inr rfl, AVle.of (by rw [if_neg hs, if_pos hm]; rfl)⟩
  ·
   have hm:¬ (b2 && zV2 R lvl true p) = true:=by rw [h1]; decide
   refine zC (zf (zuy (zh ?_)))
   refine zg rfl rfl (zn rfl rfl) ?_
   refine zo (zf (zP ?_))
   exact ⟨.inr rfl, AVle.of (by rw [if_neg hs, if_neg hm]; rfl)⟩
theorem zZP (mp:Mp) (p:Nat) (lvl:Int) (ho:okM mp) (hp:p < npt mp) (R:Fld) (b2:Bool) (h43:ACall Tryz.prog G 43 [.agg (eMp mp), ei (p:Int), ei lvl, .v (.bool false)] (.tup [.agg (zHF R), .v (.bool b2)])) (hR:b2 = true -> zHz R = true /\ R.vals.length = npt mp):ACall Tryz.prog G 42 [.agg (eMp mp), ei (p:Int), ei lvl, .v (.bool false)] (ei (if (decide (hiG mp p < lvl) && zV2 (fnF mp (loG mp)) lvl false p) = true then 3 else if (b2 && zV2 R lvl false p) = true then 2 else 1)):=by
 have hnp:=zJF ho
 refine zS Tryz.func42 rfl (by kernel_rfl) rfl ?_
 refine zuy (zh ?_)
 refine zg rfl rfl (jf rfl (zY rfl)) ?_
 refine zg rfl rfl (zn rfl rfl) ?_
 refine zo (zf (zuy (zh ?_)))
 refine zg rfl rfl (zZ rfl rfl zMg (by exact zLb rfl)) ?_
 refine zg rfl rfl (zi rfl rfl) ?_
 refine zg rfl rfl (zy (av:=[_, _]) rfl ⟨rfl, rfl, trivial⟩ (f92 mp (p:Int) ho (by omega))) ?_
 refine vI  rfl rfl rfl rfl rfl rfl rfl zQT zPK rfl (by rfl) (zY rfl) rfl ?_
 refine zo (zf (zuy (zuy (zh ?_))))
 refine zg rfl rfl (zi rfl rfl) ?_
 refine zg rfl rfl (zi rfl rfl) ?_
 refine zk rfl rfl rfl (fun hg=>zu rfl rfl zHY) ?_
 refine zk (x:=.pub (.tup [])) rfl rfl rfl (fun hg=>absurd hg (by decide)) ?_
 refine zk rfl rfl rfl (fun hg=>zi rfl rfl) ?_
 refine zk (x:=.pub (.tup [])) rfl rfl rfl (fun hg=>absurd hg (by decide)) ?_
 refine zg rfl rfl (zU rfl rfl (fun h=>absurd h (by decide)) (fun _=>rfl)) ?_
 refine zg rfl rfl (zi rfl rfl) ?_
 refine zk rfl rfl rfl (fun hg=>zZ rfl rfl zMg (by exact zLb rfl)) ?_
 refine zk rfl rfl rfl (fun hg=>zy (av:=[_]) rfl ⟨((if_pos hg)), trivial⟩ (f93 mp ho)) ?_
 refine zk rfl rfl rfl (fun hg=>zi rfl rfl) ?_
 refine zk rfl rfl rfl (fun hg=>zi rfl rfl) ?_
 refine zk rfl rfl rfl (fun hg=>zy (av:=[_, _, _, _]) rfl ⟨((if_pos hg)), ((if_pos hg)), ((if_pos hg)), rfl, trivial⟩ (f46 (fnF mp (hiG mp)) p lvl true (zVn ho fun i hi=>zVH ho hi) (by rw [zUT]; exact hp) (by rw [zUT]; omega))) ?_
 refine zg rfl rfl (zU rfl rfl (fun h=>absurd h (by decide)) (fun _=>rfl)) ?_
 refine zg rfl rfl (zi rfl rfl) ?_
 refine zk rfl rfl rfl (fun hg=>zi rfl rfl) ?_
 refine zk rfl rfl rfl (fun hg=>je rfl (rfl)) ?_
 refine zk rfl rfl rfl (fun hg=>zi rfl (rfl)) ?_
 refine zk rfl rfl rfl (fun hg=>zu rfl rfl zHX) ?_
 refine zk rfl rfl rfl (fun hg=>zA rfl rfl rfl ty3) ?_
 refine zk rfl rfl rfl (fun hg=>zi rfl rfl) ?_
 refine zk rfl rfl rfl (fun hg=>zUB rfl rfl rfl) ?_
 refine zk rfl rfl rfl (fun hg=>qI rfl rfl rfl rfl) ?_
 refine zk rfl rfl rfl (fun hg=>zi rfl (rfl)) ?_
 refine zk rfl rfl rfl (fun hg=>zZ rfl rfl zMg (by exact zLb rfl)) ?_
 refine zk rfl rfl rfl (fun hg=>zy (av:=[_]) rfl ⟨(if_pos hg), trivial⟩ (f94 mp ho)) ?_
 refine zk rfl rfl rfl (fun hg=>zi rfl rfl) ?_
 refine zk rfl rfl rfl (fun hg=>zi rfl rfl) ?_
 refine zk rfl rfl rfl (fun hg=>zy (av:=[_, _, _, _]) rfl ⟨(if_pos hg), (if_pos hg), (if_pos hg), rfl, trivial⟩ (f46 (fnF mp (loG mp)) p lvl false (zVn ho fun i hi=>zVK ho hi) (by rw [zUT]; exact hp) (by rw [zUT]; omega))) ?_
 refine zk rfl rfl rfl (fun hg=>qI rfl (rfl) (zha hg) rfl) ?_
 refine zg rfl rfl (qU rfl rfl rfl rfl) ?_
 refine zo (zf (zx rfl (fun h0=>?_) (fun h0=>?_)))
 ·
  have hs:(decide (hiG mp p < lvl) && zV2 (fnF mp (loG mp)) lvl false p) = true:=by first | exact h0 | (have e:=h0; simp at e; simp; exact e)
  refine zuy (zh ?_)
  refine zg rfl rfl (zn rfl rfl) ?_
  refine zo (zf (zP (zQ ?_)))
  exact ⟨.inr rfl, AVle.of (by rw [if_pos hs]; rfl)⟩
 ·
  have hs:¬ (decide (hiG mp p < lvl) && zV2 (fnF mp (loG mp)) lvl false p) = true:=fun e=>by first | (rw [show _ = true from e] at h0; cases h0) | (have e1:=e; have e0:=h0; simp at e1 e0; first | exact absurd e1.2 (by simp [e0 e1.1]) | omega)
  refine zC (zf (zuy (zuy (zh ?_))))
  refine zg rfl rfl (zZ rfl rfl zMg (by exact zLb rfl)) ?_
  refine zg rfl rfl (zi rfl rfl) ?_
  refine zg rfl rfl (zi rfl rfl) ?_
  refine zg rfl rfl (zi rfl rfl) ?_
  refine zg rfl rfl (zy (av:=[_, _, _, _]) rfl ⟨rfl, rfl, rfl, rfl, trivial⟩ h43) ?_
  refine zg rfl rfl (zq rfl rfl) ?_
  refine zg rfl rfl (zN rfl rfl rfl) ?_
  refine zg rfl rfl (zN rfl rfl rfl) ?_
  refine vI  rfl rfl rfl rfl rfl rfl rfl zNn zHQ rfl (by rfl) (zY rfl) rfl ?_
  refine zg rfl rfl (zn rfl rfl) ?_
  refine zo (zf (zuy (zh ?_)))
  refine zg rfl rfl (zi rfl rfl) ?_
  refine zg rfl rfl (zi rfl rfl) ?_
  refine zk rfl rfl rfl (fun hg=>zZ rfl rfl zHQ (by exact zLb rfl)) ?_
  refine zk rfl rfl rfl (fun hg=>zi rfl rfl) ?_
  refine zk rfl rfl rfl (fun hg=>zi rfl rfl) ?_
  refine zk rfl rfl rfl (fun hg=>zi rfl rfl) ?_
  refine zk rfl rfl rfl (fun hg=>zy (av:=[_, _, _, _]) rfl ⟨((if_pos hg)), ((if_pos hg)), ((if_pos hg)), ((if_pos hg)), trivial⟩ (f46 R p lvl false (hR hg).1 (by have:=(hR hg).2; omega) (by have:=(hR hg).2; omega))) ?_
  refine zg rfl rfl (qI rfl rfl rfl rfl) ?_
  refine zo (zf (zx rfl (fun h1=>?_) (fun h1=>?_)))
  ·
   have hm:(b2 && zV2 R lvl false p) = true:=h1
   refine zuy (zh ?_)
   refine zg rfl rfl (zn rfl rfl) ?_
   refine zo (zf (zP (zQ ?_)))
   exact ⟨.inr rfl, AVle.of (by rw [if_neg hs, if_pos hm]; rfl)⟩
  ·
   have hm:¬ (b2 && zV2 R lvl false p) = true:=by rw [h1]; decide
   refine zC (zf (zuy (zh ?_)))
   refine zg rfl rfl (zn rfl rfl) ?_
   refine zo (zf (zP ?_))
   exact ⟨.inr rfl, AVle.of (by rw [if_neg hs, if_neg hm]; rfl)⟩
end Go.Av
end
