import Derived.Test.YtdjncbjfejdamaaGreatDoorChSB
import Derived.Test.YtdjncbjfejdamaaGreatDoorChB
import Derived.Test.YtdjncbjfejdamaaGreatDoorChA
set_option linter.unusedVariables false
set_option linter.unusedSimpArgs false
section
namespace Go.Av
open Go.Proofs
set_option maxRecDepth 100000
set_option maxHeartbeats 1000000
variable {G:Glob}
theorem zV8:tyIs Tryz.prog 136 true 3 = true:=by kernel_rfl
theorem zV1 {l:List Int} {k:Nat} (h:k < l.length):(l.map fun n=>[AV.v (.int .i64 n)])[k]? = some [.v (.int .i64 (l.getD k 0))]:=by simp [h, List.getD]
def shD (m:Mp) (p:Nat) (i:Nat):Int:=m.slope * dist m.wide (p:Int) (i:Int)
def shG (m:Mp) (p:Nat) (lvl:Int) (hi:Bool) (i:Nat):Int:=match hi with
 | true=>maxL [(los m).getD i 0, lvl - shD m p i]
 | false=>minL [(his m).getD i 0, lvl - 1 + shD m p i]
def shL (m:Mp) (p:Nat) (lvl:Int) (hi:Bool):List Int:=(List.range (npt m)).map (shG m p lvl hi)
def shE (m:Mp) (p:Nat) (lvl:Int) (hi:Bool) (i:Nat):List EV:=[I (shG m p lvl hi i)]
theorem zW2 {m:Mp} (hm:okM m) {p i:Nat} (hp:p <= 30) (hi:i <= 30):0 <= shD m p i /\ shD m p i <= 180000:=by
 obtain ⟨m1, m2, m3, m4, m5, m6, m7, m8⟩:=hm
 have h:=zJZ (w:=m.wide) (a:=(p:Int)) (b:=(i:Int)) (N:=30) m1 (by omega) (by omega)
 unfold shD
 have h1:=Int.mul_nonneg m5 h.1
 have h2:m.slope * dist m.wide (p:Int) (i:Int) <= 5000 * 36:=Int.mul_le_mul m6 (by omega) h.1 (by omega)
 omega
theorem zWV (m:Mp) (p:Nat) (lvl:Int) (hm:okM m) (hp:p < npt m) (hv:1 <= lvl /\ lvl <= 99999) (h:(decide ((his m).getD p 0 < lvl)) = true):ACall Tryz.prog G 90 [.agg (zHt m), .agg (zV7 (p:Int) lvl true)] (.tup [.v (.slice none 0 0), .v (.bool false)]):=by
 have hn:=zJF hm
 have ho:=hm
 obtain ⟨m1, m2, m3, m4, m5, m6, m7, m8⟩:=ho
 have har:=area m1 m2 m3 m4
 have hlol:=zK2 m
 have hhil:=zK3 m
 refine zS Tryz.func90 rfl (by kernel_rfl) rfl ?_
 refine zuy (zh ?_)
 refine zg rfl rfl (jf rfl (zY rfl)) ?_
 refine zg rfl rfl (jf rfl (zY rfl)) ?_
 refine zg rfl rfl (zn rfl rfl) ?_
 refine zg rfl rfl (zn rfl rfl) ?_
 refine zo (zf (zuy (zh ?_)))
 refine zg rfl rfl (zZ rfl rfl zIw (by exact zLb rfl)) ?_
 refine zg rfl rfl (zy (av:=[_]) rfl ⟨rfl, trivial⟩ (f64 m hm)) ?_
 refine vI  rfl rfl rfl rfl rfl rfl rfl zNH zMy rfl (by rfl) (zY rfl) rfl ?_
 refine zo (zf (zuy (zh ?_)))
 refine zg rfl rfl (zn rfl rfl) ?_
 refine zo (zf (zuy (zuy (zh ?_))))
 refine zg rfl rfl (vP rfl rfl rfl zJf (by omega) (by omega)) ?_
 refine zg rfl rfl (zA rfl rfl rfl zHR) ?_
 refine zg rfl rfl (zuB rfl rfl Tryz.underlying27) ?_
 refine zg rfl rfl (zi rfl rfl) ?_
 refine zo (zf (zB ?_))
 refine qx (kG 7 rfl) ?_
 refine qy (ι:={ k:Nat // k <= npt m }) (fun k=>⟨Tryz.f90.ntmps, frL [(2, .pub (.ptr (zHt m))), (3, .pub (.ptr (zV7 (p:Int) lvl true))), (6, .pub (.ptr [zO (los m), zO (his m)])), (7, .psl 0 k.1), (15, I (npt m:Int)), (16, I (k.1:Int))], [.row ((List.range k.1).map (shE m p lvl true))]⟩) (fun k=>npt m - k.1) (⟨0, by omega⟩) ?_ ?_
 ·
  exact zt _ ⟨rfl, rfl, rfl, rfl, (congrArg (fun n:Nat=>I (n:Int)) hlol), rfl, trivial⟩ (rfl)
 ·
  rintro ⟨k, hk⟩
  dsimp only
  refine zuy (zh ?_)
  refine zg rfl rfl (zUB rfl rfl rfl) ?_
  refine zo (zf (zuy (zx rfl (fun h0=>?_) (fun h0=>?_))))
  ·
   have hk1:k < npt m:=by simp at h0; omega
   have hdb:=zW2 hm (p:=p) (i:=k) (by omega) (by omega)
   unfold shD at hdb
   refine zC (zf (zuy (zB (zuy (zh ?_)))))
   refine zg rfl rfl (zi rfl rfl) ?_
   refine zg rfl rfl (zn rfl rfl) ?_
   refine zo (zf (zuy ?_))
   refine qY mixed (by kernel_rfl) rfl ?_
   refine zH rfl (zu rfl rfl zHL) ?_
   refine zH rfl (zu rfl rfl zI7) ?_
   refine zH rfl (zA rfl rfl rfl ty3) ?_
   refine zH rfl (zu rfl rfl zKl) ?_
   refine zH rfl (zZ rfl rfl zIO (by exact zLb rfl)) ?_
   refine zH rfl (zu rfl rfl zV5) ?_
   refine zH rfl (zA rfl rfl rfl ty3) ?_
   refine zH rfl (zi rfl rfl) ?_
   refine zH rfl (zy (av:=[_, _, _]) rfl ⟨rfl, rfl, rfl, trivial⟩ (f119 m.wide m.rows (p:Int) (k:Int) (by omega) (by omega) (by omega))) ?_
   refine zH rfl (zcY rfl rfl rfl ⟨(by omega), (by omega)⟩) ?_
   refine zH rfl (zn rfl rfl) ?_
   refine jw (zf (zuy ?_))
   refine qY mixed (by kernel_rfl) rfl ?_
   refine zH rfl (vP rfl rfl rfl zJf (by omega) (by omega)) ?_
   refine zH rfl (zA rfl rfl rfl zHR) ?_
   refine zH rfl (zi rfl rfl) ?_
   refine zH rfl (zVZ rfl rfl rfl zIz (by omega) (zV1 (by omega)) jC) ?_
   refine zH rfl (zA rfl rfl rfl ty3) ?_
   refine zH rfl (zu rfl rfl zV3) ?_
   refine zH rfl (zA rfl rfl rfl ty3) ?_
   refine zH rfl (ze5 rfl rfl rfl ⟨(by omega), (by omega)⟩) ?_
   refine zH rfl (zi rfl rfl) ?_
   refine zH rfl (zV rfl rfl rfl ⟨(by omega), (by omega)⟩) ?_
   refine zH rfl (qg (size:=1) (rows:=[[_], [_]]) rfl Tryz.underlying27 ti3 rfl (by decide) rfl (by decide) ⟨_, _, rfl, (jF rfl), ⟨_, _, rfl, (jF rfl), rfl⟩⟩ (by rfl) (by simp [ofV]) rfl (by simp)) ?_
   refine zH rfl (zy (av:=[_]) rfl ⟨rfl, trivial⟩ (f135 [_, _] (by simp) (by simp))) ?_
   refine zH rfl (zn rfl rfl) ?_
   refine jw (zf (zuy (zuy (zh ?_))))
   refine zg rfl rfl (zu rfl rfl zV4) ?_
   refine zg rfl rfl (zA rfl rfl rfl ty4) ?_
   refine zo (zf (zx rfl (fun h1=>?_) (fun h1=>?_)))
   ·
    refine qY mixed (by kernel_rfl) rfl ?_
    refine zH rfl (vP rfl rfl rfl zJf (by omega) (by omega)) ?_
    refine zH rfl (zA rfl rfl rfl zHR) ?_
    refine zH rfl (zi rfl rfl) ?_
    refine zH rfl (zVZ rfl rfl rfl zIz (by omega) (zV1 (by omega)) jC) ?_
    refine zH rfl (zA rfl rfl rfl ty3) ?_
    refine zH rfl (zu rfl rfl zV3) ?_
    refine zH rfl (zA rfl rfl rfl ty3) ?_
    refine zH rfl (zi rfl rfl) ?_
    refine zH rfl (ze5 rfl rfl rfl ⟨(by omega), (by omega)⟩) ?_
    refine zH rfl (qg (size:=1) (rows:=[[_], [_]]) rfl Tryz.underlying27 ti3 rfl (by decide) rfl (by decide) ⟨_, _, rfl, (jF rfl), ⟨_, _, rfl, (jF rfl), rfl⟩⟩ (by rfl) (by simp [ofV]) rfl (by simp)) ?_
    refine zH rfl (zy (av:=[_]) rfl ⟨rfl, trivial⟩ (f136 [_, _] (by simp) (by simp))) ?_
    refine zH rfl (zn rfl rfl) ?_
    refine jw (zf (zh ?_))
    refine zg rfl rfl (zI rfl rfl) ?_
    refine zg rfl rfl (zi rfl rfl) ?_
    refine zg rfl rfl (qg (size:=1) (rows:=[[_]]) rfl Tryz.underlying27 ti3 rfl (by decide) rfl (by decide) ⟨_, _, rfl, (jF rfl), rfl⟩ (by rfl) (by simp [ofV]) rfl (by simp)) ?_
    refine jb rfl (vS rfl rfl rfl rfl (by simp) rfl zPI (zJs fun _=>rfl) (by simp) (by simp; omega) (by unfold maxLen; simp; omega)) ?_
    refine zg rfl rfl (qo rfl rfl) ?_
    refine zo (zD (zf (zh ?_)))
    refine zg rfl rfl (zV rfl rfl rfl ⟨(by omega), (by omega)⟩) ?_
    refine zg rfl rfl (zi rfl rfl) ?_
    refine zo ?_
    exact ⟨⟨k + 1, by omega⟩, by dsimp only; omega, zt _ ⟨rfl, rfl, rfl, rfl, rfl, rfl, trivial⟩ ((congrArg (fun z=>[PO.row z]) (zIh (shE m p lvl true) k)))⟩
   ·
    exfalso; simp at h1
  ·
   have hge:k = npt m:=by simp at h0; omega
   subst hge
   refine qp (zRQ (zRQ (qw (zf (zuy (zuy ?_))))))
   refine qY mixed (by kernel_rfl) rfl ?_
   refine zH rfl (zu rfl rfl zV4) ?_
   refine zH rfl (zA rfl rfl rfl ty4) ?_
   refine zH rfl (zi rfl rfl) ?_
   refine jm rfl (fun hg=>vP rfl rfl rfl zJf (by omega) (by omega)) ?_
   refine jm rfl (fun hg=>zA rfl (rfl) rfl zHR) ?_
   refine jm rfl (fun hg=>zu rfl rfl zV5) ?_
   refine jm rfl (fun hg=>zA rfl (rfl) rfl ty3) ?_
   refine jm rfl (fun hg=>zVZ rfl (rfl) (rfl) zIz (by omega) (zV1 (by omega)) jC) ?_
   refine jm rfl (fun hg=>zA rfl (rfl) rfl ty3) ?_
   refine jm rfl (fun hg=>zu rfl rfl zV3) ?_
   refine jm rfl (fun hg=>zA rfl (rfl) rfl ty3) ?_
   refine jm rfl (fun hg=>zUB rfl (rfl) (rfl)) ?_
   refine zH rfl (qI rfl rfl rfl rfl) ?_
   refine zH rfl (zi rfl rfl) ?_
   refine jm rfl (fun hg=>zu rfl rfl zV4) ?_
   refine jm rfl (fun hg=>zA rfl (if_pos hg) rfl ty4) ?_
   refine jm rfl (fun hg=>je rfl (if_pos hg)) ?_
   refine jm rfl (fun hg=>zi rfl (if_pos hg)) ?_
   refine jm (jH rfl rfl rfl) (fun hg=>vP rfl rfl rfl zJf (by omega) (by omega)) ?_
   refine jm (jH rfl rfl rfl) (fun hg=>zA rfl (if_pos hg) rfl zHR) ?_
   refine jm (jH rfl rfl rfl) (fun hg=>zu rfl rfl zV5) ?_
   refine jm (jH rfl rfl rfl) (fun hg=>zA rfl (if_pos hg) rfl ty3) ?_
   refine jm (jH rfl rfl rfl) (fun hg=>zVZ rfl (if_pos hg) (if_pos hg) zIz (by omega) (zV1 (by omega)) jC) ?_
   refine jm (jH rfl rfl rfl) (fun hg=>zA rfl (if_pos hg) rfl ty3) ?_
   refine jm (jH rfl rfl rfl) (fun hg=>zu rfl rfl zV3) ?_
   refine jm (jH rfl rfl rfl) (fun hg=>zA rfl (if_pos hg) rfl ty3) ?_
   refine jm (jH rfl rfl rfl) (fun hg=>zbe rfl (if_pos hg) (if_pos hg)) ?_
   refine jm rfl (fun hg=>qI rfl (if_pos hg) (zha hg) rfl) ?_
   refine zH rfl (qU rfl rfl rfl rfl) ?_
   refine jw (zf (zx rfl (fun h2=>?_) (fun h2=>?_)))
   ·
    refine zuy (zh ?_)
    refine zg rfl rfl (zn rfl rfl) ?_
    refine zg rfl rfl (zn rfl rfl) ?_
    refine zo (zf (zP (zQ ?_)))
    exact ⟨.inr rfl, ⟨_, rfl, ⟨_, _, rfl, AVle.refl _, ⟨_, _, rfl, AVle.refl _, rfl⟩⟩⟩⟩
   ·
    exfalso; simp at h2 h; omega
theorem zWQ (m:Mp) (p:Nat) (lvl:Int) (hm:okM m) (hp:p < npt m) (hv:1 <= lvl /\ lvl <= 99999) (h:(decide ((his m).getD p 0 < lvl)) = false):ACall Tryz.prog G 90 [.agg (zHt m), .agg (zV7 (p:Int) lvl true)] (.tup [zO (shL m p lvl true), .v (.bool (zWX m.wide m.rows (shL m p lvl true) lvl true p))]):=by
 have hn:=zJF hm
 have ho:=hm
 obtain ⟨m1, m2, m3, m4, m5, m6, m7, m8⟩:=ho
 have har:=area m1 m2 m3 m4
 have hlol:=zK2 m
 have hhil:=zK3 m
 refine zS Tryz.func90 rfl (by kernel_rfl) rfl ?_
 refine zuy (zh ?_)
 refine zg rfl rfl (jf rfl (zY rfl)) ?_
 refine zg rfl rfl (jf rfl (zY rfl)) ?_
 refine zg rfl rfl (zn rfl rfl) ?_
 refine zg rfl rfl (zn rfl rfl) ?_
 refine zo (zf (zuy (zh ?_)))
 refine zg rfl rfl (zZ rfl rfl zIw (by exact zLb rfl)) ?_
 refine zg rfl rfl (zy (av:=[_]) rfl ⟨rfl, trivial⟩ (f64 m hm)) ?_
 refine vI  rfl rfl rfl rfl rfl rfl rfl zNH zMy rfl (by rfl) (zY rfl) rfl ?_
 refine zo (zf (zuy (zh ?_)))
 refine zg rfl rfl (zn rfl rfl) ?_
 refine zo (zf (zuy (zuy (zh ?_))))
 refine zg rfl rfl (vP rfl rfl rfl zJf (by omega) (by omega)) ?_
 refine zg rfl rfl (zA rfl rfl rfl zHR) ?_
 refine zg rfl rfl (zuB rfl rfl Tryz.underlying27) ?_
 refine zg rfl rfl (zi rfl rfl) ?_
 refine zo (zf (zB ?_))
 refine qx (kG 7 rfl) ?_
 refine qy (ι:={ k:Nat // k <= npt m }) (fun k=>⟨Tryz.f90.ntmps, frL [(2, .pub (.ptr (zHt m))), (3, .pub (.ptr (zV7 (p:Int) lvl true))), (6, .pub (.ptr [zO (los m), zO (his m)])), (7, .psl 0 k.1), (15, I (npt m:Int)), (16, I (k.1:Int))], [.row ((List.range k.1).map (shE m p lvl true))]⟩) (fun k=>npt m - k.1) (⟨0, by omega⟩) ?_ ?_
 ·
  exact zt _ ⟨rfl, rfl, rfl, rfl, (congrArg (fun n:Nat=>I (n:Int)) hlol), rfl, trivial⟩ (rfl)
 ·
  rintro ⟨k, hk⟩
  dsimp only
  refine zuy (zh ?_)
  refine zg rfl rfl (zUB rfl rfl rfl) ?_
  refine zo (zf (zuy (zx rfl (fun h0=>?_) (fun h0=>?_))))
  ·
   have hk1:k < npt m:=by simp at h0; omega
   have hdb:=zW2 hm (p:=p) (i:=k) (by omega) (by omega)
   unfold shD at hdb
   refine zC (zf (zuy (zB (zuy (zh ?_)))))
   refine zg rfl rfl (zi rfl rfl) ?_
   refine zg rfl rfl (zn rfl rfl) ?_
   refine zo (zf (zuy ?_))
   refine qY mixed (by kernel_rfl) rfl ?_
   refine zH rfl (zu rfl rfl zHL) ?_
   refine zH rfl (zu rfl rfl zI7) ?_
   refine zH rfl (zA rfl rfl rfl ty3) ?_
   refine zH rfl (zu rfl rfl zKl) ?_
   refine zH rfl (zZ rfl rfl zIO (by exact zLb rfl)) ?_
   refine zH rfl (zu rfl rfl zV5) ?_
   refine zH rfl (zA rfl rfl rfl ty3) ?_
   refine zH rfl (zi rfl rfl) ?_
   refine zH rfl (zy (av:=[_, _, _]) rfl ⟨rfl, rfl, rfl, trivial⟩ (f119 m.wide m.rows (p:Int) (k:Int) (by omega) (by omega) (by omega))) ?_
   refine zH rfl (zcY rfl rfl rfl ⟨(by omega), (by omega)⟩) ?_
   refine zH rfl (zn rfl rfl) ?_
   refine jw (zf (zuy ?_))
   refine qY mixed (by kernel_rfl) rfl ?_
   refine zH rfl (vP rfl rfl rfl zJf (by omega) (by omega)) ?_
   refine zH rfl (zA rfl rfl rfl zHR) ?_
   refine zH rfl (zi rfl rfl) ?_
   refine zH rfl (zVZ rfl rfl rfl zIz (by omega) (zV1 (by omega)) jC) ?_
   refine zH rfl (zA rfl rfl rfl ty3) ?_
   refine zH rfl (zu rfl rfl zV3) ?_
   refine zH rfl (zA rfl rfl rfl ty3) ?_
   refine zH rfl (ze5 rfl rfl rfl ⟨(by omega), (by omega)⟩) ?_
   refine zH rfl (zi rfl rfl) ?_
   refine zH rfl (zV rfl rfl rfl ⟨(by omega), (by omega)⟩) ?_
   refine zH rfl (qg (size:=1) (rows:=[[_], [_]]) rfl Tryz.underlying27 ti3 rfl (by decide) rfl (by decide) ⟨_, _, rfl, (jF rfl), ⟨_, _, rfl, (jF rfl), rfl⟩⟩ (by rfl) (by simp [ofV]) rfl (by simp)) ?_
   refine zH rfl (zy (av:=[_]) rfl ⟨rfl, trivial⟩ (f135 [_, _] (by simp) (by simp))) ?_
   refine zH rfl (zn rfl rfl) ?_
   refine jw (zf (zuy (zuy (zh ?_))))
   refine zg rfl rfl (zu rfl rfl zV4) ?_
   refine zg rfl rfl (zA rfl rfl rfl ty4) ?_
   refine zo (zf (zx rfl (fun h1=>?_) (fun h1=>?_)))
   ·
    refine qY mixed (by kernel_rfl) rfl ?_
    refine zH rfl (vP rfl rfl rfl zJf (by omega) (by omega)) ?_
    refine zH rfl (zA rfl rfl rfl zHR) ?_
    refine zH rfl (zi rfl rfl) ?_
    refine zH rfl (zVZ rfl rfl rfl zIz (by omega) (zV1 (by omega)) jC) ?_
    refine zH rfl (zA rfl rfl rfl ty3) ?_
    refine zH rfl (zu rfl rfl zV3) ?_
    refine zH rfl (zA rfl rfl rfl ty3) ?_
    refine zH rfl (zi rfl rfl) ?_
    refine zH rfl (ze5 rfl rfl rfl ⟨(by omega), (by omega)⟩) ?_
    refine zH rfl (qg (size:=1) (rows:=[[_], [_]]) rfl Tryz.underlying27 ti3 rfl (by decide) rfl (by decide) ⟨_, _, rfl, (jF rfl), ⟨_, _, rfl, (jF rfl), rfl⟩⟩ (by rfl) (by simp [ofV]) rfl (by simp)) ?_
    refine zH rfl (zy (av:=[_]) rfl ⟨rfl, trivial⟩ (f136 [_, _] (by simp) (by simp))) ?_
    refine zH rfl (zn rfl rfl) ?_
    refine jw (zf (zh ?_))
    refine zg rfl rfl (zI rfl rfl) ?_
    refine zg rfl rfl (zi rfl rfl) ?_
    refine zg rfl rfl (qg (size:=1) (rows:=[[_]]) rfl Tryz.underlying27 ti3 rfl (by decide) rfl (by decide) ⟨_, _, rfl, (jF rfl), rfl⟩ (by rfl) (by simp [ofV]) rfl (by simp)) ?_
    refine jb rfl (vS rfl rfl rfl rfl (by simp) rfl zPI (zJs fun _=>rfl) (by simp) (by simp; omega) (by unfold maxLen; simp; omega)) ?_
    refine zg rfl rfl (qo rfl rfl) ?_
    refine zo (zD (zf (zh ?_)))
    refine zg rfl rfl (zV rfl rfl rfl ⟨(by omega), (by omega)⟩) ?_
    refine zg rfl rfl (zi rfl rfl) ?_
    refine zo ?_
    exact ⟨⟨k + 1, by omega⟩, by dsimp only; omega, zt _ ⟨rfl, rfl, rfl, rfl, rfl, rfl, trivial⟩ ((congrArg (fun z=>[PO.row z]) (zIh (shE m p lvl true) k)))⟩
   ·
    exfalso; simp at h1
  ·
   have hge:k = npt m:=by simp at h0; omega
   subst hge
   refine qp (zRQ (zRQ (qw (zf (zuy (zuy ?_))))))
   refine qY mixed (by kernel_rfl) rfl ?_
   refine zH rfl (zu rfl rfl zV4) ?_
   refine zH rfl (zA rfl rfl rfl ty4) ?_
   refine zH rfl (zi rfl rfl) ?_
   refine jm rfl (fun hg=>vP rfl rfl rfl zJf (by omega) (by omega)) ?_
   refine jm rfl (fun hg=>zA rfl (rfl) rfl zHR) ?_
   refine jm rfl (fun hg=>zu rfl rfl zV5) ?_
   refine jm rfl (fun hg=>zA rfl (rfl) rfl ty3) ?_
   refine jm rfl (fun hg=>zVZ rfl (rfl) (rfl) zIz (by omega) (zV1 (by omega)) jC) ?_
   refine jm rfl (fun hg=>zA rfl (rfl) rfl ty3) ?_
   refine jm rfl (fun hg=>zu rfl rfl zV3) ?_
   refine jm rfl (fun hg=>zA rfl (rfl) rfl ty3) ?_
   refine jm rfl (fun hg=>zUB rfl (rfl) (rfl)) ?_
   refine zH rfl (qI rfl rfl rfl rfl) ?_
   refine zH rfl (zi rfl rfl) ?_
   refine jm rfl (fun hg=>zu rfl rfl zV4) ?_
   refine jm rfl (fun hg=>zA rfl (if_pos hg) rfl ty4) ?_
   refine jm rfl (fun hg=>je rfl (if_pos hg)) ?_
   refine jm rfl (fun hg=>zi rfl (if_pos hg)) ?_
   refine jm (jH rfl rfl rfl) (fun hg=>vP rfl rfl rfl zJf (by omega) (by omega)) ?_
   refine jm (jH rfl rfl rfl) (fun hg=>zA rfl (if_pos hg) rfl zHR) ?_
   refine jm (jH rfl rfl rfl) (fun hg=>zu rfl rfl zV5) ?_
   refine jm (jH rfl rfl rfl) (fun hg=>zA rfl (if_pos hg) rfl ty3) ?_
   refine jm (jH rfl rfl rfl) (fun hg=>zVZ rfl (if_pos hg) (if_pos hg) zIz (by omega) (zV1 (by omega)) jC) ?_
   refine jm (jH rfl rfl rfl) (fun hg=>zA rfl (if_pos hg) rfl ty3) ?_
   refine jm (jH rfl rfl rfl) (fun hg=>zu rfl rfl zV3) ?_
   refine jm (jH rfl rfl rfl) (fun hg=>zA rfl (if_pos hg) rfl ty3) ?_
   refine jm (jH rfl rfl rfl) (fun hg=>zbe rfl (if_pos hg) (if_pos hg)) ?_
   refine jm rfl (fun hg=>qI rfl (if_pos hg) (zha hg) rfl) ?_
   refine zH rfl (qU rfl rfl rfl rfl) ?_
   refine jw (zf (zx rfl (fun h2=>?_) (fun h2=>?_)))
   ·
    exfalso; simp at h2 h; omega
   ·
    refine zC (zf (zuy ?_))
    refine qx (zcT (k:=0) (m:=npt m) (rows:=(shL m p lvl true).map fun n=>[.v (.int .i64 n)]) [7] ?_ ?_ ?_) ?_
    ·
     show some (PO.row _) = some (PO.row _); simp [shL, shE, Function.comp_def, I]
    ·
     simp [shL]
    ·
     intro d hd; rw [List.mem_singleton] at hd; subst hd; rfl
    refine zh ?_
    refine zg rfl rfl (zq rfl rfl) ?_
    refine zg rfl rfl (zZ rfl rfl zIw (by exact zLb rfl)) ?_
    refine zg rfl rfl (zZ rfl rfl zV8 (by exact zLb rfl)) ?_
    refine zg rfl rfl (zq rfl rfl) ?_
    refine zg rfl rfl (zy (av:=[_, _, _]) rfl ⟨rfl, rfl, rfl, trivial⟩ (f134 m p lvl true (shL m p lvl true) hm hp (by simp [shL]))) ?_
    refine zg rfl rfl (zW rfl rfl) ?_
    refine zg rfl rfl (zn rfl rfl) ?_
    refine zo (zf (zP ?_))
    exact ⟨.inr rfl, ⟨_, rfl, ⟨_, _, rfl, AVle.refl _, ⟨_, _, rfl, AVle.refl _, rfl⟩⟩⟩⟩
theorem zWG (m:Mp) (p:Nat) (lvl:Int) (hm:okM m) (hp:p < npt m) (hv:1 <= lvl /\ lvl <= 99999) (h:(decide (lvl <= (los m).getD p 0)) = true):ACall Tryz.prog G 90 [.agg (zHt m), .agg (zV7 (p:Int) lvl false)] (.tup [.v (.slice none 0 0), .v (.bool false)]):=by
 have hn:=zJF hm
 have ho:=hm
 obtain ⟨m1, m2, m3, m4, m5, m6, m7, m8⟩:=ho
 have har:=area m1 m2 m3 m4
 have hlol:=zK2 m
 have hhil:=zK3 m
 refine zS Tryz.func90 rfl (by kernel_rfl) rfl ?_
 refine zuy (zh ?_)
 refine zg rfl rfl (jf rfl (zY rfl)) ?_
 refine zg rfl rfl (jf rfl (zY rfl)) ?_
 refine zg rfl rfl (zn rfl rfl) ?_
 refine zg rfl rfl (zn rfl rfl) ?_
 refine zo (zf (zuy (zh ?_)))
 refine zg rfl rfl (zZ rfl rfl zIw (by exact zLb rfl)) ?_
 refine zg rfl rfl (zy (av:=[_]) rfl ⟨rfl, trivial⟩ (f64 m hm)) ?_
 refine vI  rfl rfl rfl rfl rfl rfl rfl zNH zMy rfl (by rfl) (zY rfl) rfl ?_
 refine zo (zf (zuy (zh ?_)))
 refine zg rfl rfl (zn rfl rfl) ?_
 refine zo (zf (zuy (zuy (zh ?_))))
 refine zg rfl rfl (vP rfl rfl rfl zJf (by omega) (by omega)) ?_
 refine zg rfl rfl (zA rfl rfl rfl zHR) ?_
 refine zg rfl rfl (zuB rfl rfl Tryz.underlying27) ?_
 refine zg rfl rfl (zi rfl rfl) ?_
 refine zo (zf (zB ?_))
 refine qx (kG 7 rfl) ?_
 refine qy (ι:={ k:Nat // k <= npt m }) (fun k=>⟨Tryz.f90.ntmps, frL [(2, .pub (.ptr (zHt m))), (3, .pub (.ptr (zV7 (p:Int) lvl false))), (6, .pub (.ptr [zO (los m), zO (his m)])), (7, .psl 0 k.1), (15, I (npt m:Int)), (16, I (k.1:Int))], [.row ((List.range k.1).map (shE m p lvl false))]⟩) (fun k=>npt m - k.1) (⟨0, by omega⟩) ?_ ?_
 ·
  exact zt _ ⟨rfl, rfl, rfl, rfl, (congrArg (fun n:Nat=>I (n:Int)) hlol), rfl, trivial⟩ (rfl)
 ·
  rintro ⟨k, hk⟩
  dsimp only
  refine zuy (zh ?_)
  refine zg rfl rfl (zUB rfl rfl rfl) ?_
  refine zo (zf (zuy (zx rfl (fun h0=>?_) (fun h0=>?_))))
  ·
   have hk1:k < npt m:=by simp at h0; omega
   have hdb:=zW2 hm (p:=p) (i:=k) (by omega) (by omega)
   unfold shD at hdb
   refine zC (zf (zuy (zB (zuy (zh ?_)))))
   refine zg rfl rfl (zi rfl rfl) ?_
   refine zg rfl rfl (zn rfl rfl) ?_
   refine zo (zf (zuy ?_))
   refine qY mixed (by kernel_rfl) rfl ?_
   refine zH rfl (zu rfl rfl zHL) ?_
   refine zH rfl (zu rfl rfl zI7) ?_
   refine zH rfl (zA rfl rfl rfl ty3) ?_
   refine zH rfl (zu rfl rfl zKl) ?_
   refine zH rfl (zZ rfl rfl zIO (by exact zLb rfl)) ?_
   refine zH rfl (zu rfl rfl zV5) ?_
   refine zH rfl (zA rfl rfl rfl ty3) ?_
   refine zH rfl (zi rfl rfl) ?_
   refine zH rfl (zy (av:=[_, _, _]) rfl ⟨rfl, rfl, rfl, trivial⟩ (f119 m.wide m.rows (p:Int) (k:Int) (by omega) (by omega) (by omega))) ?_
   refine zH rfl (zcY rfl rfl rfl ⟨(by omega), (by omega)⟩) ?_
   refine zH rfl (zn rfl rfl) ?_
   refine jw (zf (zuy ?_))
   refine qY mixed (by kernel_rfl) rfl ?_
   refine zH rfl (vP rfl rfl rfl zJf (by omega) (by omega)) ?_
   refine zH rfl (zA rfl rfl rfl zHR) ?_
   refine zH rfl (zi rfl rfl) ?_
   refine zH rfl (zVZ rfl rfl rfl zIz (by omega) (zV1 (by omega)) jC) ?_
   refine zH rfl (zA rfl rfl rfl ty3) ?_
   refine zH rfl (zu rfl rfl zV3) ?_
   refine zH rfl (zA rfl rfl rfl ty3) ?_
   refine zH rfl (ze5 rfl rfl rfl ⟨(by omega), (by omega)⟩) ?_
   refine zH rfl (zi rfl rfl) ?_
   refine zH rfl (zV rfl rfl rfl ⟨(by omega), (by omega)⟩) ?_
   refine zH rfl (qg (size:=1) (rows:=[[_], [_]]) rfl Tryz.underlying27 ti3 rfl (by decide) rfl (by decide) ⟨_, _, rfl, (jF rfl), ⟨_, _, rfl, (jF rfl), rfl⟩⟩ (by rfl) (by simp [ofV]) rfl (by simp)) ?_
   refine zH rfl (zy (av:=[_]) rfl ⟨rfl, trivial⟩ (f135 [_, _] (by simp) (by simp))) ?_
   refine zH rfl (zn rfl rfl) ?_
   refine jw (zf (zuy (zuy (zh ?_))))
   refine zg rfl rfl (zu rfl rfl zV4) ?_
   refine zg rfl rfl (zA rfl rfl rfl ty4) ?_
   refine zo (zf (zx rfl (fun h1=>?_) (fun h1=>?_)))
   ·
    exfalso; simp at h1
   ·
    refine zC (zf (zh ?_))
    refine zg rfl rfl (zI rfl rfl) ?_
    refine zg rfl rfl (zi rfl rfl) ?_
    refine zg rfl rfl (qg (size:=1) (rows:=[[_]]) rfl Tryz.underlying27 ti3 rfl (by decide) rfl (by decide) ⟨_, _, rfl, (jF rfl), rfl⟩ (by rfl) (by simp [ofV]) rfl (by simp)) ?_
    refine jb rfl (vS rfl rfl rfl rfl (by simp) rfl zPI (zJs fun _=>rfl) (by simp) (by simp; omega) (by unfold maxLen; simp; omega)) ?_
    refine zg rfl rfl (qo rfl rfl) ?_
    refine zo (zD (zf (zh ?_)))
    refine zg rfl rfl (zV rfl rfl rfl ⟨(by omega), (by omega)⟩) ?_
    refine zg rfl rfl (zi rfl rfl) ?_
    refine zo ?_
    exact ⟨⟨k + 1, by omega⟩, by dsimp only; omega, zt _ ⟨rfl, rfl, rfl, rfl, rfl, rfl, trivial⟩ ((congrArg (fun z=>[PO.row z]) (zIh (shE m p lvl false) k)))⟩
  ·
   have hge:k = npt m:=by simp at h0; omega
   subst hge
   refine qp (zRQ (zRQ (qw (zf (zuy (zuy ?_))))))
   refine qY mixed (by kernel_rfl) rfl ?_
   refine zH rfl (zu rfl rfl zV4) ?_
   refine zH rfl (zA rfl rfl rfl ty4) ?_
   refine zH rfl (zi rfl rfl) ?_
   refine jm rfl (fun hg=>vP rfl rfl rfl zJf (by omega) (by omega)) ?_
   refine jm (x:=.pub (.tup [])) rfl (fun hg=>absurd hg (by decide)) ?_
   refine jm rfl (fun hg=>zu rfl rfl zV5) ?_
   refine jm (x:=.pub (.tup [])) rfl (fun hg=>absurd hg (by decide)) ?_
   refine jm (x:=.pub (.tup [])) rfl (fun hg=>absurd hg (by decide)) ?_
   refine jm (x:=.pub (.tup [])) rfl (fun hg=>absurd hg (by decide)) ?_
   refine jm rfl (fun hg=>zu rfl rfl zV3) ?_
   refine jm (x:=.pub (.tup [])) rfl (fun hg=>absurd hg (by decide)) ?_
   refine jm (x:=.pub (.tup [])) rfl (fun hg=>absurd hg (by decide)) ?_
   refine zH rfl (zU rfl rfl (fun h=>absurd h (by decide)) (fun _=>rfl)) ?_
   refine zH rfl (zi rfl rfl) ?_
   refine jm rfl (fun hg=>zu rfl rfl zV4) ?_
   refine jm rfl (fun hg=>zA rfl (rfl) rfl ty4) ?_
   refine jm rfl (fun hg=>je rfl (rfl)) ?_
   refine jm rfl (fun hg=>zi rfl (rfl)) ?_
   refine jm rfl (fun hg=>vP rfl rfl rfl zJf (by omega) (by omega)) ?_
   refine jm rfl (fun hg=>zA rfl rfl rfl zHR) ?_
   refine jm rfl (fun hg=>zu rfl rfl zV5) ?_
   refine jm rfl (fun hg=>zA rfl rfl rfl ty3) ?_
   refine jm rfl (fun hg=>zVZ rfl rfl rfl zIz (by omega) (zV1 (by omega)) jC) ?_
   refine jm rfl (fun hg=>zA rfl rfl rfl ty3) ?_
   refine jm rfl (fun hg=>zu rfl rfl zV3) ?_
   refine jm rfl (fun hg=>zA rfl rfl rfl ty3) ?_
   refine jm rfl (fun hg=>zbe rfl rfl rfl) ?_
   refine jm rfl (fun hg=>qI rfl rfl rfl rfl) ?_
   refine zH rfl (qU rfl rfl rfl rfl) ?_
   refine jw (zf (zx rfl (fun h2=>?_) (fun h2=>?_)))
   ·
    refine zuy (zh ?_)
    refine zg rfl rfl (zn rfl rfl) ?_
    refine zg rfl rfl (zn rfl rfl) ?_
    refine zo (zf (zP (zQ ?_)))
    exact ⟨.inr rfl, ⟨_, rfl, ⟨_, _, rfl, AVle.refl _, ⟨_, _, rfl, AVle.refl _, rfl⟩⟩⟩⟩
   ·
    exfalso; simp at h2 h; omega
theorem zWH (m:Mp) (p:Nat) (lvl:Int) (hm:okM m) (hp:p < npt m) (hv:1 <= lvl /\ lvl <= 99999) (h:(decide (lvl <= (los m).getD p 0)) = false):ACall Tryz.prog G 90 [.agg (zHt m), .agg (zV7 (p:Int) lvl false)] (.tup [zO (shL m p lvl false), .v (.bool (zWX m.wide m.rows (shL m p lvl false) lvl false p))]):=by
 have hn:=zJF hm
 have ho:=hm
 obtain ⟨m1, m2, m3, m4, m5, m6, m7, m8⟩:=ho
 have har:=area m1 m2 m3 m4
 have hlol:=zK2 m
 have hhil:=zK3 m
 refine zS Tryz.func90 rfl (by kernel_rfl) rfl ?_
 refine zuy (zh ?_)
 refine zg rfl rfl (jf rfl (zY rfl)) ?_
 refine zg rfl rfl (jf rfl (zY rfl)) ?_
 refine zg rfl rfl (zn rfl rfl) ?_
 refine zg rfl rfl (zn rfl rfl) ?_
 refine zo (zf (zuy (zh ?_)))
 refine zg rfl rfl (zZ rfl rfl zIw (by exact zLb rfl)) ?_
 refine zg rfl rfl (zy (av:=[_]) rfl ⟨rfl, trivial⟩ (f64 m hm)) ?_
 refine vI  rfl rfl rfl rfl rfl rfl rfl zNH zMy rfl (by rfl) (zY rfl) rfl ?_
 refine zo (zf (zuy (zh ?_)))
 refine zg rfl rfl (zn rfl rfl) ?_
 refine zo (zf (zuy (zuy (zh ?_))))
 refine zg rfl rfl (vP rfl rfl rfl zJf (by omega) (by omega)) ?_
 refine zg rfl rfl (zA rfl rfl rfl zHR) ?_
 refine zg rfl rfl (zuB rfl rfl Tryz.underlying27) ?_
 refine zg rfl rfl (zi rfl rfl) ?_
 refine zo (zf (zB ?_))
 refine qx (kG 7 rfl) ?_
 refine qy (ι:={ k:Nat // k <= npt m }) (fun k=>⟨Tryz.f90.ntmps, frL [(2, .pub (.ptr (zHt m))), (3, .pub (.ptr (zV7 (p:Int) lvl false))), (6, .pub (.ptr [zO (los m), zO (his m)])), (7, .psl 0 k.1), (15, I (npt m:Int)), (16, I (k.1:Int))], [.row ((List.range k.1).map (shE m p lvl false))]⟩) (fun k=>npt m - k.1) (⟨0, by omega⟩) ?_ ?_
 ·
  exact zt _ ⟨rfl, rfl, rfl, rfl, (congrArg (fun n:Nat=>I (n:Int)) hlol), rfl, trivial⟩ (rfl)
 ·
  rintro ⟨k, hk⟩
  dsimp only
  refine zuy (zh ?_)
  refine zg rfl rfl (zUB rfl rfl rfl) ?_
  refine zo (zf (zuy (zx rfl (fun h0=>?_) (fun h0=>?_))))
  ·
   have hk1:k < npt m:=by simp at h0; omega
   have hdb:=zW2 hm (p:=p) (i:=k) (by omega) (by omega)
   unfold shD at hdb
   refine zC (zf (zuy (zB (zuy (zh ?_)))))
   refine zg rfl rfl (zi rfl rfl) ?_
   refine zg rfl rfl (zn rfl rfl) ?_
   refine zo (zf (zuy ?_))
   refine qY mixed (by kernel_rfl) rfl ?_
   refine zH rfl (zu rfl rfl zHL) ?_
   refine zH rfl (zu rfl rfl zI7) ?_
   refine zH rfl (zA rfl rfl rfl ty3) ?_
   refine zH rfl (zu rfl rfl zKl) ?_
   refine zH rfl (zZ rfl rfl zIO (by exact zLb rfl)) ?_
   refine zH rfl (zu rfl rfl zV5) ?_
   refine zH rfl (zA rfl rfl rfl ty3) ?_
   refine zH rfl (zi rfl rfl) ?_
   refine zH rfl (zy (av:=[_, _, _]) rfl ⟨rfl, rfl, rfl, trivial⟩ (f119 m.wide m.rows (p:Int) (k:Int) (by omega) (by omega) (by omega))) ?_
   refine zH rfl (zcY rfl rfl rfl ⟨(by omega), (by omega)⟩) ?_
   refine zH rfl (zn rfl rfl) ?_
   refine jw (zf (zuy ?_))
   refine qY mixed (by kernel_rfl) rfl ?_
   refine zH rfl (vP rfl rfl rfl zJf (by omega) (by omega)) ?_
   refine zH rfl (zA rfl rfl rfl zHR) ?_
   refine zH rfl (zi rfl rfl) ?_
   refine zH rfl (zVZ rfl rfl rfl zIz (by omega) (zV1 (by omega)) jC) ?_
   refine zH rfl (zA rfl rfl rfl ty3) ?_
   refine zH rfl (zu rfl rfl zV3) ?_
   refine zH rfl (zA rfl rfl rfl ty3) ?_
   refine zH rfl (ze5 rfl rfl rfl ⟨(by omega), (by omega)⟩) ?_
   refine zH rfl (zi rfl rfl) ?_
   refine zH rfl (zV rfl rfl rfl ⟨(by omega), (by omega)⟩) ?_
   refine zH rfl (qg (size:=1) (rows:=[[_], [_]]) rfl Tryz.underlying27 ti3 rfl (by decide) rfl (by decide) ⟨_, _, rfl, (jF rfl), ⟨_, _, rfl, (jF rfl), rfl⟩⟩ (by rfl) (by simp [ofV]) rfl (by simp)) ?_
   refine zH rfl (zy (av:=[_]) rfl ⟨rfl, trivial⟩ (f135 [_, _] (by simp) (by simp))) ?_
   refine zH rfl (zn rfl rfl) ?_
   refine jw (zf (zuy (zuy (zh ?_))))
   refine zg rfl rfl (zu rfl rfl zV4) ?_
   refine zg rfl rfl (zA rfl rfl rfl ty4) ?_
   refine zo (zf (zx rfl (fun h1=>?_) (fun h1=>?_)))
   ·
    exfalso; simp at h1
   ·
    refine zC (zf (zh ?_))
    refine zg rfl rfl (zI rfl rfl) ?_
    refine zg rfl rfl (zi rfl rfl) ?_
    refine zg rfl rfl (qg (size:=1) (rows:=[[_]]) rfl Tryz.underlying27 ti3 rfl (by decide) rfl (by decide) ⟨_, _, rfl, (jF rfl), rfl⟩ (by rfl) (by simp [ofV]) rfl (by simp)) ?_
    refine jb rfl (vS rfl rfl rfl rfl (by simp) rfl zPI (zJs fun _=>rfl) (by simp) (by simp; omega) (by unfold maxLen; simp; omega)) ?_
    refine zg rfl rfl (qo rfl rfl) ?_
    refine zo (zD (zf (zh ?_)))
    refine zg rfl rfl (zV rfl rfl rfl ⟨(by omega), (by omega)⟩) ?_
    refine zg rfl rfl (zi rfl rfl) ?_
    refine zo ?_
    exact ⟨⟨k + 1, by omega⟩, by dsimp only; omega, zt _ ⟨rfl, rfl, rfl, rfl, rfl, rfl, trivial⟩ ((congrArg (fun z=>[PO.row z]) (zIh (shE m p lvl false) k)))⟩
  ·
   have hge:k = npt m:=by simp at h0; omega
   subst hge
   refine qp (zRQ (zRQ (qw (zf (zuy (zuy ?_))))))
   refine qY mixed (by kernel_rfl) rfl ?_
   refine zH rfl (zu rfl rfl zV4) ?_
   refine zH rfl (zA rfl rfl rfl ty4) ?_
   refine zH rfl (zi rfl rfl) ?_
   refine jm rfl (fun hg=>vP rfl rfl rfl zJf (by omega) (by omega)) ?_
   refine jm (x:=.pub (.tup [])) rfl (fun hg=>absurd hg (by decide)) ?_
   refine jm rfl (fun hg=>zu rfl rfl zV5) ?_
   refine jm (x:=.pub (.tup [])) rfl (fun hg=>absurd hg (by decide)) ?_
   refine jm (x:=.pub (.tup [])) rfl (fun hg=>absurd hg (by decide)) ?_
   refine jm (x:=.pub (.tup [])) rfl (fun hg=>absurd hg (by decide)) ?_
   refine jm rfl (fun hg=>zu rfl rfl zV3) ?_
   refine jm (x:=.pub (.tup [])) rfl (fun hg=>absurd hg (by decide)) ?_
   refine jm (x:=.pub (.tup [])) rfl (fun hg=>absurd hg (by decide)) ?_
   refine zH rfl (zU rfl rfl (fun h=>absurd h (by decide)) (fun _=>rfl)) ?_
   refine zH rfl (zi rfl rfl) ?_
   refine jm rfl (fun hg=>zu rfl rfl zV4) ?_
   refine jm rfl (fun hg=>zA rfl (rfl) rfl ty4) ?_
   refine jm rfl (fun hg=>je rfl (rfl)) ?_
   refine jm rfl (fun hg=>zi rfl (rfl)) ?_
   refine jm rfl (fun hg=>vP rfl rfl rfl zJf (by omega) (by omega)) ?_
   refine jm rfl (fun hg=>zA rfl rfl rfl zHR) ?_
   refine jm rfl (fun hg=>zu rfl rfl zV5) ?_
   refine jm rfl (fun hg=>zA rfl rfl rfl ty3) ?_
   refine jm rfl (fun hg=>zVZ rfl rfl rfl zIz (by omega) (zV1 (by omega)) jC) ?_
   refine jm rfl (fun hg=>zA rfl rfl rfl ty3) ?_
   refine jm rfl (fun hg=>zu rfl rfl zV3) ?_
   refine jm rfl (fun hg=>zA rfl rfl rfl ty3) ?_
   refine jm rfl (fun hg=>zbe rfl rfl rfl) ?_
   refine jm rfl (fun hg=>qI rfl rfl rfl rfl) ?_
   refine zH rfl (qU rfl rfl rfl rfl) ?_
   refine jw (zf (zx rfl (fun h2=>?_) (fun h2=>?_)))
   ·
    exfalso; simp at h2 h; omega
   ·
    refine zC (zf (zuy ?_))
    refine qx (zcT (k:=0) (m:=npt m) (rows:=(shL m p lvl false).map fun n=>[.v (.int .i64 n)]) [7] ?_ ?_ ?_) ?_
    ·
     show some (PO.row _) = some (PO.row _); simp [shL, shE, Function.comp_def, I]
    ·
     simp [shL]
    ·
     intro d hd; rw [List.mem_singleton] at hd; subst hd; rfl
    refine zh ?_
    refine zg rfl rfl (zq rfl rfl) ?_
    refine zg rfl rfl (zZ rfl rfl zIw (by exact zLb rfl)) ?_
    refine zg rfl rfl (zZ rfl rfl zV8 (by exact zLb rfl)) ?_
    refine zg rfl rfl (zq rfl rfl) ?_
    refine zg rfl rfl (zy (av:=[_, _, _]) rfl ⟨rfl, rfl, rfl, trivial⟩ (f134 m p lvl false (shL m p lvl false) hm hp (by simp [shL]))) ?_
    refine zg rfl rfl (zW rfl rfl) ?_
    refine zg rfl rfl (zn rfl rfl) ?_
    refine zo (zf (zP ?_))
    exact ⟨.inr rfl, ⟨_, rfl, ⟨_, _, rfl, AVle.refl _, ⟨_, _, rfl, AVle.refl _, rfl⟩⟩⟩⟩
end Go.Av
end
section
namespace Go.Av
open Go.Proofs
set_option maxRecDepth 100000
set_option maxHeartbeats 1000000
variable {G:Glob}
theorem zXT:xn Tryz.prog 136 [(0, 1), (1, 1), (2, 1)] [.int .i64 0, .int .i64 0, .bool false]:=⟨_, Tryz.underlying136, by kernel_rfl, by kernel_rfl⟩
theorem zXV:(Tryz.prog.info? 136).bind (·.zero) = some (.agg #[.int .i64 0, .int .i64 0, .bool false]):=by kernel_rfl
def wX (m:Mp) (p:Nat) (lvl:Int) (hi:Bool):Bool:=match hi with
 | true=>(decide (lvl <= (los m).getD p 0) == true) && zWX m.wide m.rows (his m) lvl true p
 | false=>(decide (lvl <= (his m).getD p 0) == false) && zWX m.wide m.rows (los m) lvl false p
theorem zXw (m:Mp) (p:Nat) (lvl:Int) (hm:okM m) (hp:p < npt m) (hv:1 <= lvl /\ lvl <= 99999) (V:AV) (h90:ACall Tryz.prog G 90 [.agg (zHt m), .agg (zV7 (p:Int) lvl true)] (.tup [V, .v (.bool false)])):ACall Tryz.prog G 89 [.agg (zHt m), .agg (zV7 (p:Int) lvl true)] (ei 1):=by
 have hn:=zJF hm
 have ho:=hm
 obtain ⟨m1, m2, m3, m4, m5, m6, m7, m8⟩:=ho
 have har:=area m1 m2 m3 m4
 have hlol:=zK2 m
 have hhil:=zK3 m
 refine zS Tryz.func89 rfl (by kernel_rfl) rfl ?_
 refine zuy (zh ?_)
 refine zg rfl rfl (jf rfl (zY rfl)) ?_
 refine zg rfl rfl (jf rfl (zY rfl)) ?_
 refine zg rfl rfl (zn rfl rfl) ?_
 refine zo (zf (zuy (zh ?_)))
 refine zg rfl rfl (zZ rfl rfl zIw (by exact zLb rfl)) ?_
 refine zg rfl rfl (zy (av:=[_]) rfl ⟨rfl, trivial⟩ (f64 m hm)) ?_
 refine vI  rfl rfl rfl rfl rfl rfl rfl zNH zMy rfl (by rfl) (zY rfl) rfl ?_
 refine zo (zf (zuy (zh ?_)))
 refine zg rfl rfl (zn rfl rfl) ?_
 refine zo (zf (zuy (zuy (zh ?_))))
 refine zg rfl rfl (zZ rfl rfl zIw (by exact zLb rfl)) ?_
 refine zg rfl rfl (zZ rfl rfl zV8 (by exact zLb rfl)) ?_
 refine zg rfl rfl (zy (av:=[_, _]) rfl ⟨rfl, rfl, trivial⟩ h90) ?_
 refine zg rfl rfl (zq rfl rfl) ?_
 refine zg rfl rfl (zN rfl rfl rfl) ?_
 refine zg rfl rfl (zN rfl rfl rfl) ?_
 refine zg rfl rfl (zW rfl rfl) ?_
 refine zg rfl rfl (zn rfl rfl) ?_
 refine zo (zf (zuy (zh ?_)))
 refine zg rfl rfl (zi rfl rfl) ?_
 refine zo (zf (zx rfl (fun h0=>?_) (fun h0=>?_)))
 ·
  exfalso; cases h0
 ·
  refine zC (zf (zuy (zh ?_)))
  refine zg rfl rfl (zi rfl rfl) ?_
  refine zg rfl rfl (zV rfl rfl rfl ⟨(by omega), (by omega)⟩) ?_
  refine zg rfl rfl (zn rfl rfl) ?_
  refine zo (zf (zP ?_))
  exact ⟨.inr rfl, AVle.refl _⟩
theorem zW3 (m:Mp) (p:Nat) (lvl:Int) (hm:okM m) (hp:p < npt m) (hv:1 <= lvl /\ lvl <= 99999) (V:AV) (h90:ACall Tryz.prog G 90 [.agg (zHt m), .agg (zV7 (p:Int) lvl true)] (.tup [V, .v (.bool true)])):ACall Tryz.prog G 89 [.agg (zHt m), .agg (zV7 (p:Int) lvl true)] (ei (if wX m p lvl true = true then 3 else 2)):=by
 have hn:=zJF hm
 have ho:=hm
 obtain ⟨m1, m2, m3, m4, m5, m6, m7, m8⟩:=ho
 have har:=area m1 m2 m3 m4
 have hlol:=zK2 m
 have hhil:=zK3 m
 refine zS Tryz.func89 rfl (by kernel_rfl) rfl ?_
 refine zuy (zh ?_)
 refine zg rfl rfl (jf rfl (zY rfl)) ?_
 refine zg rfl rfl (jf rfl (zY rfl)) ?_
 refine zg rfl rfl (zn rfl rfl) ?_
 refine zo (zf (zuy (zh ?_)))
 refine zg rfl rfl (zZ rfl rfl zIw (by exact zLb rfl)) ?_
 refine zg rfl rfl (zy (av:=[_]) rfl ⟨rfl, trivial⟩ (f64 m hm)) ?_
 refine vI  rfl rfl rfl rfl rfl rfl rfl zNH zMy rfl (by rfl) (zY rfl) rfl ?_
 refine zo (zf (zuy (zh ?_)))
 refine zg rfl rfl (zn rfl rfl) ?_
 refine zo (zf (zuy (zuy (zh ?_))))
 refine zg rfl rfl (zZ rfl rfl zIw (by exact zLb rfl)) ?_
 refine zg rfl rfl (zZ rfl rfl zV8 (by exact zLb rfl)) ?_
 refine zg rfl rfl (zy (av:=[_, _]) rfl ⟨rfl, rfl, trivial⟩ h90) ?_
 refine zg rfl rfl (zq rfl rfl) ?_
 refine zg rfl rfl (zN rfl rfl rfl) ?_
 refine zg rfl rfl (zN rfl rfl rfl) ?_
 refine zg rfl rfl (zW rfl rfl) ?_
 refine zg rfl rfl (zn rfl rfl) ?_
 refine zo (zf (zuy (zh ?_)))
 refine zg rfl rfl (zi rfl rfl) ?_
 refine zo (zf (zx rfl (fun h0=>?_) (fun h0=>?_)))
 ·
  refine zuy (zh ?_)
  refine zg rfl rfl (zn rfl rfl) ?_
  refine zo (zf (zuy ?_))
  refine qY mixed (by kernel_rfl) rfl ?_
  refine zH rfl (vP rfl rfl rfl zJf (by omega) (by omega)) ?_
  refine zH rfl (zA rfl rfl rfl zHR) ?_
  refine zH rfl (vP rfl rfl rfl zJf (by omega) (by omega)) ?_
  refine zH rfl (zA rfl rfl rfl zHR) ?_
  refine zH rfl (zu rfl rfl zV5) ?_
  refine zH rfl (zA rfl rfl rfl ty3) ?_
  refine zH rfl (zVZ rfl rfl rfl zIz (by omega) (zV1 (by omega)) jC) ?_
  refine zH rfl (zA rfl rfl rfl ty3) ?_
  refine zH rfl (zW rfl rfl) ?_
  refine zH rfl (zn rfl rfl) ?_
  refine jw (zf (zuy (zuy (zh ?_))))
  refine zg rfl rfl (zu rfl rfl zV4) ?_
  refine zg rfl rfl (zA rfl rfl rfl ty4) ?_
  refine zo (zf (zx rfl (fun h1=>?_) (fun h1=>?_)))
  ·
   refine qY mixed (by kernel_rfl) rfl ?_
   refine zH rfl (vP rfl rfl rfl zJf (by omega) (by omega)) ?_
   refine zH rfl (zA rfl rfl rfl zHR) ?_
   refine zH rfl (vP rfl rfl rfl zJf (by omega) (by omega)) ?_
   refine zH rfl (zA rfl rfl rfl zHR) ?_
   refine zH rfl (zu rfl rfl zV5) ?_
   refine zH rfl (zA rfl rfl rfl ty3) ?_
   refine zH rfl (zVZ rfl rfl rfl zIz (by omega) (zV1 (by omega)) jC) ?_
   refine zH rfl (zA rfl rfl rfl ty3) ?_
   refine zH rfl (zW rfl rfl) ?_
   refine zH rfl (zn rfl rfl) ?_
   refine jw (zf (zuy (zh ?_)))
   refine zg rfl rfl (zi rfl rfl) ?_
   refine zg rfl rfl (zu rfl rfl zV3) ?_
   refine zg rfl rfl (zA rfl rfl rfl ty3) ?_
   refine zg rfl rfl (zbe rfl rfl rfl) ?_
   refine zg rfl rfl (zu rfl rfl zV4) ?_
   refine zg rfl rfl (zA rfl rfl rfl ty4) ?_
   refine zg rfl rfl (zQu rfl rfl rfl Tryz.underlying4) ?_
   refine zg rfl rfl (zi rfl rfl) ?_
   refine zk rfl rfl rfl (fun hg=>zZ rfl rfl zIw (by exact zLb rfl)) ?_
   refine zk rfl rfl rfl (fun hg=>zZ rfl rfl zV8 (by exact zLb rfl)) ?_
   refine zk rfl rfl rfl (fun hg=>zq rfl rfl) ?_
   refine zk rfl rfl rfl (fun hg=>zy (av:=[_, _, _]) rfl ⟨(by exact if_pos hg), (by exact if_pos hg), (by exact if_pos hg), trivial⟩ (f134 m p lvl true (his m) hm hp (by simp [los, his]))) ?_
   refine zg rfl rfl (qI rfl rfl rfl rfl) ?_
   refine zo (zf (zx rfl (fun h2=>?_) (fun h2=>?_)))
   ·
    have hW:wX m p lvl true = true:=h2
    refine zh ?_
    refine zg rfl rfl (zn rfl rfl) ?_
    refine zo (zf (zuy (zh ?_)))
    refine zg rfl rfl (zi rfl rfl) ?_
    refine zg rfl rfl (zV rfl rfl rfl ⟨(by omega), (by omega)⟩) ?_
    refine zg rfl rfl (zn rfl rfl) ?_
    refine zo (zf (zP ?_))
    exact ⟨.inr rfl, AVle.of (by rw [if_pos hW]; rfl)⟩
   ·
    have hW:wX m p lvl true = false:=h2
    refine zC (zf (zuy (zh ?_)))
    refine zg rfl rfl (zi rfl rfl) ?_
    refine zg rfl rfl (zV rfl rfl rfl ⟨(by omega), (by omega)⟩) ?_
    refine zg rfl rfl (zn rfl rfl) ?_
    refine zo (zf (zP ?_))
    exact ⟨.inr rfl, AVle.of (by rw [if_neg (by rw [hW]; decide)]; rfl)⟩
  ·
   exfalso; cases h1
 ·
  exfalso; cases h0
theorem zXc (m:Mp) (p:Nat) (lvl:Int) (hm:okM m) (hp:p < npt m) (hv:1 <= lvl /\ lvl <= 99999) (V:AV) (h90:ACall Tryz.prog G 90 [.agg (zHt m), .agg (zV7 (p:Int) lvl false)] (.tup [V, .v (.bool false)])):ACall Tryz.prog G 89 [.agg (zHt m), .agg (zV7 (p:Int) lvl false)] (ei 1):=by
 have hn:=zJF hm
 have ho:=hm
 obtain ⟨m1, m2, m3, m4, m5, m6, m7, m8⟩:=ho
 have har:=area m1 m2 m3 m4
 have hlol:=zK2 m
 have hhil:=zK3 m
 refine zS Tryz.func89 rfl (by kernel_rfl) rfl ?_
 refine zuy (zh ?_)
 refine zg rfl rfl (jf rfl (zY rfl)) ?_
 refine zg rfl rfl (jf rfl (zY rfl)) ?_
 refine zg rfl rfl (zn rfl rfl) ?_
 refine zo (zf (zuy (zh ?_)))
 refine zg rfl rfl (zZ rfl rfl zIw (by exact zLb rfl)) ?_
 refine zg rfl rfl (zy (av:=[_]) rfl ⟨rfl, trivial⟩ (f64 m hm)) ?_
 refine vI  rfl rfl rfl rfl rfl rfl rfl zNH zMy rfl (by rfl) (zY rfl) rfl ?_
 refine zo (zf (zuy (zh ?_)))
 refine zg rfl rfl (zn rfl rfl) ?_
 refine zo (zf (zuy (zuy (zh ?_))))
 refine zg rfl rfl (zZ rfl rfl zIw (by exact zLb rfl)) ?_
 refine zg rfl rfl (zZ rfl rfl zV8 (by exact zLb rfl)) ?_
 refine zg rfl rfl (zy (av:=[_, _]) rfl ⟨rfl, rfl, trivial⟩ h90) ?_
 refine zg rfl rfl (zq rfl rfl) ?_
 refine zg rfl rfl (zN rfl rfl rfl) ?_
 refine zg rfl rfl (zN rfl rfl rfl) ?_
 refine zg rfl rfl (zW rfl rfl) ?_
 refine zg rfl rfl (zn rfl rfl) ?_
 refine zo (zf (zuy (zh ?_)))
 refine zg rfl rfl (zi rfl rfl) ?_
 refine zo (zf (zx rfl (fun h0=>?_) (fun h0=>?_)))
 ·
  exfalso; cases h0
 ·
  refine zC (zf (zuy (zh ?_)))
  refine zg rfl rfl (zi rfl rfl) ?_
  refine zg rfl rfl (zV rfl rfl rfl ⟨(by omega), (by omega)⟩) ?_
  refine zg rfl rfl (zn rfl rfl) ?_
  refine zo (zf (zP ?_))
  exact ⟨.inr rfl, AVle.refl _⟩
theorem zWU (m:Mp) (p:Nat) (lvl:Int) (hm:okM m) (hp:p < npt m) (hv:1 <= lvl /\ lvl <= 99999) (V:AV) (h90:ACall Tryz.prog G 90 [.agg (zHt m), .agg (zV7 (p:Int) lvl false)] (.tup [V, .v (.bool true)])):ACall Tryz.prog G 89 [.agg (zHt m), .agg (zV7 (p:Int) lvl false)] (ei (if wX m p lvl false = true then 3 else 2)):=by
 have hn:=zJF hm
 have ho:=hm
 obtain ⟨m1, m2, m3, m4, m5, m6, m7, m8⟩:=ho
 have har:=area m1 m2 m3 m4
 have hlol:=zK2 m
 have hhil:=zK3 m
 refine zS Tryz.func89 rfl (by kernel_rfl) rfl ?_
 refine zuy (zh ?_)
 refine zg rfl rfl (jf rfl (zY rfl)) ?_
 refine zg rfl rfl (jf rfl (zY rfl)) ?_
 refine zg rfl rfl (zn rfl rfl) ?_
 refine zo (zf (zuy (zh ?_)))
 refine zg rfl rfl (zZ rfl rfl zIw (by exact zLb rfl)) ?_
 refine zg rfl rfl (zy (av:=[_]) rfl ⟨rfl, trivial⟩ (f64 m hm)) ?_
 refine vI  rfl rfl rfl rfl rfl rfl rfl zNH zMy rfl (by rfl) (zY rfl) rfl ?_
 refine zo (zf (zuy (zh ?_)))
 refine zg rfl rfl (zn rfl rfl) ?_
 refine zo (zf (zuy (zuy (zh ?_))))
 refine zg rfl rfl (zZ rfl rfl zIw (by exact zLb rfl)) ?_
 refine zg rfl rfl (zZ rfl rfl zV8 (by exact zLb rfl)) ?_
 refine zg rfl rfl (zy (av:=[_, _]) rfl ⟨rfl, rfl, trivial⟩ h90) ?_
 refine zg rfl rfl (zq rfl rfl) ?_
 refine zg rfl rfl (zN rfl rfl rfl) ?_
 refine zg rfl rfl (zN rfl rfl rfl) ?_
 refine zg rfl rfl (zW rfl rfl) ?_
 refine zg rfl rfl (zn rfl rfl) ?_
 refine zo (zf (zuy (zh ?_)))
 refine zg rfl rfl (zi rfl rfl) ?_
 refine zo (zf (zx rfl (fun h0=>?_) (fun h0=>?_)))
 ·
  refine zuy (zh ?_)
  refine zg rfl rfl (zn rfl rfl) ?_
  refine zo (zf (zuy ?_))
  refine qY mixed (by kernel_rfl) rfl ?_
  refine zH rfl (vP rfl rfl rfl zJf (by omega) (by omega)) ?_
  refine zH rfl (zA rfl rfl rfl zHR) ?_
  refine zH rfl (vP rfl rfl rfl zJf (by omega) (by omega)) ?_
  refine zH rfl (zA rfl rfl rfl zHR) ?_
  refine zH rfl (zu rfl rfl zV5) ?_
  refine zH rfl (zA rfl rfl rfl ty3) ?_
  refine zH rfl (zVZ rfl rfl rfl zIz (by omega) (zV1 (by omega)) jC) ?_
  refine zH rfl (zA rfl rfl rfl ty3) ?_
  refine zH rfl (zW rfl rfl) ?_
  refine zH rfl (zn rfl rfl) ?_
  refine jw (zf (zuy (zuy (zh ?_))))
  refine zg rfl rfl (zu rfl rfl zV4) ?_
  refine zg rfl rfl (zA rfl rfl rfl ty4) ?_
  refine zo (zf (zx rfl (fun h1=>?_) (fun h1=>?_)))
  ·
   exfalso; cases h1
  ·
   refine zC (zf (zuy (zh ?_)))
   refine zg rfl rfl (zi rfl rfl) ?_
   refine zg rfl rfl (zu rfl rfl zV3) ?_
   refine zg rfl rfl (zA rfl rfl rfl ty3) ?_
   refine zg rfl rfl (zbe rfl rfl rfl) ?_
   refine zg rfl rfl (zu rfl rfl zV4) ?_
   refine zg rfl rfl (zA rfl rfl rfl ty4) ?_
   refine zg rfl rfl (zQu rfl rfl rfl Tryz.underlying4) ?_
   refine zg rfl rfl (zi rfl rfl) ?_
   refine zk rfl rfl rfl (fun hg=>zZ rfl rfl zIw (by exact zLb rfl)) ?_
   refine zk rfl rfl rfl (fun hg=>zZ rfl rfl zV8 (by exact zLb rfl)) ?_
   refine zk rfl rfl rfl (fun hg=>zq rfl rfl) ?_
   refine zk rfl rfl rfl (fun hg=>zy (av:=[_, _, _]) rfl ⟨(by exact if_pos hg), (by exact if_pos hg), (by exact if_pos hg), trivial⟩ (f134 m p lvl false (los m) hm hp (by simp [los, his]))) ?_
   refine zg rfl rfl (qI rfl rfl rfl rfl) ?_
   refine zo (zf (zx rfl (fun h2=>?_) (fun h2=>?_)))
   ·
    have hW:wX m p lvl false = true:=h2
    refine zh ?_
    refine zg rfl rfl (zn rfl rfl) ?_
    refine zo (zf (zuy (zh ?_)))
    refine zg rfl rfl (zi rfl rfl) ?_
    refine zg rfl rfl (zV rfl rfl rfl ⟨(by omega), (by omega)⟩) ?_
    refine zg rfl rfl (zn rfl rfl) ?_
    refine zo (zf (zP ?_))
    exact ⟨.inr rfl, AVle.of (by rw [if_pos hW]; rfl)⟩
   ·
    have hW:wX m p lvl false = false:=h2
    refine zC (zf (zuy (zh ?_)))
    refine zg rfl rfl (zi rfl rfl) ?_
    refine zg rfl rfl (zV rfl rfl rfl ⟨(by omega), (by omega)⟩) ?_
    refine zg rfl rfl (zn rfl rfl) ?_
    refine zo (zf (zP ?_))
    exact ⟨.inr rfl, AVle.of (by rw [if_neg (by rw [hW]; decide)]; rfl)⟩
 ·
  exfalso; cases h0
theorem zCK (m:Mp) (p lvl e:Int) (he:e ≠ 0) (h88:ACall Tryz.prog G 88 [.agg (eMp m), .agg (zV7 p lvl false)] (.tup [.agg zVF, ei e])):ACall Tryz.prog G 37 [.agg (eMp m), ei p, ei lvl] (.tup [ei 0, ei e]):=by
 refine zS Tryz.func37 rfl (by kernel_rfl) rfl ?_
 refine zuy (zh ?_)
 refine zg rfl rfl (jf rfl (zY rfl)) ?_
 refine zg rfl rfl (zn rfl rfl) ?_
 refine zg rfl rfl (zn rfl rfl) ?_
 refine zo (zf (zuy (zh ?_)))
 refine zg rfl rfl (zi rfl rfl) ?_
 refine zg rfl rfl (zi rfl rfl) ?_
 refine zg rfl rfl (zb3 (cs:=[_, _, _]) rfl zXT rfl ⟨_, _, rfl, (jF rfl), ⟨_, _, rfl, (jF rfl), ⟨_, _, rfl, (jF rfl), rfl⟩⟩⟩ (by rfl) (by simp [ofV])) ?_
 refine vI  rfl rfl rfl rfl rfl rfl rfl zXV zV8 rfl (by rfl) (zY rfl) rfl ?_
 refine zo (zf (zuy (zh ?_)))
 refine zg rfl rfl (zZ rfl rfl zMg (by exact zLb rfl)) ?_
 refine zg rfl rfl (zZ rfl rfl zV8 (by exact zLb rfl)) ?_
 refine zg rfl rfl (zy (av:=[_, _]) rfl ⟨rfl, rfl, trivial⟩ h88) ?_
 refine zg rfl rfl (zq rfl rfl) ?_
 refine zg rfl rfl (zN rfl rfl rfl) ?_
 refine zg rfl rfl (zN rfl rfl rfl) ?_
 refine vI  rfl rfl rfl rfl rfl rfl rfl zM2 zIw rfl (by rfl) (zY rfl) rfl ?_
 refine zg rfl rfl (zn rfl rfl) ?_
 refine zo (zf (zuy (zuy (zh ?_))))
 refine zg rfl rfl (zi rfl rfl) ?_
 refine zg rfl rfl (vg rfl rfl rfl) ?_
 refine zo (zf (zx rfl (fun h0=>?_) (fun h0=>?_)))
 ·
  refine zuy (zh ?_)
  refine zg rfl rfl (zi rfl rfl) ?_
  refine zg rfl rfl (zn rfl rfl) ?_
  refine zg rfl rfl (zn rfl rfl) ?_
  refine zo (zf (zP (zQ ?_)))
  exact ⟨.inr rfl, ⟨_, rfl, ⟨_, _, rfl, AVle.refl _, ⟨_, _, rfl, AVle.refl _, rfl⟩⟩⟩⟩
 ·
  exfalso; simp at h0; omega
theorem zYR (m:Mp) (p lvl wd:Int) (h88:ACall Tryz.prog G 88 [.agg (eMp m), .agg (zV7 p lvl false)] (.tup [.agg (zHt m), ei 0])) (h89:ACall Tryz.prog G 89 [.agg (zHt m), .agg (zV7 p lvl false)] (ei wd)):ACall Tryz.prog G 37 [.agg (eMp m), ei p, ei lvl] (.tup [ei wd, ei 0]):=by
 refine zS Tryz.func37 rfl (by kernel_rfl) rfl ?_
 refine zuy (zh ?_)
 refine zg rfl rfl (jf rfl (zY rfl)) ?_
 refine zg rfl rfl (zn rfl rfl) ?_
 refine zg rfl rfl (zn rfl rfl) ?_
 refine zo (zf (zuy (zh ?_)))
 refine zg rfl rfl (zi rfl rfl) ?_
 refine zg rfl rfl (zi rfl rfl) ?_
 refine zg rfl rfl (zb3 (cs:=[_, _, _]) rfl zXT rfl ⟨_, _, rfl, (jF rfl), ⟨_, _, rfl, (jF rfl), ⟨_, _, rfl, (jF rfl), rfl⟩⟩⟩ (by rfl) (by simp [ofV])) ?_
 refine vI  rfl rfl rfl rfl rfl rfl rfl zXV zV8 rfl (by rfl) (zY rfl) rfl ?_
 refine zo (zf (zuy (zh ?_)))
 refine zg rfl rfl (zZ rfl rfl zMg (by exact zLb rfl)) ?_
 refine zg rfl rfl (zZ rfl rfl zV8 (by exact zLb rfl)) ?_
 refine zg rfl rfl (zy (av:=[_, _]) rfl ⟨rfl, rfl, trivial⟩ h88) ?_
 refine zg rfl rfl (zq rfl rfl) ?_
 refine zg rfl rfl (zN rfl rfl rfl) ?_
 refine zg rfl rfl (zN rfl rfl rfl) ?_
 refine vI  rfl rfl rfl rfl rfl rfl rfl zM2 zIw rfl (by rfl) (zY rfl) rfl ?_
 refine zg rfl rfl (zn rfl rfl) ?_
 refine zo (zf (zuy (zuy (zh ?_))))
 refine zg rfl rfl (zi rfl rfl) ?_
 refine zg rfl rfl (vg rfl rfl rfl) ?_
 refine zo (zf (zx rfl (fun h0=>?_) (fun h0=>?_)))
 ·
  exfalso; simp at h0
 ·
  refine zC (zf (zuy (zh ?_)))
  refine zg rfl rfl (zZ rfl rfl zIw (by exact zLb rfl)) ?_
  refine zg rfl rfl (zZ rfl rfl zV8 (by exact zLb rfl)) ?_
  refine zg rfl rfl (zy (av:=[_, _]) rfl ⟨rfl, rfl, trivial⟩ h89) ?_
  refine zg rfl rfl (zn rfl rfl) ?_
  refine zg rfl rfl (zn rfl rfl) ?_
  refine zo (zf (zP ?_))
  exact ⟨.inr rfl, ⟨_, rfl, ⟨_, _, rfl, AVle.refl _, ⟨_, _, rfl, AVle.refl _, rfl⟩⟩⟩⟩
theorem zZ4 (m:Mp) (p lvl e:Int) (he:e ≠ 0) (h88:ACall Tryz.prog G 88 [.agg (eMp m), .agg (zV7 p lvl true)] (.tup [.agg zVF, ei e])):ACall Tryz.prog G 38 [.agg (eMp m), ei p, ei lvl] (.tup [ei 0, ei e]):=by
 refine zS Tryz.func38 rfl (by kernel_rfl) rfl ?_
 refine zuy (zh ?_)
 refine zg rfl rfl (jf rfl (zY rfl)) ?_
 refine zg rfl rfl (zn rfl rfl) ?_
 refine zg rfl rfl (zn rfl rfl) ?_
 refine zo (zf (zuy (zh ?_)))
 refine zg rfl rfl (zi rfl rfl) ?_
 refine zg rfl rfl (zi rfl rfl) ?_
 refine zg rfl rfl (zb3 (cs:=[_, _, _]) rfl zXT rfl ⟨_, _, rfl, (jF rfl), ⟨_, _, rfl, (jF rfl), ⟨_, _, rfl, (jF rfl), rfl⟩⟩⟩ (by rfl) (by simp [ofV])) ?_
 refine vI  rfl rfl rfl rfl rfl rfl rfl zXV zV8 rfl (by rfl) (zY rfl) rfl ?_
 refine zo (zf (zuy (zh ?_)))
 refine zg rfl rfl (zZ rfl rfl zMg (by exact zLb rfl)) ?_
 refine zg rfl rfl (zZ rfl rfl zV8 (by exact zLb rfl)) ?_
 refine zg rfl rfl (zy (av:=[_, _]) rfl ⟨rfl, rfl, trivial⟩ h88) ?_
 refine zg rfl rfl (zq rfl rfl) ?_
 refine zg rfl rfl (zN rfl rfl rfl) ?_
 refine zg rfl rfl (zN rfl rfl rfl) ?_
 refine vI  rfl rfl rfl rfl rfl rfl rfl zM2 zIw rfl (by rfl) (zY rfl) rfl ?_
 refine zg rfl rfl (zn rfl rfl) ?_
 refine zo (zf (zuy (zuy (zh ?_))))
 refine zg rfl rfl (zi rfl rfl) ?_
 refine zg rfl rfl (vg rfl rfl rfl) ?_
 refine zo (zf (zx rfl (fun h0=>?_) (fun h0=>?_)))
 ·
  refine zuy (zh ?_)
  refine zg rfl rfl (zi rfl rfl) ?_
  refine zg rfl rfl (zn rfl rfl) ?_
  refine zg rfl rfl (zn rfl rfl) ?_
  refine zo (zf (zP (zQ ?_)))
  exact ⟨.inr rfl, ⟨_, rfl, ⟨_, _, rfl, AVle.refl _, ⟨_, _, rfl, AVle.refl _, rfl⟩⟩⟩⟩
 ·
  exfalso; simp at h0; omega
theorem zYQ (m:Mp) (p lvl wd:Int) (h88:ACall Tryz.prog G 88 [.agg (eMp m), .agg (zV7 p lvl true)] (.tup [.agg (zHt m), ei 0])) (h89:ACall Tryz.prog G 89 [.agg (zHt m), .agg (zV7 p lvl true)] (ei wd)):ACall Tryz.prog G 38 [.agg (eMp m), ei p, ei lvl] (.tup [ei wd, ei 0]):=by
 refine zS Tryz.func38 rfl (by kernel_rfl) rfl ?_
 refine zuy (zh ?_)
 refine zg rfl rfl (jf rfl (zY rfl)) ?_
 refine zg rfl rfl (zn rfl rfl) ?_
 refine zg rfl rfl (zn rfl rfl) ?_
 refine zo (zf (zuy (zh ?_)))
 refine zg rfl rfl (zi rfl rfl) ?_
 refine zg rfl rfl (zi rfl rfl) ?_
 refine zg rfl rfl (zb3 (cs:=[_, _, _]) rfl zXT rfl ⟨_, _, rfl, (jF rfl), ⟨_, _, rfl, (jF rfl), ⟨_, _, rfl, (jF rfl), rfl⟩⟩⟩ (by rfl) (by simp [ofV])) ?_
 refine vI  rfl rfl rfl rfl rfl rfl rfl zXV zV8 rfl (by rfl) (zY rfl) rfl ?_
 refine zo (zf (zuy (zh ?_)))
 refine zg rfl rfl (zZ rfl rfl zMg (by exact zLb rfl)) ?_
 refine zg rfl rfl (zZ rfl rfl zV8 (by exact zLb rfl)) ?_
 refine zg rfl rfl (zy (av:=[_, _]) rfl ⟨rfl, rfl, trivial⟩ h88) ?_
 refine zg rfl rfl (zq rfl rfl) ?_
 refine zg rfl rfl (zN rfl rfl rfl) ?_
 refine zg rfl rfl (zN rfl rfl rfl) ?_
 refine vI  rfl rfl rfl rfl rfl rfl rfl zM2 zIw rfl (by rfl) (zY rfl) rfl ?_
 refine zg rfl rfl (zn rfl rfl) ?_
 refine zo (zf (zuy (zuy (zh ?_))))
 refine zg rfl rfl (zi rfl rfl) ?_
 refine zg rfl rfl (vg rfl rfl rfl) ?_
 refine zo (zf (zx rfl (fun h0=>?_) (fun h0=>?_)))
 ·
  exfalso; simp at h0
 ·
  refine zC (zf (zuy (zh ?_)))
  refine zg rfl rfl (zZ rfl rfl zIw (by exact zLb rfl)) ?_
  refine zg rfl rfl (zZ rfl rfl zV8 (by exact zLb rfl)) ?_
  refine zg rfl rfl (zy (av:=[_, _]) rfl ⟨rfl, rfl, trivial⟩ h89) ?_
  refine zg rfl rfl (zn rfl rfl) ?_
  refine zg rfl rfl (zn rfl rfl) ?_
  refine zo (zf (zP ?_))
  exact ⟨.inr rfl, ⟨_, rfl, ⟨_, _, rfl, AVle.refl _, ⟨_, _, rfl, AVle.refl _, rfl⟩⟩⟩⟩
theorem zZJ (m:Mp) (p lvl:Int) (hi:Bool) (e:Int) (he:e ≠ 0) (h88:ACall Tryz.prog G 88 [.agg (eMp m), .agg (zV7 p lvl hi)] (.tup [.agg zVF, ei e])):ACall Tryz.prog G 39 [.agg (eMp m), ei p, ei lvl, .v (.bool hi)] (.tup [.agg (zHF zVY), ei e]):=by
 refine zS Tryz.func39 rfl (by kernel_rfl) rfl ?_
 refine zuy (zh ?_)
 refine zg rfl rfl (jf rfl (zY rfl)) ?_
 refine jb rfl (wJ rfl rfl zNn rfl rfl) ?_
 refine zg rfl rfl (zn rfl rfl) ?_
 refine zo (zf (zuy (zh ?_)))
 refine zg rfl rfl (zi rfl rfl) ?_
 refine zg rfl rfl (zi rfl rfl) ?_
 refine zg rfl rfl (zi rfl rfl) ?_
 refine zg rfl rfl (zb3 (cs:=[_, _, _]) rfl zXT rfl ⟨_, _, rfl, (jF rfl), ⟨_, _, rfl, (jF rfl), ⟨_, _, rfl, (jF rfl), rfl⟩⟩⟩ (by rfl) (by simp [ofV])) ?_
 refine vI  rfl rfl rfl rfl rfl rfl rfl zXV zV8 rfl (by rfl) (zY rfl) rfl ?_
 refine zo (zf (zuy (zh ?_)))
 refine zg rfl rfl (zZ rfl rfl zMg (by exact zLb rfl)) ?_
 refine zg rfl rfl (zZ rfl rfl zV8 (by exact zLb rfl)) ?_
 refine zg rfl rfl (zy (av:=[_, _]) rfl ⟨rfl, rfl, trivial⟩ h88) ?_
 refine zg rfl rfl (zq rfl rfl) ?_
 refine zg rfl rfl (zN rfl rfl rfl) ?_
 refine zg rfl rfl (zN rfl rfl rfl) ?_
 refine vI  rfl rfl rfl rfl rfl rfl rfl zM2 zIw rfl (by rfl) (zY rfl) rfl ?_
 refine zg rfl rfl (zn rfl rfl) ?_
 refine zo (zf (zuy (zuy (zh ?_))))
 refine zg rfl rfl (zi rfl rfl) ?_
 refine zg rfl rfl (vg rfl rfl rfl) ?_
 refine zo (zf (zx rfl (fun h0=>?_) (fun h0=>?_)))
 ·
  refine zuy (zh ?_)
  refine zg rfl rfl (zb3 (cs:=[_, _]) rfl zQH rfl rfl (by rfl) (by simp [ofV])) ?_
  refine zg rfl rfl (zi rfl rfl) ?_
  refine jb rfl (qG rfl rfl rfl rfl rfl rfl (zY rfl) zHQ (by rfl) (by exact zLb rfl)) ?_
  refine zg rfl rfl (zn rfl rfl) ?_
  refine zo (zf (zP (zQ ?_)))
  exact ⟨.inr rfl, ⟨_, rfl, ⟨_, _, rfl, (jK rfl rfl rfl rfl zHQ rfl ⟨_, _, rfl, AVle.refl _, ⟨_, _, rfl, AVle.nil, rfl⟩⟩), ⟨_, _, rfl, AVle.refl _, rfl⟩⟩⟩⟩
 ·
  exfalso; simp at h0; omega
theorem zYT (m:Mp) (p lvl:Int) (hi:Bool) (h88:ACall Tryz.prog G 88 [.agg (eMp m), .agg (zV7 p lvl hi)] (.tup [.agg (zHt m), ei 0])) (V:AV) (h90:ACall Tryz.prog G 90 [.agg (zHt m), .agg (zV7 p lvl hi)] (.tup [V, .v (.bool false)])):ACall Tryz.prog G 39 [.agg (eMp m), ei p, ei lvl, .v (.bool hi)] (.tup [.agg (zHF zVY), ei 5]):=by
 refine zS Tryz.func39 rfl (by kernel_rfl) rfl ?_
 refine zuy (zh ?_)
 refine zg rfl rfl (jf rfl (zY rfl)) ?_
 refine jb rfl (wJ rfl rfl zNn rfl rfl) ?_
 refine zg rfl rfl (zn rfl rfl) ?_
 refine zo (zf (zuy (zh ?_)))
 refine zg rfl rfl (zi rfl rfl) ?_
 refine zg rfl rfl (zi rfl rfl) ?_
 refine zg rfl rfl (zi rfl rfl) ?_
 refine zg rfl rfl (zb3 (cs:=[_, _, _]) rfl zXT rfl ⟨_, _, rfl, (jF rfl), ⟨_, _, rfl, (jF rfl), ⟨_, _, rfl, (jF rfl), rfl⟩⟩⟩ (by rfl) (by simp [ofV])) ?_
 refine vI  rfl rfl rfl rfl rfl rfl rfl zXV zV8 rfl (by rfl) (zY rfl) rfl ?_
 refine zo (zf (zuy (zh ?_)))
 refine zg rfl rfl (zZ rfl rfl zMg (by exact zLb rfl)) ?_
 refine zg rfl rfl (zZ rfl rfl zV8 (by exact zLb rfl)) ?_
 refine zg rfl rfl (zy (av:=[_, _]) rfl ⟨rfl, rfl, trivial⟩ h88) ?_
 refine zg rfl rfl (zq rfl rfl) ?_
 refine zg rfl rfl (zN rfl rfl rfl) ?_
 refine zg rfl rfl (zN rfl rfl rfl) ?_
 refine vI  rfl rfl rfl rfl rfl rfl rfl zM2 zIw rfl (by rfl) (zY rfl) rfl ?_
 refine zg rfl rfl (zn rfl rfl) ?_
 refine zo (zf (zuy (zuy (zh ?_))))
 refine zg rfl rfl (zi rfl rfl) ?_
 refine zg rfl rfl (vg rfl rfl rfl) ?_
 refine zo (zf (zx rfl (fun h0=>?_) (fun h0=>?_)))
 ·
  exfalso; simp at h0
 ·
  refine zC (zf (zuy (zh ?_)))
  refine zg rfl rfl (zZ rfl rfl zIw (by exact zLb rfl)) ?_
  refine zg rfl rfl (zZ rfl rfl zV8 (by exact zLb rfl)) ?_
  refine zg rfl rfl (zy (av:=[_, _]) rfl ⟨rfl, rfl, trivial⟩ h90) ?_
  refine zg rfl rfl (zq rfl rfl) ?_
  refine zg rfl rfl (zN rfl rfl rfl) ?_
  refine zg rfl rfl (zN rfl rfl rfl) ?_
  refine zg rfl rfl (zW rfl rfl) ?_
  refine zg rfl rfl (zn rfl rfl) ?_
  refine zo (zf (zuy (zuy (zh ?_))))
  refine zg rfl rfl (zi rfl rfl) ?_
  refine zg rfl rfl (je rfl rfl) ?_
  refine zo (zf (zx rfl (fun h1=>?_) (fun h1=>?_)))
  ·
   refine zuy (zh ?_)
   refine zg rfl rfl (zb3 (cs:=[_, _]) rfl zQH rfl rfl (by rfl) (by simp [ofV])) ?_
   refine jb rfl (qG rfl rfl rfl rfl rfl rfl (zY rfl) zHQ (by rfl) (by exact zLb rfl)) ?_
   refine zg rfl rfl (zn rfl rfl) ?_
   refine zo (zf (zP (zQ ?_)))
   exact ⟨.inr rfl, ⟨_, rfl, ⟨_, _, rfl, (jK rfl rfl rfl rfl zHQ rfl ⟨_, _, rfl, AVle.refl _, ⟨_, _, rfl, AVle.nil, rfl⟩⟩), ⟨_, _, rfl, AVle.refl _, rfl⟩⟩⟩⟩
  ·
   exfalso; cases h1
theorem zYB (m:Mp) (p lvl:Int) (hi:Bool) (h88:ACall Tryz.prog G 88 [.agg (eMp m), .agg (zV7 p lvl hi)] (.tup [.agg (zHt m), ei 0])) (vals:List Int) (h90:ACall Tryz.prog G 90 [.agg (zHt m), .agg (zV7 p lvl hi)] (.tup [zO vals, .v (.bool true)])):ACall Tryz.prog G 39 [.agg (eMp m), ei p, ei lvl, .v (.bool hi)] (.tup [.agg (zHF ⟨m.wide, vals⟩), ei 0]):=by
 refine zS Tryz.func39 rfl (by kernel_rfl) rfl ?_
 refine zuy (zh ?_)
 refine zg rfl rfl (jf rfl (zY rfl)) ?_
 refine jb rfl (wJ rfl rfl zNn rfl rfl) ?_
 refine zg rfl rfl (zn rfl rfl) ?_
 refine zo (zf (zuy (zh ?_)))
 refine zg rfl rfl (zi rfl rfl) ?_
 refine zg rfl rfl (zi rfl rfl) ?_
 refine zg rfl rfl (zi rfl rfl) ?_
 refine zg rfl rfl (zb3 (cs:=[_, _, _]) rfl zXT rfl ⟨_, _, rfl, (jF rfl), ⟨_, _, rfl, (jF rfl), ⟨_, _, rfl, (jF rfl), rfl⟩⟩⟩ (by rfl) (by simp [ofV])) ?_
 refine vI  rfl rfl rfl rfl rfl rfl rfl zXV zV8 rfl (by rfl) (zY rfl) rfl ?_
 refine zo (zf (zuy (zh ?_)))
 refine zg rfl rfl (zZ rfl rfl zMg (by exact zLb rfl)) ?_
 refine zg rfl rfl (zZ rfl rfl zV8 (by exact zLb rfl)) ?_
 refine zg rfl rfl (zy (av:=[_, _]) rfl ⟨rfl, rfl, trivial⟩ h88) ?_
 refine zg rfl rfl (zq rfl rfl) ?_
 refine zg rfl rfl (zN rfl rfl rfl) ?_
 refine zg rfl rfl (zN rfl rfl rfl) ?_
 refine vI  rfl rfl rfl rfl rfl rfl rfl zM2 zIw rfl (by rfl) (zY rfl) rfl ?_
 refine zg rfl rfl (zn rfl rfl) ?_
 refine zo (zf (zuy (zuy (zh ?_))))
 refine zg rfl rfl (zi rfl rfl) ?_
 refine zg rfl rfl (vg rfl rfl rfl) ?_
 refine zo (zf (zx rfl (fun h0=>?_) (fun h0=>?_)))
 ·
  exfalso; simp at h0
 ·
  refine zC (zf (zuy (zh ?_)))
  refine zg rfl rfl (zZ rfl rfl zIw (by exact zLb rfl)) ?_
  refine zg rfl rfl (zZ rfl rfl zV8 (by exact zLb rfl)) ?_
  refine zg rfl rfl (zy (av:=[_, _]) rfl ⟨rfl, rfl, trivial⟩ h90) ?_
  refine zg rfl rfl (zq rfl rfl) ?_
  refine zg rfl rfl (zN rfl rfl rfl) ?_
  refine zg rfl rfl (zN rfl rfl rfl) ?_
  refine zg rfl rfl (zW rfl rfl) ?_
  refine zg rfl rfl (zn rfl rfl) ?_
  refine zo (zf (zuy (zuy (zh ?_))))
  refine zg rfl rfl (zi rfl rfl) ?_
  refine zg rfl rfl (je rfl rfl) ?_
  refine zo (zf (zx rfl (fun h1=>?_) (fun h1=>?_)))
  ·
   exfalso; cases h1
  ·
   refine zC (zf (zuy (zh ?_)))
   refine zg rfl rfl (zu rfl rfl zH6) ?_
   refine zg rfl rfl (zA rfl rfl rfl ty3) ?_
   refine zg rfl rfl (zq rfl rfl) ?_
   refine zg rfl rfl (zb3 (cs:=[_, _]) rfl zQH rfl ⟨_, _, rfl, (jF rfl), ⟨_, _, rfl, (kQ rfl), rfl⟩⟩ (by rfl) (by simp [ofV])) ?_
   refine jb rfl (qG rfl rfl rfl rfl rfl rfl (zY rfl) zHQ (by rfl) (by exact zLb rfl)) ?_
   refine zg rfl rfl (zn rfl rfl) ?_
   refine zo (zf (zP ?_))
   exact ⟨.inr rfl, ⟨_, rfl, ⟨_, _, rfl, (jK rfl rfl rfl rfl zHQ rfl ⟨_, _, rfl, AVle.refl _, ⟨_, _, rfl, AVle.refl _, rfl⟩⟩), ⟨_, _, rfl, AVle.refl _, rfl⟩⟩⟩⟩
end Go.Av
end
