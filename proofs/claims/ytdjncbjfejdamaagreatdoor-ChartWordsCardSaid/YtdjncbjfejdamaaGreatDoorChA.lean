import Derived.Test.YtdjncbjfejdamaaGreatDoorPlatE
import Derived.Test.YtdjncbjfejdamaaGreatDoorChecked
set_option linter.unusedVariables false
set_option linter.unusedSimpArgs false
section
namespace Go.Av
open Go.Proofs
set_option maxRecDepth 100000
theorem mixed:Tryz.prog.follows .mixedOrders = true:=by kernel_rfl
theorem zH6:fldIs Tryz.prog 24 0 0 = true:=by kernel_rfl
theorem ty3:tyIs Tryz.prog 3 false 1 = true:=by kernel_rfl
theorem zI9:fldIs Tryz.prog 24 1 1 = true:=by kernel_rfl
theorem zI7:fldIs Tryz.prog 24 2 2 = true:=by kernel_rfl
theorem zHN:fldIs Tryz.prog 24 3 3 = true:=by kernel_rfl
theorem zah:tyIs Tryz.prog 22 false 1 = true:=by kernel_rfl
theorem zjm:zau Tryz.prog 22 3 = true:=by kernel_rfl
theorem zIf:tyIs Tryz.prog 78 true 3 = true:=by kernel_rfl
theorem zKF:(Tryz.prog.info? 78).bind (·.zero) = some (.agg #[.int .i64 0, .int .i64 0, .int .i64 0]):=by kernel_rfl
theorem zMg:tyIs Tryz.prog 24 true 4 = true:=by kernel_rfl
theorem zIq:fldIs Tryz.prog 78 0 0 = true:=by kernel_rfl
theorem zHJ:fldIs Tryz.prog 78 1 1 = true:=by kernel_rfl
theorem zHY:fldIs Tryz.prog 76 0 0 = true:=by kernel_rfl
theorem zHX:fldIs Tryz.prog 76 1 1 = true:=by kernel_rfl
theorem zQT:(Tryz.prog.info? 76).bind (·.zero) = some (.agg #[.int .i64 0, .int .i64 0]):=by kernel_rfl
theorem zRt:xn Tryz.prog 76 [(0, 1), (1, 1)] [.int .i64 0, .int .i64 0]:=⟨_, Tryz.underlying76, by kernel_rfl, by kernel_rfl⟩
theorem zPK:tyIs Tryz.prog 76 true 2 = true:=by kernel_rfl
theorem zIz:zau Tryz.prog 27 1 = true:=by kernel_rfl
theorem ti3:Tryz.prog.info? 3 = some Tryz.t3:=by kernel_rfl
theorem zIp:fldIs Tryz.prog 99 0 0 = true:=by kernel_rfl
theorem zIO:tyIs Tryz.prog 99 true 2 = true:=by kernel_rfl
theorem zHL:fldIs Tryz.prog 101 0 0 = true:=by kernel_rfl
theorem zKl:fldIs Tryz.prog 101 1 4 = true:=by kernel_rfl
theorem zNH:(Tryz.prog.info? 105).bind (·.zero) = some (.agg #[.slice none 0 0, .slice none 0 0]):=by kernel_rfl
theorem zIw:tyIs Tryz.prog 101 true 6 = true:=by kernel_rfl
theorem zRh:zh8 Tryz.prog 162 1 [.nilFunc, .nilFunc]:=⟨_, _, Tryz.t161, Tryz.underlying162, by kernel_rfl, by kernel_rfl, by kernel_rfl⟩
theorem zNK:zgU Tryz.prog 162 2 1 = true:=by kernel_rfl
theorem zvk:tyIs Tryz.prog 161 false 1 = true:=by kernel_rfl
theorem zJf:zgU Tryz.prog 105 2 1 = true:=by kernel_rfl
theorem zHR:tyIs Tryz.prog 27 false 1 = true:=by kernel_rfl
theorem zPI:elemIs Tryz.prog 27 3 1 8:=⟨Tryz.underlying27, Tryz.t3, _, by kernel_rfl, rfl, rfl, rfl, rfl, by decide⟩
theorem zMy:tyIs Tryz.prog 105 true 2 = true:=by kernel_rfl
theorem zM2:(Tryz.prog.info? 101).bind (·.zero) = some (.agg #[.int .i64 0, .int .i64 0, .int .i64 0, .slice none 0 0, .int .i64 0, .int .i64 0]):=by kernel_rfl
theorem zRm:xn Tryz.prog 99 [(0, 1), (1, 1)] [.int .i64 0, .int .i64 0]:=⟨_, Tryz.underlying99, by kernel_rfl, by kernel_rfl⟩
theorem zQX:xn Tryz.prog 101 [(0, 4), (4, 2)] [.int .i64 0, .int .i64 0, .int .i64 0, .slice none 0 0, .int .i64 0, .int .i64 0]:=⟨_, Tryz.underlying101, by kernel_rfl, by kernel_rfl⟩
theorem zNn:(Tryz.prog.info? 29).bind (·.zero) = some (.agg #[.int .i64 0, .slice none 0 0]):=by kernel_rfl
theorem zQH:xn Tryz.prog 29 [(0, 1), (1, 1)] [.int .i64 0, .slice none 0 0]:=⟨_, Tryz.underlying29, by kernel_rfl, by kernel_rfl⟩
theorem zHQ:tyIs Tryz.prog 29 true 2 = true:=by kernel_rfl
theorem zHx:fldIs Tryz.prog 29 1 1 = true:=by kernel_rfl
theorem zRn:Tryz.prog.info? 76 = some Tryz.t76:=by kernel_rfl
theorem zRq:elemIs Tryz.prog 79 76 2 16:=⟨Tryz.underlying79, Tryz.t76, _, by kernel_rfl, rfl, rfl, rfl, rfl, by decide⟩
theorem zPO:zau Tryz.prog 79 2 = true:=by kernel_rfl
theorem zHB:fldIs Tryz.prog 29 0 0 = true:=by kernel_rfl
theorem zJ3:fldIs Tryz.prog 99 1 1 = true:=by kernel_rfl
theorem ty4:tyIs Tryz.prog 4 false 1 = true:=by kernel_rfl
theorem zv4:(Tryz.prog.info? 4).bind (·.zero) = some (.bool false):=by kernel_rfl
end Go.Av
end
section
namespace Go.Av
open Go.Proofs
set_option maxRecDepth 100000
set_option maxHeartbeats 1000000
variable {G:Glob}
structure Stn where
 pt:Int
 lo:Int
 hi:Int
structure Mp where
 wide:Int
 rows:Int
 slope:Int
 st:List Stn
structure Fld where
 wide:Int
 vals:List Int
def ei (n:Int):AV:=.v (.int .i64 n)
def zIW (s:Stn):List AV:=[.v (.int .i64 s.pt), .v (.int .i64 s.lo), .v (.int .i64 s.hi)]
def eMp (m:Mp):List AV:=[.v (.int .i64 m.wide), .v (.int .i64 m.rows), .v (.int .i64 m.slope), .sl (m.st.map zIW)]
def zO (l:List Int):AV:=.sl (l.map fun n=>[.v (.int .i64 n)])
def zHF (f:Fld):List AV:=[.v (.int .i64 f.wide), zO f.vals]
def inB (x lo hi:Int):Bool:=decide (lo <= x) && decide (x <= hi)
def zSx (a b:Int):Int:=max (a - b) (b - a)
def dist (w a b:Int):Int:=zSx (a / w) (b / w) + zSx (a % w) (b % w)
theorem zdh {x lo hi:Int}:inB x lo hi = true ↔ lo <= x /\ x <= hi:=by simp [inB]
theorem dm {a w N:Int} (hw:1 <= w) (ha:0 <= a /\ a <= N):0 <= a / w /\ a / w <= N /\ 0 <= a % w /\ a % w < w:=
 ⟨Int.ediv_nonneg ha.1 (by omega), Int.le_trans (Int.ediv_le_self _ ha.1) ha.2, Int.emod_nonneg _ (by omega), Int.emod_lt_of_pos _ (by omega)⟩
theorem zI3 {a b N:Int} (ha:0 <= a /\ a <= N) (hb:0 <= b /\ b <= N):0 <= zSx a b /\ zSx a b <= N:=by unfold zSx; omega
theorem zJZ {w a b N:Int} (hw:1 <= w) (ha:0 <= a /\ a <= N) (hb:0 <= b /\ b <= N):0 <= dist w a b /\ dist w a b <= N + w:=by
 have h1:=dm hw ha
 have h2:=dm hw hb
 have h3:=zI3 (N:=N) ⟨h1.1, h1.2.1⟩ ⟨h2.1, h2.2.1⟩
 have h4:=zI3 (N:=w) ⟨h1.2.2.1, by omega⟩ ⟨h2.2.2.1, by omega⟩
 unfold dist; omega
theorem zIR {l:List Stn} {k:Nat} (h:k < l.length):(l.map zIW)[k]? = some (zIW l[k]):=by simp [h]
theorem zIs {l:List Stn}:∀ q ∈ l.map zIW, q.length = 3:=by simp [zIW]
theorem wu {l:List Int} {k:Nat} (h:k < l.length):(l.map fun n=>[AV.v (.int .i64 n)])[k]? = some [.v (.int .i64 l[k])]:=by simp [h]
theorem jC {l:List Int}:∀ q ∈ l.map (fun n=>[AV.v (.int .i64 n)]), q.length = 1:=by simp
theorem f78 (x lo hi:Int):ACall Tryz.prog G 78 [.v (.int .i64 x), .v (.int .i64 lo), .v (.int .i64 hi)] (.v (.bool (inB x lo hi))):=by
 refine zS Tryz.func78 rfl (by kernel_rfl) rfl ?_
 refine zuy (zh (zg rfl rfl (zn rfl rfl) (zo (zf (zuy (zh (zg rfl rfl (zi rfl rfl) (zg rfl rfl (zi rfl rfl) (zg rfl rfl (zbe rfl rfl rfl) (zg rfl rfl (zi rfl rfl) (zk rfl rfl rfl (fun hg=>zi rfl rfl) ?_)))))))))))
 refine zk rfl rfl rfl (fun hg=>zi rfl rfl) (zk rfl rfl rfl (fun hg=>zaq rfl (if_pos hg) (if_pos hg)) (zg rfl rfl (qI rfl rfl rfl rfl) (zg rfl rfl (zn rfl rfl) (zo (zf (zP ?_))))))
 exact ⟨.inr rfl, AVle.refl _⟩
theorem f68 (x lo hi:Int):ACall Tryz.prog G 68 [.v (.int .i64 x), .v (.int .i64 lo), .v (.int .i64 hi)] (.v (.bool (inB x lo hi))):=by
 refine zS Tryz.func68 rfl (by kernel_rfl) rfl ?_
 refine zuy (zh (zg rfl rfl (zn rfl rfl) (zo (zf (zuy (zh (zg rfl rfl (zi rfl rfl) (zg rfl rfl (zi rfl rfl) (zg rfl rfl (zbe rfl rfl rfl) (zg rfl rfl (zi rfl rfl) (zk rfl rfl rfl (fun hg=>zi rfl rfl) ?_)))))))))))
 refine zk rfl rfl rfl (fun hg=>zi rfl rfl) (zk rfl rfl rfl (fun hg=>zaq rfl (if_pos hg) (if_pos hg)) (zg rfl rfl (qI rfl rfl rfl rfl) (zg rfl rfl (zn rfl rfl) (zo (zf (zP ?_))))))
 exact ⟨.inr rfl, AVle.refl _⟩
theorem f95 (a b:Int) (ha:-1000000000000 <= a /\ a <= 1000000000000) (hb:-1000000000000 <= b /\ b <= 1000000000000):ACall Tryz.prog G 95 [.v (.int .i64 a), .v (.int .i64 b)] (.v (.int .i64 (zSx a b))):=by
 refine zS Tryz.func95 rfl (by kernel_rfl) rfl ?_
 refine zuy (zh (zg rfl rfl (zn rfl rfl) (zo (zf (zuy (zh (zg rfl rfl (zi rfl rfl) (zg rfl rfl (zi rfl rfl) (zg rfl rfl (ze5 rfl rfl rfl ⟨(by omega), (by omega)⟩) (zg rfl rfl (zi rfl rfl) (zg rfl rfl (zi rfl rfl) ?_)))))))))))
 refine zg rfl rfl (ze5 rfl rfl rfl ⟨(by omega), (by omega)⟩) (zg rfl rfl (zq3 rfl rfl rfl) (zg rfl rfl (zn rfl rfl) (zo (zf (zP ?_)))))
 exact ⟨.inr rfl, AVle.refl _⟩
theorem f55 (w a b:Int) (hw:1 <= w /\ w <= 1000) (ha:0 <= a /\ a <= 100000) (hb:0 <= b /\ b <= 100000):ACall Tryz.prog G 55 [.v (.int .i64 w), .v (.int .i64 a), .v (.int .i64 b)] (.v (.int .i64 (dist w a b))):=by
 have h1:=dm hw.1 ha
 have h2:=dm hw.1 hb
 have h3:=zI3 (N:=100000) ⟨h1.1, h1.2.1⟩ ⟨h2.1, h2.2.1⟩
 have h4:=zI3 (N:=w) ⟨h1.2.2.1, by omega⟩ ⟨h2.2.2.1, by omega⟩
 refine zS Tryz.func55 rfl (by kernel_rfl) rfl ?_
 refine zuy (zh (zg rfl rfl (zn rfl rfl) (zo (zf (zuy ?_)))))
 refine qY mixed (by kernel_rfl) rfl ?_
 refine zH rfl (zi rfl rfl) (zH rfl (zi rfl rfl) (zH rfl (zcj rfl rfl rfl ⟨(by omega), (by omega), (by omega)⟩) (zH rfl (zi rfl rfl) (zH rfl (zi rfl rfl) (zH rfl (zcj rfl rfl rfl ⟨(by omega), (by omega), (by omega)⟩) (zH rfl (zy (av:=[_, _]) rfl ⟨rfl, rfl, trivial⟩ (f95 _ _ (by omega) (by omega))) (zH rfl (zi rfl rfl) (zH rfl (zi rfl rfl) (zH rfl (yA rfl rfl rfl ⟨(by omega), (by omega)⟩) (zH rfl (zi rfl rfl) (zH rfl (zi rfl rfl) ?_)))))))))))
 refine zH rfl (yA rfl rfl rfl ⟨(by omega), (by omega)⟩) (zH rfl (zy (av:=[_, _]) rfl ⟨rfl, rfl, trivial⟩ (f95 _ _ (by omega) (by omega))) (zH rfl (zV rfl rfl rfl ⟨(by omega), (by omega)⟩) (zH rfl (zn rfl rfl) (jw (zf (zP ?_))))))
 exact ⟨.inr rfl, AVle.refl _⟩
theorem f35 (w a b:Int) (hw:1 <= w /\ w <= 1000) (ha:0 <= a /\ a <= 100000) (hb:0 <= b /\ b <= 100000):ACall Tryz.prog G 35 [.v (.int .i64 w), .v (.int .i64 a), .v (.int .i64 b)] (.v (.bool (dist w a b == 1))):=by
 refine zS Tryz.func35 rfl (by kernel_rfl) rfl ?_
 refine zuy (zh (zg rfl rfl (zn rfl rfl) (zo (zf (zuy (zh (zg rfl rfl (zi rfl rfl) (zg rfl rfl (zi rfl rfl) (zg rfl rfl (zi rfl rfl) (zg rfl rfl (zy (av:=[_, _, _]) rfl ⟨rfl, rfl, rfl, trivial⟩ (f55 _ _ _ hw ha hb)) (zg rfl rfl (qJ rfl rfl rfl) ?_)))))))))))
 refine zg rfl rfl (zn rfl rfl) (zo (zf (zP ?_)))
 exact ⟨.inr rfl, AVle.refl _⟩
theorem f29 (x:Int):ACall Tryz.prog G 29 [.v (.int .i64 x)] (.v (.bool (inB x 1 99999))):=by
 refine zS Tryz.func29 rfl (by kernel_rfl) rfl ?_
 refine zuy (zh (zg rfl rfl (zn rfl rfl) (zo (zf (zuy (zh (zg rfl rfl (zi rfl rfl) (zg rfl rfl (zy (av:=[_, _, _]) rfl ⟨rfl, rfl, rfl, trivial⟩ (f78 _ _ _)) (zg rfl rfl (zn rfl rfl) (zo (zf ?_)))))))))))
 refine zP ?_
 exact ⟨.inr rfl, AVle.refl _⟩
theorem f79 (x:Int):ACall Tryz.prog G 79 [.v (.int .i64 x)] (.v (.bool (inB x 0 99999))):=by
 refine zS Tryz.func79 rfl (by kernel_rfl) rfl ?_
 refine zuy (zh (zg rfl rfl (zn rfl rfl) (zo (zf (zuy (zh (zg rfl rfl (zi rfl rfl) (zg rfl rfl (zy (av:=[_, _, _]) rfl ⟨rfl, rfl, rfl, trivial⟩ (f78 _ _ _)) (zg rfl rfl (zn rfl rfl) (zo (zf ?_)))))))))))
 refine zP ?_
 exact ⟨.inr rfl, AVle.refl _⟩
theorem f91 (x y:Int):ACall Tryz.prog G 91 [.v (.int .i64 x), .v (.int .i64 y)] (.v (.bool (inB x 1 6 && inB y 1 5))):=by
 refine zS Tryz.func91 rfl (by kernel_rfl) rfl ?_
 refine zuy (zh (zg rfl rfl (zn rfl rfl) (zo (zf (zuy (zh (zg rfl rfl (zi rfl rfl) (zg rfl rfl (zy (av:=[_, _, _]) rfl ⟨rfl, rfl, rfl, trivial⟩ (f78 _ _ _)) (zg rfl rfl (zi rfl rfl) (zk rfl rfl rfl (fun hg=>zi rfl rfl) (zk rfl rfl rfl (fun hg=>zy (av:=[_, _, _]) rfl ⟨((if_pos hg)), rfl, rfl, trivial⟩ (f78 _ _ _)) ?_)))))))))))
 refine zg rfl rfl (qI rfl rfl rfl rfl) (zg rfl rfl (zn rfl rfl) (zo (zf (zP ?_))))
 exact ⟨.inr rfl, AVle.refl _⟩
theorem f41 (m:Mp) (x:Int) (h1:1 <= m.wide /\ m.wide <= 6) (h2:1 <= m.rows /\ m.rows <= 5):ACall Tryz.prog G 41 [.agg (eMp m), .v (.int .i64 x)] (.v (.bool (inB x 0 (m.wide * m.rows - 1)))):=by
 have h3:1 * 1 <= m.wide * m.rows:=Int.mul_le_mul h1.1 h2.1 (by omega) (by omega)
 have h4:m.wide * m.rows <= 6 * 5:=Int.mul_le_mul h1.2 h2.2 (by omega) (by omega)
 refine zS Tryz.func41 rfl (by kernel_rfl) rfl ?_
 refine zuy (zh (zg rfl rfl (jf rfl (zY rfl)) (zg rfl rfl (zn rfl rfl) (zo (zf (zuy (zh (zg rfl rfl (zi rfl rfl) (zg rfl rfl (zu rfl rfl zH6) (zg rfl rfl (zA rfl rfl rfl ty3) (zg rfl rfl (zu rfl rfl zI9) ?_)))))))))))
 refine zg rfl rfl (zA rfl rfl rfl ty3) (zg rfl rfl (zcY rfl rfl rfl ⟨(by omega), (by omega)⟩) (zg rfl rfl (ze5 rfl rfl rfl ⟨(by omega), (by omega)⟩) (zg rfl rfl (zy (av:=[_, _, _]) rfl ⟨rfl, rfl, rfl, trivial⟩ (f78 _ _ _)) (zg rfl rfl (zn rfl rfl) (zo (zf (zP ?_)))))))
 exact ⟨.inr rfl, AVle.refl _⟩
def zO7 (m:Mp) (s:Stn):Bool:=inB s.pt 0 (m.wide * m.rows - 1) && inB s.lo 0 99999 && inB s.hi 0 99999 && decide (s.lo <= s.hi)
def zKD (m:Mp):Bool:=inB m.wide 1 6 && inB m.rows 1 5 && inB m.slope 0 5000 && decide (m.st.length <= 12)
def zNr (m:Mp):Bool:=zKD m && m.st.all (zO7 m)
theorem xQ {α:Type} {p:α -> Bool} {l:List α} {k:Nat} (h:(l.take k).all p = true) (hk:k < l.length) (hp:p l[k] = true):(l.take (k + 1)).all p = true:=by
 rw [List.take_succ_eq_append_getElem hk, List.all_append, h]; simp [hp]
theorem zaW {α:Type} {p:α -> Bool} {l:List α} {k:Nat} (hk:k < l.length) (hp:p l[k] = false):l.all p = false:=by
 rw [List.all_eq_false]; exact ⟨l[k], List.getElem_mem hk, by simp [hp]⟩
theorem f40 (m:Mp):ACall Tryz.prog G 40 [.agg (eMp m)] (.v (.bool (zNr m))):=by
 refine zS Tryz.func40 rfl (by kernel_rfl) rfl ?_
 refine zuy (zh (zg rfl rfl (jf rfl (zY rfl)) (zg rfl rfl (zn rfl rfl) (zo (zf (zuy (zuy (zh (zg rfl rfl (zu rfl rfl zH6) (zg rfl rfl (zA rfl rfl rfl ty3) (zg rfl rfl (zu rfl rfl zI9) ?_)))))))))))
 refine zg rfl rfl (zA rfl rfl rfl ty3) (zg rfl rfl (zy (av:=[_, _]) rfl ⟨rfl, rfl, trivial⟩ (f91 _ _)) (zg rfl rfl (je rfl rfl) (zg rfl rfl (zi rfl rfl) (zk rfl rfl rfl (fun hg=>zu rfl rfl zI7) (zk rfl rfl rfl (fun hg=>zA rfl (if_pos hg) rfl ty3) (zk rfl rfl rfl (fun hg=>zy (av:=[_, _, _]) rfl ⟨((if_pos hg)), rfl, rfl, trivial⟩ (f78 _ _ _)) (zk rfl rfl rfl (fun hg=>je rfl (if_pos hg)) (zg rfl rfl (qU rfl rfl rfl rfl) (zg rfl rfl (zi rfl rfl) (zk rfl rfl rfl (fun hg=>zu rfl rfl zHN) (zk rfl rfl rfl (fun hg=>zA rfl (if_pos hg) rfl zah) ?_)))))))))))
 refine zk rfl rfl rfl (fun hg=>qh rfl rfl (if_pos hg) Tryz.underlying22) (zk rfl rfl rfl (fun hg=>qR rfl (if_pos hg) rfl) (zg rfl rfl (qU rfl rfl rfl rfl) (zo (zf (zx rfl (fun h0=>?_) (fun h0=>?_))))))
 ·
  have hf:zKD m = false:=by cases hc:zKD m <;> simp_all [zKD, inB] <;> omega
  refine zuy (zh (zg rfl rfl (zn rfl rfl) (zo (zf (zP (zQ ?_))))))
  exact ⟨.inr rfl, AVle.of (by simp [zNr, hf])⟩
 ·
  have hh:zKD m = true:=by simp [zKD, inB] at h0 ⊢; omega
  have hw:1 <= m.wide /\ m.wide <= 6:=by simp_all [zKD, inB]
  have hr:1 <= m.rows /\ m.rows <= 5:=by simp_all [zKD, inB]
  refine zC (zf (zuy (zuy (zh (zg rfl rfl (zn rfl rfl) (zo (zf (zB ?_))))))))
  refine qy (ι:={ k:Nat // k <= m.st.length /\ (m.st.take k).all (zO7 m) = true }) (fun k=>⟨Tryz.f40.ntmps, frL [(1, .pub (.ptr (eMp m))), (3, I (k.1:Int))], []⟩) (fun k=>m.st.length - k.1) (⟨0, by simp⟩) ?_ ?_
  ·
   exact zt _ ⟨rfl, rfl, trivial⟩ (rfl)
  ·
   rintro ⟨k, hk⟩
   dsimp only
   refine zuy (zuy (zh (zg rfl rfl (zi rfl rfl) (zg rfl rfl (zu rfl rfl zHN) (zg rfl rfl (zA rfl rfl rfl zah) (zg rfl rfl (qh rfl rfl rfl Tryz.underlying22) (zg rfl rfl (zUB rfl rfl rfl) (zo (zf (zx rfl (fun h1=>?_) (fun h1=>?_)))))))))))
   ·
    have hlt:k < m.st.length:=by simpa using h1
    have hl:m.st.length <= 12:=by simp [zKD] at hh; omega
    refine zC (zf (zuy (zB (zuy (zh (zg rfl rfl (zu rfl rfl zHN) (zg rfl rfl (zA rfl rfl rfl zah) (zg rfl rfl (zi rfl rfl) (zg rfl rfl (zVZ rfl rfl rfl zjm (by omega) (zIR hlt) zIs) (zg rfl rfl (zZ rfl rfl zIf (by exact zLb rfl)) ?_))))))))))
    refine vI  rfl rfl rfl rfl rfl rfl rfl zKF zIf rfl (by rfl) (zY rfl) rfl ?_
    refine zo (zf (zuy (zh (zg rfl rfl (zZ rfl rfl zMg (by exact zLb rfl)) (zg rfl rfl (zu rfl rfl zIq) (zg rfl rfl (zA rfl rfl rfl ty3) (zg rfl rfl (zy (av:=[_, _]) rfl ⟨rfl, rfl, trivial⟩ (f41 m _ hw hr)) (zg rfl rfl (je rfl rfl) (zg rfl rfl (zi rfl rfl) (zk rfl rfl rfl (fun hg=>zu rfl rfl zHJ) (zk rfl rfl rfl (fun hg=>zu rfl (if_pos hg) zHY) ?_)))))))))))
    refine zk rfl rfl rfl (fun hg=>zA rfl (if_pos hg) rfl ty3) (zk rfl rfl rfl (fun hg=>zy (av:=[_]) rfl ⟨((if_pos hg)), trivial⟩ (f79 _)) (zk rfl rfl rfl (fun hg=>je rfl (if_pos hg)) (zg rfl rfl (qU rfl rfl rfl rfl) (zg rfl rfl (zi rfl rfl) (zk rfl rfl rfl (fun hg=>zu rfl rfl zHJ) (zk rfl rfl rfl (fun hg=>zu rfl (if_pos hg) zHX) (zk rfl rfl rfl (fun hg=>zA rfl (if_pos hg) rfl ty3) (zk rfl rfl rfl (fun hg=>zy (av:=[_]) rfl ⟨((if_pos hg)), trivial⟩ (f79 _)) (zk rfl rfl rfl (fun hg=>je rfl (if_pos hg)) (zg rfl rfl (qU rfl rfl rfl rfl) (zg rfl rfl (zi rfl rfl) ?_)))))))))))
    refine zk rfl rfl rfl (fun hg=>zu rfl rfl zHJ) (zk rfl rfl rfl (fun hg=>zu rfl (if_pos hg) zHY) (zk rfl rfl rfl (fun hg=>zA rfl (if_pos hg) rfl ty3) (zk rfl rfl rfl (fun hg=>zu rfl rfl zHJ) (zk rfl rfl rfl (fun hg=>zu rfl (if_pos hg) zHX) (zk rfl rfl rfl (fun hg=>zA rfl (if_pos hg) rfl ty3) (zk rfl rfl rfl (fun hg=>qR rfl (if_pos hg) (if_pos hg)) (zg rfl rfl (qU rfl rfl rfl rfl) (zo (zf (zx rfl (fun h2=>?_) (fun h2=>?_)))))))))))
    ·
     have hs:zO7 m m.st[k] = false:=by
      rw [Bool.eq_false_iff]; intro hc; simp [zO7, inB] at hc h2; omega
     refine zuy (zh (zg rfl rfl (zn rfl rfl) (zo (zf (zP (qF (zQ (zQ (qF (zQ ?_))))))))))
     exact ⟨.inr rfl, AVle.of (by simp [zNr, zaW hlt hs])⟩
    ·
     have hs:zO7 m m.st[k] = true:=by simp [zO7, inB] at h2 ⊢; omega
     refine zC (zD (zf (zh (zg rfl rfl (zi rfl rfl) (zg rfl rfl (zV rfl rfl rfl ⟨(by omega), (by omega)⟩) (zg rfl rfl (zn rfl rfl) (zo ?_)))))))
     exact ⟨⟨k + 1, by omega, xQ hk.2 hlt hs⟩, by dsimp only; omega, zt _ ⟨rfl, rfl, trivial⟩ (rfl)⟩
   ·
    have hge:m.st.length <= k:=by simpa using h1
    refine qp (zRQ (zRQ (qw (zf (zuy (zh (zg rfl rfl (zn rfl rfl) (zo (zf (zP ?_))))))))))
    exact ⟨.inr rfl, AVle.of (by rw [List.take_of_length_le hge] at hk; simp [zNr, hh, hk.2])⟩
def zIE (w slope:Int) (p:Int) (l:List Stn):Int:=l.foldl (fun a s=>max a (s.lo - slope * dist w p s.pt)) 0
def zIJ (w slope:Int) (p:Int) (l:List Stn):Int:=l.foldl (fun a s=>min a (s.hi + slope * dist w p s.pt)) 99999
def okM (m:Mp):Prop:=1 <= m.wide /\ m.wide <= 6 /\ 1 <= m.rows /\ m.rows <= 5 /\ 0 <= m.slope /\ m.slope <= 5000 /\ m.st.length <= 12 /\ ∀ s ∈ m.st, 0 <= s.pt /\ s.pt <= m.wide * m.rows - 1 /\ 0 <= s.lo /\ s.lo <= s.hi /\ s.hi <= 99999
theorem zMw (m:Mp):zNr m = true ↔ okM m:=by
 unfold zNr zKD okM zO7 inB
 simp only[zLa, decide_eq_true_eq, List.all_eq_true]
 constructor
 ·
  rintro ⟨⟨⟨⟨h1, h2⟩, h3⟩, h4⟩, h5⟩
  refine ⟨h1.1, h1.2, h2.1, h2.2, h3.1, h3.2, h4, fun s hs=>?_⟩
  have:=h5 s hs
  omega
 ·
  rintro ⟨h1, h2, h3, h4, h5, h6, h7, h8⟩
  refine ⟨⟨⟨⟨⟨h1, h2⟩, h3, h4⟩, h5, h6⟩, h7⟩, fun s hs=>?_⟩
  have:=h8 s hs
  omega
theorem area {a b:Int} (h1:1 <= a) (h2:a <= 6) (h3:1 <= b) (h4:b <= 5):1 <= a * b /\ a * b <= 30:=
 ⟨by have:=Int.mul_le_mul h1 h3 (by omega) (by omega); omega, by have:=Int.mul_le_mul h2 h4 (by omega) (by omega); omega⟩
theorem zMP {s d:Int} (h1:0 <= s) (h2:s <= 5000) (h3:0 <= d) (h4:d <= 100):0 <= s * d /\ s * d <= 500000:=
 ⟨Int.mul_nonneg h1 h3, by have:=Int.mul_le_mul h2 h4 h3 (by omega); omega⟩
theorem zKP {w sl p:Int} {l:List Stn} {k:Nat} (h:k < l.length):zIE w sl p (l.take (k + 1)) = max (zIE w sl p (l.take k)) (l[k].lo - sl * dist w p l[k].pt):=by
 unfold zIE; rw [List.take_succ_eq_append_getElem h, List.foldl_append]; rfl
theorem zKN {w sl p:Int} {l:List Stn} {k:Nat} (h:k < l.length):zIJ w sl p (l.take (k + 1)) = min (zIJ w sl p (l.take k)) (l[k].hi + sl * dist w p l[k].pt):=by
 unfold zIJ; rw [List.take_succ_eq_append_getElem h, List.foldl_append]; rfl
theorem zJK {α β:Type} (f:β -> α -> β) (I:β -> Prop):∀ (l:List α) (b:β), I b -> (∀ b a, a ∈ l -> I b -> I (f b a)) -> I (l.foldl f b)
 | [], b, h, _=>h
 | a :: l, b, h, hs=>zJK f I l _ (hs b a (by simp) h) (fun b x hx hb=>hs b x (by simp [hx]) hb)
theorem f92 (m:Mp) (p:Int) (hm:okM m) (hp:0 <= p /\ p <= 30):ACall Tryz.prog G 92 [.agg (eMp m), .v (.int .i64 p)] (.agg [.v (.int .i64 (zIE m.wide m.slope p m.st)), .v (.int .i64 (zIJ m.wide m.slope p m.st))]):=by
 refine zS Tryz.func92 rfl (by kernel_rfl) rfl ?_
 refine zuy (zh (zg rfl rfl (jf rfl (zY rfl)) (jb rfl (wJ rfl rfl zQT rfl rfl) (zo (zf (zuy (zh ?_)))))))
 refine zg rfl rfl (zb3 (cs:=[_, _]) rfl zRt rfl ⟨_, _, rfl, (jF rfl), ⟨_, _, rfl, (jF rfl), rfl⟩⟩ (by rfl) (by simp [ofV])) ?_
 refine jb rfl (wJ rfl rfl zQT rfl rfl) ?_
 refine jb rfl (qG rfl rfl rfl rfl rfl rfl (zY rfl) zPK (by rfl) (by exact zLb rfl)) ?_
 refine zo (zf (zuy (zuy (zh (zg rfl rfl (zn rfl rfl) (zo (zf (zB ?_))))))))
 refine qy (ι:={ k:Nat // k <= m.st.length }) (fun k=>⟨Tryz.f92.ntmps, frL [(1, I p), (2, .pub (.ptr (eMp m))), (4, .pp 0 1 0 0), (5, .pp 1 1 0 0), (6, I (k.1:Int))], [.row [[I 0, I 0]], .row [[I (zIE m.wide m.slope p (m.st.take k.1)), I (zIJ m.wide m.slope p (m.st.take k.1))]]]⟩) (fun k=>m.st.length - k.1) (⟨0, by simp⟩) ?_ ?_
 ·
  exact zt _ ⟨rfl, rfl, rfl, rfl, rfl, trivial⟩ (rfl)
 ·
  rintro ⟨k, hk⟩
  dsimp only
  refine zuy (zuy (zh (zg rfl rfl (zi rfl rfl) (zg rfl rfl (zu rfl rfl zHN) (zg rfl rfl (zA rfl rfl rfl zah) (zg rfl rfl (qh rfl rfl rfl Tryz.underlying22) (zg rfl rfl (zUB rfl rfl rfl) (zo (zf (zx rfl (fun h0=>?_) (fun h0=>?_)))))))))))
  ·
   have hlt:k < m.st.length:=by simpa using h0
   obtain ⟨m1, m2, m3, m4, m5, m6, m7, m8⟩:=hm
   have hs:=m8 _ (List.getElem_mem hlt)
   have har:=area m1 m2 m3 m4
   have hd:=zJZ (N:=30) (w:=m.wide) (a:=p) (b:=m.st[k].pt) m1 (by omega) (by omega)
   have hsd:=zMP m5 m6 hd.1 (by omega:dist m.wide p m.st[k].pt <= 100)
   refine zC (zf (zuy (zB (zuy (zh (zg rfl rfl (zu rfl rfl zHN) (zg rfl rfl (zA rfl rfl rfl zah) (zg rfl rfl (zi rfl rfl) (zg rfl rfl (zVZ rfl rfl rfl zjm (by omega) (zIR hlt) zIs) (zg rfl rfl (zZ rfl rfl zIf (by exact zLb rfl)) ?_))))))))))
   refine vI  rfl rfl rfl rfl rfl rfl rfl zKF zIf rfl (by rfl) (zY rfl) rfl ?_
   refine zo (zf (zuy ?_))
   refine qY mixed (by kernel_rfl) rfl ?_
   refine zH rfl (zu rfl rfl zI7) (zH rfl (zA rfl rfl rfl ty3) (zH rfl (zu rfl rfl zH6) (zH rfl (zA rfl rfl rfl ty3) (zH rfl (zi rfl rfl) (zH rfl (zu rfl rfl zIq) (zH rfl (zA rfl rfl rfl ty3) (zH rfl (zy (av:=[_, _, _]) rfl ⟨rfl, rfl, rfl, trivial⟩ (f55 _ _ _ (by omega) (by omega) (by omega))) (zH rfl (zcY rfl rfl rfl ⟨(by omega), (by omega)⟩) (zH rfl (zn rfl rfl) (jw (zf ?_)))))))))))
   refine wR (fun m=>∃ rows, m[1]? = some (.row rows) /\ rows.length = 1) (fun k=>match k with | 10=>.stable | 11=>.stable | 12=>.stable | 13=>.stable | 14=>.stable | 15=>.stable | 17=>.writes | 18=>.stable | 19=>.writes | _=>.here) mixed (by kernel_rfl) rfl (by kernel_rfl) ⟨_, rfl, rfl⟩ ?_
   refine zX rfl rfl (qE rfl rfl rfl rfl zHY) (zX rfl rfl (zK rfl rfl rfl rfl rfl rfl ty3) (zX rfl rfl (zu rfl rfl zHJ) (zX rfl rfl (zu rfl rfl zHY) (zX rfl rfl (zA rfl rfl rfl ty3) (zX rfl rfl (zi rfl rfl) (zX rfl rfl (ze5 rfl rfl rfl ⟨(by omega), (by omega)⟩) (zX rfl rfl (zq3 rfl rfl rfl) (zX rfl rfl (qE rfl rfl rfl rfl zHX) (zX rfl rfl (zK rfl rfl rfl rfl rfl rfl ty3) (zuC rfl rfl (fun m hm=>zu rfl rfl zHJ) (zuC rfl rfl (fun m hm=>zu rfl rfl zHX) ?_)))))))))))
   refine zuC rfl rfl (fun m hm=>zA rfl rfl rfl ty3) (zuC rfl rfl (fun m hm=>zi rfl rfl) (zuC rfl rfl (fun m hm=>zV rfl rfl rfl ⟨(by omega), (by omega)⟩) (zuC rfl rfl (fun m hm=>zPN rfl rfl rfl) (zX rfl rfl (qE rfl rfl rfl rfl zHY) ?_))))
   refine zaw rfl rfl (jk rfl rfl rfl rfl rfl rfl (jF rfl) ty3 (by rfl) (by rfl)) ⟨_, rfl, rfl⟩ ?_
   refine zuC rfl rfl (fun m hm=>qE rfl rfl hm.choose_spec.1 hm.choose_spec.2 zHX) ?_
   refine zaw rfl rfl (jk rfl rfl rfl rfl rfl rfl (jF rfl) ty3 (by rfl) (by rfl)) ⟨_, rfl, rfl⟩ ?_
   refine wQ (zD (zf (zh (zg rfl rfl (zi rfl rfl) (zg rfl rfl (zV rfl rfl rfl ⟨(by omega), (by omega)⟩) (zg rfl rfl (zn rfl rfl) (zo ?_)))))))
   exact ⟨⟨k + 1, by omega⟩, by dsimp only; omega, zt _ ⟨rfl, rfl, rfl, rfl, rfl, trivial⟩ (congr (congrArg (fun a b=>[PO.row [[I 0, I 0]], PO.row [[I a, I b]]]) (zKP hlt).symm) (zKN hlt).symm)⟩
  ·
   have hge:m.st.length <= k:=by simpa using h0
   refine qp (zRQ (zRQ (qw (zf (zuy (zh (zg rfl rfl (qN (cs:=[_, _]) rfl rfl rfl rfl rfl (by exact zLb rfl) rfl zPK) ?_)))))))
   refine jb rfl (qG rfl rfl rfl rfl rfl rfl (zY rfl) zPK (by rfl) (by exact zLb rfl)) ?_
   refine zo (zf (zP ?_))
   exact ⟨.inr rfl, zhe rfl (jK rfl rfl rfl rfl zPK rfl ⟨_, _, rfl, AVle.of (by rw [List.take_of_length_le hge]), ⟨_, _, rfl, AVle.of (by rw [List.take_of_length_le hge]), rfl⟩⟩)⟩
end Go.Av
end
section
namespace Go.Av
open Go.Proofs
set_option maxRecDepth 100000
set_option maxHeartbeats 1000000
variable {G:Glob}
def maxL (l:List Int):Int:=l.foldl max (l.headD 0)
def minL (l:List Int):Int:=l.foldl min (l.headD 0)
def zId (w r:Int):List AV:=[.v (.int .i64 w), .v (.int .i64 r)]
def zHt (m:Mp):List AV:=eMp m ++ zId m.wide m.rows
theorem zSt {l:List Int} (h:0 < l.length):l.headD 0 = l[0]:=by
 cases l with
 | nil=>simp at h
 | cons x xs=>rfl
theorem zSp (a b:Int):maxL [a, b] = max a b:=by simp [maxL]
theorem zNU (a b:Int):minL [a, b] = min a b:=by simp [minL]
theorem zKJ {f:Int -> Int -> Int} {a:Int} {l:List Int} {k:Nat} (h:k < l.length):(l.take (k + 1)).foldl f a = f ((l.take k).foldl f a) l[k]:=by
 rw [List.take_succ_eq_append_getElem h, List.foldl_append]; rfl
theorem f136 (l:List Int) (h:0 < l.length) (hl:l.length <= 1000):ACall Tryz.prog G 136 [zO l] (.v (.int .i64 (maxL l))):=by
 have hh:=zSt h
 refine zS Tryz.func136 rfl (by kernel_rfl) rfl ?_
 refine zuy (zh (zg rfl rfl (zn rfl rfl) (zo (zf (zuy (zh (zg rfl rfl (zq rfl rfl) (zg rfl rfl (zVZ rfl rfl rfl zIz (by omega) (wu h) jC) (zg rfl rfl (zA rfl rfl rfl ty3) (zg rfl rfl (zn rfl rfl) (zo ?_)))))))))))
 refine zf (zuy (zuy (zh (zg rfl rfl (zq rfl rfl) (zg rfl rfl (qh rfl rfl rfl Tryz.underlying27) (zg rfl rfl (zi rfl rfl) (zo (zf (zB ?_)))))))))
 refine qy (ι:={ k:Nat // k <= l.length }) (fun k=>⟨Tryz.f136.ntmps, frL [(3, I ((l.take k.1).foldl max l[0])), (9, .pub (zO l)), (10, I (l.length:Int)), (11, I (k.1:Int))], []⟩) (fun k=>l.length - k.1) (⟨0, by simp⟩) ?_ ?_
 ·
  exact zt _ ⟨rfl, rfl, (congrArg (fun x:Nat=>I (x:Int)) (List.length_map _)), rfl, trivial⟩ (rfl)
 ·
  rintro ⟨k, hk⟩
  dsimp only
  refine zuy (zh (zg rfl rfl (zUB rfl rfl rfl) (zo (zf (zuy (zx rfl (fun h0=>?_) (fun h0=>?_)))))))
  ·
   have hlt:k < l.length:=by simpa using h0
   refine zC (zf (zuy (zB (zuy (zh (zg rfl rfl (zVZ rfl rfl rfl zIz (by omega) (wu hlt) jC) (zg rfl rfl (zA rfl rfl rfl ty3) (zg rfl rfl (zn rfl rfl) (zo (zf (zh ?_)))))))))))
   refine zg rfl rfl (zi rfl rfl) (zg rfl rfl (zi rfl rfl) (zg rfl rfl (zq3 rfl rfl rfl) (zg rfl rfl (zn rfl rfl) (zo (zD (zf (zh (zg rfl rfl (zV rfl rfl rfl ⟨(by omega), (by omega)⟩) (zg rfl rfl (zi rfl rfl) (zo ?_))))))))))
   exact ⟨⟨k + 1, by omega⟩, by dsimp only; omega, zt _ ⟨(congrArg I (zKJ hlt).symm), rfl, rfl, rfl, trivial⟩ (rfl)⟩
  ·
   have hge:l.length <= k:=by simpa using h0
   refine qp (zRQ (zRQ (qw (zf (zuy (zh (zg rfl rfl (zi rfl rfl) (zg rfl rfl (zn rfl rfl) (zo (zf (zP ?_)))))))))))
   exact ⟨.inr rfl, AVle.of (by rw [List.take_of_length_le hge]; unfold maxL; rw [hh])⟩
theorem f135 (l:List Int) (h:0 < l.length) (hl:l.length <= 1000):ACall Tryz.prog G 135 [zO l] (.v (.int .i64 (minL l))):=by
 have hh:=zSt h
 refine zS Tryz.func135 rfl (by kernel_rfl) rfl ?_
 refine zuy (zh (zg rfl rfl (zn rfl rfl) (zo (zf (zuy (zh (zg rfl rfl (zq rfl rfl) (zg rfl rfl (zVZ rfl rfl rfl zIz (by omega) (wu h) jC) (zg rfl rfl (zA rfl rfl rfl ty3) (zg rfl rfl (zn rfl rfl) (zo ?_)))))))))))
 refine zf (zuy (zuy (zh (zg rfl rfl (zq rfl rfl) (zg rfl rfl (qh rfl rfl rfl Tryz.underlying27) (zg rfl rfl (zi rfl rfl) (zo (zf (zB ?_)))))))))
 refine qy (ι:={ k:Nat // k <= l.length }) (fun k=>⟨Tryz.f135.ntmps, frL [(3, I ((l.take k.1).foldl min l[0])), (9, .pub (zO l)), (10, I (l.length:Int)), (11, I (k.1:Int))], []⟩) (fun k=>l.length - k.1) (⟨0, by simp⟩) ?_ ?_
 ·
  exact zt _ ⟨rfl, rfl, (congrArg (fun x:Nat=>I (x:Int)) (List.length_map _)), rfl, trivial⟩ (rfl)
 ·
  rintro ⟨k, hk⟩
  dsimp only
  refine zuy (zh (zg rfl rfl (zUB rfl rfl rfl) (zo (zf (zuy (zx rfl (fun h0=>?_) (fun h0=>?_)))))))
  ·
   have hlt:k < l.length:=by simpa using h0
   refine zC (zf (zuy (zB (zuy (zh (zg rfl rfl (zVZ rfl rfl rfl zIz (by omega) (wu hlt) jC) (zg rfl rfl (zA rfl rfl rfl ty3) (zg rfl rfl (zn rfl rfl) (zo (zf (zh ?_)))))))))))
   refine zg rfl rfl (zi rfl rfl) (zg rfl rfl (zi rfl rfl) (zg rfl rfl (zPN rfl rfl rfl) (zg rfl rfl (zn rfl rfl) (zo (zD (zf (zh (zg rfl rfl (zV rfl rfl rfl ⟨(by omega), (by omega)⟩) (zg rfl rfl (zi rfl rfl) (zo ?_))))))))))
   exact ⟨⟨k + 1, by omega⟩, by dsimp only; omega, zt _ ⟨(congrArg I (zKJ hlt).symm), rfl, rfl, rfl, trivial⟩ (rfl)⟩
  ·
   have hge:l.length <= k:=by simpa using h0
   refine qp (zRQ (zRQ (qw (zf (zuy (zh (zg rfl rfl (zi rfl rfl) (zg rfl rfl (zn rfl rfl) (zo (zf (zP ?_)))))))))))
   exact ⟨.inr rfl, AVle.of (by rw [List.take_of_length_le hge]; unfold minL; rw [hh])⟩
theorem f105 (a b:Int) (ha:-1000000000000 <= a /\ a <= 1000000000000) (hb:-1000000000000 <= b /\ b <= 1000000000000):ACall Tryz.prog G 105 [.v (.int .i64 a), .v (.int .i64 b)] (.v (.int .i64 (zSx a b))):=by
 refine zS Tryz.func105 rfl (by kernel_rfl) rfl ?_
 refine zuy (zh (zg rfl rfl (zn rfl rfl) (zo (zf (zuy (zh (zg rfl rfl (zi rfl rfl) (zg rfl rfl (zi rfl rfl) (zg rfl rfl (ze5 rfl rfl rfl ⟨(by omega), (by omega)⟩) (zg rfl rfl (zi rfl rfl) (zg rfl rfl (zi rfl rfl) ?_)))))))))))
 refine zg rfl rfl (ze5 rfl rfl rfl ⟨(by omega), (by omega)⟩) ?_
 refine zg rfl rfl (qg (size:=1) (rows:=[[_], [_]]) rfl Tryz.underlying27 ti3 rfl (by decide) rfl (by decide) ⟨_, _, rfl, (jF rfl), ⟨_, _, rfl, (jF rfl), rfl⟩⟩ (by rfl) (by simp [ofV]) rfl (by simp)) ?_
 refine zg rfl rfl (zy (av:=[_]) rfl ⟨rfl, trivial⟩ (f136 [_, _] (by simp) (by simp))) ?_
 refine zg rfl rfl (zn rfl rfl) (zo (zf (zP ?_)))
 exact ⟨.inr rfl, AVle.of (by rw [zSp]; rfl)⟩
theorem f120 (w r p:Int) (hw:1 <= w) (hp:0 <= p /\ p <= 100000):ACall Tryz.prog G 120 [.agg (zId w r), .v (.int .i64 p)] (.v (.int .i64 (p / w))):=by
 refine zS Tryz.func120 rfl (by kernel_rfl) rfl ?_
 refine zuy (zh (zg rfl rfl (jf rfl (zY rfl)) (zg rfl rfl (zn rfl rfl) (zo (zf (zuy (zh (zg rfl rfl (zi rfl rfl) (zg rfl rfl (zu rfl rfl zIp) (zg rfl rfl (zA rfl rfl rfl ty3) (zg rfl rfl (zcj rfl rfl rfl ⟨(by omega), (by omega), (by omega)⟩) ?_)))))))))))
 refine zg rfl rfl (zn rfl rfl) (zo (zf (zP ?_)))
 exact ⟨.inr rfl, AVle.refl _⟩
theorem f121 (w r p:Int) (hw:1 <= w) (hp:0 <= p /\ p <= 100000):ACall Tryz.prog G 121 [.agg (zId w r), .v (.int .i64 p)] (.v (.int .i64 (p % w))):=by
 refine zS Tryz.func121 rfl (by kernel_rfl) rfl ?_
 refine zuy (zh (zg rfl rfl (jf rfl (zY rfl)) (zg rfl rfl (zn rfl rfl) (zo (zf (zuy (zh (zg rfl rfl (zi rfl rfl) (zg rfl rfl (zu rfl rfl zIp) (zg rfl rfl (zA rfl rfl rfl ty3) (zg rfl rfl (yA rfl rfl rfl ⟨(by omega), (by omega)⟩) ?_)))))))))))
 refine zg rfl rfl (zn rfl rfl) (zo (zf (zP ?_)))
 exact ⟨.inr rfl, AVle.refl _⟩
theorem f119 (w r a b:Int) (hw:1 <= w /\ w <= 1000) (ha:0 <= a /\ a <= 100000) (hb:0 <= b /\ b <= 100000):ACall Tryz.prog G 119 [.agg (zId w r), .v (.int .i64 a), .v (.int .i64 b)] (.v (.int .i64 (dist w a b))):=by
 have h1:=dm hw.1 ha
 have h2:=dm hw.1 hb
 have h3:=zI3 (N:=100000) ⟨h1.1, h1.2.1⟩ ⟨h2.1, h2.2.1⟩
 have h4:=zI3 (N:=w) ⟨h1.2.2.1, by omega⟩ ⟨h2.2.2.1, by omega⟩
 refine zS Tryz.func119 rfl (by kernel_rfl) rfl ?_
 refine zuy (zh (zg rfl rfl (jf rfl (zY rfl)) (zg rfl rfl (zn rfl rfl) (zo (zf (zuy ?_))))))
 refine qY mixed (by kernel_rfl) rfl ?_
 refine zH rfl (zZ rfl rfl zIO (by exact zLb rfl)) (zH rfl (zi rfl rfl) (zH rfl (zy (av:=[_, _]) rfl ⟨rfl, rfl, trivial⟩ (f120 w r _ (by omega) (by omega))) (zH rfl (zZ rfl rfl zIO (by exact zLb rfl)) (zH rfl (zi rfl rfl) (zH rfl (zy (av:=[_, _]) rfl ⟨rfl, rfl, trivial⟩ (f120 w r _ (by omega) (by omega))) (zH rfl (zy (av:=[_, _]) rfl ⟨rfl, rfl, trivial⟩ (f105 _ _ (by omega) (by omega))) (zH rfl (zZ rfl rfl zIO (by exact zLb rfl)) (zH rfl (zi rfl rfl) (zH rfl (zy (av:=[_, _]) rfl ⟨rfl, rfl, trivial⟩ (f121 w r _ (by omega) (by omega))) (zH rfl (zZ rfl rfl zIO (by exact zLb rfl)) (zH rfl (zi rfl rfl) ?_)))))))))))
 refine zH rfl (zy (av:=[_, _]) rfl ⟨rfl, rfl, trivial⟩ (f121 w r _ (by omega) (by omega))) (zH rfl (zy (av:=[_, _]) rfl ⟨rfl, rfl, trivial⟩ (f105 _ _ (by omega) (by omega))) (zH rfl (zV rfl rfl rfl ⟨(by omega), (by omega)⟩) (zH rfl (zn rfl rfl) (jw (zf (zP ?_))))))
 exact ⟨.inr rfl, AVle.refl _⟩
theorem zO4 {w sl p:Int} {l:List Stn} (h:∀ s ∈ l, s.lo <= 99999 /\ 0 <= sl * dist w p s.pt):0 <= zIE w sl p l /\ zIE w sl p l <= 99999:=
 zJK _ (fun a=>0 <= a /\ a <= 99999) l 0 (by omega) (fun b a ha hb=>by have:=h a ha; omega)
theorem zPy {w sl p:Int} {l:List Stn} (h:∀ s ∈ l, 0 <= s.hi /\ 0 <= sl * dist w p s.pt):0 <= zIJ w sl p l /\ zIJ w sl p l <= 99999:=
 zJK _ (fun a=>0 <= a /\ a <= 99999) l 99999 (by omega) (fun b a ha hb=>by have:=h a ha; omega)
theorem okM.sd {m:Mp} (hm:okM m) {p:Int} (hp:0 <= p /\ p <= 30):∀ s ∈ m.st, 0 <= dist m.wide p s.pt /\ dist m.wide p s.pt <= 36 /\ 0 <= m.slope * dist m.wide p s.pt /\ m.slope * dist m.wide p s.pt <= 500000:=fun s hs=>by
 obtain ⟨m1, m2, m3, m4, m5, m6, m7, m8⟩:=hm
 have h:=m8 s hs
 have har:=area m1 m2 m3 m4
 have hd:=zJZ (N:=30) (w:=m.wide) (a:=p) (b:=s.pt) m1 (by omega) (by omega)
 have hsd:=zMP m5 m6 hd.1 (by omega:dist m.wide p s.pt <= 100)
 omega
theorem okM.lo {m:Mp} (hm:okM m) {p:Int} (hp:0 <= p /\ p <= 30) (k:Nat):0 <= zIE m.wide m.slope p (m.st.take k) /\ zIE m.wide m.slope p (m.st.take k) <= 99999:=
 zO4 fun s hs=>by
  have h1:=hm.sd hp s (List.mem_of_mem_take hs)
  have h2:=hm.2.2.2.2.2.2.2 s (List.mem_of_mem_take hs)
  omega
theorem okM.hi {m:Mp} (hm:okM m) {p:Int} (hp:0 <= p /\ p <= 30) (k:Nat):0 <= zIJ m.wide m.slope p (m.st.take k) /\ zIJ m.wide m.slope p (m.st.take k) <= 99999:=
 zPy fun s hs=>by
  have h1:=hm.sd hp s (List.mem_of_mem_take hs)
  have h2:=hm.2.2.2.2.2.2.2 s (List.mem_of_mem_take hs)
  omega
theorem f114 (m:Mp) (p:Int) (hm:okM m) (hp:0 <= p /\ p <= 30):ACall Tryz.prog G 114 [.agg (zHt m), .v (.int .i64 p)] (.v (.int .i64 (zIE m.wide m.slope p m.st))):=by
 refine zS Tryz.func114 rfl (by kernel_rfl) rfl ?_
 refine zuy (zh (zg rfl rfl (jf rfl (zY rfl)) (zg rfl rfl (zn rfl rfl) (zo (zf (zuy (zh (zg rfl rfl (zn rfl rfl) (zo (zf (zuy ?_)))))))))))
 refine zuy (zh (zg rfl rfl (zu rfl rfl zHL) (zg rfl rfl (zu rfl rfl zHN) (zg rfl rfl (zA rfl rfl rfl zah) (zg rfl rfl (qh rfl rfl rfl Tryz.underlying22) (zg rfl rfl (zi rfl rfl) (zo (zf (zB ?_)))))))))
 refine qy (ι:={ k:Nat // k <= m.st.length }) (fun k=>⟨Tryz.f114.ntmps, frL [(1, I p), (2, .pub (.ptr (zHt m))), (5, I (zIE m.wide m.slope p (m.st.take k.1))), (10, .pub (.sl (m.st.map zIW))), (11, I (m.st.length:Int)), (12, I (k.1:Int))], []⟩) (fun k=>m.st.length - k.1) (⟨0, by simp⟩) ?_ ?_
 ·
  exact zt _ ⟨rfl, rfl, rfl, rfl, (congrArg (fun x:Nat=>I (x:Int)) (List.length_map _)), rfl, trivial⟩ (rfl)
 ·
  rintro ⟨k, hk⟩
  dsimp only
  refine zuy (zh (zg rfl rfl (zUB rfl rfl rfl) (zo (zf (zuy (zx rfl (fun h0=>?_) (fun h0=>?_)))))))
  ·
   have hlt:k < m.st.length:=by simpa using h0
   have hs:=hm.sd hp _ (List.getElem_mem hlt)
   have hb:=hm.lo hp k
   have ho:=hm
   obtain ⟨m1, m2, m3, m4, m5, m6, m7, m8⟩:=ho
   have ht:=m8 _ (List.getElem_mem hlt)
   have har:=area m1 m2 m3 m4
   refine zC (zf (zuy (zB (zuy (zh (zg rfl rfl (zVZ rfl rfl rfl zjm (by omega) (zIR hlt) zIs) (zg rfl rfl (zZ rfl rfl zIf (by exact zLb rfl)) ?_)))))))
   refine vI  rfl rfl rfl rfl rfl rfl rfl zKF zIf rfl (by rfl) (zY rfl) rfl ?_
   refine zo (zf ?_)
   refine qY mixed (by kernel_rfl) rfl ?_
   refine zH rfl (zi rfl rfl) (zH rfl (zu rfl rfl zHJ) (zH rfl (zu rfl rfl zHY) (zH rfl (zA rfl rfl rfl ty3) (zH rfl (zu rfl rfl zHL) (zH rfl (zu rfl rfl zI7) (zH rfl (zA rfl rfl rfl ty3) (zH rfl (zu rfl rfl zKl) (zH rfl (zZ rfl rfl zIO (by exact zLb rfl)) (zH rfl (zi rfl rfl) (zH rfl (zu rfl rfl zIq) (zH rfl (zA rfl rfl rfl ty3) ?_)))))))))))
   refine zH rfl (zy (av:=[_, _, _]) rfl ⟨rfl, rfl, rfl, trivial⟩ (f119 m.wide m.rows _ _ (by omega) (by omega) (by omega))) (zH rfl (zcY rfl rfl rfl ⟨(by omega), (by omega)⟩) (zH rfl (ze5 rfl rfl rfl ⟨(by omega), (by omega)⟩) ?_))
   refine zH rfl (qg (size:=1) (rows:=[[_], [_]]) rfl Tryz.underlying27 ti3 rfl (by decide) rfl (by decide) ⟨_, _, rfl, (jF rfl), ⟨_, _, rfl, (jF rfl), rfl⟩⟩ (by rfl) (by simp [ofV]) rfl (by simp)) ?_
   refine zH rfl (zy (av:=[_]) rfl ⟨rfl, trivial⟩ (f136 [_, _] (by simp) (by simp))) ?_
   refine zH rfl (zn rfl rfl) (jw (zD (zf (zh (zg rfl rfl (zV rfl rfl rfl ⟨(by omega), (by omega)⟩) (zg rfl rfl (zi rfl rfl) (zo ?_)))))))
   exact ⟨⟨k + 1, by omega⟩, by dsimp only; omega, zt _ ⟨rfl, rfl, (congrArg I ((zSp _ _).trans (zKP hlt).symm)), rfl, rfl, rfl, trivial⟩ (rfl)⟩
  ·
   have hge:m.st.length <= k:=by simpa using h0
   refine qp (zRQ (zRQ (qw (zf (zuy (zh (zg rfl rfl (zi rfl rfl) (zg rfl rfl (zn rfl rfl) (zo (zf (zP ?_)))))))))))
   exact ⟨.inr rfl, AVle.of (by rw [List.take_of_length_le hge])⟩
theorem f115 (m:Mp) (p:Int) (hm:okM m) (hp:0 <= p /\ p <= 30):ACall Tryz.prog G 115 [.agg (zHt m), .v (.int .i64 p)] (.v (.int .i64 (zIJ m.wide m.slope p m.st))):=by
 refine zS Tryz.func115 rfl (by kernel_rfl) rfl ?_
 refine zuy (zh (zg rfl rfl (jf rfl (zY rfl)) (zg rfl rfl (zn rfl rfl) (zo (zf (zuy (zh (zg rfl rfl (zn rfl rfl) (zo (zf (zuy ?_)))))))))))
 refine zuy (zh (zg rfl rfl (zu rfl rfl zHL) (zg rfl rfl (zu rfl rfl zHN) (zg rfl rfl (zA rfl rfl rfl zah) (zg rfl rfl (qh rfl rfl rfl Tryz.underlying22) (zg rfl rfl (zi rfl rfl) (zo (zf (zB ?_)))))))))
 refine qy (ι:={ k:Nat // k <= m.st.length }) (fun k=>⟨Tryz.f115.ntmps, frL [(1, I p), (2, .pub (.ptr (zHt m))), (5, I (zIJ m.wide m.slope p (m.st.take k.1))), (10, .pub (.sl (m.st.map zIW))), (11, I (m.st.length:Int)), (12, I (k.1:Int))], []⟩) (fun k=>m.st.length - k.1) (⟨0, by simp⟩) ?_ ?_
 ·
  exact zt _ ⟨rfl, rfl, rfl, rfl, (congrArg (fun x:Nat=>I (x:Int)) (List.length_map _)), rfl, trivial⟩ (rfl)
 ·
  rintro ⟨k, hk⟩
  dsimp only
  refine zuy (zh (zg rfl rfl (zUB rfl rfl rfl) (zo (zf (zuy (zx rfl (fun h0=>?_) (fun h0=>?_)))))))
  ·
   have hlt:k < m.st.length:=by simpa using h0
   have hs:=hm.sd hp _ (List.getElem_mem hlt)
   have hb:=hm.hi hp k
   have ho:=hm
   obtain ⟨m1, m2, m3, m4, m5, m6, m7, m8⟩:=ho
   have ht:=m8 _ (List.getElem_mem hlt)
   have har:=area m1 m2 m3 m4
   refine zC (zf (zuy (zB (zuy (zh (zg rfl rfl (zVZ rfl rfl rfl zjm (by omega) (zIR hlt) zIs) (zg rfl rfl (zZ rfl rfl zIf (by exact zLb rfl)) ?_)))))))
   refine vI  rfl rfl rfl rfl rfl rfl rfl zKF zIf rfl (by rfl) (zY rfl) rfl ?_
   refine zo (zf ?_)
   refine qY mixed (by kernel_rfl) rfl ?_
   refine zH rfl (zi rfl rfl) (zH rfl (zu rfl rfl zHJ) (zH rfl (zu rfl rfl zHX) (zH rfl (zA rfl rfl rfl ty3) (zH rfl (zu rfl rfl zHL) (zH rfl (zu rfl rfl zI7) (zH rfl (zA rfl rfl rfl ty3) (zH rfl (zu rfl rfl zKl) (zH rfl (zZ rfl rfl zIO (by exact zLb rfl)) (zH rfl (zi rfl rfl) (zH rfl (zu rfl rfl zIq) (zH rfl (zA rfl rfl rfl ty3) ?_)))))))))))
   refine zH rfl (zy (av:=[_, _, _]) rfl ⟨rfl, rfl, rfl, trivial⟩ (f119 m.wide m.rows _ _ (by omega) (by omega) (by omega))) (zH rfl (zcY rfl rfl rfl ⟨(by omega), (by omega)⟩) (zH rfl (zV rfl rfl rfl ⟨(by omega), (by omega)⟩) ?_))
   refine zH rfl (qg (size:=1) (rows:=[[_], [_]]) rfl Tryz.underlying27 ti3 rfl (by decide) rfl (by decide) ⟨_, _, rfl, (jF rfl), ⟨_, _, rfl, (jF rfl), rfl⟩⟩ (by rfl) (by simp [ofV]) rfl (by simp)) ?_
   refine zH rfl (zy (av:=[_]) rfl ⟨rfl, trivial⟩ (f135 [_, _] (by simp) (by simp))) ?_
   refine zH rfl (zn rfl rfl) (jw (zD (zf (zh (zg rfl rfl (zV rfl rfl rfl ⟨(by omega), (by omega)⟩) (zg rfl rfl (zi rfl rfl) (zo ?_)))))))
   exact ⟨⟨k + 1, by omega⟩, by dsimp only; omega, zt _ ⟨rfl, rfl, (congrArg I ((zNU _ _).trans (zKN hlt).symm)), rfl, rfl, rfl, trivial⟩ (rfl)⟩
  ·
   have hge:m.st.length <= k:=by simpa using h0
   refine qp (zRQ (zRQ (qw (zf (zuy (zh (zg rfl rfl (zi rfl rfl) (zg rfl rfl (zn rfl rfl) (zo (zf (zP ?_)))))))))))
   exact ⟨.inr rfl, AVle.of (by rw [List.take_of_length_le hge])⟩
end Go.Av
end
