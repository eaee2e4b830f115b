import Derived.Test.YtgmbdadkbominaaGreatDoorBuD
import Derived.Test.YtgmbdadkbominaaGreatDoorHsD
set_option linter.unusedVariables false
set_option linter.unusedSimpArgs false
section
namespace Go.Av
namespace Hs
open Go.Proofs
set_option maxRecDepth 100000
set_option maxHeartbeats 1000000
variable {G:Glob}
theorem zBX:vM Tryz.prog 153 [(0, 7)] [.int .i64 0, .int .i64 0, .int .i64 0, .int .i64 0, .int .i64 0, .int .i64 0, .int .i64 0]:=⟨_, Tryz.underlying153, by kernel_rfl, by kernel_rfl⟩
theorem zCe (s:Sut) (rs:List Rep) (nd:Nat) (ac:List (List EV)) (mp sh X Y:PO) (r:Rep) (hok:zDr (w1 s r) = false):zeq Tryz.prog G 10 [.pp 5 1 0 0, .pub (.agg (eRep r))] (bX s rs nd ac mp sh X Y) (.ret (I 2) (bX s rs nd ac mp sh X Y)):=by
 refine qj Tryz.func10 rfl (by kernel_rfl) rfl (fun gh hold hmk=>?_)
 refine zn (qL rfl (zru rfl rfl (zAd rfl rfl rfl)) (qL rfl (zru rfl rfl (zQ rfl)) (jy rfl rfl (zg rfl rfl) (zo (zt (zn (jy rfl rfl (zX rfl rfl rfl rfl rfl rfl zt7) (jy rfl rfl (qV (cs:=[_, _, _, _, _, _, _]) rfl rfl rfl rfl rfl (by exact zLb rfl) rfl zAs) ?_))))))))
 refine jy rfl rfl (yl (cs:=[_, _, _, _, _, _, _]) rfl zBX rfl ⟨_, _, rfl, (zQ rfl), rfl⟩ (by rfl) (by simp [ofV])) ?_
 refine jy rfl rfl (zeJ rfl rfl Tryz.underlying153 rfl) (jy rfl rfl (vP rfl) (jy rfl rfl (vP rfl) (qL rfl (zfW (f:=54) (fs:=[]) (cs:=[]) (av:=[.pp 5 1 0 0, .pub (.ifc 153 (.agg (eRep r))), zAX, zAV, zA4]) rfl rfl ⟨rfl, rfl, rfl⟩ ⟨rfl, rfl, rfl, rfl, rfl, trivial⟩ (zB0 s rs nd ac mp sh X Y r hok)) (jy rfl rfl (zg rfl rfl) (zo (zn (jy rfl rfl (zh rfl rfl) (jy rfl rfl (wE rfl rfl rfl) (zM ?_)))))))))
 refine zk (zA rfl (fun h0=>?_) (fun h0=>?_))
 ·skip
  refine zn (jy rfl rfl (zh rfl rfl) (jy rfl rfl (zg rfl rfl) (zo (zN (zP ?_)))))
  exact zaE [_, _] rfl hmk (by simp) (.inr rfl) (by simp [EV.lt]) rfl
 ·skip
  exfalso; simp at h0
theorem zBW (s:Sut) (rs:List Rep) (nd:Nat) (ac:List (List EV)) (mp sh X Y:PO) (r:Rep) (hok:zDr (w1 s r) = true) (ha:ac.length < 60) (hr:9 <= rs.length):zeq Tryz.prog G 10 [.pp 5 1 0 0, .pub (.agg (eRep r))] (bX s rs nd ac mp sh X Y) (.ret (I 6) (bX s rs nd ac mp sh X Y)):=by
 refine qj Tryz.func10 rfl (by kernel_rfl) rfl (fun gh hold hmk=>?_)
 refine zn (qL rfl (zru rfl rfl (zAd rfl rfl rfl)) (qL rfl (zru rfl rfl (zQ rfl)) (jy rfl rfl (zg rfl rfl) (zo (zt (zn (jy rfl rfl (zX rfl rfl rfl rfl rfl rfl zt7) (jy rfl rfl (qV (cs:=[_, _, _, _, _, _, _]) rfl rfl rfl rfl rfl (by exact zLb rfl) rfl zAs) ?_))))))))
 refine jy rfl rfl (yl (cs:=[_, _, _, _, _, _, _]) rfl zBX rfl ⟨_, _, rfl, (zQ rfl), rfl⟩ (by rfl) (by simp [ofV])) ?_
 refine jy rfl rfl (zeJ rfl rfl Tryz.underlying153 rfl) (jy rfl rfl (vP rfl) (jy rfl rfl (vP rfl) (qL rfl (zfW (f:=54) (fs:=[]) (cs:=[]) (av:=[.pp 5 1 0 0, .pub (.ifc 153 (.agg (eRep r))), zAX, zAV, zA4]) rfl rfl ⟨rfl, rfl, rfl⟩ ⟨rfl, rfl, rfl, rfl, rfl, trivial⟩ (zBH s rs nd ac mp sh X Y r hok ha hr)) (jy rfl rfl (zg rfl rfl) (zo (zn (jy rfl rfl (zh rfl rfl) (jy rfl rfl (wE rfl rfl rfl) (zM ?_)))))))))
 refine zk (zA rfl (fun h0=>?_) (fun h0=>?_))
 ·skip
  refine zn (jy rfl rfl (zh rfl rfl) (jy rfl rfl (zg rfl rfl) (zo (zN (zP ?_)))))
  exact zaE [_, _] rfl hmk (by simp) (.inr rfl) (by simp [EV.lt]) rfl
 ·skip
  exfalso; simp at h0
theorem zCC (s:Sut) (rs:List Rep) (nd:Nat) (ac:List (List EV)) (mp sh X Y:PO) (r:Rep):[.dead, .dead, .dead, .row (zzP rs ++ [(eRep r).map .pub]), .map [], .row [zaV s (rs.length + 1) nd (ac ++ [zAe r]).length], mp, sh, .row (ac ++ [zAe r]), X, Y, .row [[.pp 5 1 0 0]], .row [(eRep r).map .pub]] = bX s (rs ++ [r]) nd (ac ++ [zAe r]) mp sh X Y ++ [.row [[.pp 5 1 0 0]], .row [(eRep r).map .pub]]:=by
 have e1:(rs ++ [r]).length = rs.length + 1:=by simp
 have e2:zzP (rs ++ [r]) = zzP rs ++ [(eRep r).map .pub]:=by simp [zzP]
 rw [bX, e1, e2]; rfl
theorem zCE (s:Sut) (rs:List Rep) (nd:Nat) (ac:List (List EV)) (mp sh X Y:PO) (r:Rep) (hok:zDr (w1 s r) = true) (ha:ac.length < 60) (hr:rs.length < 9) (hac:∀ q ∈ ac, q.length = 1):zeq Tryz.prog G 10 [.pp 5 1 0 0, .pub (.agg (eRep r))] (bX s rs nd ac mp sh X Y) (.ret (I 0) (bX s (rs ++ [r]) nd (ac ++ [zAe r]) mp sh X Y)):=by
 refine qj Tryz.func10 rfl (by kernel_rfl) rfl (fun gh hold hmk=>?_)
 refine zn (qL rfl (zru rfl rfl (zAd rfl rfl rfl)) (qL rfl (zru rfl rfl (zQ rfl)) (jy rfl rfl (zg rfl rfl) (zo (zt (zn (jy rfl rfl (zX rfl rfl rfl rfl rfl rfl zt7) (jy rfl rfl (qV (cs:=[_, _, _, _, _, _, _]) rfl rfl rfl rfl rfl (by exact zLb rfl) rfl zAs) ?_))))))))
 refine jy rfl rfl (yl (cs:=[_, _, _, _, _, _, _]) rfl zBX rfl ⟨_, _, rfl, (zQ rfl), rfl⟩ (by rfl) (by simp [ofV])) ?_
 refine jy rfl rfl (zeJ rfl rfl Tryz.underlying153 rfl) (jy rfl rfl (vP rfl) (jy rfl rfl (vP rfl) (qL rfl (zfW (f:=54) (fs:=[]) (cs:=[]) (av:=[.pp 5 1 0 0, .pub (.ifc 153 (.agg (eRep r))), zAX, zAV, zA4]) rfl rfl ⟨rfl, rfl, rfl⟩ ⟨rfl, rfl, rfl, rfl, rfl, trivial⟩ (zCS s rs nd ac mp sh X Y r hok ha hr hac)) (jy rfl rfl (zg rfl rfl) (zo (zn (jy rfl rfl (zh rfl rfl) (jy rfl rfl (wE rfl rfl rfl) (zM ?_)))))))))
 refine zk (zA rfl (fun h0=>?_) (fun h0=>?_))
 ·skip
  exfalso; simp at h0
 ·skip
  refine zH (zk (zt ?_))
  refine zfD (fun mm=>(∃ r, mm[5]? = some (PO.row [r])) /\ mm[11]? = some (PO.row [[.pp 5 1 0 0]]) /\ mm[12]? = some (PO.row [(eRep r).map .pub])) (fun k=>match k with | 0=>.stable | 1=>.stable | 2=>.stable | 3=>.stable | 4=>.stable | 5=>.stable | 6=>.rd [5] | 7=>.stable | 8=>.stable | 9=>.rw [] (3) | 10=>.stable | 11=>.stable | 12=>.stable | 13=>.stable | 14=>.writes | _=>.here) mixed (by kernel_rfl) rfl (by kernel_rfl) ⟨⟨_, rfl⟩, rfl, rfl⟩ ?_
  refine jv rfl rfl (fun m hm=>zX rfl rfl hm.2.1 rfl rfl rfl zt7) (jv rfl rfl (fun m hm=>zX rfl rfl hm.2.1 rfl rfl rfl zt7) (jv rfl rfl (fun m hm=>qi (rows:=[hm.1.choose]) rfl rfl hm.1.choose_spec rfl) (jv rfl rfl (fun m hm=>jJ (rows:=[hm.1.choose]) rfl rfl hm.1.choose_spec rfl zz3) (jv rfl rfl (fun m hm=>jJ (rows:=[hm.1.choose]) rfl rfl hm.1.choose_spec rfl zDs) (jv rfl rfl (fun m hm=>jJ (rows:=[hm.1.choose]) rfl rfl hm.1.choose_spec rfl zzR) ?_)))))
  refine zsH [5] rfl rfl (fun m hm hC=>zX (rows:=[(zaV s rs.length nd (ac ++ [zAe r]).length)]) (r:=(zaV s rs.length nd (ac ++ [zAe r]).length)) rfl rfl (hm.one 5 rfl) rfl rfl rfl zq0) ?_
  refine jv rfl rfl (fun m hm=>qV (cs:=[_, _, _, _, _, _, _]) rfl rfl hm.2.2 rfl rfl (by exact zLb rfl) rfl zAs) ?_
  refine jv rfl rfl (fun m hm=>qy (size:=7) (rows:=[[_, _, _, _, _, _, _]]) rfl Tryz.underlying29 zCy rfl (by decide) rfl (by decide) ⟨_, _, rfl, zQ rfl, rfl⟩ (by rfl) (by simp [ofV]) rfl (by simp)) ?_
  refine ztC rfl rfl (fun m hm hC=>⟨zbg rfl rfl (hm.trans rfl) zzU rfl zBU zA6 (by intro r hr; simp at hr; subst hr; rfl) (by simp; omega) (by unfold maxLen; simp; omega), ⟨hC.1.imp fun r hr=>(List.getElem?_set_ne (by decide)).trans hr, (List.getElem?_set_ne (by decide)).trans hC.2.1, (List.getElem?_set_ne (by decide)).trans hC.2.2⟩⟩) ?_
  refine jv rfl rfl (fun m hm=>qi (rows:=[hm.1.choose]) rfl rfl hm.1.choose_spec rfl) (jv rfl rfl (fun m hm=>jJ (rows:=[hm.1.choose]) rfl rfl hm.1.choose_spec rfl zz3) (jv rfl rfl (fun m hm=>jJ (rows:=[hm.1.choose]) rfl rfl hm.1.choose_spec rfl zDs) (jv rfl rfl (fun m hm=>jJ (rows:=[hm.1.choose]) rfl rfl hm.1.choose_spec rfl zzR) ?_)))
  refine zpt rfl rfl (zd0 rfl rfl rfl rfl rfl rfl (zc7 rfl rfl (by simp [zzU])) zq0 (by rfl) (by rfl)) ⟨⟨_, rfl⟩, rfl, rfl⟩ ?_
  refine zfa (zk (zt ?_))
  refine qY (zy (mem':=bX s (rs ++ [r]) nd (ac ++ [zAe r]) mp sh X Y ++ [.row [[.pp 5 1 0 0]], .row [(eRep r).map .pub]]) [] trivial (zCC s rs nd ac mp sh X Y r)) ?_
  refine zx (jy rfl rfl (zg rfl rfl) (zo (zN ?_)))
  exact zaE [_, _] rfl ⟨trivial, trivial, trivial, zz0, (by intro p hp; cases hp), okB (by simp [bX]), hmk.2.2.2.2.2.2.1, hmk.2.2.2.2.2.2.2.1, zCF hmk.2.2.2.2.2.2.2.2.1, hmk.2.2.2.2.2.2.2.2.2.1, hmk.2.2.2.2.2.2.2.2.2.2.1, trivial⟩ (by simp [bX]) (.inr rfl) (by simp [EV.lt]) rfl
def wR (s:Sut) (rs:List Rep):Wt:=⟨s.w.n, rs, s.w.lnks, s.w.prts, s.w.fall, s.w.win, s.w.hold, s.w.dawn, s.w.dusk⟩
theorem vWR {s:Sut} {rs:List Rep} {mem:List PO} (h3:mem[3]? = some (.row (zzP rs))):zg5 mem [I s.w.n, .psl 3 rs.length, .pub (.sl (s.w.lnks.map eLnk)), .pub (.sl (s.w.prts.map ePrt)), I s.w.fall, I s.w.win, I s.w.hold, I s.w.dawn, I s.w.dusk] (eWt (wR s rs)):=
 ⟨_, _, rfl, AVle.refl _, _, _, rfl, ⟨rs.map eRep, by rw [h3, zzP, List.map_map]; rfl, by simp, rfl⟩, _, _, rfl, AVle.refl _, _, _, rfl, AVle.refl _, _, _, rfl, AVle.refl _, _, _, rfl, AVle.refl _, _, _, rfl, AVle.refl _, _, _, rfl, AVle.refl _, _, _, rfl, AVle.refl _, rfl⟩
theorem m13 (s:Sut) (rs:List Rep) {nd na:Nat} {mem:List PO} (h5:mem[5]? = some (.row [zaV s rs.length nd na])) (h3:mem[3]? = some (.row (zzP rs))):zeq Tryz.prog G 13 [.pp 5 1 0 0] mem (.ret (.pub (.tup [ei (if zDr (wR s rs) then (zzX (wR s rs) (zz1 (wR s rs))).getD 0 else 0), ei (if zDr (wR s rs) then (if (zzX (wR s rs) (zz1 (wR s rs))).isSome then (zzX (wR s rs) (zzY (wR s rs))).getD (-1) else 0) else 0), ei (if zDr (wR s rs) then (if (zzX (wR s rs) (zz1 (wR s rs))).isSome then 0 else 5) else 2)])) mem):=by
 refine qj Tryz.func13 rfl (by kernel_rfl) rfl (fun gh hold hmk=>?_)
 refine zn (jy rfl rfl (zg rfl rfl) (jy rfl rfl (zg rfl rfl) (jy rfl rfl (zg rfl rfl) (zo (zt (zn (jy rfl rfl (zwN rfl rfl) (qL rfl (zfW (f:=62) (fs:=[]) (cs:=[]) (av:=[.pp 5 1 0 0]) rfl rfl ⟨rfl, rfl, rfl⟩ ⟨rfl, trivial⟩ (m62 h5)) ?_))))))))
 refine zo (zA rfl (fun h0=>?_) (fun h0=>?_))
 ·skip
  exfalso; simp at h0
 ·skip
  refine zH (zk (zn (jy rfl rfl (zwN rfl rfl) (jy rfl rfl (qi rfl rfl h5 rfl) (jy rfl rfl (jJ rfl rfl h5 rfl zz3) (jy rfl rfl (jJ rfl rfl h5 rfl zDs) (jy rfl rfl (za9 rfl rfl h5 rfl rfl (by exact zLb rfl) rfl zz8) (jy rfl rfl (znr (av:=[.agg (eWt (wR s rs))]) rfl ⟨zpA (vWR h3), trivial⟩ rfl (f63 (wR s rs))) (jy rfl rfl (zU rfl rfl rfl) (jy rfl rfl (zU rfl rfl rfl) ?_))))))))))
  refine jy rfl rfl (zU rfl rfl rfl) (jy rfl rfl (zg rfl rfl) (jy rfl rfl (zg rfl rfl) (jy rfl rfl (zg rfl rfl) (zo (zN ?_)))))
  exact zaE [] (by simp) hmk (by simp) (.inr rfl) (by simp [EV.lt]) ⟨_, rfl, _, _, rfl, rfl, _, _, rfl, rfl, _, _, rfl, rfl, rfl⟩
theorem m15 (s:Sut) (rs:List Rep) {nd na:Nat} {mem:List PO} (h5:mem[5]? = some (.row [zaV s rs.length nd na])) (h3:mem[3]? = some (.row (zzP rs))) (i t:Int):zeq Tryz.prog G 15 [.pp 5 1 0 0, I i, I t] mem (.ret (.pub (.tup [ei (if zB2 (wR s rs) i t then upV (wR s rs) i t else 0), ei (if zB2 (wR s rs) i t then 0 else 2)])) mem):=by
 refine qj Tryz.func15 rfl (by kernel_rfl) rfl (fun gh hold hmk=>?_)
 refine zn (jy rfl rfl (zg rfl rfl) (jy rfl rfl (zg rfl rfl) (zo (zt (zn (jy rfl rfl (zwN rfl rfl) (qL rfl (zfW (f:=62) (fs:=[]) (cs:=[]) (av:=[.pp 5 1 0 0]) rfl rfl ⟨rfl, rfl, rfl⟩ ⟨rfl, trivial⟩ (m62 h5)) (zM ?_))))))))
 refine zk (zA rfl (fun h0=>?_) (fun h0=>?_))
 ·skip
  exfalso; simp at h0
 ·skip
  refine zH (zk (zn (jy rfl rfl (zwN rfl rfl) (jy rfl rfl (qi rfl rfl h5 rfl) (jy rfl rfl (jJ rfl rfl h5 rfl zz3) (jy rfl rfl (jJ rfl rfl h5 rfl zDs) (jy rfl rfl (za9 rfl rfl h5 rfl rfl (by exact zLb rfl) rfl zz8) (jy rfl rfl (zh rfl rfl) (jy rfl rfl (zh rfl rfl) (jy rfl rfl (znr (av:=[.agg (eWt (wR s rs)), ei i, ei t]) rfl ⟨zpA (vWR h3), AVle.refl _, AVle.refl _, trivial⟩ rfl (f66 (wR s rs) i t)) ?_))))))))))
  refine jy rfl rfl (zU rfl rfl rfl) (jy rfl rfl (zU rfl rfl rfl) (jy rfl rfl (zg rfl rfl) (jy rfl rfl (zg rfl rfl) (zo (zN ?_)))))
  exact zaE [] (by simp) hmk (by simp) (.inr rfl) (by simp [EV.lt]) ⟨_, rfl, _, _, rfl, rfl, _, _, rfl, rfl, rfl⟩
end Hs
end Go.Av
end
section
namespace Go.Av
namespace Hs
open Go.Proofs
set_option maxRecDepth 100000
variable {G:Glob}
def zAh (s:Sut) (p:List Rep × List (List EV)) (r:Rep):Bool:=zDr (w1 s r) && decide (p.1.length < 9)
def stp (s:Sut) (p:List Rep × List (List EV)) (r:Rep):List Rep × List (List EV):=if zAh s p r then (p.1 ++ [r], p.2 ++ [zAe r]) else p
def zzT (s:Sut) (l:List Rep):List Rep × List (List EV):=l.foldl (stp s) (s.w.reps, [])
def zAF (s:Sut) (p:List Rep × List (List EV)) (r:Rep):Int:=if zDr (w1 s r) then (if p.1.length < 9 then 0 else 6) else 2
theorem zBl {s:Sut} {p:List Rep × List (List EV)} {r:Rep}:decide (zAF s p r = 0) = zAh s p r:=by
 unfold zAF zAh
 cases h:zDr (w1 s r) <;> by_cases h2:p.1.length < 9 <;> simp [h2]
theorem zAo {s:Sut} {p:List Rep × List (List EV)} {r:Rep} (h:zAh s p r = true):stp s p r = (p.1 ++ [r], p.2 ++ [zAe r]):=if_pos h
theorem zAL {s:Sut} {p:List Rep × List (List EV)} {r:Rep} (h:zAh s p r = false):stp s p r = p:=if_neg (by rw [h]; simp)
theorem zA9 {α β:Type} {f:α -> β -> α} {z:α} {l:List β} {j:Nat} (h:j < l.length):(l.take (j + 1)).foldl f z = f ((l.take j).foldl f z) l[j]:=by
 rw [List.take_succ_eq_append_getElem h, List.foldl_append]; rfl
theorem zAt {s:Sut} {l:List Rep} {j:Nat} (h:j < l.length):zzT s (l.take (j + 1)) = stp s (zzT s (l.take j)) l[j]:=zA9 h
theorem zAc {w:Wt}:zDr w = true ↔ (inB w.n 1 6 = true /\ (w.lnks.length:Int) <= 8 /\ (w.prts.length:Int) <= 4 /\ inB w.fall 1 99999 = true /\ inB w.win 1 2880 = true /\ inB w.hold 1 2880 = true /\ w.dawn ≥ 0 /\ w.dawn <= w.dusk /\ w.dusk <= 1440 /\ (w.lnks.any fun l=>!zAK w.n l) = false /\ (w.prts.any fun p=>!zAk p) = false) /\ (w.reps.length:Int) <= 9 /\ ∀ r ∈ w.reps, zz9 w.n r = true:=by
 simp only[zDr, zLa, Bool.not_eq_true', decide_eq_true_eq, List.any_eq_false, Bool.not_eq_true, Bool.not_eq_false']
 constructor
 ·rintro ⟨⟨⟨⟨⟨⟨⟨⟨⟨⟨⟨⟨a, b⟩, c⟩, d⟩, e⟩, f⟩, g⟩, h⟩, i⟩, j⟩, k⟩, l⟩, m⟩
  refine ⟨⟨a, c, d, e, f, g, h, i, j, l, m⟩, b, fun r hr=>?_⟩
  have:=k r hr
  simpa using this
 ·rintro ⟨⟨a, c, d, e, f, g, h, i, j, l, m⟩, b, k⟩
  refine ⟨⟨⟨⟨⟨⟨⟨⟨⟨⟨⟨⟨a, b⟩, c⟩, d⟩, e⟩, f⟩, g⟩, h⟩, i⟩, j⟩, ?_⟩, l⟩, m⟩
  intro r hr
  simpa using k r hr
theorem zBO {s:Sut} {rs:List Rep} {r:Rep} (h:zDr (wR s rs) = true) (h1:zDr (w1 s r) = true) (hn:rs.length < 9):zDr (wR s (rs ++ [r])) = true:=by
 rw [zAc] at h h1 ⊢
 refine ⟨h.1, ?_, fun x hx=>?_⟩
 ·simp [wR]; omega
 ·simp only[wR, List.mem_append, List.mem_singleton] at hx
  rcases hx with hx | rfl
  ·exact h.2.2 x hx
  ·exact h1.2.2 x (by simp [w1])
structure RunP (s:Sut) (p:List Rep × List (List EV)) (n:Nat):Prop where
 ok:zDr (wR s p.1) = true
 n:p.2.length <= n
 one:∀ q ∈ p.2, q.length = 1
 lt:∀ k, PO.okL k (.row p.2)
theorem RunP.step {s:Sut} {p:List Rep × List (List EV)} {n:Nat} (h:RunP s p n) (r:Rep):RunP s (stp s p r) (n + 1):=by
 cases hb:zAh s p r with
 | false=>rw [zAL hb]; exact ⟨h.ok, by have:=h.n; omega, h.one, h.lt⟩
 | true=>
  rw [zAo hb]
  simp only[zAh, zLa, decide_eq_true_eq] at hb
  refine ⟨zBO h.ok hb.1 hb.2, by have:=h.n; simp; omega, fun q hq=>?_, fun k=>zCF (h.lt k)⟩
  simp only[List.mem_append, List.mem_singleton] at hq
  rcases hq with hq | rfl
  ·exact h.one q hq
  ·rfl
theorem zBC {s:Sut} (hw:zDr s.w = true) (l:List Rep):∀ j, j <= l.length -> RunP s (zzT s (l.take j)) j
 | 0, _=>by rw [List.take_zero]; exact ⟨hw, by simp [zzT], by simp [zzT], fun k r hr=>by simp [zzT] at hr⟩
 | j + 1, hj=>by rw [zAt (by omega)]; exact (zBC hw l j (by omega)).step _
theorem zCj (s:Sut) (p:List Rep × List (List EV)) (nd:Nat) (mp sh X Y:PO) (r:Rep) (h1:p.2.length < 60) (h2:∀ q ∈ p.2, q.length = 1):
  zeq Tryz.prog G 10 [.pp 5 1 0 0, .pub (.agg (eRep r))] (bX s p.1 nd p.2 mp sh X Y) (.ret (I (zAF s p r)) (bX s (stp s p r).1 nd (stp s p r).2 mp sh X Y)):=by
 cases hk:zDr (w1 s r) with
 | false=>
  rw [zAL (by simp [zAh, hk]), show zAF s p r = 2 by simp [zAF, hk]]
  exact zCe s p.1 nd p.2 mp sh X Y r hk
 | true=>
  by_cases hn:p.1.length < 9
  ·rw [zAo (by simp [zAh, hk, hn]), show zAF s p r = 0 by simp [zAF, hk, hn]]
   exact zCE s p.1 nd p.2 mp sh X Y r hk h1 hn h2
  ·rw [zAL (by simp [zAh, hn]), show zAF s p r = 6 by simp [zAF, hk, hn]]
   exact zBW s p.1 nd p.2 mp sh X Y r hk h1 (by omega)
def ptA (parts:List Int) (k:Nat):Int:=if k < parts.length then min 100 (max 0 (parts.getD k 0)) else 0
theorem zBI {parts:List Int} {k:Nat}:0 <= ptA parts k /\ ptA parts k <= 100:=by unfold ptA; split <;> omega
def dlO (parts:List Int) (k:Nat) (r:Rep):Int:=r.dl + ((r.dh - r.dl) * ptA parts k) / 100
def dsO (parts:List Int) (rs:List Rep) (k:Nat):List Int:=(List.range k).map fun i=>dlO parts i (rs.getD i rp0)
theorem zAb {parts:List Int} {rs:List Rep} {k:Nat}:(dsO parts rs k).length = k:=by simp [dsO]
theorem zBJ {parts:List Int} {rs:List Rep} {k:Nat}:dsO parts rs k ++ [dlO parts k (rs.getD k rp0)] = dsO parts rs (k + 1):=by
 unfold dsO; rw [List.range_succ, List.map_append]; rfl
theorem zCJ {parts:List Int} {k:Nat} {r:Rep} (h:r.dl <= r.dh):r.dl <= dlO parts k r /\ dlO parts k r <= r.dh:=by
 have hp:=@zBI parts k
 unfold dlO
 generalize ptA parts k = q at hp
 have h0:0 <= (r.dh - r.dl) * q:=Int.mul_nonneg (by omega) hp.1
 have h1:(r.dh - r.dl) * q <= (r.dh - r.dl) * 100:=Int.mul_le_mul_of_nonneg_left hp.2 (by omega)
 omega
theorem zDc {s:Sut} {parts:List Int} {rs:List Rep} (h:zDr (wR s rs) = true):dlB (wR s rs) (dsO parts rs rs.length) = true:=by
 have hr:=(zAc.1 h).2.2
 unfold dlB
 refine zCh (by rw [zAb]; rfl) fun j h1 h2=>?_
 have hj:j < rs.length:=h2
 have h3:=zz4 (hr rs[j] (List.getElem_mem hj))
 have hd:(rs[j]).dl <= (rs[j]).dh:=by omega
 have:=zCJ (parts:=parts) (k:=j) hd
 rw [zz6]
 simp only[dsO, List.getElem_map, List.getElem_range, List.getD_eq_getElem?_getD, List.getElem?_eq_getElem hj, Option.getD_some]
 exact this
end Hs
end Go.Av
end
section
namespace Go.Av
namespace Hs
open Go.Proofs
set_option maxRecDepth 100000
variable {G:Glob}
theorem zAS {s:Sut} {rs:List Rep} (hok:zDr (wR s rs) = true) (parts:List Int):∃ a f c h g:Int,
  ACall Tryz.prog G 12 [.agg (eWt (wR s rs)), eI (dsO parts rs rs.length)] (.tup [ei a, ei f]) /\
  (∀ {nd na:Nat} {mem:List PO}, mem[5]? = some (.row [zaV s rs.length nd na]) -> mem[3]? = some (.row (zzP rs)) -> zeq Tryz.prog G 13 [.pp 5 1 0 0] mem (.ret (.pub (.tup [ei c, ei h, ei g])) mem)) /\
  ((f = 5 /\ (g = 5 ∨ (g = 0 /\ h = -1))) ∨ (f = 0 /\ g = 0 /\ 0 <= a /\ c <= a /\ (0 <= h -> a <= h) /\ ∀ port order:Int, 0 <= port -> port < s.w.prts.length -> (ptW s.w port).ol <= order -> order <= (ptW s.w port).oh -> a <= 20000 - order ->
   ACall Tryz.prog G 14 [.agg (eWt (wR s rs)), eI (dsO parts rs rs.length), ei port, ei order, ei (a + order)] (.tup [.v (.bool true), ei 0]) /\
   ∃ k:Int, k ≠ 1 /\ ∀ {nd na:Nat} {mem:List PO}, mem[5]? = some (.row [zaV s rs.length nd na]) -> mem[3]? = some (.row (zzP rs)) -> zeq Tryz.prog G 15 [.pp 5 1 0 0, I port, I (a + order)] mem (.ret (.pub (.tup [ei k, ei 0])) mem))):=by
 have hd:=zDc (parts:=parts) hok
 obtain ⟨L1, L2⟩:=zCk hok hd
 have hlen:(dsO parts rs rs.length).length <= 1000000:=by
  have:=(zAc.1 hok).2.1
  rw [zAb]; simp only[wR] at this; omega
 have e12:=f12 (G:=G) (wR s rs) (dsO parts rs rs.length) hlen
 rw [hok, hd] at e12
 simp only[Bool.and_self, cond_true] at e12
 have e13:∀ {nd na:Nat} {mem:List PO}, mem[5]? = some (.row [zaV s rs.length nd na]) -> mem[3]? = some (.row (zzP rs)) -> zeq Tryz.prog G 13 [.pp 5 1 0 0] mem (.ret (.pub (.tup [ei ((zzX (wR s rs) (zz1 (wR s rs))).getD 0), ei (if (zzX (wR s rs) (zz1 (wR s rs))).isSome then (zzX (wR s rs) (zzY (wR s rs))).getD (-1) else 0), ei (if (zzX (wR s rs) (zz1 (wR s rs))).isSome then 0 else 5)])) mem):=fun {nd na mem} h5 h3=>by
  have:=m13 (G:=G) s rs h5 h3
  rw [if_pos hok, if_pos hok, if_pos hok] at this
  exact this
 refine ⟨_, _, _, _, _, e12, e13, ?_⟩
 cases hA:zzX (wR s rs) (dsO parts rs rs.length) with
 | none=>
  left
  have h1:=L1 hA
  rw [h1]
  cases hL:zzX (wR s rs) (zz1 (wR s rs)) with
  | none=>exact ⟨rfl, .inl rfl⟩
  | some x=>exact ⟨rfl, .inr ⟨rfl, rfl⟩⟩
 | some a=>
  right
  obtain ⟨h0, ⟨x, hx, hxa⟩, h2, h3, h4⟩:=L2 a hA
  rw [hx]
  refine ⟨rfl, rfl, h0, hxa, fun h=>?_, fun port order p1 p2 p3 p4 p5=>?_⟩
  ·simp only[Option.isSome_some, if_true] at h ⊢
   cases hH:zzX (wR s rs) (zzY (wR s rs)) with
   | none=>rw [hH] at h; simp at h
   | some y=>exact h2 y hH
  ·simp only[Option.getD_some] at p5 ⊢
   have hpt:=zCt (wtP hok) (i:=port) ⟨p1, p2⟩
   have hpt2:0 <= (ptW s.w port).ol:=by have:=hpt; simp only[wR] at this; exact this.1
   have hho:hoB (wR s rs) (dsO parts rs rs.length) port order (a + order) = true:=by
    simp only[hoB, hok, hd, Bool.true_and, zLa, zz6]
    refine ⟨⟨⟨p1, ?_⟩, p3, p4⟩, by omega, by omega⟩
    show port <= ((s.w.prts.length:Int)) - 1
    omega
   have hup:zB2 (wR s rs) port (a + order) = true:=by
    simp only[zB2, hok, Bool.true_and, zLa, zz6]
    refine ⟨⟨p1, ?_⟩, by omega, by omega⟩
    show port <= ((s.w.prts.length:Int)) - 1
    omega
   have e14:=f14 (G:=G) (wR s rs) (dsO parts rs rs.length) hlen port order (a + order)
   rw [if_pos hho, hho] at e14
   have hs:zBS (wR s rs) (dsO parts rs rs.length) order (a + order) = true:=by
    unfold zBS; rw [show a + order - order = a by omega]; exact h3
   rw [hs] at e14
   refine ⟨e14, upV (wR s rs) port (a + order), ?_, fun {nd na mem} h5 h3=>?_⟩
   ·have hA:upA (wR s rs) port (a + order) = true:=by
     unfold upA
     have e1:(ptW (wR s rs) port).ol = (ptW s.w port).ol:=rfl
     have e2:(ptW (wR s rs) port).oh = (ptW s.w port).oh:=rfl
     refine zoV (k:=(order - (ptW s.w port).ol).toNat) (by omega) ?_
     rw [show a + order - ((ptW (wR s rs) port).ol + ((order - (ptW s.w port).ol).toNat:Int)) = a by omega]; exact h4
    unfold upV; rw [hA]
    cases upB (wR s rs) port (a + order) <;> simp
   ·have:=m15 (G:=G) s rs h5 h3 port (a + order)
    rw [if_pos hup, if_pos hup] at this
    exact this
end Hs
end Go.Av
end
