import Derived.Test.YtgmbdadkbominaaGreatDoorBuC
set_option linter.unusedVariables false
set_option linter.unusedSimpArgs false
section
namespace Go.Av
namespace Hs
open Go.Proofs
set_option maxRecDepth 100000
set_option maxHeartbeats 1000000
variable {G:Glob}
theorem zAQ:fldIs Tryz.prog 148 1 25 = true:=by kernel_rfl
theorem zA3:fldIs Tryz.prog 148 2 26 = true:=by kernel_rfl
theorem zCr:tyIs Tryz.prog 144 false 1 = true:=by kernel_rfl
theorem zC6:elemIs Tryz.prog 144 69 4 48:=⟨Tryz.underlying144, Tryz.t69, _, by kernel_rfl, rfl, rfl, rfl, rfl, by decide⟩
theorem zCu:tyIs Tryz.prog 145 false 1 = true:=by kernel_rfl
theorem zC9:elemIs Tryz.prog 145 150 1 8:=⟨Tryz.underlying145, Tryz.t150, _, by kernel_rfl, rfl, rfl, rfl, rfl, by decide⟩
theorem zC2:vM Tryz.prog 148 [(0, 25), (25, 1), (26, 1), (27, 1), (28, 1), (29, 1), (30, 1)] [.slice none 0 0, .slice none 0 0, .slice none 0 0, .int .i64 0, .int .i64 0, .int .i64 0, .int .i64 0, .int .i64 0, .int .i64 0, .int .i64 0, .int .i64 0, .slice none 0 0, .slice none 0 0, .slice none 0 0, .int .i64 0, .int .i64 0, .int .i64 0, .int .i64 0, .int .i64 0, .int .i64 0, .slice none 0 0, .int .i64 0, .int .i64 0, .int .i64 0, .int .i64 0, .slice none 0 0, .slice none 0 0, .map none, .int .i64 0, .slice none 0 0, .bool false]:=⟨_, Tryz.underlying148, by kernel_rfl, by kernel_rfl⟩
theorem zDp:Tryz.prog.info? 69 = some Tryz.t69:=by kernel_rfl
theorem zC8:Tryz.prog.info? 150 = some Tryz.t150:=by kernel_rfl
def zaV (s:Sut) (nr nd na:Nat):List EV:=cSu s 3 nr ++ [.psl 6 nd, .psl 7 nd, .mpv 4, I 0, .psl 8 na, .pub (.v (.bool true))]
def mpR (s:Sut):List EV:=(Ct.eMp (mpS s)).map .pub
def shR:List EV:=[.pub (.mp [] [])]
def bM (s:Sut) (rs:List Rep) (nd:Nat) (ac:List (List EV)) (mp sh:PO):List PO:=[.dead, .dead, .dead, .row (zzP rs), .map [], .row [zaV s rs.length nd ac.length], mp, sh, .row ac]
def oM (s:Sut) (nd:Nat):List PO:=bM s s.w.reps nd [] (.row (List.replicate nd (mpR s))) (.row (List.replicate nd shR))
theorem okB {s:Sut} {a b c k:Nat} (h:9 <= k):PO.okL k (.row [zaV s a b c]):=fun q hq x hx=>by
 rw [List.mem_singleton] at hq; subst hq
 simp only[zaV, cSu, rSK, List.cons_append, List.nil_append, List.mem_cons, List.not_mem_nil, or_false] at hx
 rcases hx with rfl | rfl | rfl | rfl | rfl | rfl | rfl | rfl | rfl | rfl | rfl | rfl | rfl | rfl | rfl | rfl | rfl | rfl | rfl | rfl | rfl | rfl | rfl | rfl | rfl | rfl | rfl | rfl | rfl | rfl | rfl <;> simp [EV.lt, I] <;> omega
theorem zCp {n k:Nat} {r:List EV} (h:∀ x ∈ r, x.lt k):PO.okL k (.row (List.replicate n r)):=fun q hq x hx=>by
 rw [List.eq_of_mem_replicate hq] at hx; exact h x hx
theorem zCW {s:Sut} {n k:Nat}:PO.okL k (.row (List.replicate n (mpR s))):=zCp fun x hx=>by
 obtain ⟨y, _, rfl⟩:=List.mem_map.1 hx; simp [EV.lt]
theorem zCR {n k:Nat}:PO.okL k (.row (List.replicate n shR)):=zCp fun x hx=>by
 rw [shR, List.mem_singleton] at hx; subst hx; simp [EV.lt]
theorem zB3 (s:Sut) (d:Nat):[.dead, .dead, .dead, .row (zzP s.w.reps), .map [], .row [zaV s s.w.reps.length (d + 1) 0], .row (List.replicate d (mpR s) ++ [mpR s]), .row (List.replicate d shR ++ [shR]), .row []] = oM s (d + 1):=by
 rw [← List.replicate_succ', ← List.replicate_succ']; rfl
theorem zAR {α:Type} {n:Nat} {x:α}:(List.replicate n x).length = n:=by simp
theorem zBR {n:Nat} {r:List EV} {k:Nat} (h:r.length = k):∀ q ∈ List.replicate n r, q.length = k:=fun q hq=>by rw [List.eq_of_mem_replicate hq]; exact h
theorem m9 (s:Sut) (hsm:smB s = true) (hS:SuP s):zeq Tryz.prog G 9 [.pub (.agg (eSut s))] [] (.ret (.tpl [.pp 5 1 0 0, I 0]) (oM s s.days.toNat)):=by
 have hdy:=hS.days
 have sp51:ACall Tryz.prog G 51 [.agg (eSut s)] (ei 0):=f51 s hsm hS fun x hx=>f135 (hS.st x hx).2.1 (hS.st x hx).2.2
 obtain ⟨D, hD⟩:∃ D:Nat, s.days = (D:Int):=⟨s.days.toNat, by omega⟩
 have hD2:s.days.toNat = D:=by omega
 rw [hD2]
 refine zBd Tryz.func9 rfl (by kernel_rfl) rfl (fun gh hold hmk=>?_)
 refine zn (jy rfl rfl (ql rfl (zQ rfl)) (jy rfl rfl (zg rfl rfl) (jy rfl rfl (zg rfl rfl) (zo (zt (zn (jy rfl rfl (zK rfl rfl zAf (by exact zLb rfl)) (jy rfl rfl (zB (av:=[_]) rfl ⟨rfl, trivial⟩ sp51) ?_))))))))
 refine jy rfl rfl (zg rfl rfl) (zo (zn (jy rfl rfl (zh rfl rfl) (jy rfl rfl (wE rfl rfl rfl) (zo (zA rfl (fun h0=>?_) (fun h0=>?_)))))))
 ·skip
  exfalso; simp at h0
 ·skip
  refine zH (zk (zn (jy rfl rfl (zK rfl rfl zAf (by exact zLb rfl)) (qL rfl (zfW (f:=52) (fs:=[]) (cs:=[]) (av:=[.pub (.agg (eSut s))]) rfl rfl ⟨rfl, rfl, rfl⟩ ⟨rfl, trivial⟩ (m52 s hsm)) (qL rfl (zgX rfl rfl) ?_)))))
  refine jy rfl rfl (zvd (cs:=[_, _, _, _, _, _, _, _, _, _, _, _, _, _, _, _, _, _, _, _, _, _, _, _, _, _, _, _, _, _, _]) rfl zC2 rfl ⟨_, _, rfl, (zkj rfl), ⟨_, _, rfl, (zoi rfl rfl), ⟨_, _, rfl, (qU rfl), rfl⟩⟩⟩ (by rfl) (by simp [ofV])) ?_
  refine qL rfl (zru rfl rfl (zkj rfl)) (jy rfl rfl (zvO rfl rfl) (zo (zt (zt ?_))))
  refine qY (zwT 0) ?_
  refine qY (zwT 1) ?_
  refine qY (zgZ (k:=5) (i:=0) (j:=25) rfl rfl rfl) ?_
  refine qY (zgZ (k:=5) (i:=0) (j:=26) rfl rfl rfl) ?_
  refine qY (zgZ (k:=5) (i:=0) (j:=29) rfl rfl rfl) ?_
  refine zx (jy rfl rfl (zi rfl rfl zBG) (jy rfl rfl (zl rfl rfl rfl ty3) (jy rfl rfl (zh rfl rfl) (zo (zF ?_)))))
  refine qm (ι:={ d:Nat // d <= D }) (fun d=>⟨⟨Tryz.f9.ntmps, [], gh, false, hold⟩, frL [(1, .pub (.ptr (eSut s))), (5, .pp 5 1 0 0), (17, I s.days), (18, I (d.1:Int))], oM s d.1⟩) (fun d=>D - d.1) (⟨0, by omega⟩) ?_ ?_
  ·exact zy _ ⟨rfl, rfl, rfl, rfl, trivial⟩ (rfl)
  ·rintro ⟨d, hd⟩
   dsimp only
   refine zn (jy rfl rfl (qx rfl rfl rfl) (zo (zt (zA rfl (fun h1=>?_) (fun h1=>?_)))))
   ·skip
    have hlt:d < D:=by
     have:(d:Int) < s.days:=by simpa using h1
     omega
    refine zH (zk (zt (zF ?_)))
    refine zfD (fun mm=>∃ r, mm[5]? = some (PO.row [r])) (fun k=>match k with | 0=>.stable | 1=>.stable | 2=>.stable | 3=>.stable | 4=>.stable | 5=>.rd [5] | 6=>.stable | 7=>.stable | 8=>.stable | 9=>.rw [] (6) | 10=>.stable | 11=>.stable | 12=>.stable | 13=>.rd [5] | 14=>.stable | 15=>.stable | 16=>.rw [] (7) | 17=>.stable | 18=>.stable | 19=>.writes | 20=>.stable | 21=>.stable | 22=>.writes | _=>.here) mixed (by kernel_rfl) rfl (by kernel_rfl) ⟨_, rfl⟩ ?_
    refine jv rfl rfl (fun m hm=>zwN rfl rfl) (jv rfl rfl (fun m hm=>zwN rfl rfl) (jv rfl rfl (fun m hm=>zwN rfl rfl) (jv rfl rfl (fun m hm=>qi (rows:=[hm.choose]) rfl rfl hm.choose_spec rfl) (jv rfl rfl (fun m hm=>jJ (rows:=[hm.choose]) rfl rfl hm.choose_spec rfl zAQ) ?_))))
    refine zsH [5] rfl rfl (fun m hm hC=>zX (rows:=[zaV s s.w.reps.length d 0]) (r:=zaV s s.w.reps.length d 0) rfl rfl (hm.one 5 rfl) rfl rfl rfl zCr) ?_
    refine jv rfl rfl (fun m hm=>zK rfl rfl zAf (by exact zLb rfl)) (jv rfl rfl (fun m hm=>zB (av:=[_]) rfl ⟨rfl, trivial⟩ (f53 s)) ?_)
    refine jv rfl rfl (fun m hm=>qy (size:=4) (rows:=[[_, _, _, _]]) rfl Tryz.underlying144 zDp rfl (by decide) rfl (by decide) ⟨_, _, rfl, (zQ rfl), rfl⟩ (by rfl) (by simp [ofV]) rfl (by simp)) ?_
    refine ztC rfl rfl (fun m hm hC=>⟨zbg rfl rfl (hm.trans rfl) zAR rfl zC6 (zBR rfl) (by intro r hr; simp at hr; subst hr; rfl) (by simp; omega) (by unfold maxLen; simp; omega), hC.imp fun r hr=>(List.getElem?_set_ne (by decide)).trans hr⟩) ?_
    refine jv rfl rfl (fun m hm=>zwN rfl rfl) (jv rfl rfl (fun m hm=>qi (rows:=[hm.choose]) rfl rfl hm.choose_spec rfl) (jv rfl rfl (fun m hm=>jJ (rows:=[hm.choose]) rfl rfl hm.choose_spec rfl zA3) ?_))
    refine zsH [5] rfl rfl (fun m hm hC=>zX (rows:=[zaV s s.w.reps.length d 0]) (r:=zaV s s.w.reps.length d 0) rfl rfl (hm.one 5 rfl) rfl rfl rfl zCu) ?_
    refine jv rfl rfl (fun m hm=>zBb rfl) ?_
    refine jv rfl rfl (fun m hm=>qy (size:=1) (rows:=[[_]]) rfl Tryz.underlying145 zC8 rfl (by decide) rfl (by decide) ⟨_, _, rfl, (zAW rfl), rfl⟩ (by rfl) (by simp [ofV]) rfl (by simp)) ?_
    refine ztC rfl rfl (fun m hm hC=>⟨zbg rfl rfl (hm.trans rfl) zAR rfl zC9 (zBR rfl) (by intro r hr; simp at hr; subst hr; rfl) (by simp; omega) (by unfold maxLen; simp; omega), hC.imp fun r hr=>(List.getElem?_set_ne (by decide)).trans hr⟩) ?_
    refine jv rfl rfl (fun m hm=>qi (rows:=[hm.choose]) rfl rfl hm.choose_spec rfl) (jv rfl rfl (fun m hm=>jJ (rows:=[hm.choose]) rfl rfl hm.choose_spec rfl zAQ) ?_)
    refine zpt rfl rfl (zd0 rfl rfl rfl rfl rfl rfl (zc7 rfl rfl (by first | (simp; done) | (simp; omega))) zCr (by rfl) (by rfl)) ⟨_, rfl⟩ ?_
    refine jv rfl rfl (fun m hm=>qi (rows:=[hm.choose]) rfl rfl hm.choose_spec rfl) (jv rfl rfl (fun m hm=>jJ (rows:=[hm.choose]) rfl rfl hm.choose_spec rfl zA3) ?_)
    refine zpt rfl rfl (zd0 rfl rfl rfl rfl rfl rfl (zc7 rfl rfl (by first | (simp; done) | (simp; omega))) zCu (by rfl) (by rfl)) ⟨_, rfl⟩ ?_
    refine zfa (zJ (zk (zx (jy rfl rfl (zW rfl rfl rfl ⟨by omega, by omega⟩) (jy rfl rfl (zh rfl rfl) (zM ?_))))))
    exact ⟨⟨d + 1, by omega⟩, by dsimp only; omega, zy _ ⟨rfl, rfl, rfl, rfl, trivial⟩ ((zB3 s d))⟩
   ·skip
    have hge:d = D:=by
     have:¬ (d:Int) < s.days:=by simpa using h1
     omega
    refine zAj (zS (zS (zAi (zk (zn (jy rfl rfl (zwN rfl rfl) (jy rfl rfl (zvO rfl rfl) (jy rfl rfl (zg rfl rfl) (zo ?_)))))))))
    refine zN ?_
    exact zwY [] (by rw [hge]; rfl) ⟨trivial, trivial, trivial, zz0, (by intro p hp; cases hp), okB (by simp [oM, bM]), zCW, zCR, (by intro r hr; cases hr), trivial⟩ (by simp) (.inr rfl) (by simp [EV.lt, EV.ltL, I, oM, bM]) ⟨by decide, _, rfl, _, _, rfl, rfl, _, _, rfl, rfl, rfl⟩
end Hs
end Go.Av
end
section
namespace Go.Av
namespace Hs
open Go.Proofs
set_option maxRecDepth 100000
set_option maxHeartbeats 1000000
variable {G:Glob}
theorem zt7:tyIs Tryz.prog 40 false 1 = true:=by kernel_rfl
theorem zBE:fldIs Tryz.prog 148 6 30 = true:=by kernel_rfl
theorem zAy:fldIs Tryz.prog 148 5 29 = true:=by kernel_rfl
theorem zz3:fldIs Tryz.prog 148 0 0 = true:=by kernel_rfl
theorem zz5:zeE Tryz.prog 263 4 1 = true:=by kernel_rfl
theorem zBT:ze3 Tryz.prog 263 1 [.nilFunc, .nilFunc, .nilFunc, .nilFunc]:=⟨_, _, Tryz.t262, Tryz.underlying263, by kernel_rfl, by kernel_rfl, by kernel_rfl⟩
theorem zAg:tyIs Tryz.prog 262 false 1 = true:=by kernel_rfl
theorem zBQ:tyIs Tryz.prog 146 false 1 = true:=by kernel_rfl
theorem zC5:elemIs Tryz.prog 146 260 1 16:=⟨Tryz.underlying146, Tryz.t260, _, by kernel_rfl, rfl, rfl, rfl, rfl, by decide⟩
theorem zCz:tyIs Tryz.prog 39 false 1 = true:=by kernel_rfl
theorem zDh:(Tryz.prog.info? 33).bind (·.zero) = some (.agg #[.int .i64 0, .slice none 0 0, .slice none 0 0, .slice none 0 0, .int .i64 0, .int .i64 0, .int .i64 0, .int .i64 0, .int .i64 0]):=by kernel_rfl
theorem zCy:Tryz.prog.info? 48 = some Tryz.t48:=by kernel_rfl
def w1 (s:Sut) (r:Rep):Wt:=⟨s.w.n, [r], s.w.lnks, s.w.prts, s.w.fall, s.w.win, s.w.hold, s.w.dawn, s.w.dusk⟩
def zAe (r:Rep):List EV:=[.pub (.ifc 153 (.agg (eRep r)))]
def bX (s:Sut) (rs:List Rep) (nd:Nat) (ac:List (List EV)) (mp sh X Y:PO):List PO:=[.dead, .dead, .dead, .row (zzP rs), .map [], .row [zaV s rs.length nd ac.length], mp, sh, .row ac, X, Y]
def pM (s:Sut) (rs:List Rep) (nd:Nat) (ac:List (List EV)) (mp sh X Y:PO) (r:Rep):List PO:=[.dead, .dead, .dead, .row (zzP rs), .map [], .row [zaV s rs.length nd ac.length], mp, sh, .row ac, X, Y, .row [[.pp 5 1 0 0]], .row [(eRep r).map .pub]]
def zAX:EV:=.fnm 55 [] [.pp 11 1 0 0, .pp 12 1 0 0]
def zAV:EV:=.fnm 56 [] [.pp 11 1 0 0]
def zA4:EV:=.pub (.fn 57 [] [])
def tM (s:Sut) (rs:List Rep) (nd:Nat) (ac:List (List EV)) (mp sh X Y:PO) (r:Rep):List PO:=[.dead, .dead, .dead, .row (zzP rs), .map [], .row [zaV s rs.length nd ac.length], mp, sh, .row ac, X, Y, .row [[.pp 5 1 0 0]], .row [(eRep r).map .pub], .row [[.pp 5 1 0 0]], .row [[zAX]], .row [[zAV]], .row [[zA4]]]
theorem zCX (b:Bool):decide ((if b then (0:Int) else 2) = 0) = b:=by cases b <;> rfl
theorem m62 {s:Sut} {a b c:Nat} {mem:List PO} (h5:mem[5]? = some (.row [zaV s a b c])):zeq Tryz.prog G 62 [.pp 5 1 0 0] mem (.ret (.pub (.v (.bool false))) mem):=by
 refine qj Tryz.func62 rfl (by kernel_rfl) rfl (fun gh hold hmk=>?_)
 refine zn (jy rfl rfl (zg rfl rfl) (zo (zn (jy rfl rfl (zwN rfl rfl) (jy rfl rfl (zAP rfl rfl h5 rfl Tryz.underlying40) (jy rfl rfl (zh rfl rfl) (zjW rfl rfl rfl (fun hg=>zwN rfl rfl) (zjW rfl rfl rfl (fun hg=>qi rfl rfl h5 rfl) ?_))))))))
 refine zjW rfl rfl rfl (fun hg=>jJ rfl rfl h5 rfl zBE) (zjW rfl rfl rfl (fun hg=>zX rfl rfl h5 rfl rfl rfl ty4) (zjW rfl rfl rfl (fun hg=>qJ rfl (rfl)) ?_))
 refine jy rfl rfl (yZ rfl rfl (fun h=>absurd h (by decide)) (fun _=>rfl)) ?_
 refine jy rfl rfl (zg rfl rfl) (zo (zN ?_))
 exact zaE [] (by simp) hmk (by simp) (.inr rfl) (by simp [EV.lt]) rfl
theorem zCU (s:Sut) (rs:List Rep) (nd:Nat) (ac:List (List EV)) (mp sh X Y:PO) (r:Rep):zeq Tryz.prog G 143 [.pp 13 1 0 0] (tM s rs nd ac mp sh X Y r) (.ret (I 0) (tM s rs nd ac mp sh X Y r)):=by
 refine qj Tryz.func143 rfl (by kernel_rfl) rfl (fun gh hold hmk=>?_)
 refine zn (jy rfl rfl (zg rfl rfl) (zo (zn (jy rfl rfl (zX rfl rfl rfl rfl rfl rfl zt7) (qL rfl (zfW (f:=62) (fs:=[]) (cs:=[]) (av:=[.pp 5 1 0 0]) rfl rfl ⟨rfl, rfl, rfl⟩ ⟨rfl, trivial⟩ (m62 rfl)) (jy rfl rfl (qJ rfl rfl) (jy rfl rfl (zB (av:=[_, _]) rfl ⟨rfl, rfl, trivial⟩ (f144 _ _)) (jy rfl rfl (zg rfl rfl) ?_))))))))
 refine zo (zN ?_)
 exact zaE [] rfl hmk (by simp [tM]) (.inr rfl) (by simp [EV.lt]) rfl
theorem m55 (s:Sut) (rs:List Rep) (nd:Nat) (ac:List (List EV)) (mp sh X Y:PO) (r:Rep):zeq Tryz.prog G 55 [.pp 11 1 0 0, .pp 12 1 0 0] (tM s rs nd ac mp sh X Y r) (.ret (.pub (.v (.bool (zDr (w1 s r))))) (tM s rs nd ac mp sh X Y r)):=by
 refine qj Tryz.func55 rfl (by kernel_rfl) rfl (fun gh hold hmk=>?_)
 refine zn (jy rfl rfl (zg rfl rfl) (zo (zn (jy rfl rfl (zX rfl rfl rfl rfl rfl rfl zt7) (jy rfl rfl (qi rfl rfl rfl rfl) (jy rfl rfl (jJ rfl rfl rfl rfl zz3) (jy rfl rfl (jJ rfl rfl rfl rfl zDs) (jy rfl rfl (za9 rfl rfl rfl rfl rfl (by exact zLb rfl) rfl zz8) ?_))))))))
 refine qL rfl (jr rfl rfl zDh rfl rfl) ?_
 refine qL rfl (qw rfl rfl rfl rfl rfl rfl (zkj rfl) zz8 (by rfl) (by exact zLb rfl)) ?_
 refine zo (zn (jy rfl rfl (qV (cs:=[_, _, _, _, _, _, _]) rfl rfl rfl rfl rfl (by exact zLb rfl) rfl zAs) ?_))
 refine jy rfl rfl (qy (size:=7) (rows:=[[_, _, _, _, _, _, _]]) rfl Tryz.underlying29 zCy rfl (by decide) rfl (by decide) ⟨_, _, rfl, (zQ rfl), rfl⟩ (by rfl) (by simp [ofV]) rfl (by simp)) ?_
 refine jy rfl rfl (jJ rfl rfl rfl rfl zzR) ?_
 refine qL rfl (qw rfl rfl rfl rfl rfl rfl (zjo rfl) zq0 (by rfl) (by exact zLb rfl)) ?_
 refine zo (zn (jy rfl rfl (qV (cs:=[_, _, _, _, _, _, _, _, _]) rfl rfl rfl rfl rfl (by exact zLb rfl) rfl zz8) (jy rfl rfl (zB (av:=[_]) rfl ⟨rfl, trivial⟩ (f11 (w1 s r))) (jy rfl rfl (qR rfl rfl rfl) (jy rfl rfl (zg rfl rfl) (zo (zN ?_)))))))
 exact zaE [_] rfl hmk (by simp [tM]) (.inr rfl) (by simp [EV.lt]) (congrArg (fun z=>EV.pub (.v (.bool z))) (zCX _))
theorem m56 (s:Sut) (rs:List Rep) (nd:Nat) (ac:List (List EV)) (mp sh X Y:PO) (r:Rep):zeq Tryz.prog G 56 [.pp 11 1 0 0] (tM s rs nd ac mp sh X Y r) (.ret (.pub (.v (.bool (decide ((rs.length:Int) < 9))))) (tM s rs nd ac mp sh X Y r)):=by
 refine qj Tryz.func56 rfl (by kernel_rfl) rfl (fun gh hold hmk=>?_)
 refine zn (jy rfl rfl (zg rfl rfl) (zo (zn (jy rfl rfl (zX rfl rfl rfl rfl rfl rfl zt7) (jy rfl rfl (qi rfl rfl rfl rfl) (jy rfl rfl (jJ rfl rfl rfl rfl zz3) (jy rfl rfl (jJ rfl rfl rfl rfl zDs) (jy rfl rfl (jJ rfl rfl rfl rfl zzR) ?_))))))))
 refine jy rfl rfl (zX rfl rfl rfl rfl rfl rfl zq0) (jy rfl rfl (zwU rfl rfl rfl zzU Tryz.underlying29) (jy rfl rfl (qx rfl rfl rfl) (jy rfl rfl (zg rfl rfl) (zo (zN ?_)))))
 exact zaE [] rfl hmk (by simp [tM]) (.inr rfl) (by simp [EV.lt]) rfl
theorem f57:ACall Tryz.prog G 57 [] (.v (.bool true)):=by
 refine zO Tryz.func57 rfl (by kernel_rfl) rfl ?_
 refine zn (jy rfl rfl (zg rfl rfl) (zo (zn (jy rfl rfl (zg rfl rfl) (zo (zN ?_))))))
 exact ⟨.inr rfl, AVle.refl _⟩
theorem zCG (s:Sut) (rs:List Rep) (nd:Nat) (ac:List (List EV)) (mp sh X Y:PO) (r:Rep):zeq Tryz.prog G 145 [.pp 14 1 0 0] (tM s rs nd ac mp sh X Y r) (.ret (I (if zDr (w1 s r) then 0 else 2)) (tM s rs nd ac mp sh X Y r)):=by
 refine qj Tryz.func145 rfl (by kernel_rfl) rfl (fun gh hold hmk=>?_)
 refine zn (jy rfl rfl (zg rfl rfl) (zo (zn (jy rfl rfl (zX rfl rfl rfl rfl rfl rfl zCz) (qL rfl (zfW (f:=55) (fs:=[]) (cs:=[.pp 11 1 0 0, .pp 12 1 0 0]) (av:=[]) rfl rfl ⟨rfl, rfl, rfl⟩ trivial (m55 s rs nd ac mp sh X Y r)) (jy rfl rfl (zB (av:=[_, _]) rfl ⟨rfl, rfl, trivial⟩ (f144 _ _)) (jy rfl rfl (zg rfl rfl) (zM ?_))))))))
 refine zk (zN ?_)
 exact zaE [] rfl hmk (by simp [tM]) (.inr rfl) (by simp [EV.lt]) rfl
theorem zC4 (s:Sut) (rs:List Rep) (nd:Nat) (ac:List (List EV)) (mp sh X Y:PO) (r:Rep) (ha:ac.length < 60):zeq Tryz.prog G 146 [.pp 13 1 0 0, .pp 15 1 0 0] (tM s rs nd ac mp sh X Y r) (.ret (I (if decide ((rs.length:Int) < 9) then 0 else 6)) (tM s rs nd ac mp sh X Y r)):=by
 refine qj Tryz.func146 rfl (by kernel_rfl) rfl (fun gh hold hmk=>?_)
 refine zn (jy rfl rfl (zg rfl rfl) (zo (zn (jy rfl rfl (zX rfl rfl rfl rfl rfl rfl zt7) (jy rfl rfl (qi rfl rfl rfl rfl) (jy rfl rfl (jJ rfl rfl rfl rfl zAy) (jy rfl rfl (zX rfl rfl rfl rfl rfl rfl zBQ) (jy rfl rfl (zwU rfl rfl rfl rfl Tryz.underlying146) ?_))))))))
 refine jy rfl rfl (qx rfl rfl rfl) (jy rfl rfl (zh rfl rfl) ?_)
 refine zr3 (fun _ h=>by cases h) rfl ((congrArg some (by simp; omega))) (OpY.toM (by exact zX rfl rfl rfl rfl rfl rfl zCz) (qC rfl)) ?_
 refine zr3 (fun _ h=>by cases h) rfl ((congrArg some (by simp; omega))) (zfW (f:=56) (fs:=[]) (cs:=[.pp 11 1 0 0]) (av:=[]) rfl rfl ⟨rfl, rfl, rfl⟩ trivial (m56 s rs nd ac mp sh X Y r)) ?_
 refine jy rfl rfl (yZ rfl rfl (fun _=>rfl) (fun h=>absurd h (by simp; omega))) ?_
 refine jy rfl rfl (zB (av:=[_, _]) rfl ⟨rfl, rfl, trivial⟩ (f144 _ _)) (jy rfl rfl (zg rfl rfl) (zo (zN ?_)))
 exact zaE [] rfl hmk (by simp [tM]) (.inr rfl) (by simp [EV.lt]) rfl
theorem zDk (s:Sut) (rs:List Rep) (nd:Nat) (ac:List (List EV)) (mp sh X Y:PO) (r:Rep):zeq Tryz.prog G 147 [.pp 16 1 0 0] (tM s rs nd ac mp sh X Y r) (.ret (I 0) (tM s rs nd ac mp sh X Y r)):=by
 refine qj Tryz.func147 rfl (by kernel_rfl) rfl (fun gh hold hmk=>?_)
 refine zn (jy rfl rfl (zg rfl rfl) (zo (zn (jy rfl rfl (zX rfl rfl rfl rfl rfl rfl zCz) (qL rfl (zfW (f:=57) (fs:=[]) (cs:=[]) (av:=[]) rfl rfl ⟨rfl, rfl, rfl⟩ trivial f57.m) (jy rfl rfl (zB (av:=[_, _]) rfl ⟨rfl, rfl, trivial⟩ (f144 _ _)) (jy rfl rfl (zg rfl rfl) (zM ?_))))))))
 refine zk (zN ?_)
 exact zaE [] rfl hmk (by simp [tM]) (.inr rfl) (by simp [EV.lt]) rfl
end Hs
end Go.Av
end
section
namespace Go.Av
namespace Hs
open Go.Proofs
set_option maxRecDepth 100000
set_option maxHeartbeats 1000000
variable {G:Glob}
theorem zC0:Tryz.prog.info? 260 = some Tryz.t260:=by kernel_rfl
theorem zB0 (s:Sut) (rs:List Rep) (nd:Nat) (ac:List (List EV)) (mp sh X Y:PO) (r:Rep) (hok:zDr (w1 s r) = false):zeq Tryz.prog G 54 [.pp 5 1 0 0, .pub (.ifc 153 (.agg (eRep r))), zAX, zAV, zA4] (pM s rs nd ac mp sh X Y r) (.ret (I 2) (pM s rs nd ac mp sh X Y r)):=by
 have q145:zeq Tryz.prog G 145 [.pp 14 1 0 0] (tM s rs nd ac mp sh X Y r) (.ret (I 2) (tM s rs nd ac mp sh X Y r)):=by
  have:=zCG (G:=G) s rs nd ac mp sh X Y r
  rw [hok] at this
  exact this
 refine qj Tryz.func54 rfl (by kernel_rfl) rfl (fun gh hold hmk=>?_)
 refine zn (qL rfl (zru rfl rfl (zAd rfl rfl rfl)) (qL rfl (zru rfl rfl (zkm rfl)) (qL rfl (zru rfl rfl (zkm rfl)) (qL rfl (zru rfl rfl (zg4 rfl)) (jy rfl rfl (zg rfl rfl) (zo (zt (zn ?_))))))))
 refine jy rfl rfl (vP rfl) (jy rfl rfl (vP rfl) (jy rfl rfl (vP rfl) (jy rfl rfl (vP rfl) ?_)))
 refine jy rfl rfl (zAl (cs:=[_, _, _, _]) rfl zBT rfl ⟨_, _, rfl, zkm rfl, _, _, rfl, zkm rfl, _, _, rfl, zkm rfl, _, _, rfl, zkm rfl, rfl⟩ (by rfl) (by simp)) ?_
 refine jy rfl rfl (zh rfl rfl) (zo (zF ?_))
 refine qm (ι:={ k:Nat // k < 2 }) (fun k=>match k.1 with | 0=>⟨⟨Tryz.f54.ntmps, [], gh, false, hold⟩, frL [(1, .pub (.ifc 153 (.agg (eRep r)))), (5, .pp 13 1 0 0), (7, .pp 14 1 0 0), (8, .pp 15 1 0 0), (9, .pp 16 1 0 0), (18, .mix [.fnm 143 [] [.pp 13 1 0 0], .fnm 145 [] [.pp 14 1 0 0], .fnm 146 [] [.pp 13 1 0 0, .pp 15 1 0 0], .fnm 147 [] [.pp 16 1 0 0]]), (19, I 0)], (tM s rs nd ac mp sh X Y r)⟩ | _=>⟨⟨Tryz.f54.ntmps, [], gh, false, hold⟩, frL [(1, .pub (.ifc 153 (.agg (eRep r)))), (5, .pp 13 1 0 0), (7, .pp 14 1 0 0), (8, .pp 15 1 0 0), (9, .pp 16 1 0 0), (18, .mix [.fnm 143 [] [.pp 13 1 0 0], .fnm 145 [] [.pp 14 1 0 0], .fnm 146 [] [.pp 13 1 0 0, .pp 15 1 0 0], .fnm 147 [] [.pp 16 1 0 0]]), (19, I 1)], (tM s rs nd ac mp sh X Y r)⟩) (fun k=>2 - k.1) (⟨0, by omega⟩) ?_ ?_
 ·exact zy _ ⟨rfl, rfl, rfl, rfl, rfl, rfl, rfl, trivial⟩ (rfl)
 ·rintro ⟨k, hk⟩
  have hk3:k = 0 ∨ k = 1:=by omega
  rcases hk3 with rfl | rfl
  ·dsimp only
   refine zn (jy rfl rfl (qx rfl rfl rfl) (zo (zt (zA rfl (fun h0=>?_) (fun h0=>?_)))))
   ·skip
    refine zH (zk (zt (zF (zn ?_))))
    refine jy rfl rfl (zzQ rfl rfl rfl zz5 (fun e he=>by rw [Tryz.underlying263] at he; cases he; exact zAg) (by omega) (by omega) rfl) ?_
    refine jy rfl rfl (zvO rfl rfl) (zo (zn (jy rfl rfl (zwN rfl rfl) (qL rfl (zfW (f:=143) (fs:=[]) (cs:=[.pp 13 1 0 0]) (av:=[]) rfl rfl ⟨rfl, rfl, rfl⟩ trivial (zCU s rs nd ac mp sh X Y r)) (jy rfl rfl (zg rfl rfl) (zo (zn ?_)))))))
    refine jy rfl rfl (zh rfl rfl) (jy rfl rfl (wE rfl rfl rfl) (zo (zA rfl (fun h1=>?_) (fun h1=>?_))))
    ·skip
     exfalso; simp at h1
    ·skip
     refine zH (zJ (zk (zx (jy rfl rfl (zW rfl rfl rfl ⟨by omega, by omega⟩) (jy rfl rfl (zh rfl rfl) (zM ?_))))))
     exact ⟨⟨1, by omega⟩, by dsimp only; omega, (by refine zy (mem':=(tM s rs nd ac mp sh X Y r)) [(1, .pub (.ifc 153 (.agg (eRep r)))), (5, .pp 13 1 0 0), (7, .pp 14 1 0 0), (8, .pp 15 1 0 0), (9, .pp 16 1 0 0), (18, .mix [.fnm 143 [] [.pp 13 1 0 0], .fnm 145 [] [.pp 14 1 0 0], .fnm 146 [] [.pp 13 1 0 0, .pp 15 1 0 0], .fnm 147 [] [.pp 16 1 0 0]]), (19, I 1)] ?_ ?_; exact ⟨rfl, rfl, rfl, rfl, rfl, rfl, rfl, trivial⟩; exact (rfl))⟩
   ·skip
    exfalso; simp at h0
  ·dsimp only
   refine zn (jy rfl rfl (qx rfl rfl rfl) (zo (zt (zA rfl (fun h0=>?_) (fun h0=>?_)))))
   ·skip
    refine zH (zk (zt (zF (zn ?_))))
    refine jy rfl rfl (zzQ rfl rfl rfl zz5 (fun e he=>by rw [Tryz.underlying263] at he; cases he; exact zAg) (by omega) (by omega) rfl) ?_
    refine jy rfl rfl (zvO rfl rfl) (zo (zn (jy rfl rfl (zwN rfl rfl) (qL rfl (zfW (f:=145) (fs:=[]) (cs:=[.pp 14 1 0 0]) (av:=[]) rfl rfl ⟨rfl, rfl, rfl⟩ trivial q145) (jy rfl rfl (zg rfl rfl) (zo (zn ?_)))))))
    refine jy rfl rfl (zh rfl rfl) (jy rfl rfl (wE rfl rfl rfl) (zo (zA rfl (fun h1=>?_) (fun h1=>?_))))
    ·skip
     refine zn (jy rfl rfl (zh rfl rfl) (jy rfl rfl (zg rfl rfl) (zo (zN (zZ (zP (zP (zZ (zP ?_)))))))))
     exact zaE [_, _, _, _] rfl hmk (by simp) (.inr rfl) (by simp [EV.lt]) rfl
    ·skip
     exfalso; simp at h1
   ·skip
    exfalso; simp at h0
theorem zBH (s:Sut) (rs:List Rep) (nd:Nat) (ac:List (List EV)) (mp sh X Y:PO) (r:Rep) (hok:zDr (w1 s r) = true) (ha:ac.length < 60) (hr:9 <= rs.length):zeq Tryz.prog G 54 [.pp 5 1 0 0, .pub (.ifc 153 (.agg (eRep r))), zAX, zAV, zA4] (pM s rs nd ac mp sh X Y r) (.ret (I 6) (pM s rs nd ac mp sh X Y r)):=by
 have q145:zeq Tryz.prog G 145 [.pp 14 1 0 0] (tM s rs nd ac mp sh X Y r) (.ret (I 0) (tM s rs nd ac mp sh X Y r)):=by
  have:=zCG (G:=G) s rs nd ac mp sh X Y r
  rw [hok] at this
  exact this
 have q146:zeq Tryz.prog G 146 [.pp 13 1 0 0, .pp 15 1 0 0] (tM s rs nd ac mp sh X Y r) (.ret (I 6) (tM s rs nd ac mp sh X Y r)):=by
  have:=zC4 (G:=G) s rs nd ac mp sh X Y r ha
  rw [show decide ((rs.length:Int) < 9) = false by simp; omega] at this
  exact this
 refine qj Tryz.func54 rfl (by kernel_rfl) rfl (fun gh hold hmk=>?_)
 refine zn (qL rfl (zru rfl rfl (zAd rfl rfl rfl)) (qL rfl (zru rfl rfl (zkm rfl)) (qL rfl (zru rfl rfl (zkm rfl)) (qL rfl (zru rfl rfl (zg4 rfl)) (jy rfl rfl (zg rfl rfl) (zo (zt (zn ?_))))))))
 refine jy rfl rfl (vP rfl) (jy rfl rfl (vP rfl) (jy rfl rfl (vP rfl) (jy rfl rfl (vP rfl) ?_)))
 refine jy rfl rfl (zAl (cs:=[_, _, _, _]) rfl zBT rfl ⟨_, _, rfl, zkm rfl, _, _, rfl, zkm rfl, _, _, rfl, zkm rfl, _, _, rfl, zkm rfl, rfl⟩ (by rfl) (by simp)) ?_
 refine jy rfl rfl (zh rfl rfl) (zo (zF ?_))
 refine qm (ι:={ k:Nat // k < 3 }) (fun k=>match k.1 with | 0=>⟨⟨Tryz.f54.ntmps, [], gh, false, hold⟩, frL [(1, .pub (.ifc 153 (.agg (eRep r)))), (5, .pp 13 1 0 0), (7, .pp 14 1 0 0), (8, .pp 15 1 0 0), (9, .pp 16 1 0 0), (18, .mix [.fnm 143 [] [.pp 13 1 0 0], .fnm 145 [] [.pp 14 1 0 0], .fnm 146 [] [.pp 13 1 0 0, .pp 15 1 0 0], .fnm 147 [] [.pp 16 1 0 0]]), (19, I 0)], (tM s rs nd ac mp sh X Y r)⟩ | 1=>⟨⟨Tryz.f54.ntmps, [], gh, false, hold⟩, frL [(1, .pub (.ifc 153 (.agg (eRep r)))), (5, .pp 13 1 0 0), (7, .pp 14 1 0 0), (8, .pp 15 1 0 0), (9, .pp 16 1 0 0), (18, .mix [.fnm 143 [] [.pp 13 1 0 0], .fnm 145 [] [.pp 14 1 0 0], .fnm 146 [] [.pp 13 1 0 0, .pp 15 1 0 0], .fnm 147 [] [.pp 16 1 0 0]]), (19, I 1)], (tM s rs nd ac mp sh X Y r)⟩ | _=>⟨⟨Tryz.f54.ntmps, [], gh, false, hold⟩, frL [(1, .pub (.ifc 153 (.agg (eRep r)))), (5, .pp 13 1 0 0), (7, .pp 14 1 0 0), (8, .pp 15 1 0 0), (9, .pp 16 1 0 0), (18, .mix [.fnm 143 [] [.pp 13 1 0 0], .fnm 145 [] [.pp 14 1 0 0], .fnm 146 [] [.pp 13 1 0 0, .pp 15 1 0 0], .fnm 147 [] [.pp 16 1 0 0]]), (19, I 2)], (tM s rs nd ac mp sh X Y r)⟩) (fun k=>3 - k.1) (⟨0, by omega⟩) ?_ ?_
 ·exact zy _ ⟨rfl, rfl, rfl, rfl, rfl, rfl, rfl, trivial⟩ (rfl)
 ·rintro ⟨k, hk⟩
  have hk3:k = 0 ∨ k = 1 ∨ k = 2:=by omega
  rcases hk3 with rfl | rfl | rfl
  ·dsimp only
   refine zn (jy rfl rfl (qx rfl rfl rfl) (zo (zt (zA rfl (fun h0=>?_) (fun h0=>?_)))))
   ·skip
    refine zH (zk (zt (zF (zn ?_))))
    refine jy rfl rfl (zzQ rfl rfl rfl zz5 (fun e he=>by rw [Tryz.underlying263] at he; cases he; exact zAg) (by omega) (by omega) rfl) ?_
    refine jy rfl rfl (zvO rfl rfl) (zo (zn (jy rfl rfl (zwN rfl rfl) (qL rfl (zfW (f:=143) (fs:=[]) (cs:=[.pp 13 1 0 0]) (av:=[]) rfl rfl ⟨rfl, rfl, rfl⟩ trivial (zCU s rs nd ac mp sh X Y r)) (jy rfl rfl (zg rfl rfl) (zo (zn ?_)))))))
    refine jy rfl rfl (zh rfl rfl) (jy rfl rfl (wE rfl rfl rfl) (zo (zA rfl (fun h1=>?_) (fun h1=>?_))))
    ·skip
     exfalso; simp at h1
    ·skip
     refine zH (zJ (zk (zx (jy rfl rfl (zW rfl rfl rfl ⟨by omega, by omega⟩) (jy rfl rfl (zh rfl rfl) (zM ?_))))))
     exact ⟨⟨1, by omega⟩, by dsimp only; omega, (by refine zy (mem':=(tM s rs nd ac mp sh X Y r)) [(1, .pub (.ifc 153 (.agg (eRep r)))), (5, .pp 13 1 0 0), (7, .pp 14 1 0 0), (8, .pp 15 1 0 0), (9, .pp 16 1 0 0), (18, .mix [.fnm 143 [] [.pp 13 1 0 0], .fnm 145 [] [.pp 14 1 0 0], .fnm 146 [] [.pp 13 1 0 0, .pp 15 1 0 0], .fnm 147 [] [.pp 16 1 0 0]]), (19, I 1)] ?_ ?_; exact ⟨rfl, rfl, rfl, rfl, rfl, rfl, rfl, trivial⟩; exact (rfl))⟩
   ·skip
    exfalso; simp at h0
  ·dsimp only
   refine zn (jy rfl rfl (qx rfl rfl rfl) (zo (zt (zA rfl (fun h0=>?_) (fun h0=>?_)))))
   ·skip
    refine zH (zk (zt (zF (zn ?_))))
    refine jy rfl rfl (zzQ rfl rfl rfl zz5 (fun e he=>by rw [Tryz.underlying263] at he; cases he; exact zAg) (by omega) (by omega) rfl) ?_
    refine jy rfl rfl (zvO rfl rfl) (zo (zn (jy rfl rfl (zwN rfl rfl) (qL rfl (zfW (f:=145) (fs:=[]) (cs:=[.pp 14 1 0 0]) (av:=[]) rfl rfl ⟨rfl, rfl, rfl⟩ trivial q145) (jy rfl rfl (zg rfl rfl) (zo (zn ?_)))))))
    refine jy rfl rfl (zh rfl rfl) (jy rfl rfl (wE rfl rfl rfl) (zo (zA rfl (fun h1=>?_) (fun h1=>?_))))
    ·skip
     exfalso; simp at h1
    ·skip
     refine zH (zJ (zk (zx (jy rfl rfl (zW rfl rfl rfl ⟨by omega, by omega⟩) (jy rfl rfl (zh rfl rfl) (zM ?_))))))
     exact ⟨⟨2, by omega⟩, by dsimp only; omega, (by refine zy (mem':=(tM s rs nd ac mp sh X Y r)) [(1, .pub (.ifc 153 (.agg (eRep r)))), (5, .pp 13 1 0 0), (7, .pp 14 1 0 0), (8, .pp 15 1 0 0), (9, .pp 16 1 0 0), (18, .mix [.fnm 143 [] [.pp 13 1 0 0], .fnm 145 [] [.pp 14 1 0 0], .fnm 146 [] [.pp 13 1 0 0, .pp 15 1 0 0], .fnm 147 [] [.pp 16 1 0 0]]), (19, I 2)] ?_ ?_; exact ⟨rfl, rfl, rfl, rfl, rfl, rfl, rfl, trivial⟩; exact (rfl))⟩
   ·skip
    exfalso; simp at h0
  ·dsimp only
   refine zn (jy rfl rfl (qx rfl rfl rfl) (zo (zt (zA rfl (fun h0=>?_) (fun h0=>?_)))))
   ·skip
    refine zH (zk (zt (zF (zn ?_))))
    refine jy rfl rfl (zzQ rfl rfl rfl zz5 (fun e he=>by rw [Tryz.underlying263] at he; cases he; exact zAg) (by omega) (by omega) rfl) ?_
    refine jy rfl rfl (zvO rfl rfl) (zo (zn (jy rfl rfl (zwN rfl rfl) (qL rfl (zfW (f:=146) (fs:=[]) (cs:=[.pp 13 1 0 0, .pp 15 1 0 0]) (av:=[]) rfl rfl ⟨rfl, rfl, rfl⟩ trivial q146) (jy rfl rfl (zg rfl rfl) (zo (zn ?_)))))))
    refine jy rfl rfl (zh rfl rfl) (jy rfl rfl (wE rfl rfl rfl) (zo (zA rfl (fun h1=>?_) (fun h1=>?_))))
    ·skip
     refine zn (jy rfl rfl (zh rfl rfl) (jy rfl rfl (zg rfl rfl) (zo (zN (zZ (zP (zP (zZ (zP ?_)))))))))
     exact zaE [_, _, _, _] rfl hmk (by simp) (.inr rfl) (by simp [EV.lt]) rfl
    ·skip
     exfalso; simp at h1
   ·skip
    exfalso; simp at h0
theorem zCY (s:Sut) (rs:List Rep) (nd:Nat) (ac:List (List EV)) (mp sh X Y:PO) (r:Rep):[.dead, .dead, .dead, .row (zzP rs), .map [], .row [zaV s rs.length nd (ac.length + 1)], mp, sh, .row (ac ++ [zAe r]), X, Y, .row [[.pp 5 1 0 0]], .row [(eRep r).map .pub], .row [[.pp 5 1 0 0]], .row [[zAX]], .row [[zAV]], .row [[zA4]]] = tM s rs nd (ac ++ [zAe r]) mp sh X Y r:=by
 rw [tM, List.length_append]; rfl
theorem zCF {ac:List (List EV)} {r:Rep} {k:Nat} (h:PO.okL k (.row ac)):PO.okL k (.row (ac ++ [zAe r])):=fun q hq x hx=>by
 rcases List.mem_append.1 hq with hq | hq
 ·exact h q hq x hx
 ·rw [List.mem_singleton] at hq; subst hq
  simp only[zAe, List.mem_singleton] at hx; subst hx
  simp [EV.lt]
theorem zCS (s:Sut) (rs:List Rep) (nd:Nat) (ac:List (List EV)) (mp sh X Y:PO) (r:Rep) (hok:zDr (w1 s r) = true) (ha:ac.length < 60) (hr:rs.length < 9) (hac:∀ q ∈ ac, q.length = 1):zeq Tryz.prog G 54 [.pp 5 1 0 0, .pub (.ifc 153 (.agg (eRep r))), zAX, zAV, zA4] (pM s rs nd ac mp sh X Y r) (.ret (I 0) (pM s rs nd (ac ++ [zAe r]) mp sh X Y r)):=by
 have q145:zeq Tryz.prog G 145 [.pp 14 1 0 0] (tM s rs nd ac mp sh X Y r) (.ret (I 0) (tM s rs nd ac mp sh X Y r)):=by
  have:=zCG (G:=G) s rs nd ac mp sh X Y r
  rw [hok] at this
  exact this
 have q146:zeq Tryz.prog G 146 [.pp 13 1 0 0, .pp 15 1 0 0] (tM s rs nd ac mp sh X Y r) (.ret (I 0) (tM s rs nd ac mp sh X Y r)):=by
  have:=zC4 (G:=G) s rs nd ac mp sh X Y r ha
  rw [show decide ((rs.length:Int) < 9) = true by simp; omega] at this
  exact this
 refine qj Tryz.func54 rfl (by kernel_rfl) rfl (fun gh hold hmk=>?_)
 refine zn (qL rfl (zru rfl rfl (zAd rfl rfl rfl)) (qL rfl (zru rfl rfl (zkm rfl)) (qL rfl (zru rfl rfl (zkm rfl)) (qL rfl (zru rfl rfl (zg4 rfl)) (jy rfl rfl (zg rfl rfl) (zo (zt (zn ?_))))))))
 refine jy rfl rfl (vP rfl) (jy rfl rfl (vP rfl) (jy rfl rfl (vP rfl) (jy rfl rfl (vP rfl) ?_)))
 refine jy rfl rfl (zAl (cs:=[_, _, _, _]) rfl zBT rfl ⟨_, _, rfl, zkm rfl, _, _, rfl, zkm rfl, _, _, rfl, zkm rfl, _, _, rfl, zkm rfl, rfl⟩ (by rfl) (by simp)) ?_
 refine jy rfl rfl (zh rfl rfl) (zo (zF ?_))
 refine qm (ι:={ k:Nat // k < 5 }) (fun k=>match k.1 with | 0=>⟨⟨Tryz.f54.ntmps, [], gh, false, hold⟩, frL [(1, .pub (.ifc 153 (.agg (eRep r)))), (5, .pp 13 1 0 0), (7, .pp 14 1 0 0), (8, .pp 15 1 0 0), (9, .pp 16 1 0 0), (18, .mix [.fnm 143 [] [.pp 13 1 0 0], .fnm 145 [] [.pp 14 1 0 0], .fnm 146 [] [.pp 13 1 0 0, .pp 15 1 0 0], .fnm 147 [] [.pp 16 1 0 0]]), (19, I 0)], (tM s rs nd ac mp sh X Y r)⟩ | 1=>⟨⟨Tryz.f54.ntmps, [], gh, false, hold⟩, frL [(1, .pub (.ifc 153 (.agg (eRep r)))), (5, .pp 13 1 0 0), (7, .pp 14 1 0 0), (8, .pp 15 1 0 0), (9, .pp 16 1 0 0), (18, .mix [.fnm 143 [] [.pp 13 1 0 0], .fnm 145 [] [.pp 14 1 0 0], .fnm 146 [] [.pp 13 1 0 0, .pp 15 1 0 0], .fnm 147 [] [.pp 16 1 0 0]]), (19, I 1)], (tM s rs nd ac mp sh X Y r)⟩ | 2=>⟨⟨Tryz.f54.ntmps, [], gh, false, hold⟩, frL [(1, .pub (.ifc 153 (.agg (eRep r)))), (5, .pp 13 1 0 0), (7, .pp 14 1 0 0), (8, .pp 15 1 0 0), (9, .pp 16 1 0 0), (18, .mix [.fnm 143 [] [.pp 13 1 0 0], .fnm 145 [] [.pp 14 1 0 0], .fnm 146 [] [.pp 13 1 0 0, .pp 15 1 0 0], .fnm 147 [] [.pp 16 1 0 0]]), (19, I 2)], (tM s rs nd ac mp sh X Y r)⟩ | 3=>⟨⟨Tryz.f54.ntmps, [], gh, false, hold⟩, frL [(1, .pub (.ifc 153 (.agg (eRep r)))), (5, .pp 13 1 0 0), (7, .pp 14 1 0 0), (8, .pp 15 1 0 0), (9, .pp 16 1 0 0), (18, .mix [.fnm 143 [] [.pp 13 1 0 0], .fnm 145 [] [.pp 14 1 0 0], .fnm 146 [] [.pp 13 1 0 0, .pp 15 1 0 0], .fnm 147 [] [.pp 16 1 0 0]]), (19, I 3)], (tM s rs nd ac mp sh X Y r)⟩ | _=>⟨⟨Tryz.f54.ntmps, [], gh, false, hold⟩, frL [(1, .pub (.ifc 153 (.agg (eRep r)))), (5, .pp 13 1 0 0), (7, .pp 14 1 0 0), (8, .pp 15 1 0 0), (9, .pp 16 1 0 0), (18, .mix [.fnm 143 [] [.pp 13 1 0 0], .fnm 145 [] [.pp 14 1 0 0], .fnm 146 [] [.pp 13 1 0 0, .pp 15 1 0 0], .fnm 147 [] [.pp 16 1 0 0]]), (19, I 4)], (tM s rs nd ac mp sh X Y r)⟩) (fun k=>5 - k.1) (⟨0, by omega⟩) ?_ ?_
 ·exact zy _ ⟨rfl, rfl, rfl, rfl, rfl, rfl, rfl, trivial⟩ (rfl)
 ·rintro ⟨k, hk⟩
  have hk3:k = 0 ∨ k = 1 ∨ k = 2 ∨ k = 3 ∨ k = 4:=by omega
  rcases hk3 with rfl | rfl | rfl | rfl | rfl
  ·dsimp only
   refine zn (jy rfl rfl (qx rfl rfl rfl) (zo (zt (zA rfl (fun h0=>?_) (fun h0=>?_)))))
   ·skip
    refine zH (zk (zt (zF (zn ?_))))
    refine jy rfl rfl (zzQ rfl rfl rfl zz5 (fun e he=>by rw [Tryz.underlying263] at he; cases he; exact zAg) (by omega) (by omega) rfl) ?_
    refine jy rfl rfl (zvO rfl rfl) (zo (zn (jy rfl rfl (zwN rfl rfl) (qL rfl (zfW (f:=143) (fs:=[]) (cs:=[.pp 13 1 0 0]) (av:=[]) rfl rfl ⟨rfl, rfl, rfl⟩ trivial (zCU s rs nd ac mp sh X Y r)) (jy rfl rfl (zg rfl rfl) (zo (zn ?_)))))))
    refine jy rfl rfl (zh rfl rfl) (jy rfl rfl (wE rfl rfl rfl) (zo (zA rfl (fun h1=>?_) (fun h1=>?_))))
    ·skip
     exfalso; simp at h1
    ·skip
     refine zH (zJ (zk (zx (jy rfl rfl (zW rfl rfl rfl ⟨by omega, by omega⟩) (jy rfl rfl (zh rfl rfl) (zM ?_))))))
     exact ⟨⟨1, by omega⟩, by dsimp only; omega, (by refine zy (mem':=(tM s rs nd ac mp sh X Y r)) [(1, .pub (.ifc 153 (.agg (eRep r)))), (5, .pp 13 1 0 0), (7, .pp 14 1 0 0), (8, .pp 15 1 0 0), (9, .pp 16 1 0 0), (18, .mix [.fnm 143 [] [.pp 13 1 0 0], .fnm 145 [] [.pp 14 1 0 0], .fnm 146 [] [.pp 13 1 0 0, .pp 15 1 0 0], .fnm 147 [] [.pp 16 1 0 0]]), (19, I 1)] ?_ ?_; exact ⟨rfl, rfl, rfl, rfl, rfl, rfl, rfl, trivial⟩; exact (rfl))⟩
   ·skip
    exfalso; simp at h0
  ·dsimp only
   refine zn (jy rfl rfl (qx rfl rfl rfl) (zo (zt (zA rfl (fun h0=>?_) (fun h0=>?_)))))
   ·skip
    refine zH (zk (zt (zF (zn ?_))))
    refine jy rfl rfl (zzQ rfl rfl rfl zz5 (fun e he=>by rw [Tryz.underlying263] at he; cases he; exact zAg) (by omega) (by omega) rfl) ?_
    refine jy rfl rfl (zvO rfl rfl) (zo (zn (jy rfl rfl (zwN rfl rfl) (qL rfl (zfW (f:=145) (fs:=[]) (cs:=[.pp 14 1 0 0]) (av:=[]) rfl rfl ⟨rfl, rfl, rfl⟩ trivial q145) (jy rfl rfl (zg rfl rfl) (zo (zn ?_)))))))
    refine jy rfl rfl (zh rfl rfl) (jy rfl rfl (wE rfl rfl rfl) (zo (zA rfl (fun h1=>?_) (fun h1=>?_))))
    ·skip
     exfalso; simp at h1
    ·skip
     refine zH (zJ (zk (zx (jy rfl rfl (zW rfl rfl rfl ⟨by omega, by omega⟩) (jy rfl rfl (zh rfl rfl) (zM ?_))))))
     exact ⟨⟨2, by omega⟩, by dsimp only; omega, (by refine zy (mem':=(tM s rs nd ac mp sh X Y r)) [(1, .pub (.ifc 153 (.agg (eRep r)))), (5, .pp 13 1 0 0), (7, .pp 14 1 0 0), (8, .pp 15 1 0 0), (9, .pp 16 1 0 0), (18, .mix [.fnm 143 [] [.pp 13 1 0 0], .fnm 145 [] [.pp 14 1 0 0], .fnm 146 [] [.pp 13 1 0 0, .pp 15 1 0 0], .fnm 147 [] [.pp 16 1 0 0]]), (19, I 2)] ?_ ?_; exact ⟨rfl, rfl, rfl, rfl, rfl, rfl, rfl, trivial⟩; exact (rfl))⟩
   ·skip
    exfalso; simp at h0
  ·dsimp only
   refine zn (jy rfl rfl (qx rfl rfl rfl) (zo (zt (zA rfl (fun h0=>?_) (fun h0=>?_)))))
   ·skip
    refine zH (zk (zt (zF (zn ?_))))
    refine jy rfl rfl (zzQ rfl rfl rfl zz5 (fun e he=>by rw [Tryz.underlying263] at he; cases he; exact zAg) (by omega) (by omega) rfl) ?_
    refine jy rfl rfl (zvO rfl rfl) (zo (zn (jy rfl rfl (zwN rfl rfl) (qL rfl (zfW (f:=146) (fs:=[]) (cs:=[.pp 13 1 0 0, .pp 15 1 0 0]) (av:=[]) rfl rfl ⟨rfl, rfl, rfl⟩ trivial q146) (jy rfl rfl (zg rfl rfl) (zo (zn ?_)))))))
    refine jy rfl rfl (zh rfl rfl) (jy rfl rfl (wE rfl rfl rfl) (zo (zA rfl (fun h1=>?_) (fun h1=>?_))))
    ·skip
     exfalso; simp at h1
    ·skip
     refine zH (zJ (zk (zx (jy rfl rfl (zW rfl rfl rfl ⟨by omega, by omega⟩) (jy rfl rfl (zh rfl rfl) (zM ?_))))))
     exact ⟨⟨3, by omega⟩, by dsimp only; omega, (by refine zy (mem':=(tM s rs nd ac mp sh X Y r)) [(1, .pub (.ifc 153 (.agg (eRep r)))), (5, .pp 13 1 0 0), (7, .pp 14 1 0 0), (8, .pp 15 1 0 0), (9, .pp 16 1 0 0), (18, .mix [.fnm 143 [] [.pp 13 1 0 0], .fnm 145 [] [.pp 14 1 0 0], .fnm 146 [] [.pp 13 1 0 0, .pp 15 1 0 0], .fnm 147 [] [.pp 16 1 0 0]]), (19, I 3)] ?_ ?_; exact ⟨rfl, rfl, rfl, rfl, rfl, rfl, rfl, trivial⟩; exact (rfl))⟩
   ·skip
    exfalso; simp at h0
  ·dsimp only
   refine zn (jy rfl rfl (qx rfl rfl rfl) (zo (zt (zA rfl (fun h0=>?_) (fun h0=>?_)))))
   ·skip
    refine zH (zk (zt (zF (zn ?_))))
    refine jy rfl rfl (zzQ rfl rfl rfl zz5 (fun e he=>by rw [Tryz.underlying263] at he; cases he; exact zAg) (by omega) (by omega) rfl) ?_
    refine jy rfl rfl (zvO rfl rfl) (zo (zn (jy rfl rfl (zwN rfl rfl) (qL rfl (zfW (f:=147) (fs:=[]) (cs:=[.pp 16 1 0 0]) (av:=[]) rfl rfl ⟨rfl, rfl, rfl⟩ trivial (zDk s rs nd ac mp sh X Y r)) (jy rfl rfl (zg rfl rfl) (zo (zn ?_)))))))
    refine jy rfl rfl (zh rfl rfl) (jy rfl rfl (wE rfl rfl rfl) (zo (zA rfl (fun h1=>?_) (fun h1=>?_))))
    ·skip
     exfalso; simp at h1
    ·skip
     refine zH (zJ (zk (zx (jy rfl rfl (zW rfl rfl rfl ⟨by omega, by omega⟩) (jy rfl rfl (zh rfl rfl) (zM ?_))))))
     exact ⟨⟨4, by omega⟩, by dsimp only; omega, (by refine zy (mem':=(tM s rs nd ac mp sh X Y r)) [(1, .pub (.ifc 153 (.agg (eRep r)))), (5, .pp 13 1 0 0), (7, .pp 14 1 0 0), (8, .pp 15 1 0 0), (9, .pp 16 1 0 0), (18, .mix [.fnm 143 [] [.pp 13 1 0 0], .fnm 145 [] [.pp 14 1 0 0], .fnm 146 [] [.pp 13 1 0 0, .pp 15 1 0 0], .fnm 147 [] [.pp 16 1 0 0]]), (19, I 4)] ?_ ?_; exact ⟨rfl, rfl, rfl, rfl, rfl, rfl, rfl, trivial⟩; exact (rfl))⟩
   ·skip
    exfalso; simp at h0
  ·dsimp only
   refine zn (jy rfl rfl (qx rfl rfl rfl) (zo (zt (zA rfl (fun h0=>?_) (fun h0=>?_)))))
   ·skip
    exfalso; simp at h0
   ·skip
    refine zAj (zS (zS (zAi (zk (zt ?_)))))
    refine zfD (fun mm=>(∃ r, mm[5]? = some (PO.row [r])) /\ mm[13]? = some (PO.row [[.pp 5 1 0 0]])) (fun k=>match k with | 0=>.stable | 1=>.stable | 2=>.stable | 3=>.stable | 4=>.rd [5] | 5=>.stable | 6=>.stable | 7=>.rw [] (8) | 8=>.stable | 9=>.stable | 10=>.writes | _=>.here) mixed (by kernel_rfl) rfl (by kernel_rfl) ⟨⟨_, rfl⟩, rfl⟩ ?_
    refine jv rfl rfl (fun m hm=>zX rfl rfl hm.2 rfl rfl rfl zt7) (jv rfl rfl (fun m hm=>zX rfl rfl hm.2 rfl rfl rfl zt7) (jv rfl rfl (fun m hm=>qi (rows:=[hm.1.choose]) rfl rfl hm.1.choose_spec rfl) (jv rfl rfl (fun m hm=>jJ (rows:=[hm.1.choose]) rfl rfl hm.1.choose_spec rfl zAy) ?_)))
    refine zsH [5] rfl rfl (fun m hm hC=>zX (rows:=[(zaV s rs.length nd ac.length)]) (r:=(zaV s rs.length nd ac.length)) rfl rfl (hm.one 5 rfl) rfl rfl rfl zBQ) ?_
    refine jv rfl rfl (fun m hm=>zI rfl rfl) ?_
    refine jv rfl rfl (fun m hm=>qy (size:=1) (rows:=[[_]]) rfl Tryz.underlying146 zC0 rfl (by decide) rfl (by decide) ⟨_, _, rfl, (zAv rfl), rfl⟩ (by rfl) (by simp [ofV]) rfl (by simp)) ?_
    refine ztC rfl rfl (fun m hm hC=>⟨zbg rfl rfl (hm.trans rfl) rfl rfl zC5 hac (by intro r hr; simp at hr; subst hr; rfl) (by simp; omega) (by unfold maxLen; simp; omega), ⟨hC.1.imp fun r hr=>(List.getElem?_set_ne (by decide)).trans hr, (List.getElem?_set_ne (by decide)).trans hC.2⟩⟩) ?_
    refine jv rfl rfl (fun m hm=>qi (rows:=[hm.1.choose]) rfl rfl hm.1.choose_spec rfl) (jv rfl rfl (fun m hm=>jJ (rows:=[hm.1.choose]) rfl rfl hm.1.choose_spec rfl zAy) ?_)
    refine zpt rfl rfl (zd0 rfl rfl rfl rfl rfl rfl (zc7 rfl rfl (by first | (simp; done) | (simp; omega))) zBQ (by rfl) (by rfl)) ⟨⟨_, rfl⟩, rfl⟩ ?_
    refine zfa (zk (zt ?_))
    refine qY (zy (mem':=tM s rs nd (ac ++ [zAe r]) mp sh X Y r) [] trivial (zCY s rs nd ac mp sh X Y r)) ?_
    refine zx (jy rfl rfl (zg rfl rfl) (zo (zN ?_)))
    exact zaE [_, _, _, _] rfl ⟨trivial, trivial, trivial, PO.okL_mono (by simp [pM]) hmk.2.2.2.1, PO.okL_mono (by simp [pM]) hmk.2.2.2.2.1, okB (by simp [pM]), PO.okL_mono (by simp [pM]) hmk.2.2.2.2.2.2.1, PO.okL_mono (by simp [pM]) hmk.2.2.2.2.2.2.2.1, zCF (PO.okL_mono (by simp [pM]) hmk.2.2.2.2.2.2.2.2.1), PO.okL_mono (by simp [pM]) hmk.2.2.2.2.2.2.2.2.2.1, PO.okL_mono (by simp [pM]) hmk.2.2.2.2.2.2.2.2.2.2.1, PO.okL_mono (by simp [pM]) hmk.2.2.2.2.2.2.2.2.2.2.2.1, PO.okL_mono (by simp [pM]) hmk.2.2.2.2.2.2.2.2.2.2.2.2.1, trivial⟩ (by simp [pM]) (.inr rfl) (by simp [EV.lt]) rfl
end Hs
end Go.Av
end
