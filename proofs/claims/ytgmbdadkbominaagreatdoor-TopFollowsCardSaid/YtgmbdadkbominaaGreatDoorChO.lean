import Derived.Test.YtgmbdadkbominaaGreatDoorChN
set_option linter.unusedVariables false
set_option linter.unusedSimpArgs false
section
namespace Go.Av
namespace Tp
open Go.Proofs
set_option maxRecDepth 100000
set_option maxHeartbeats 1000000
variable {G:Glob}
theorem zxs:tyIs Tryz.prog 213 false 1 = true:=by kernel_rfl
theorem zy5:(Tryz.prog.info? 213).bind (·.zero) = some (.map none):=by kernel_rfl
theorem zv3:(Tryz.prog.info? 3).bind (·.zero) = some (.int .i64 0):=by kernel_rfl
theorem zyg:vM Tryz.prog 218 [(0, 1), (1, 1), (2, 1), (3, 1)] [.int .i64 0, .int .i64 0, .int .i64 0, .int .i64 0]:=⟨_, Tryz.underlying218, by kernel_rfl, by kernel_rfl⟩
theorem zy4:elemIs Tryz.prog 114 119 1 24:=⟨Tryz.underlying114, Tryz.t119, _, by kernel_rfl, rfl, rfl, rfl, rfl, by decide⟩
theorem zzz:elemIs Tryz.prog 119 118 1 8:=⟨Tryz.underlying119, Tryz.t118, _, by kernel_rfl, rfl, rfl, rfl, rfl, by decide⟩
theorem zyd:Tryz.prog.info? 118 = some Tryz.t118:=by kernel_rfl
theorem zyl:Tryz.prog.info? 119 = some Tryz.t119:=by kernel_rfl
theorem zvf:kw Tryz.prog 114 1 = true:=by kernel_rfl
theorem zvL:tyIs Tryz.prog 119 false 1 = true:=by kernel_rfl
theorem zxa:kw Tryz.prog 119 1 = true:=by kernel_rfl
theorem zyw:tyIs Tryz.prog 118 false 1 = true:=by kernel_rfl
theorem f111:ACall Tryz.prog G 111 [Ct.ei 1, Ct.ei 1] (Ct.ei 3):=by
 refine zO Tryz.func111 Y (by kernel_rfl) Y ?_
 refine zn (zf (zg Y Y) (zo (zt (zn (zf (zh Y Y) (zo (zF ?_)))))))
 refine zn (zf (qR Y Y Y) (zf (zg Y Y) (zo (zA Y (fun h0=>?_) (fun h0=>?_)))))
 ·exfalso; simp at h0
 ·refine zn (zf (zh Y Y) (zf (qR Y Y Y) (zf (zg Y Y) (zo (zA Y (fun h1=>?_) (fun h1=>?_))))))
  ·refine zn (zf (zg Y Y) (zo (zN (zZ (zP ?_)))))
   exact ⟨.inr Y, AVle.refl _⟩
  ·exfalso; simp at h1
theorem zzD {L:List Sp} {r q:Int} {D:List Int} (hs:SuB L r q) (ht:TrB L r q D):zeq Tryz.prog G 110 [.pub (.agg (eSu L r q))] [] (.ret (.tpl [.mpv 0, I 1]) [zuE zux (esF L.length)]):=by
 have h4:=hs.n4
 have hn1:=hs.n1
 have hln:(L.map eLm).length = L.length:=by simp
 refine zwW Tryz.func110 Y (by kernel_rfl) Y (fun gh hold=>?_)
 refine zn (zf (ql Y (zQ Y)) (zf (zg Y Y) (zf (zg Y Y) (zo (zn (qL Y (zgX Y Y) (qL Y (jr Y Y zy5 Y Y) (qL Y (jr Y Y zv3 Y Y) ?_))))))))
 refine qL Y (qw Y Y Y Y Y Y (zoi Y Y) zxs (by rfl) (by exact zLb Y)) ?_
 refine qL Y (qw Y Y Y Y Y Y (qU Y) ty3 (by rfl) (by exact zLb Y)) ?_
 refine zo (zt (zn (zf (zK Y Y yw (by exact zLb Y)) (zf (zB (av:=[_]) Y ⟨Y, trivial⟩ (f196 L r q)) (zo (zF ?_))))))
 refine zvi (q:=[.agg (eLk L r q (sV L.length))]) [1, 4, 5] ([zuE zux [], .row [[.mpv 0]], .row [[I 0]]]) (Fm L.length) (True) Y (zxk hs ht) Y Y Y Y ?_ ?_
 ·intro gh lp hd1 hd2
  refine zx ?_
  refine qP  Y Y Y Y Y Y Y zvl zup Y (by rfl) (zQ Y) Y ?_
  refine zM ?_
  refine ⟨Y, Y, ?_⟩
  refine zF (zn (zf (zX Y Y Y Y Y Y ty3) (zf (zW Y Y Y ⟨by omega, by omega⟩) ?_)))
  refine qL Y (qw Y Y Y Y Y Y (qU Y) ty3 (by rfl) (by exact zLb Y)) ?_
  refine zo (zn (zf (zi Y Y zdQ) (zf (zl Y Y Y zuq) (zf (qA Y Y Y Tryz.underlying97) (zf (zh Y Y) (zo (zF ?_)))))))
  refine qm (ι:={ u:Nat // u <= L.length }) (fun u=>⟨NS.round Tryz.f110.ntmps gh hd2, frL [(1, .pub (.ptr (eSu L r q))), (4, .pp 1 1 0 0), (5, .pp 2 1 0 0), (6, .pub (.ptr (eLk L r q (sV L.length)))), (17, .pub (.sl (L.map eLm))), (18, I (L.length:Int)), (19, I (u.1:Int))], Fm u.1⟩) (fun u=>L.length - u.1) (⟨0, by omega⟩) ?_ ?_
  ·exact zy _ ⟨Y, Y, Y, Y, Y, (congrArg (fun n:Nat=>I (n:Int)) hln), Y, trivial⟩ (Y)
  ·rintro ⟨u, hu⟩
   dsimp only
   refine zn (zf (qx Y Y Y) (zo (zt (zA Y (fun h0=>?_) (fun h0=>?_)))))
   ·skip
    have hlt:u < L.length:=by simp at h0; omega
    refine zH (zk (zt (zF (zn (zf (zh Y Y) (zf (zg Y Y) (zo (zn ?_))))))))
    refine zf (zi Y Y wF) (zf (zl Y Y Y zum) (zf (zh Y Y) (zf (zD Y Y Y zla (by omega) (zvj hlt Y) zu4) (zf (zl Y Y Y kN) (zf (qA Y Y Y Tryz.underlying24) (zf (zh Y Y) (zo (zF ?_))))))))
    refine qm (ι:={ k:Nat // k < 2 }) (fun k=>match k.1 with | 0=>⟨NS.round Tryz.f110.ntmps gh hd2, frL [(1, .pub (.ptr (eSu L r q))), (4, .pp 1 1 0 0), (5, .pp 2 1 0 0), (6, .pub (.ptr (eLk L r q (sV L.length)))), (7, I (u:Int)), (17, .pub (.sl (L.map eLm))), (18, I (L.length:Int)), (19, I (u:Int)), (26, .pub (.sl [[Ct.ei (lk u)]])), (27, I 1), (28, I 0)], Fm u⟩ | _=>⟨NS.round Tryz.f110.ntmps gh hd2, frL [(1, .pub (.ptr (eSu L r q))), (4, .pp 1 1 0 0), (5, .pp 2 1 0 0), (6, .pub (.ptr (eLk L r q (sV L.length)))), (7, I (u:Int)), (17, .pub (.sl (L.map eLm))), (18, I (L.length:Int)), (19, I (u:Int)), (26, .pub (.sl [[Ct.ei (lk u)]])), (27, I 1), (28, I 1)], Fm (u + 1)⟩) (fun k=>2 - k.1) (⟨0, by omega⟩) ?_ ?_
    ·exact zy _ ⟨Y, Y, Y, Y, Y, Y, Y, Y, Y, Y, Y, trivial⟩ (Y)
    ·rintro ⟨k, hk⟩
     have hk3:k = 0 ∨ k = 1:=by omega
     rcases hk3 with rfl | rfl
     ·dsimp only
      refine zn (zf (qx Y Y Y) (zo (zt (zA Y (fun h1=>?_) (fun h1=>?_)))))
      ·skip
       refine zH (zk (zt (zF (zn (zf (zh Y Y) ?_)))))
       refine zf (zD Y Y Y zjc (by omega) (by exact zuD (k:=0) (by omega)) zut) ?_
       refine zf (zl Y Y Y ty3) (zf (zg Y Y) (zf (zg Y Y) (zo (zt (zF (zn (zf (zh Y Y) (zf (qR Y Y Y) (zf (zg Y Y) ?_)))))))))
       refine zo (zA Y (fun h2=>?_) (fun h2=>?_))
       ·skip
        have hu0:u = 0:=by simp at h2; omega
        refine qY (zy (mem':=Fm (u + 1)) [(1, .pub (.ptr (eSu L r q))), (4, .pp 1 1 0 0), (5, .pp 2 1 0 0), (6, .pub (.ptr (eLk L r q (sV L.length)))), (7, I (u:Int)), (17, .pub (.sl (L.map eLm))), (18, I (L.length:Int)), (19, I (u:Int)), (26, .pub (.sl [[Ct.ei (lk u)]])), (27, I 1), (28, I 0), (8, I 0), (9, I (lk u))] ?_ ?_) ?_
        ·exact ⟨Y, Y, Y, Y, Y, Y, Y, Y, Y, Y, Y, Y, Y, trivial⟩
        ·exact (by rw [hu0]; rfl)
        refine zH (zJ (zk (zt ?_)))
        refine qY (zy (mem':=Fm (u + 1)) [(1, .pub (.ptr (eSu L r q))), (4, .pp 1 1 0 0), (5, .pp 2 1 0 0), (6, .pub (.ptr (eLk L r q (sV L.length)))), (7, I (u:Int)), (17, .pub (.sl (L.map eLm))), (18, I (L.length:Int)), (19, I (u:Int)), (26, .pub (.sl [[Ct.ei (lk u)]])), (27, I 1), (28, I 0), (8, I 0)] ?_ ?_) ?_
        ·exact ⟨Y, Y, Y, Y, Y, Y, Y, Y, Y, Y, Y, Y, trivial⟩
        ·first | exact rfl | exact zxv hu1
        refine zx (zf (zh Y Y) (zf (zW Y Y Y ⟨by omega, by omega⟩) (zf (zi Y Y zdQ) (zf (zl Y Y Y zuq) (zf (qA Y Y Y Tryz.underlying97) (zf (qx Y Y Y) (zf (zh Y Y) (zC Y (fun hg=>zK Y Y zup (by exact zLb Y)) (zC Y (fun hg=>zh Y Y) (zC Y (fun hg=>zh Y Y) (zC Y (fun hg=>zB (av:=[_, _, _]) Y ⟨((if_pos hg)), ((if_pos hg)), ((if_pos hg)), trivial⟩ (f200 hs u hlt _ Y)) ?_)))))))))))
        refine zC Y (fun hg=>qx Y (if_pos hg) Y) (zf (jg Y Y Y Y) (zo (zA Y (fun h4=>?_) (fun h4=>?_))))
        ·skip
         exfalso; simp at h4; obtain ⟨a, b⟩:=h4; rw [if_neg (by omega)] at b; omega
        ·skip
         refine zH (zJ (zk (zx (zf (zW Y Y Y ⟨by omega, by omega⟩) (zf (zh Y Y) (zM ?_))))))
         exact ⟨⟨1, by omega⟩, by dsimp only; omega, (by refine zy (mem':=Fm (u + 1)) [(1, .pub (.ptr (eSu L r q))), (4, .pp 1 1 0 0), (5, .pp 2 1 0 0), (6, .pub (.ptr (eLk L r q (sV L.length)))), (7, I (u:Int)), (17, .pub (.sl (L.map eLm))), (18, I (L.length:Int)), (19, I (u:Int)), (26, .pub (.sl [[Ct.ei (lk u)]])), (27, I 1), (28, I 1)] ?_ ?_; exact ⟨Y, Y, Y, Y, Y, Y, Y, Y, Y, Y, Y, trivial⟩; exact (Y))⟩
       ·skip
        have hu1:1 <= u:=by simp at h2; omega
        refine zn (zf (zh Y Y) (zf (qx Y Y Y) (zf (zg Y Y) (zo (zA Y (fun h3=>?_) (fun h3=>?_))))))
        ·skip
         exfalso; simp [zu9 (show 0 < u by omega)] at h3
        ·skip
         refine qY (zy (mem':=Fm u) [(1, .pub (.ptr (eSu L r q))), (4, .pp 1 1 0 0), (5, .pp 2 1 0 0), (6, .pub (.ptr (eLk L r q (sV L.length)))), (7, I (u:Int)), (17, .pub (.sl (L.map eLm))), (18, I (L.length:Int)), (19, I (u:Int)), (26, .pub (.sl [[Ct.ei (lk u)]])), (27, I 1), (28, I 0), (8, I 0), (9, I 0)] ?_ ?_) ?_
         ·exact ⟨Y, Y, Y, Y, Y, Y, Y, Y, Y, Y, Y, Y, (congrArg I (zu9 (show 0 < u by omega))), trivial⟩
         ·exact Y
         refine qY zgO ?_
         refine zfD (zwl zux 0 (u + 2) (u:Int) (.int .i64 0) (esF u)) (fun k=>match k with | 0=>.rd [1] | 1=>.stable | 2=>.stable | 3=>.stable | 4=>.stable | 5=>.rd [u + 2] | 6=>.stable | 7=>.rw [] (0) | 8=>.stable | 9=>.writes | _=>.here) mixed (by kernel_rfl) rfl (by kernel_rfl) (fun _=>.inl rfl) ?_
         refine zsH [1] Y Y (fun m hm hC=>zX Y Y ((hm.one 1 (by simp)).trans Y) Y Y Y zxs) ?_
         refine jv Y Y (fun m hm=>zh Y Y) (jv Y Y (fun m hm=>zh Y Y) (jv Y Y (fun m hm=>zh Y Y) ?_))
         refine jv Y Y (fun m hm=>yl (cs:=[_, _, _, _]) Y zyg Y ⟨_, _, Y, (qU Y), ⟨_, _, Y, (qU Y), ⟨_, _, Y, (qU Y), ⟨_, _, Y, (qU Y), Y⟩⟩⟩⟩ (by rfl) (by simp [ofV])) ?_
         refine zsH [u + 2] Y Y (fun m hm hC=>zxt hm (zya hu1) hC hu1 Y Y Y) ?_
         refine jv Y Y (fun m hm=>zW Y Y Y ⟨by omega, by omega⟩) ?_
         refine zu3 [] 0 Y Y (fun m hm hC=>zxF hm Y (by omega) hC Y Y Y) ?_
         refine jv Y Y (fun m hm=>zU Y Y Y) ?_
         refine zpt Y Y (zw9 (enc:=zux) (l:=0) (d:=u + 2) (a:=(u:Int)) (z:=.int .i64 0) (es:=esF u) (v:=.int .i64 1) Y Y Y Y (by omega) Y Y) (fun h=>absurd (zxT hu1 h) (by simp)) ?_
         refine zfa (zJ (zk (zt ?_)))
         refine qY (zy (mem':=Fm (u + 1)) [(1, .pub (.ptr (eSu L r q))), (4, .pp 1 1 0 0), (5, .pp 2 1 0 0), (6, .pub (.ptr (eLk L r q (sV L.length)))), (7, I (u:Int)), (17, .pub (.sl (L.map eLm))), (18, I (L.length:Int)), (19, I (u:Int)), (26, .pub (.sl [[Ct.ei (lk u)]])), (27, I 1), (28, I 0), (8, I 0)] ?_ ?_) ?_
         ·exact ⟨Y, Y, Y, Y, Y, Y, Y, Y, Y, Y, Y, Y, trivial⟩
         ·first | exact rfl | exact zxv hu1
         refine zx (zf (zh Y Y) (zf (zW Y Y Y ⟨by omega, by omega⟩) (zf (zi Y Y zdQ) (zf (zl Y Y Y zuq) (zf (qA Y Y Y Tryz.underlying97) (zf (qx Y Y Y) (zf (zh Y Y) (zC Y (fun hg=>zK Y Y zup (by exact zLb Y)) (zC Y (fun hg=>zh Y Y) (zC Y (fun hg=>zh Y Y) (zC Y (fun hg=>zB (av:=[_, _, _]) Y ⟨((if_pos hg)), ((if_pos hg)), ((if_pos hg)), trivial⟩ (f200 hs u hlt _ Y)) ?_)))))))))))
         refine zC Y (fun hg=>qx Y (if_pos hg) Y) (zf (jg Y Y Y Y) (zo (zA Y (fun h4=>?_) (fun h4=>?_))))
         ·skip
          exfalso; simp at h4; obtain ⟨a, b⟩:=h4; rw [if_neg (by omega)] at b; omega
         ·skip
          refine zH (zJ (zk (zx (zf (zW Y Y Y ⟨by omega, by omega⟩) (zf (zh Y Y) (zM ?_))))))
          exact ⟨⟨1, by omega⟩, by dsimp only; omega, (by refine zy (mem':=Fm (u + 1)) [(1, .pub (.ptr (eSu L r q))), (4, .pp 1 1 0 0), (5, .pp 2 1 0 0), (6, .pub (.ptr (eLk L r q (sV L.length)))), (7, I (u:Int)), (17, .pub (.sl (L.map eLm))), (18, I (L.length:Int)), (19, I (u:Int)), (26, .pub (.sl [[Ct.ei (lk u)]])), (27, I 1), (28, I 1)] ?_ ?_; exact ⟨Y, Y, Y, Y, Y, Y, Y, Y, Y, Y, Y, trivial⟩; exact (Y))⟩
      ·skip
       exfalso; simp at h1
     ·dsimp only
      refine zn (zf (qx Y Y Y) (zo (zt (zA Y (fun h1=>?_) (fun h1=>?_)))))
      ·skip
       exfalso; simp at h1
      ·skip
       refine qg (zS (zS (qh (zJ (zk (zx (zf (zW Y Y Y ⟨by omega, by omega⟩) (zf (zh Y Y) (zM ?_)))))))))
       exact ⟨⟨u + 1, by omega⟩, by dsimp only; omega, zy _ ⟨Y, Y, Y, Y, Y, Y, Y, trivial⟩ (Y)⟩
   ·skip
    have hge:u = L.length:=by simp at h0; omega
    refine qY (zy (mem':=Fm L.length) [(1, .pub (.ptr (eSu L r q))), (4, .pp 1 1 0 0), (5, .pp 2 1 0 0)] ?_ ?_) ?_
    ·exact ⟨Y, Y, Y, trivial⟩
    ·exact (by rw [hge])
    refine qg (zS (zS (qh (zJ ?_))))
    exact ⟨Y, trivial, zy (mem':=Fm L.length) [] trivial (Y)⟩
 ·intro hVn
  refine zJ (zk (zt ?_))
  refine qp mixed (by kernel_rfl) Y ?_
  refine zu Y (zX Y Y Y Y Y Y zxs) (zu Y (zX Y Y Y Y Y Y ty3) (zu Y (zvO Y Y) (zu Y (zg Y Y) (qF (zk (zN ?_))))))
  exact zwY (.row [[.mpv 0]] :: .row [[I 1]] :: List.replicate (L.length - 1) .dead) Y ⟨zwy, trivial⟩ (by simp) (.inr Y) (by simp [EV.lt, EV.ltL, I]) ⟨by decide, _, Y, _, _, Y, Y, _, _, Y, Y, Y⟩
theorem f37 {L:List Sp} {r q:Int} {D:List Int} (hs:SuP L r q) (ht:TrB L r q D) (i:Nat) (hi1:1 <= i) (hi2:i < L.length):ACall Tryz.prog G 37 [.agg (eSu L r q), Ct.ei (i:Int)] (.tup [.sl [[.sl [[Ct.ei 3]]]], Ct.ei 0]):=by
 have h4:=hs.n4
 have hln:(L.map eLm).length = L.length:=by simp
 have hin:Ct.inB (i:Int) 1 (((L.map eLm).length:Int) - 1) = true:=by simp [Ct.inB]; omega
 refine zO Tryz.func37 Y (by kernel_rfl) Y ?_
 refine zn (zf (ql Y (zQ Y)) (zf (zg Y Y) (zf (zg Y Y) (zo (zt (zt ?_))))))
 refine qp mixed (by kernel_rfl) Y ?_
 refine zu Y (zK Y Y yw (by exact zLb Y)) (zu Y (zh Y Y) (zu Y (zi Y Y zdQ) (zu Y (zl Y Y Y zuq) (zu Y (qA Y Y Y Tryz.underlying97) ?_))))
 refine zu Y (vN Y Y Y ⟨by omega, by omega⟩) ?_
 refine zu Y (zB (av:=[_, _, _]) Y ⟨Y, Y, Y, trivial⟩ (f98 _ _ _)) (zu Y (zB (av:=[_, _]) Y ⟨Y, Y, trivial⟩ (hin ▸ f106 hs ht)) (zu Y (zg Y Y) (qF (zk (zn (zf (zh Y Y) (zf (wE Y Y Y) (zo (zA Y (fun h0=>?_) (fun h0=>?_))))))))))
 ·exfalso; simp at h0
 ·refine zH (zk (zn (zf (zK Y Y yw (by exact zLb Y)) (qL Y (zfW (f:=110) (fs:=[]) (cs:=[]) (av:=[.pub (.agg (eSu L r q))]) Y Y ⟨Y, Y, Y⟩ ⟨Y, trivial⟩ (zzD hs.toSuB ht)) (zf (zwN Y Y) (zf (zvs Y Y Y) (zf (zvs Y Y Y) (zf (zvO Y Y) (zf (zg Y Y) (zM ?_))))))))))
  refine zk (zn (zf (zg Y Y) (zo (zt (zn (zf (zi Y Y zdQ) (zf (zl Y Y Y zuq) (zf (zh Y Y) ?_))))))))
  refine zf (zD Y Y Y zur (by omega) (zvb hi2 Y) zun) (zf (zi Y Y zG) (zf (zl Y Y Y zuo) (zf (qA Y Y Y Tryz.underlying106) (zf (zh Y Y) (zo (zF ?_))))))
  refine qm (ι:={ k:Nat // k < 2 }) (fun k=>match k.1 with | 0=>⟨Tryz.f37.ntmps, frL [(1, I (i:Int)), (2, .pub (.ptr (eSu L r q))), (7, .mpv 0), (8, I 1), (9, .pub (.v (.slice none 0 0))), (35, I 1), (36, I 0)], [zuE zux (esF L.length)]⟩ | _=>⟨Tryz.f37.ntmps, frL [(1, I (i:Int)), (2, .pub (.ptr (eSu L r q))), (7, .mpv 0), (8, I 1), (9, .pub (.sl [[.sl [[Ct.ei 3]]]])), (35, I 1), (36, I 1)], [zuE zux (esF L.length), .dead]⟩) (fun k=>2 - k.1) (⟨0, by omega⟩) ?_ ?_
  ·exact zy _ ⟨Y, Y, Y, Y, Y, Y, Y, trivial⟩ (Y)
  ·rintro ⟨k, hk⟩
   have hk3:k = 0 ∨ k = 1:=by omega
   rcases hk3 with rfl | rfl
   ·dsimp only
    refine zn (zf (qx Y Y Y) (zo (zt (zA Y (fun h1=>?_) (fun h1=>?_)))))
    ·refine zH (zk (zt (zF (zn (zf (zh Y Y) (zf (zg Y Y) (zo (zn ?_))))))))
     refine zf (zg Y Y) (zo (zt (zn (zf (zi Y Y zdQ) (zf (zl Y Y Y zuq) (zf (zh Y Y) (zf (vN Y Y Y ⟨by omega, by omega⟩) ?_)))))))
     refine zf (zD Y Y Y zur (by omega) (zvb (show i - 1 < L.length by omega) (by omega)) zun) ?_
     refine zf (zi Y Y zG) (zf (zl Y Y Y zuo) (zf (qA Y Y Y Tryz.underlying106) (zf (zh Y Y) (zo (zF ?_)))))
     refine qm (ι:={ k:Nat // k < 2 }) (fun k=>match k.1 with | 0=>⟨Tryz.f37.ntmps, frL [(1, I (i:Int)), (2, .pub (.ptr (eSu L r q))), (7, .mpv 0), (8, I 1), (9, .pub (.v (.slice none 0 0))), (10, I 0), (11, .pub (.v (.slice none 0 0))), (35, I 1), (36, I 0), (46, I 1), (47, I 0)], [zuE zux (esF L.length)]⟩ | _=>⟨Tryz.f37.ntmps, frL [(1, I (i:Int)), (2, .pub (.ptr (eSu L r q))), (7, .mpv 0), (8, I 1), (9, .pub (.v (.slice none 0 0))), (10, I 0), (11, .pub (.sl [[Ct.ei 3]])), (35, I 1), (36, I 0), (46, I 1), (47, I 1)], [zuE zux (esF L.length), .dead]⟩) (fun k=>2 - k.1) (⟨0, by omega⟩) ?_ ?_
     ·exact zy _ ⟨Y, Y, Y, Y, Y, Y, Y, Y, Y, Y, Y, trivial⟩ (Y)
     ·rintro ⟨k, hk⟩
      have hk3:k = 0 ∨ k = 1:=by omega
      rcases hk3 with rfl | rfl
      ·dsimp only
       refine zn (zf (qx Y Y Y) (zo (zt (zA Y (fun h2=>?_) (fun h2=>?_)))))
       ·refine zH (zk (zt (zF (zn (zf (zh Y Y) (zf (zg Y Y) (zo (zx (zf (zh Y Y) ?_)))))))))
        refine zf (zwN Y Y) (zf (zh Y Y) (zf (zh Y Y) (zf (zh Y Y) ?_)))
        refine zf (yl (cs:=[_, _, _, _]) Y zyg Y ⟨_, _, Y, (qU Y), ⟨_, _, Y, (qU Y), ⟨_, _, Y, (qU Y), ⟨_, _, Y, (qU Y), Y⟩⟩⟩⟩ (by rfl) (by simp [ofV])) ?_
        refine zf (zzb Y hi1 hi2 Y Y Y) (zf (zh Y Y) (zf (zB (av:=[_, _]) Y ⟨Y, Y, trivial⟩ f111) ?_))
        refine zf (qy (size:=1) (rows:=[[_]]) Y Tryz.underlying119 zyd Y (by decide) Y (by decide) ⟨_, _, Y, (qU Y), Y⟩ (by rfl) (by simp [ofV]) Y (by simp)) ?_
        refine qL Y (zvK Y Y Y Y Y zzz (by simp) (by simp) (by unfold maxLen; simp)) ?_
        refine zf (jm Y Y) (zM (zJ (zk ?_)))
        refine qY (zy (mem':=[zuE zux (esF L.length), .row [[I 3]]]) [(1, I (i:Int)), (2, .pub (.ptr (eSu L r q))), (7, .mpv 0), (8, I 1), (9, .pub (.v (.slice none 0 0))), (10, I 0), (11, .psl 1 1), (35, I 1), (36, I 0), (46, I 1), (47, I 0)] ?_ ?_) ?_
        ·exact ⟨Y, Y, Y, Y, Y, Y, Y, Y, Y, Y, Y, trivial⟩
        ·exact Y
        refine qY (zf4 (k:=1) (m:=1) (rows:=[[Ct.ei 3]]) [11] Y Y (fun d hd=>by rw [List.mem_singleton] at hd; subst hd; rfl)) ?_
        refine zx (zf (zW Y Y Y ⟨by omega, by omega⟩) (zf (zh Y Y) (zM ?_)))
        exact ⟨⟨1, by omega⟩, by dsimp only; omega, (by refine zy (mem':=[zuE zux (esF L.length), .dead]) [(1, I (i:Int)), (2, .pub (.ptr (eSu L r q))), (7, .mpv 0), (8, I 1), (9, .pub (.v (.slice none 0 0))), (10, I 0), (11, .pub (.sl [[Ct.ei 3]])), (35, I 1), (36, I 0), (46, I 1), (47, I 1)] ?_ ?_; exact ⟨Y, Y, Y, Y, Y, Y, Y, Y, Y, Y, Y, trivial⟩; exact (Y))⟩
       ·exfalso; simp at h2
      ·dsimp only
       refine zn (zf (qx Y Y Y) (zo (zt (zA Y (fun h2=>?_) (fun h2=>?_)))))
       ·exfalso; simp at h2
       ·refine qg (zS (zS (qh (zk (zx (zf (zh Y Y) (zf (zI Y Y) ?_)))))))
        refine zf (qy (size:=1) (rows:=[[_]]) Y Tryz.underlying114 zyl Y (by decide) Y (by decide) ⟨_, _, Y, (zjo Y), Y⟩ (by rfl) (by simp [ofV]) Y (by simp)) ?_
        refine qL Y (zvK Y Y Y Y Y zy4 (by simp) (by simp) (by unfold maxLen; simp)) ?_
        refine zf (jm Y Y) (zM (zJ (zk ?_)))
        refine qY (zy (mem':=[zuE zux (esF L.length), .dead, .row [[.pub (.sl [[Ct.ei 3]])]]]) [(1, I (i:Int)), (2, .pub (.ptr (eSu L r q))), (7, .mpv 0), (8, I 1), (9, .psl 2 1), (35, I 1), (36, I 0)] ?_ ?_) ?_
        ·exact ⟨Y, Y, Y, Y, Y, Y, Y, trivial⟩
        ·exact Y
        refine qY (zf4 (k:=2) (m:=1) (rows:=[[.sl [[Ct.ei 3]]]]) [9] Y Y (fun d hd=>by rw [List.mem_singleton] at hd; subst hd; rfl)) ?_
        refine qY (zy (mem':=[zuE zux (esF L.length), .dead, .dead]) [(1, I (i:Int)), (2, .pub (.ptr (eSu L r q))), (7, .mpv 0), (8, I 1), (9, .pub (.sl [[.sl [[Ct.ei 3]]]])), (35, I 1), (36, I 0)] ?_ ?_) ?_
        ·exact ⟨Y, Y, Y, Y, Y, Y, Y, trivial⟩
        ·exact Y
        refine qY (zoR 2 ?_ ?_) ?_
        ·exact ⟨trivial, trivial, (show 0 < 2 by omega), trivial, trivial, trivial, trivial, trivial⟩
        ·exact ⟨zwy, trivial, trivial⟩
        refine zx (zf (zW Y Y Y ⟨by omega, by omega⟩) (zf (zh Y Y) (zM ?_)))
        exact ⟨⟨1, by omega⟩, by dsimp only; omega, (by refine zy (mem':=[zuE zux (esF L.length), .dead]) [(1, I (i:Int)), (2, .pub (.ptr (eSu L r q))), (7, .mpv 0), (8, I 1), (9, .pub (.sl [[.sl [[Ct.ei 3]]]])), (35, I 1), (36, I 1)] ?_ ?_; exact ⟨Y, Y, Y, Y, Y, Y, Y, trivial⟩; exact (Y))⟩
    ·exfalso; simp at h1
   ·dsimp only
    refine zn (zf (qx Y Y Y) (zo (zt (zA Y (fun h1=>?_) (fun h1=>?_)))))
    ·exfalso; simp at h1
    ·refine qg (zS (zS (qh (zk (zn (zf (zI Y Y) (zf (qG Y Y) (zf (zg Y Y) (zo ?_)))))))))
     refine zN ?_
     exact ⟨.inr Y, ⟨_, Y, ⟨_, _, Y, AVle.refl _, ⟨_, _, Y, AVle.refl _, Y⟩⟩⟩⟩
theorem f38:ACall Tryz.prog G 38 [.sl [[.sl [[Ct.ei 3]]]], .sl [[.sl [[Ct.ei 3]]]]] (.v (.bool true)):=by
 refine zO Tryz.func38 Y (by kernel_rfl) Y ?_
 refine zn (zf (zg Y Y) (zo (zt (zn (zf (zI Y Y) (zf (qA Y Y Y Tryz.underlying114) (zf (zI Y Y) (zf (qA Y Y Y Tryz.underlying114) ?_))))))))
 refine zf (wE Y Y Y) (zo (zA Y (fun h0=>?_) (fun h0=>?_)))
 ·exfalso; simp at h0
 ·refine zH (zk (zt (zn (zf (zg Y Y) (zo (zF ?_))))))
  refine qm (ι:={ k:Nat // k < 2 }) (fun k=>match k.1 with | 0=>⟨Tryz.f38.ntmps, frL [(0, .pub (.sl [[.sl [[Ct.ei 3]]]])), (1, .pub (.sl [[.sl [[Ct.ei 3]]]])), (5, I 0)], []⟩ | _=>⟨Tryz.f38.ntmps, frL [(0, .pub (.sl [[.sl [[Ct.ei 3]]]])), (1, .pub (.sl [[.sl [[Ct.ei 3]]]])), (5, I 1)], []⟩) (fun k=>2 - k.1) (⟨0, by omega⟩) ?_ ?_
  ·exact zy _ ⟨Y, Y, Y, trivial⟩ (Y)
  ·rintro ⟨k, hk⟩
   have hk3:k = 0 ∨ k = 1:=by omega
   rcases hk3 with rfl | rfl
   ·dsimp only
    refine zt (zn (zf (zh Y Y) (zf (zI Y Y) (zf (qA Y Y Y Tryz.underlying114) (zf (qx Y Y Y) (zo (zA Y (fun h1=>?_) (fun h1=>?_))))))))
    ·refine zH (zk (zt (zF (zt (zt ?_)))))
     refine qp mixed (by kernel_rfl) Y ?_
     refine zu Y (zI Y Y) (zu Y (zh Y Y) ?_)
     refine zu Y (zD Y Y Y zvf (by omega) Y (by simp)) ?_
     refine zu Y (zl Y Y Y zvL) (zu Y (qA Y Y Y Tryz.underlying119) (zu Y (zI Y Y) (zu Y (zh Y Y) ?_)))
     refine zu Y (zD Y Y Y zvf (by omega) Y (by simp)) ?_
     refine zu Y (zl Y Y Y zvL) (zu Y (qA Y Y Y Tryz.underlying119) (zu Y (wE Y Y Y) (qF (zk (zA Y (fun h2=>?_) (fun h2=>?_))))))
     ·exfalso; simp at h2
     ·refine zH (zk (zn (zf (zg Y Y) (zo (zF ?_)))))
      refine qm (ι:={ k:Nat // k < 2 }) (fun k=>match k.1 with | 0=>⟨Tryz.f38.ntmps, frL [(0, .pub (.sl [[.sl [[Ct.ei 3]]]])), (1, .pub (.sl [[.sl [[Ct.ei 3]]]])), (5, I 0), (6, I 0)], []⟩ | _=>⟨Tryz.f38.ntmps, frL [(0, .pub (.sl [[.sl [[Ct.ei 3]]]])), (1, .pub (.sl [[.sl [[Ct.ei 3]]]])), (5, I 0), (6, I 1)], []⟩) (fun k=>2 - k.1) (⟨0, by omega⟩) ?_ ?_
      ·exact zy _ ⟨Y, Y, Y, Y, trivial⟩ (Y)
      ·rintro ⟨k, hk⟩
       have hk3:k = 0 ∨ k = 1:=by omega
       rcases hk3 with rfl | rfl
       ·dsimp only
        refine zt (zn (zf (zh Y Y) (zf (zI Y Y) (zf (zh Y Y) ?_))))
        refine zf (zD Y Y Y zvf (by omega) Y (by simp)) ?_
        refine zf (zl Y Y Y zvL) (zf (qA Y Y Y Tryz.underlying119) (zf (qx Y Y Y) (zo (zA Y (fun h3=>?_) (fun h3=>?_)))))
        ·refine zH (zk (zt (zF (zt ?_))))
         refine qp mixed (by kernel_rfl) Y ?_
         refine zu Y (zI Y Y) (zu Y (zh Y Y) ?_)
         refine zu Y (zD Y Y Y zvf (by omega) Y (by simp)) ?_
         refine zu Y (zl Y Y Y zvL) (zu Y (zh Y Y) ?_)
         refine zu Y (zD Y Y Y zxa (by omega) Y (by simp)) ?_
         refine zu Y (zl Y Y Y zyw) (zu Y (zI Y Y) (zu Y (zh Y Y) ?_))
         refine zu Y (zD Y Y Y zvf (by omega) Y (by simp)) ?_
         refine zu Y (zl Y Y Y zvL) (zu Y (zh Y Y) ?_)
         refine zu Y (zD Y Y Y zxa (by omega) Y (by simp)) ?_
         refine zu Y (zl Y Y Y zyw) (zu Y (wE Y Y Y) (qF (zk (zA Y (fun h4=>?_) (fun h4=>?_)))))
         ·exfalso; simp at h4
         ·refine zH (zJ (zk (zx (zf (zh Y Y) (zf (zW Y Y Y ⟨by omega, by omega⟩) (zf (zg Y Y) (zM ?_)))))))
          exact ⟨⟨1, by omega⟩, by dsimp only; omega, (by refine zy (mem':=[]) [(0, .pub (.sl [[.sl [[Ct.ei 3]]]])), (1, .pub (.sl [[.sl [[Ct.ei 3]]]])), (5, I 0), (6, I 1)] ?_ ?_; exact ⟨Y, Y, Y, Y, trivial⟩; exact (Y))⟩
        ·exfalso; simp at h3
       ·dsimp only
        refine zt (zn (zf (zh Y Y) (zf (zI Y Y) (zf (zh Y Y) ?_))))
        refine zf (zD Y Y Y zvf (by omega) Y (by simp)) ?_
        refine zf (zl Y Y Y zvL) (zf (qA Y Y Y Tryz.underlying119) (zf (qx Y Y Y) (zo (zA Y (fun h3=>?_) (fun h3=>?_)))))
        ·exfalso; simp at h3
        ·refine qg (zS (zS (qh (zJ (zk (zx (zf (zh Y Y) (zf (zW Y Y Y ⟨by omega, by omega⟩) (zf (zg Y Y) (zM ?_))))))))))
         exact ⟨⟨1, by omega⟩, by dsimp only; omega, (by refine zy (mem':=[]) [(0, .pub (.sl [[.sl [[Ct.ei 3]]]])), (1, .pub (.sl [[.sl [[Ct.ei 3]]]])), (5, I 1)] ?_ ?_; exact ⟨Y, Y, Y, trivial⟩; exact (Y))⟩
    ·exfalso; simp at h1
   ·dsimp only
    refine zt (zn (zf (zh Y Y) (zf (zI Y Y) (zf (qA Y Y Y Tryz.underlying114) (zf (qx Y Y Y) (zo (zA Y (fun h1=>?_) (fun h1=>?_))))))))
    ·exfalso; simp at h1
    ·refine qg (zS (zS (qh (zk (zn (zf (zg Y Y) (zo (zN ?_))))))))
     exact ⟨.inr Y, AVle.refl _⟩
def okS (L:List Sp) (i:Nat):Bool:=Ct.inB (L.getD i sp0).h 0 200 && !(decide (0 < i) && decide ((L.getD i sp0).h <= (L.getD (i - 1) sp0).h)) && zuB (L.getD i sp0)
def zvz (L:List Sp) (r q:Int):Bool:=(List.range L.length).all (okS L) && Ct.inB L.length 1 4 && Ct.inB r 0 50 && Ct.inB q 0 1000
theorem gD {L:List Sp} {i:Nat} (h:i < L.length):L.getD i sp0 = L[i]:=by simp [h]
theorem zxu {p:Nat -> Bool} {k:Nat} (h:(List.range k).all p = true) (hp:p k = true):(List.range (k + 1)).all p = true:=by
 rw [List.range_succ, List.all_append, h]; simp [hp]
theorem zyj {p:Nat -> Bool} {k n:Nat} (hk:k < n) (hp:p k = false):(List.range n).all p = false:=List.all_eq_false.2 ⟨k, List.mem_range.2 hk, by simp [hp]⟩
theorem zyS {L:List Sp} {k:Nat} (hk:k < L.length) (h1:(!Ct.inB L[k].h 0 200 || (decide ((k:Int) > 0) && decide (L[k].h <= (L[k - 1]'(by omega)).h)) || decide (((([eSp L[k]]:List (List AV)).length:Nat):Int) > 3)) = true):okS L k = false:=by
 unfold okS
 rw [gD hk, gD (show k - 1 < L.length by omega)]
 cases ha:Ct.inB L[k].h 0 200 with
 | false=>rfl
 | true=>
  rw [ha] at h1
  simp at h1
  rw [decide_eq_true h1.1, decide_eq_true h1.2]; rfl
theorem zxR {L:List Sp} {k:Nat} (hk:k < L.length) (h1:(!Ct.inB L[k].h 0 200 || (decide ((k:Int) > 0) && decide (L[k].h <= (L[k - 1]'(by omega)).h)) || decide (((([eSp L[k]]:List (List AV)).length:Nat):Int) > 3)) = false):
  (Ct.inB (L.getD k sp0).h 0 200 && !(decide (0 < k) && decide ((L.getD k sp0).h <= (L.getD (k - 1) sp0).h))) = true:=by
 rw [gD hk, gD (show k - 1 < L.length by omega)]
 cases ha:Ct.inB L[k].h 0 200 with
 | false=>rw [ha] at h1; simp at h1
 | true=>
  rw [ha] at h1
  simp at h1 ⊢
  by_cases hz:0 < k
  ·exact .inr (h1 hz)
  ·exact .inl (by omega)
theorem zxI {s:Sp} (h:(!spB s.x s.x 100 || !spB s.y s.y 100 || !spB s.lo s.hi 99999) = true):zuB s = false:=by
 unfold zuB
 revert h
 generalize spB s.x s.x 100 = a
 generalize spB s.y s.y 100 = b
 generalize spB s.lo s.hi 99999 = c
 revert a b c
 decide
theorem zxr {s:Sp} (h:(!spB s.x s.x 100 || !spB s.y s.y 100 || !spB s.lo s.hi 99999) = false):zuB s = true:=by
 unfold zuB
 revert h
 generalize spB s.x s.x 100 = a
 generalize spB s.y s.y 100 = b
 generalize spB s.lo s.hi 99999 = c
 revert a b c
 decide
theorem zyL {L:List Sp} {k:Nat} (hk:k < L.length) (h:(Ct.inB (L.getD k sp0).h 0 200 && !(decide (0 < k) && decide ((L.getD k sp0).h <= (L.getD (k - 1) sp0).h))) = true) (hs:zuB L[k] = true):okS L k = true:=by
 unfold okS
 rw [h, gD hk, hs]; rfl
theorem zxD {L:List Sp} {r q:Int} {k:Nat} (hk:k = L.length) (h:(List.range k).all (okS L) = true) {a:Int} (ha:a = (L.length:Int):=by simp):
  AV.v (.bool (Ct.inB a 1 4 && Ct.inB r 0 50 && Ct.inB q 0 1000 && Ct.inB 0 0 12 && Ct.inB 0 0 12)) = .v (.bool (zvz L r q)):=by
 subst ha
 unfold zvz
 rw [← hk, h]
 simp [Ct.inB]
theorem zwF {L:List Sp} {r q:Int} {k:Nat} (hk:k < L.length) (h:okS L k = false):zvz L r q = false:=by unfold zvz; rw [zyj hk h]; rfl
theorem zx3 {L:List Sp} {r q:Int} (h:zvz L r q = true):SuP L r q:=by
 unfold zvz at h
 simp only[zLa, List.all_eq_true, List.mem_range, Ct.inB, decide_eq_true_eq] at h
 obtain ⟨⟨⟨h1, h2⟩, h3⟩, h4⟩:=h
 have e:∀ i, i < L.length -> (0 <= (L.getD i sp0).h /\ (L.getD i sp0).h <= 200) /\ (0 < i -> (L.getD (i - 1) sp0).h < (L.getD i sp0).h) /\ zuB (L.getD i sp0) = true:=fun i hi=>by
  have:=h1 i hi
  unfold okS at this
  simp only[zLa, Ct.inB, decide_eq_true_eq, Bool.not_eq_true', Bool.and_eq_false_iff, decide_eq_false_iff_not] at this
  obtain ⟨⟨a, b⟩, c⟩:=this
  exact ⟨a, fun h0=>by rcases b with b | b <;> omega, c⟩
 exact { n1:=by omega, n4:=by omega, r0:=by omega, q0:=by omega, sp:=fun i hi=>(e i hi).2.2, hr:=fun i hi=>by have:=(e i hi).1; omega, up:=fun i hi=>by have:=(e (i + 1) hi).2.1 (by omega); rwa [Nat.add_sub_cancel] at this, r50:=by omega, h200:=fun i hi=>(e i hi).1.2 }
theorem f33 (L:List Sp) (r q:Int) (hL:L.length <= 4):ACall Tryz.prog G 33 [.agg (eSu L r q)] (.v (.bool (zvz L r q))):=by
 have hln:(L.map eLm).length = L.length:=by simp
 refine zO Tryz.func33 Y (by kernel_rfl) Y ?_
 refine zn (zf (ql Y (zQ Y)) (zf (zg Y Y) (zo (zt (zn (zf (zg Y Y) (zo ?_)))))))
 refine zF ?_
 refine qm (ι:={ k:Nat // k <= L.length /\ (List.range k).all (okS L) = true }) (fun k=>⟨Tryz.f33.ntmps, frL [(1, .pub (.ptr (eSu L r q))), (3, I (k.1:Int))], []⟩) (fun k=>L.length - k.1) (⟨0, by simp⟩) ?_ ?_
 ·exact zy _ ⟨Y, Y, trivial⟩ (Y)
 ·rintro ⟨k, hk⟩
  dsimp only
  refine zt (zn (zf (zh Y Y) (zf (zi Y Y zdQ) (zf (zl Y Y Y zuq) (zf (qA Y Y Y Tryz.underlying97) (zf (qx Y Y Y) (zo (zA Y (fun h0=>?_) (fun h0=>?_)))))))))
  ·have hlt:k < L.length:=by simpa using h0
   refine zH (zk (zt (zF (zn (zf (zi Y Y zdQ) (zf (zl Y Y Y zuq) (zf (zh Y Y) ?_)))))))
   refine zf (zD Y Y Y zur (by omega) (by exact zyq hlt) zun) ?_
   refine zf (zK Y Y zuw (by exact zLb Y)) ?_
   refine qP  Y Y Y Y Y Y Y zuT zuw Y (by rfl) (zQ Y) Y ?_
   refine zo (zt (zt ?_))
   refine qp mixed (by kernel_rfl) Y ?_
   refine zu Y (zi Y Y zuJ) (zu Y (zl Y Y Y ty3) (zu Y (zB (av:=[_, _, _]) Y ⟨Y, Y, Y, trivial⟩ (f94 _ _ _)) (zu Y (qJ Y Y) (zu Y (zh Y Y) (zq Y (fun hg=>zh Y Y) (zq Y (fun hg=>jB Y (if_pos hg) Y) (zq Y (fun hg=>zh Y (if_pos hg)) (zq (zT Y Y Y) (fun hg=>zi Y Y zuJ) (zq (zT Y Y Y) (fun hg=>zl Y (if_pos hg) Y ty3) (zq (zT Y Y Y) (fun hg=>zi Y Y zdQ) (zq (zT Y Y Y) (fun hg=>zl Y (if_pos hg) Y zuq) ?_)))))))))))
   refine zq (zT Y Y Y) (fun hg=>zh Y Y) ?_
   refine zq (zT Y Y Y) (fun hg=>vN Y (if_pos hg) Y ⟨by simp at hg; omega, by simp at hg; omega⟩) ?_
   refine zq (zT Y Y Y) (fun hg=>zD (p:=(k:Int) - 1) Y (if_pos hg) (if_pos hg) zur (by simp at hg; omega) (zvb (i:=(k:Int) - 1) (show k - 1 < L.length by omega) (by simp at hg; omega)) zun) ?_
   refine zq (zT Y Y Y) (fun hg=>zi Y (if_pos hg) zuJ) (zq (zT Y Y Y) (fun hg=>zl Y (if_pos hg) Y ty3) (zq (zT Y Y Y) (fun hg=>zbt Y (if_pos hg) (if_pos hg)) (zq Y (fun hg=>jg Y (if_pos hg) (vG hg) Y) (zu Y (jf Y Y Y Y) (zu Y (zh Y Y) (zq Y (fun hg=>zi Y Y zG) (zq Y (fun hg=>zl Y (if_pos hg) Y zuo) (zq Y (fun hg=>qA Y Y (if_pos hg) Tryz.underlying106) (zq Y (fun hg=>jB Y (if_pos hg) Y) (zu Y (jf Y Y Y Y) (qF ?_)))))))))))
   refine zk (zA Y (fun h1=>?_) (fun h1=>?_))
   ·have hno:okS L k = false:=zyS hlt h1
    refine zn (zf (zg Y Y) (zo (zN (zP (zZ (zP (zP (zZ (zP ?_)))))))))
    exact ⟨.inr Y, AVle.of (by rw [zwF hlt hno])⟩
   ·have hok1:=zxR hlt h1
    refine zH (zk (zn (zf (zg Y Y) (zo (zF ?_)))))
    refine qm (ι:={ j:Nat // j <= 1 /\ (0 < j -> zuB L[k] = true) }) (fun j=>⟨Tryz.f33.ntmps, frL [(1, .pub (.ptr (eSu L r q))), (3, I (k:Int)), (4, .pub (.ptr (eLm L[k]))), (5, I (j.1:Int))], []⟩) (fun j=>1 - j.1) (⟨0, by simp⟩) ?_ ?_
    ·exact zy _ ⟨Y, Y, Y, Y, trivial⟩ (Y)
    ·rintro ⟨j, hj⟩
     dsimp only
     refine zt (zn (zf (zh Y Y) (zf (zi Y Y zG) (zf (zl Y Y Y zuo) (zf (qA Y Y Y Tryz.underlying106) (zf (qx Y Y Y) (zo (zA Y (fun h2=>?_) (fun h2=>?_)))))))))
     ·have hj1:j < 1:=by simp at h2; omega
      refine zH (zk (zt (zF (zn (zf (zi Y Y zG) (zf (zl Y Y Y zuo) (zf (zh Y Y) ?_)))))))
      refine zf (zD Y Y Y zv7 (by omega) (by exact zvW (k:=j) (by omega)) zvr) ?_
      refine zf (zK Y Y zby (by exact zLb Y)) ?_
      refine qP  Y Y Y Y Y Y Y zbX zby Y (by rfl) (zQ Y) Y ?_
      refine zo (zn (zf (zi Y Y zvx) (zf (zK Y Y zuz (by exact zLb Y)) (zf (zB (av:=[_, _]) Y ⟨Y, Y, trivial⟩ (f95 _ _ _)) (zf (qJ Y Y) (zf (zh Y Y) (zC Y (fun hg=>zi Y Y zvw) (zC Y (fun hg=>zK Y (if_pos hg) zuz (by exact zLb Y)) (zC Y (fun hg=>zB (av:=[_, _]) Y ⟨((if_pos hg)), Y, trivial⟩ (f95 _ _ _)) ?_)))))))))
      refine zC Y (fun hg=>qJ Y (if_pos hg)) (zf (jf Y Y Y Y) (zf (zh Y Y) (zC Y (fun hg=>zi Y Y zuW) (zC Y (fun hg=>zK Y (if_pos hg) zuz (by exact zLb Y)) (zC Y (fun hg=>zB (av:=[_, _]) Y ⟨((if_pos hg)), Y, trivial⟩ (f95 _ _ _)) (zC Y (fun hg=>qJ Y (if_pos hg)) (zf (jf Y Y Y Y) (zo (zA Y (fun h3=>?_) (fun h3=>?_))))))))))
      ·have hno:okS L k = false:=by unfold okS; rw [gD hlt, zxI h3, Bool.and_false]
       refine zn (zf (zg Y Y) (zo (zN (zZ (zP (zP (zZ (zZ (zP ?_)))))))))
       refine zP (zZ (zP ?_))
       exact ⟨.inr Y, AVle.of (by rw [zwF hlt hno])⟩
      ·have hsp:zuB L[k] = true:=zxr h3
       refine zH (zJ (zk (zx (zf (zh Y Y) (zf (zW Y Y Y ⟨by omega, by omega⟩) (zf (zg Y Y) (zM ?_)))))))
       exact ⟨⟨j + 1, by omega, fun _=>hsp⟩, by dsimp only; omega, zy _ ⟨Y, Y, Y, Y, trivial⟩ (Y)⟩
     ·have hj1:j = 1:=by simp at h2; omega
      have hsp:=hj.2 (by omega)
      refine qg (zS (zS (qh (zJ (zk (zx (zf (zh Y Y) (zf (zW Y Y Y ⟨by omega, by omega⟩) (zf (zg Y Y) (zM ?_))))))))))
      exact ⟨⟨k + 1, by omega, zxu hk.2 (zyL hlt hok1 hsp)⟩, by dsimp only; omega, zy _ ⟨Y, Y, trivial⟩ (Y)⟩
  ·have hge:k = L.length:=by simp at h0; omega
   refine qg (zS (zS (qh (zk (zn (zf (zi Y Y zdQ) (zf (zl Y Y Y zuq) (zf (qA Y Y Y Tryz.underlying97) (zf (zB (av:=[_, _, _]) Y ⟨Y, Y, Y, trivial⟩ (f94 _ _ _)) (zf (zh Y Y) ?_))))))))))
   refine zC Y (fun hg=>zi Y Y ziE) (zC Y (fun hg=>zl Y (if_pos hg) Y ty3) (zC Y (fun hg=>zB (av:=[_, _, _]) Y ⟨((if_pos hg)), Y, Y, trivial⟩ (f94 _ _ _)) (zf (jg Y Y Y Y) (zf (zh Y Y) (zC Y (fun hg=>zi Y Y zv6) (zC Y (fun hg=>zl Y (if_pos hg) Y ty3) (zC Y (fun hg=>zB (av:=[_, _, _]) Y ⟨((if_pos hg)), Y, Y, trivial⟩ (f94 _ _ _)) (zf (jg Y Y Y Y) (zf (zh Y Y) (zC Y (fun hg=>zi Y Y zvo) (zC Y (fun hg=>zl Y (if_pos hg) Y ty3) ?_)))))))))))
   refine zC Y (fun hg=>zB (av:=[_, _, _]) Y ⟨((if_pos hg)), Y, Y, trivial⟩ (f94 _ _ _)) (zf (jg Y Y Y Y) (zf (zh Y Y) (zC Y (fun hg=>zi Y Y zvp) (zC Y (fun hg=>zl Y (if_pos hg) Y ty3) (zC Y (fun hg=>zB (av:=[_, _, _]) Y ⟨((if_pos hg)), Y, Y, trivial⟩ (f94 _ _ _)) (zf (jg Y Y Y Y) (zf (zg Y Y) (zo (zN ?_)))))))))
   exact ⟨.inr Y, AVle.of (zxD hge hk.2)⟩
end Tp
end Go.Av
end
