import Derived.Test.YtgmbdadkbominaaGreatDoorChL
set_option linter.unusedVariables false
set_option linter.unusedSimpArgs false
section
namespace Go.Av
namespace Tp
open Go.Proofs
set_option maxRecDepth 100000
set_option maxHeartbeats 1000000
variable {G:Glob}
theorem zwk:vM Tryz.prog 199 [(0, 5), (5, 1)] [.slice none 0 0, .int .i64 0, .int .i64 0, .int .i64 0, .int .i64 0, .slice none 0 0]:=⟨_, Tryz.underlying199, by kernel_rfl, by kernel_rfl⟩
theorem ti3:Tryz.prog.info? 3 = some Tryz.t3:=by kernel_rfl
theorem yw:tyIs Tryz.prog 99 true 5 = true:=by kernel_rfl
theorem zwB:Tryz.prog.info? 353 = some Tryz.t353:=by kernel_rfl
theorem zwC:(Tryz.prog.info? 352).bind (·.zero) = some (.slice none 0 0):=by kernel_rfl
theorem zuT:(Tryz.prog.info? 108).bind (·.zero) = some (.agg #[.int .i64 0, .slice none 0 0]):=by kernel_rfl
theorem zwx:(Tryz.prog.info? 354).bind (·.zero) = some (.nilFunc):=by kernel_rfl
theorem zx0 (s0:Sp) {r q:Int} {D:List Int} (hs:SuB [s0] r q) (ht:TrB [s0] r q D):zcM Tryz.prog G 246 [] [.ptr (eSu [s0] r q)] [[.agg (eLk [s0] r q (sV 1))]]:=by
 have hl:((List.map eLm [s0]).length:Int) = 1:=rfl
 have hq:∀ C:Cx Tryz.prog G, C.qs = [[.agg (eLk [s0] r q (sV 1))]] -> C.qs[0]? = some [.agg (eLk [s0] r q (sV [s0].length))]:=fun C hC=>by rw [hC]; rfl
 refine ze2 (qs:=[[.agg (eLk [s0] r q (sV 1))]]) Tryz.func246 Y (by kernel_rfl) Y Y (fun C hC=>?_)
 refine jU ?_
 refine yf ?_
 refine zx (zf (ql (cs:=[_]) Y (qU Y)) (zM ?_))
 refine qE ?_
 refine jU ?_
 refine yf ?_
 refine qY zgO ?_
 refine qY zgO ?_
 refine zfD (fun _=>True) (fun k=>match k with | 0=>.stable | 1=>.stable | 2=>.stable | 3=>.stable | 4=>.own 0 | 5=>.rd [0] | 6=>.own 1 | 7=>.writes | _=>.here) mixed (by kernel_rfl) rfl (by kernel_rfl) trivial ?_
 refine jv Y Y (fun m hm=>zK Y Y yw (by exact zLb Y)) (jv Y Y (fun m hm=>zi Y Y zdQ) (jv Y Y (fun m hm=>zl Y Y Y zuq) (jv Y Y (fun m hm=>qA Y Y Y Tryz.underlying97) ?_)))
 refine ztC Y Y (wP Y Y Tryz.underlying82 zvg Y Y Y (zs:=[.slice none 0 0]) Y Y Y (by simp) (by simp) (by decide) Y) ?_
 refine zsH [0] Y Y (fun m hm hC=>zvd (cs:=[_, _, _, _, _, _]) Y zwk Y ⟨_, _, Y, zQ Y, ⟨_, _, Y, zc7 Y ((hm.one 0 (by simp)).trans Y) (by simp), Y⟩⟩ (by rfl) (by simp [ofV])) ?_
 refine ztC Y Y (zmH Y zvl Y Y Y) ?_
 refine zpt Y Y (zd0 Y Y Y Y Y Y (zkj Y) zup (by rfl) (by rfl)) trivial ?_
 refine zfa ?_
 refine qE ?_
 refine jU ?_
 refine yf ?_
 refine zx (zf (zi Y Y zdQ) (zf (zl Y Y Y zuq) (zf (qA Y Y Y Tryz.underlying97) ?_)))
 refine qL Y (znE Y Y Y Tryz.underlying352 zwB Y Y Y (zs:=[.slice none 0 0]) Y Y Y (by decide) (by omega) (by omega) (by decide)) ?_
 refine qL Y (jr Y Y zwC Y Y) ?_
 refine qL Y (qw Y Y Y Y Y Y (zc7 Y Y (by simp)) zuG (by rfl) (by exact zLb Y)) ?_
 refine zM ?_
 refine qE ?_
 refine jU ?_
 refine jU ?_
 refine yf ?_
 refine zx (zf (zi Y Y zdQ) (zf (zl Y Y Y zuq) (zf (qA Y Y Y Tryz.underlying97) (zf (zh Y Y) (zM ?_)))))
 refine qE ?_
 refine yf ?_
 refine zF ?_
 refine qm (ι:={ k:Nat // k < 2 }) (fun k=>match k.1 with | 0=>⟨Tryz.f246.ntmps, frL [(1, .pub (.ptr (eSu [s0] r q))), (2, .pub (.ptr [Yv C.l])), (3, .pp 1 1 0 0), (4, .pp 3 1 0 0), (20, .pub (.sl ([s0].map eLm))), (21, I 1), (22, I 0)], [.row [[.pub (.v (.slice none 0 0))]], .row [suE [s0] r q (.psl 0 1)], .row [[.pub (.v (.slice none 0 0))]], .row [[.psl 2 1]]]⟩ | _=>⟨Tryz.f246.ntmps, frL [(1, .pub (.ptr (eSu [s0] r q))), (2, .pub (.ptr [Yv C.l])), (3, .pp 1 1 0 0), (4, .pp 3 1 0 0), (20, .pub (.sl ([s0].map eLm))), (21, I 1), (22, I 1)], [.row [[.psl 4 1]], .row [suE [s0] r q (.psl 0 1)], .row [[.psl 5 1]], .row [[.psl 2 1]], .row [[I 0]], .row [[I 0, I 0, I 0, I 0, I 0, I 0]]]⟩) (fun k=>2 - k.1) (⟨0, by omega⟩) ?_ ?_
 ·exact zy _ ⟨Y, Y, Y, Y, Y, Y, Y, trivial⟩ (Y)
 ·rintro ⟨k, hk⟩
  have hk3:k = 0 ∨ k = 1:=by omega
  rcases hk3 with rfl | rfl
  ·dsimp only
   refine zn (zf (qx Y Y Y) (zo (zt (zA Y (fun h0=>?_) (fun h0=>?_)))))
   ·refine zH (zk (zt (zF (zn (zf (zh Y Y) ?_)))))
    refine zf (zD Y Y Y zur (by omega) (by rfl) zun) ?_
    refine zf (zK Y Y zuw (by exact zLb Y)) ?_
    refine zjZ  Y Y Y Y Y Y Y Y (zg Y Y) Y Y Y zuT zuw Y (by rfl) (zQ Y) Y ?_
    refine zo ?_
    refine qY zgO ?_
    refine qY zgO ?_
    refine zfD (CB 1 (.row [suE [s0] r q (.psl 0 1)]) (.row [[.psl 2 1]])) (fun k=>match k with | 0=>.stable | 1=>.stable | 2=>.stable | 3=>.stable | 4=>.stable | 5=>.stable | 6=>.stable | 7=>.stable | 8=>.own 4 | 9=>.stable | 10=>.stable | 11=>.stable | 12=>.own 5 | 13=>.stable | 14=>.rw [4] (0) | 15=>.stable | 16=>.writes | _=>.here) mixed (by kernel_rfl) rfl (by kernel_rfl) ⟨rfl, rfl, ⟨_, rfl, rfl, by simp [putCells]⟩, ⟨_, rfl, rfl, by simp [putCells]⟩⟩ ?_
    refine jv Y Y (fun m hm=>jJ Y Y hm.1 Y wF) (jv Y Y (fun m hm=>zX Y Y hm.1 Y Y Y zum) (jv Y Y (fun m hm=>zh Y Y) (jv Y Y (fun m hm=>zX Y Y hm.2.1 Y Y Y zuG) (jv Y Y (fun m hm=>zh Y Y) (jv Y Y (fun m hm=>zi Y Y zG) (jv Y Y (fun m hm=>zl Y Y Y zuo) (jv Y Y (fun m hm=>qA Y Y Y Tryz.underlying106) ?_)))))))
    refine ztC Y Y (fun m hm hC=>⟨(wP Y Y Tryz.underlying24 ti3 Y Y Y (zs:=[.int .i64 0]) Y Y Y (by simp) (by simp) (by decide) Y m hm trivial).1, zuv (by decide) hC⟩) ?_
    refine jv Y Y (fun m hm=>zi Y Y zG) (jv Y Y (fun m hm=>zl Y Y Y zuo) (jv Y Y (fun m hm=>qA Y Y Y Tryz.underlying106) ?_))
    refine ztC Y Y (fun m hm hC=>⟨(wP Y Y Tryz.underlying353 zuS Y Y Y (zs:=[.int .i64 0, .int .i64 0, .int .i64 0, .int .i64 0, .int .i64 0, .int .i64 0]) Y Y Y (by simp) (by simp) (by decide) Y m hm trivial).1, zuv (by decide) hC⟩) ?_
    refine jv Y Y (fun m hm=>jw Y Y Y hm.2.2.1.choose_spec.1 hm.2.2.1.choose_spec.2.1 zla (by omega) (by omega) hm.2.2.1.choose_spec.2.2) ?_
    refine zu3 [4] 0 Y Y (fun m hm hC=>⟨zd0 Y Y Y ((hm.one 0 (by simp)).trans Y) Y Y (zc7 Y ((hm.one 4 (by simp)).trans Y) (by simp)) kN (by rfl) (by rfl), zuI hC Y (by simp [putCells])⟩) ?_
    refine jv Y Y (fun m hm=>jw Y Y Y hm.2.2.2.choose_spec.1 hm.2.2.2.choose_spec.2.1 zuC (by omega) (by omega) hm.2.2.2.choose_spec.2.2) ?_
    refine zpt Y Y (zd0 Y Y Y Y Y Y (zc7 Y Y (by simp)) zuL (by rfl) (by rfl)) ⟨Y, Y, ⟨_, Y, Y, by simp [putCells]⟩, ⟨_, Y, Y, by simp [putCells]⟩⟩ ?_
    refine zfa (zJ (zk (zx (zf (zW Y Y Y ⟨by omega, by omega⟩) (zf (zh Y Y) (zM ?_))))))
    exact ⟨⟨1, by omega⟩, by dsimp only; omega, (by refine zy (mem':=[.row [[.psl 4 1]], .row [suE [s0] r q (.psl 0 1)], .row [[.psl 5 1]], .row [[.psl 2 1]], .row [[I 0]], .row [[I 0, I 0, I 0, I 0, I 0, I 0]]]) [(1, .pub (.ptr (eSu [s0] r q))), (2, .pub (.ptr [Yv C.l])), (3, .pp 1 1 0 0), (4, .pp 3 1 0 0), (20, .pub (.sl ([s0].map eLm))), (21, I 1), (22, I 1)] ?_ ?_; exact ⟨Y, Y, Y, Y, Y, Y, Y, trivial⟩; exact (Y))⟩
   ·exfalso; simp at h0
  ·dsimp only
   refine zn (zf (qx Y Y Y) (zo (zt (zA Y (fun h0=>?_) (fun h0=>?_)))))
   ·exfalso; simp at h0
   ·refine qg (zS (zS (qh ?_)))
    refine qE ?_
    refine jU ?_
    refine jU ?_
    refine yf ?_
    refine zx (zf (zi Y Y zdQ) (zf (zl Y Y Y zuq) ?_))
    refine zf (zD Y Y Y zur (by omega) (by rfl) zun) ?_
    refine zf (zi Y Y zG) (zf (zl Y Y Y zuo) (zf (qA Y Y Y Tryz.underlying106) (zf (zh Y Y) (zM ?_))))
    refine qE ?_
    refine yf ?_
    refine zF ?_
    refine qm (ι:={ k:Nat // k < 2 }) (fun k=>match k.1 with | 0=>⟨Tryz.f246.ntmps, frL [(1, .pub (.ptr (eSu [s0] r q))), (2, .pub (.ptr [Yv C.l])), (3, .pp 1 1 0 0), (4, .pp 3 1 0 0), (48, I 1), (49, I 0)], [.row [[.psl 4 1]], .row [suE [s0] r q (.psl 0 1)], .row [[.psl 5 1]], .row [[.psl 2 1]], .row [[I 0]], .row [[I 0, I 0, I 0, I 0, I 0, I 0]]]⟩ | _=>⟨Tryz.f246.ntmps, frL [(1, .pub (.ptr (eSu [s0] r q))), (2, .pub (.ptr [Yv C.l])), (3, .pp 1 1 0 0), (4, .pp 3 1 0 0), (48, I 1), (49, I 1)], [.row [[.psl 4 1]], .row [suE [s0] r q (.psl 0 1)], .row [[.psl 5 1]], .row [[.psl 2 1]], .row [[I (-1)]], .row [(eBx (ownB [s0] 0)).map .pub]]⟩) (fun k=>2 - k.1) (⟨0, by omega⟩) ?_ ?_
    ·exact zy _ ⟨Y, Y, Y, Y, Y, Y, trivial⟩ (Y)
    ·rintro ⟨k, hk⟩
     have hk3:k = 0 ∨ k = 1:=by omega
     rcases hk3 with rfl | rfl
     ·dsimp only
      refine zn (zf (qx Y Y Y) (zo (zt (zA Y (fun h1=>?_) (fun h1=>?_)))))
      ·refine zH (zk (zt (zF (zn (zf (zh Y Y) (zf (zg Y Y) (zo ?_)))))))
       refine zfD (CB2 1 (.row [suE [s0] r q (.psl 0 1)]) (.row [[.psl 2 1]])) (fun k=>match k with | 5=>.stable | 6=>.stable | 8=>.stable | 9=>.stable | 10=>.stable | 13=>.writes | 14=>.stable | 15=>.writes | _=>.here) mixed (by kernel_rfl) rfl (by kernel_rfl) ⟨⟨rfl, rfl, ⟨_, rfl, rfl, by simp [putCells]⟩, ⟨_, rfl, rfl, by simp [putCells]⟩⟩, ⟨_, rfl, rfl, by simp [putCells, eBx]⟩⟩ ?_
       refine znG Y Y (jJ Y Y Y Y wF) (znG Y Y (zX Y Y Y Y Y Y zum) ?_)
       refine znG Y Y (jw Y Y Y Y Y zla (by omega) (by omega) (by simp)) ?_
       refine znG Y Y (zX Y Y Y Y Y Y kN) (znG Y Y (zh Y Y) (jv Y Y (fun m hm=>zX Y Y hm.1.2.1 Y Y Y zuG) (jv Y Y (fun m hm=>jw Y Y Y hm.1.2.2.2.choose_spec.1 hm.1.2.2.2.choose_spec.2.1 zuC (by omega) (by omega) hm.1.2.2.2.choose_spec.2.2) (znG Y Y (zX Y Y Y Y Y Y zuL) (jv Y Y (fun m hm=>zh Y Y) (jv Y Y (fun m hm=>za9 (cs:=suE [s0] r q (.psl 0 1)) Y Y hm.1.1 Y Y (by exact zLb Y) Y zup) (jv Y Y (fun m hm=>zh Y Y) ?_)))))))
       refine znG Y Y (zeO (av:=[.agg (eLk [s0] r q .top), Ct.ei 0, Ct.ei 0]) Y ⟨_, _, Y, AVle.refl _, _, _, Y, AVle.refl _, _, _, Y, AVle.refl _, Y⟩ (zwf [s0] r q .top 0 (by simp) 0 Y)) ?_
       refine znG Y Y (jw Y Y Y Y Y zjc (by omega) (by omega) (by simp)) ?_
       refine zpt Y Y (zd0 Y Y Y Y Y Y (qU Y) ty3 (by rfl) (by rfl)) ⟨⟨Y, Y, ⟨_, Y, Y, by simp [putCells]⟩, ⟨_, Y, Y, by simp [putCells]⟩⟩, ⟨_, Y, Y, by simp [putCells, eBx]⟩⟩ ?_
       refine jv Y Y (fun m hm=>jw Y Y Y hm.2.choose_spec.1 hm.2.choose_spec.2.1 zva (by omega) (by omega) hm.2.choose_spec.2.2) ?_
       refine zpt Y Y (zd0 Y Y Y Y Y Y (zQ Y) wX (by rfl) (by rfl)) ⟨⟨Y, Y, ⟨_, Y, Y, by simp [putCells]⟩, ⟨_, Y, Y, by simp [putCells]⟩⟩, ⟨_, Y, Y, by simp [putCells, eBx]⟩⟩ ?_
       refine zfa (zJ (zk (zx (zf (zW Y Y Y ⟨by omega, by omega⟩) (zf (zh Y Y) (zM ?_))))))
       exact ⟨⟨1, by omega⟩, by dsimp only; omega, (by refine zy (mem':=[.row [[.psl 4 1]], .row [suE [s0] r q (.psl 0 1)], .row [[.psl 5 1]], .row [[.psl 2 1]], .row [[I (-1)]], .row [(eBx (ownB [s0] 0)).map .pub]]) [(1, .pub (.ptr (eSu [s0] r q))), (2, .pub (.ptr [Yv C.l])), (3, .pp 1 1 0 0), (4, .pp 3 1 0 0), (48, I 1), (49, I 1)] ?_ ?_; exact ⟨Y, Y, Y, Y, Y, Y, trivial⟩; exact (Y))⟩
      ·exfalso; simp at h1
     ·dsimp only
      refine zn (zf (qx Y Y Y) (zo (zt (zA Y (fun h1=>?_) (fun h1=>?_)))))
      ·exfalso; simp at h1
      ·refine qg (zS (zS (qh ?_)))
       refine qE ?_
       refine jU ?_
       refine yf ?_
       refine zx (qL Y (jr Y Y zwx Y Y) (zM ?_))
       refine qE ?_
       refine jU ?_
       refine yf ?_
       refine zx (zf (vP Y) ?_)
       refine qL Y (qw Y Y Y Y Y Y (zkm Y) zu8 (by rfl) (by exact zLb Y)) ?_
       refine zM ?_
       refine qE ?_
       refine zaj (zy (mem':=MM [s0] r q C.l 1 []) [(8, .pp 6 1 0 0)] ?_ ?_) ?_
       ·exact ⟨Y, trivial⟩
       ·exact Y
       refine yT ?_
       refine vX Y Y (zX Y Y Y Y Y Y zu8) ?_
       refine zuX (gh:=[]) (c:=true) (f:=247) (fs:=[]) (cs:=zve [s0] r q C.l) (av:=[I 1, I 0, I 0, I 0]) Y Y Y Y (fun _=>⟨Y, Y, Y⟩) (fun _=>⟨Y, Y, Y, Y, trivial⟩) (fun _=>zw5 hs ht (hq C hC) 0 1 (by omega) (by rfl) []) (fun h=>absurd h (by decide)) (fun _=>?_) (fun _=>?_)
       ·refine zas ?_
        exact ⟨.inl Y, Y, .inl Y⟩
       ·refine zas ?_
        exact ⟨.inl Y, Y, .inr ⟨0, Y⟩⟩
theorem zxX (s0 s1:Sp) {r q:Int} {D:List Int} (hs:SuB [s0, s1] r q) (ht:TrB [s0, s1] r q D):zcM Tryz.prog G 246 [] [.ptr (eSu [s0, s1] r q)] [[.agg (eLk [s0, s1] r q (sV 2))]]:=by
 have hl:((List.map eLm [s0, s1]).length:Int) = 2:=rfl
 have hq:∀ C:Cx Tryz.prog G, C.qs = [[.agg (eLk [s0, s1] r q (sV 2))]] -> C.qs[0]? = some [.agg (eLk [s0, s1] r q (sV [s0, s1].length))]:=fun C hC=>by rw [hC]; rfl
 refine ze2 (qs:=[[.agg (eLk [s0, s1] r q (sV 2))]]) Tryz.func246 Y (by kernel_rfl) Y Y (fun C hC=>?_)
 refine jU ?_
 refine yf ?_
 refine zx (zf (ql (cs:=[_]) Y (qU Y)) (zM ?_))
 refine qE ?_
 refine jU ?_
 refine yf ?_
 refine qY zgO ?_
 refine qY zgO ?_
 refine zfD (fun _=>True) (fun k=>match k with | 0=>.stable | 1=>.stable | 2=>.stable | 3=>.stable | 4=>.own 0 | 5=>.rd [0] | 6=>.own 1 | 7=>.writes | _=>.here) mixed (by kernel_rfl) rfl (by kernel_rfl) trivial ?_
 refine jv Y Y (fun m hm=>zK Y Y yw (by exact zLb Y)) (jv Y Y (fun m hm=>zi Y Y zdQ) (jv Y Y (fun m hm=>zl Y Y Y zuq) (jv Y Y (fun m hm=>qA Y Y Y Tryz.underlying97) ?_)))
 refine ztC Y Y (wP Y Y Tryz.underlying82 zvg Y Y Y (zs:=[.slice none 0 0]) Y Y Y (by simp) (by simp) (by decide) Y) ?_
 refine zsH [0] Y Y (fun m hm hC=>zvd (cs:=[_, _, _, _, _, _]) Y zwk Y ⟨_, _, Y, zQ Y, ⟨_, _, Y, zc7 Y ((hm.one 0 (by simp)).trans Y) (by simp), Y⟩⟩ (by rfl) (by simp [ofV])) ?_
 refine ztC Y Y (zmH Y zvl Y Y Y) ?_
 refine zpt Y Y (zd0 Y Y Y Y Y Y (zkj Y) zup (by rfl) (by rfl)) trivial ?_
 refine zfa ?_
 refine qE ?_
 refine jU ?_
 refine yf ?_
 refine zx (zf (zi Y Y zdQ) (zf (zl Y Y Y zuq) (zf (qA Y Y Y Tryz.underlying97) ?_)))
 refine qL Y (znE Y Y Y Tryz.underlying352 zwB Y Y Y (zs:=[.slice none 0 0]) Y Y Y (by decide) (by omega) (by omega) (by decide)) ?_
 refine qL Y (jr Y Y zwC Y Y) ?_
 refine qL Y (qw Y Y Y Y Y Y (zc7 Y Y (by simp)) zuG (by rfl) (by exact zLb Y)) ?_
 refine zM ?_
 refine qE ?_
 refine jU ?_
 refine jU ?_
 refine yf ?_
 refine zx (zf (zi Y Y zdQ) (zf (zl Y Y Y zuq) (zf (qA Y Y Y Tryz.underlying97) (zf (zh Y Y) (zM ?_)))))
 refine qE ?_
 refine yf ?_
 refine zF ?_
 refine qm (ι:={ k:Nat // k < 3 }) (fun k=>match k.1 with | 0=>⟨Tryz.f246.ntmps, frL [(1, .pub (.ptr (eSu [s0, s1] r q))), (2, .pub (.ptr [Yv C.l])), (3, .pp 1 1 0 0), (4, .pp 3 1 0 0), (20, .pub (.sl ([s0, s1].map eLm))), (21, I 2), (22, I 0)], [.row [[.pub (.v (.slice none 0 0))], [.pub (.v (.slice none 0 0))]], .row [suE [s0, s1] r q (.psl 0 2)], .row [[.pub (.v (.slice none 0 0))], [.pub (.v (.slice none 0 0))]], .row [[.psl 2 2]]]⟩ | 1=>⟨Tryz.f246.ntmps, frL [(1, .pub (.ptr (eSu [s0, s1] r q))), (2, .pub (.ptr [Yv C.l])), (3, .pp 1 1 0 0), (4, .pp 3 1 0 0), (20, .pub (.sl ([s0, s1].map eLm))), (21, I 2), (22, I 1)], [.row [[.psl 4 1], [.pub (.v (.slice none 0 0))]], .row [suE [s0, s1] r q (.psl 0 2)], .row [[.psl 5 1], [.pub (.v (.slice none 0 0))]], .row [[.psl 2 2]], .row [[I 0]], .row [[I 0, I 0, I 0, I 0, I 0, I 0]]]⟩ | _=>⟨Tryz.f246.ntmps, frL [(1, .pub (.ptr (eSu [s0, s1] r q))), (2, .pub (.ptr [Yv C.l])), (3, .pp 1 1 0 0), (4, .pp 3 1 0 0), (20, .pub (.sl ([s0, s1].map eLm))), (21, I 2), (22, I 2)], [.row [[.psl 4 1], [.psl 6 1]], .row [suE [s0, s1] r q (.psl 0 2)], .row [[.psl 5 1], [.psl 7 1]], .row [[.psl 2 2]], .row [[I 0]], .row [[I 0, I 0, I 0, I 0, I 0, I 0]], .row [[I 0]], .row [[I 0, I 0, I 0, I 0, I 0, I 0]]]⟩) (fun k=>3 - k.1) (⟨0, by omega⟩) ?_ ?_
 ·exact zy _ ⟨Y, Y, Y, Y, Y, Y, Y, trivial⟩ (Y)
 ·rintro ⟨k, hk⟩
  have hk3:k = 0 ∨ k = 1 ∨ k = 2:=by omega
  rcases hk3 with rfl | rfl | rfl
  ·dsimp only
   refine zn (zf (qx Y Y Y) (zo (zt (zA Y (fun h0=>?_) (fun h0=>?_)))))
   ·refine zH (zk (zt (zF (zn (zf (zh Y Y) ?_)))))
    refine zf (zD Y Y Y zur (by omega) (by rfl) zun) ?_
    refine zf (zK Y Y zuw (by exact zLb Y)) ?_
    refine zjZ  Y Y Y Y Y Y Y Y (zg Y Y) Y Y Y zuT zuw Y (by rfl) (zQ Y) Y ?_
    refine zo ?_
    refine qY zgO ?_
    refine qY zgO ?_
    refine zfD (CB 2 (.row [suE [s0, s1] r q (.psl 0 2)]) (.row [[.psl 2 2]])) (fun k=>match k with | 0=>.stable | 1=>.stable | 2=>.stable | 3=>.stable | 4=>.stable | 5=>.stable | 6=>.stable | 7=>.stable | 8=>.own 4 | 9=>.stable | 10=>.stable | 11=>.stable | 12=>.own 5 | 13=>.stable | 14=>.rw [4] (0) | 15=>.stable | 16=>.writes | _=>.here) mixed (by kernel_rfl) rfl (by kernel_rfl) ⟨rfl, rfl, ⟨_, rfl, rfl, by simp [putCells]⟩, ⟨_, rfl, rfl, by simp [putCells]⟩⟩ ?_
    refine jv Y Y (fun m hm=>jJ Y Y hm.1 Y wF) (jv Y Y (fun m hm=>zX Y Y hm.1 Y Y Y zum) (jv Y Y (fun m hm=>zh Y Y) (jv Y Y (fun m hm=>zX Y Y hm.2.1 Y Y Y zuG) (jv Y Y (fun m hm=>zh Y Y) (jv Y Y (fun m hm=>zi Y Y zG) (jv Y Y (fun m hm=>zl Y Y Y zuo) (jv Y Y (fun m hm=>qA Y Y Y Tryz.underlying106) ?_)))))))
    refine ztC Y Y (fun m hm hC=>⟨(wP Y Y Tryz.underlying24 ti3 Y Y Y (zs:=[.int .i64 0]) Y Y Y (by simp) (by simp) (by decide) Y m hm trivial).1, zuv (by decide) hC⟩) ?_
    refine jv Y Y (fun m hm=>zi Y Y zG) (jv Y Y (fun m hm=>zl Y Y Y zuo) (jv Y Y (fun m hm=>qA Y Y Y Tryz.underlying106) ?_))
    refine ztC Y Y (fun m hm hC=>⟨(wP Y Y Tryz.underlying353 zuS Y Y Y (zs:=[.int .i64 0, .int .i64 0, .int .i64 0, .int .i64 0, .int .i64 0, .int .i64 0]) Y Y Y (by simp) (by simp) (by decide) Y m hm trivial).1, zuv (by decide) hC⟩) ?_
    refine jv Y Y (fun m hm=>jw Y Y Y hm.2.2.1.choose_spec.1 hm.2.2.1.choose_spec.2.1 zla (by omega) (by omega) hm.2.2.1.choose_spec.2.2) ?_
    refine zu3 [4] 0 Y Y (fun m hm hC=>⟨zd0 Y Y Y ((hm.one 0 (by simp)).trans Y) Y Y (zc7 Y ((hm.one 4 (by simp)).trans Y) (by simp)) kN (by rfl) (by rfl), zuI hC Y (by simp [putCells])⟩) ?_
    refine jv Y Y (fun m hm=>jw Y Y Y hm.2.2.2.choose_spec.1 hm.2.2.2.choose_spec.2.1 zuC (by omega) (by omega) hm.2.2.2.choose_spec.2.2) ?_
    refine zpt Y Y (zd0 Y Y Y Y Y Y (zc7 Y Y (by simp)) zuL (by rfl) (by rfl)) ⟨Y, Y, ⟨_, Y, Y, by simp [putCells]⟩, ⟨_, Y, Y, by simp [putCells]⟩⟩ ?_
    refine zfa (zJ (zk (zx (zf (zW Y Y Y ⟨by omega, by omega⟩) (zf (zh Y Y) (zM ?_))))))
    exact ⟨⟨1, by omega⟩, by dsimp only; omega, (by refine zy (mem':=[.row [[.psl 4 1], [.pub (.v (.slice none 0 0))]], .row [suE [s0, s1] r q (.psl 0 2)], .row [[.psl 5 1], [.pub (.v (.slice none 0 0))]], .row [[.psl 2 2]], .row [[I 0]], .row [[I 0, I 0, I 0, I 0, I 0, I 0]]]) [(1, .pub (.ptr (eSu [s0, s1] r q))), (2, .pub (.ptr [Yv C.l])), (3, .pp 1 1 0 0), (4, .pp 3 1 0 0), (20, .pub (.sl ([s0, s1].map eLm))), (21, I 2), (22, I 1)] ?_ ?_; exact ⟨Y, Y, Y, Y, Y, Y, Y, trivial⟩; exact (Y))⟩
   ·exfalso; simp at h0
  ·dsimp only
   refine zn (zf (qx Y Y Y) (zo (zt (zA Y (fun h0=>?_) (fun h0=>?_)))))
   ·refine zH (zk (zt (zF (zn (zf (zh Y Y) ?_)))))
    refine zf (zD Y Y Y zur (by omega) (by rfl) zun) ?_
    refine zf (zK Y Y zuw (by exact zLb Y)) ?_
    refine zjZ  Y Y Y Y Y Y Y Y (zg Y Y) Y Y Y zuT zuw Y (by rfl) (zQ Y) Y ?_
    refine zo ?_
    refine qY zgO ?_
    refine qY zgO ?_
    refine zfD (CB 2 (.row [suE [s0, s1] r q (.psl 0 2)]) (.row [[.psl 2 2]])) (fun k=>match k with | 0=>.stable | 1=>.stable | 2=>.stable | 3=>.stable | 4=>.stable | 5=>.stable | 6=>.stable | 7=>.stable | 8=>.own 6 | 9=>.stable | 10=>.stable | 11=>.stable | 12=>.own 7 | 13=>.stable | 14=>.rw [6] (0) | 15=>.stable | 16=>.writes | _=>.here) mixed (by kernel_rfl) rfl (by kernel_rfl) ⟨rfl, rfl, ⟨_, rfl, rfl, by simp [putCells]⟩, ⟨_, rfl, rfl, by simp [putCells]⟩⟩ ?_
    refine jv Y Y (fun m hm=>jJ Y Y hm.1 Y wF) (jv Y Y (fun m hm=>zX Y Y hm.1 Y Y Y zum) (jv Y Y (fun m hm=>zh Y Y) (jv Y Y (fun m hm=>zX Y Y hm.2.1 Y Y Y zuG) (jv Y Y (fun m hm=>zh Y Y) (jv Y Y (fun m hm=>zi Y Y zG) (jv Y Y (fun m hm=>zl Y Y Y zuo) (jv Y Y (fun m hm=>qA Y Y Y Tryz.underlying106) ?_)))))))
    refine ztC Y Y (fun m hm hC=>⟨(wP Y Y Tryz.underlying24 ti3 Y Y Y (zs:=[.int .i64 0]) Y Y Y (by simp) (by simp) (by decide) Y m hm trivial).1, zuv (by decide) hC⟩) ?_
    refine jv Y Y (fun m hm=>zi Y Y zG) (jv Y Y (fun m hm=>zl Y Y Y zuo) (jv Y Y (fun m hm=>qA Y Y Y Tryz.underlying106) ?_))
    refine ztC Y Y (fun m hm hC=>⟨(wP Y Y Tryz.underlying353 zuS Y Y Y (zs:=[.int .i64 0, .int .i64 0, .int .i64 0, .int .i64 0, .int .i64 0, .int .i64 0]) Y Y Y (by simp) (by simp) (by decide) Y m hm trivial).1, zuv (by decide) hC⟩) ?_
    refine jv Y Y (fun m hm=>jw Y Y Y hm.2.2.1.choose_spec.1 hm.2.2.1.choose_spec.2.1 zla (by omega) (by omega) hm.2.2.1.choose_spec.2.2) ?_
    refine zu3 [6] 0 Y Y (fun m hm hC=>⟨zd0 Y Y Y ((hm.one 0 (by simp)).trans Y) Y Y (zc7 Y ((hm.one 6 (by simp)).trans Y) (by simp)) kN (by rfl) (by rfl), zuI hC Y (by simp [putCells])⟩) ?_
    refine jv Y Y (fun m hm=>jw Y Y Y hm.2.2.2.choose_spec.1 hm.2.2.2.choose_spec.2.1 zuC (by omega) (by omega) hm.2.2.2.choose_spec.2.2) ?_
    refine zpt Y Y (zd0 Y Y Y Y Y Y (zc7 Y Y (by simp)) zuL (by rfl) (by rfl)) ⟨Y, Y, ⟨_, Y, Y, by simp [putCells]⟩, ⟨_, Y, Y, by simp [putCells]⟩⟩ ?_
    refine zfa (zJ (zk (zx (zf (zW Y Y Y ⟨by omega, by omega⟩) (zf (zh Y Y) (zM ?_))))))
    exact ⟨⟨2, by omega⟩, by dsimp only; omega, (by refine zy (mem':=[.row [[.psl 4 1], [.psl 6 1]], .row [suE [s0, s1] r q (.psl 0 2)], .row [[.psl 5 1], [.psl 7 1]], .row [[.psl 2 2]], .row [[I 0]], .row [[I 0, I 0, I 0, I 0, I 0, I 0]], .row [[I 0]], .row [[I 0, I 0, I 0, I 0, I 0, I 0]]]) [(1, .pub (.ptr (eSu [s0, s1] r q))), (2, .pub (.ptr [Yv C.l])), (3, .pp 1 1 0 0), (4, .pp 3 1 0 0), (20, .pub (.sl ([s0, s1].map eLm))), (21, I 2), (22, I 2)] ?_ ?_; exact ⟨Y, Y, Y, Y, Y, Y, Y, trivial⟩; exact (Y))⟩
   ·exfalso; simp at h0
  ·dsimp only
   refine zn (zf (qx Y Y Y) (zo (zt (zA Y (fun h0=>?_) (fun h0=>?_)))))
   ·exfalso; simp at h0
   ·refine qg (zS (zS (qh ?_)))
    refine qE ?_
    refine jU ?_
    refine jU ?_
    refine yf ?_
    refine zx (zf (zi Y Y zdQ) (zf (zl Y Y Y zuq) ?_))
    refine zf (zD Y Y Y zur (by omega) (by rfl) zun) ?_
    refine zf (zi Y Y zG) (zf (zl Y Y Y zuo) (zf (qA Y Y Y Tryz.underlying106) (zf (zh Y Y) (zM ?_))))
    refine qE ?_
    refine yf ?_
    refine zF ?_
    refine qm (ι:={ k:Nat // k < 2 }) (fun k=>match k.1 with | 0=>⟨Tryz.f246.ntmps, frL [(1, .pub (.ptr (eSu [s0, s1] r q))), (2, .pub (.ptr [Yv C.l])), (3, .pp 1 1 0 0), (4, .pp 3 1 0 0), (48, I 1), (49, I 0)], [.row [[.psl 4 1], [.psl 6 1]], .row [suE [s0, s1] r q (.psl 0 2)], .row [[.psl 5 1], [.psl 7 1]], .row [[.psl 2 2]], .row [[I 0]], .row [[I 0, I 0, I 0, I 0, I 0, I 0]], .row [[I 0]], .row [[I 0, I 0, I 0, I 0, I 0, I 0]]]⟩ | _=>⟨Tryz.f246.ntmps, frL [(1, .pub (.ptr (eSu [s0, s1] r q))), (2, .pub (.ptr [Yv C.l])), (3, .pp 1 1 0 0), (4, .pp 3 1 0 0), (48, I 1), (49, I 1)], [.row [[.psl 4 1], [.psl 6 1]], .row [suE [s0, s1] r q (.psl 0 2)], .row [[.psl 5 1], [.psl 7 1]], .row [[.psl 2 2]], .row [[I (-1)]], .row [(eBx (ownB [s0, s1] 0)).map .pub], .row [[I 0]], .row [[I 0, I 0, I 0, I 0, I 0, I 0]]]⟩) (fun k=>2 - k.1) (⟨0, by omega⟩) ?_ ?_
    ·exact zy _ ⟨Y, Y, Y, Y, Y, Y, trivial⟩ (Y)
    ·rintro ⟨k, hk⟩
     have hk3:k = 0 ∨ k = 1:=by omega
     rcases hk3 with rfl | rfl
     ·dsimp only
      refine zn (zf (qx Y Y Y) (zo (zt (zA Y (fun h1=>?_) (fun h1=>?_)))))
      ·refine zH (zk (zt (zF (zn (zf (zh Y Y) (zf (zg Y Y) (zo ?_)))))))
       refine zfD (CB2 2 (.row [suE [s0, s1] r q (.psl 0 2)]) (.row [[.psl 2 2]])) (fun k=>match k with | 5=>.stable | 6=>.stable | 8=>.stable | 9=>.stable | 10=>.stable | 13=>.writes | 14=>.stable | 15=>.writes | _=>.here) mixed (by kernel_rfl) rfl (by kernel_rfl) ⟨⟨rfl, rfl, ⟨_, rfl, rfl, by simp [putCells]⟩, ⟨_, rfl, rfl, by simp [putCells]⟩⟩, ⟨_, rfl, rfl, by simp [putCells, eBx]⟩⟩ ?_
       refine znG Y Y (jJ Y Y Y Y wF) (znG Y Y (zX Y Y Y Y Y Y zum) ?_)
       refine znG Y Y (jw Y Y Y Y Y zla (by omega) (by omega) (by simp)) ?_
       refine znG Y Y (zX Y Y Y Y Y Y kN) (znG Y Y (zh Y Y) (jv Y Y (fun m hm=>zX Y Y hm.1.2.1 Y Y Y zuG) (jv Y Y (fun m hm=>jw Y Y Y hm.1.2.2.2.choose_spec.1 hm.1.2.2.2.choose_spec.2.1 zuC (by omega) (by omega) hm.1.2.2.2.choose_spec.2.2) (znG Y Y (zX Y Y Y Y Y Y zuL) (jv Y Y (fun m hm=>zh Y Y) (jv Y Y (fun m hm=>za9 (cs:=suE [s0, s1] r q (.psl 0 2)) Y Y hm.1.1 Y Y (by exact zLb Y) Y zup) (jv Y Y (fun m hm=>zh Y Y) ?_)))))))
       refine znG Y Y (zeO (av:=[.agg (eLk [s0, s1] r q .top), Ct.ei 0, Ct.ei 0]) Y ⟨_, _, Y, AVle.refl _, _, _, Y, AVle.refl _, _, _, Y, AVle.refl _, Y⟩ (zwf [s0, s1] r q .top 0 (by simp) 0 Y)) ?_
       refine znG Y Y (jw Y Y Y Y Y zjc (by omega) (by omega) (by simp)) ?_
       refine zpt Y Y (zd0 Y Y Y Y Y Y (qU Y) ty3 (by rfl) (by rfl)) ⟨⟨Y, Y, ⟨_, Y, Y, by simp [putCells]⟩, ⟨_, Y, Y, by simp [putCells]⟩⟩, ⟨_, Y, Y, by simp [putCells, eBx]⟩⟩ ?_
       refine jv Y Y (fun m hm=>jw Y Y Y hm.2.choose_spec.1 hm.2.choose_spec.2.1 zva (by omega) (by omega) hm.2.choose_spec.2.2) ?_
       refine zpt Y Y (zd0 Y Y Y Y Y Y (zQ Y) wX (by rfl) (by rfl)) ⟨⟨Y, Y, ⟨_, Y, Y, by simp [putCells]⟩, ⟨_, Y, Y, by simp [putCells]⟩⟩, ⟨_, Y, Y, by simp [putCells, eBx]⟩⟩ ?_
       refine zfa (zJ (zk (zx (zf (zW Y Y Y ⟨by omega, by omega⟩) (zf (zh Y Y) (zM ?_))))))
       exact ⟨⟨1, by omega⟩, by dsimp only; omega, (by refine zy (mem':=[.row [[.psl 4 1], [.psl 6 1]], .row [suE [s0, s1] r q (.psl 0 2)], .row [[.psl 5 1], [.psl 7 1]], .row [[.psl 2 2]], .row [[I (-1)]], .row [(eBx (ownB [s0, s1] 0)).map .pub], .row [[I 0]], .row [[I 0, I 0, I 0, I 0, I 0, I 0]]]) [(1, .pub (.ptr (eSu [s0, s1] r q))), (2, .pub (.ptr [Yv C.l])), (3, .pp 1 1 0 0), (4, .pp 3 1 0 0), (48, I 1), (49, I 1)] ?_ ?_; exact ⟨Y, Y, Y, Y, Y, Y, trivial⟩; exact (Y))⟩
      ·exfalso; simp at h1
     ·dsimp only
      refine zn (zf (qx Y Y Y) (zo (zt (zA Y (fun h1=>?_) (fun h1=>?_)))))
      ·exfalso; simp at h1
      ·refine qg (zS (zS (qh ?_)))
       refine qE ?_
       refine jU ?_
       refine yf ?_
       refine zx (qL Y (jr Y Y zwx Y Y) (zM ?_))
       refine qE ?_
       refine jU ?_
       refine yf ?_
       refine zx (zf (vP Y) ?_)
       refine qL Y (qw Y Y Y Y Y Y (zkm Y) zu8 (by rfl) (by exact zLb Y)) ?_
       refine zM ?_
       refine qE ?_
       refine zaj (zy (mem':=MM [s0, s1] r q C.l 1 []) [(8, .pp 8 1 0 0)] ?_ ?_) ?_
       ·exact ⟨Y, trivial⟩
       ·exact Y
       refine yT ?_
       refine vX Y Y (zX Y Y Y Y Y Y zu8) ?_
       refine zuX (gh:=[]) (c:=true) (f:=247) (fs:=[]) (cs:=zve [s0, s1] r q C.l) (av:=[I 1, I 0, I 0, I 0]) Y Y Y Y (fun _=>⟨Y, Y, Y⟩) (fun _=>⟨Y, Y, Y, Y, trivial⟩) (fun _=>zw5 hs ht (hq C hC) 1 1 (by omega) (by rfl) []) (fun h=>absurd h (by decide)) (fun _=>?_) (fun _=>?_)
       ·refine zas ?_
        exact ⟨.inl Y, Y, .inl Y⟩
       ·refine zas ?_
        exact ⟨.inl Y, Y, .inr ⟨0, Y⟩⟩
theorem zxJ (s0 s1 s2:Sp) {r q:Int} {D:List Int} (hs:SuB [s0, s1, s2] r q) (ht:TrB [s0, s1, s2] r q D):zcM Tryz.prog G 246 [] [.ptr (eSu [s0, s1, s2] r q)] [[.agg (eLk [s0, s1, s2] r q (sV 3))]]:=by
 have hl:((List.map eLm [s0, s1, s2]).length:Int) = 3:=rfl
 have hq:∀ C:Cx Tryz.prog G, C.qs = [[.agg (eLk [s0, s1, s2] r q (sV 3))]] -> C.qs[0]? = some [.agg (eLk [s0, s1, s2] r q (sV [s0, s1, s2].length))]:=fun C hC=>by rw [hC]; rfl
 refine ze2 (qs:=[[.agg (eLk [s0, s1, s2] r q (sV 3))]]) Tryz.func246 Y (by kernel_rfl) Y Y (fun C hC=>?_)
 refine jU ?_
 refine yf ?_
 refine zx (zf (ql (cs:=[_]) Y (qU Y)) (zM ?_))
 refine qE ?_
 refine jU ?_
 refine yf ?_
 refine qY zgO ?_
 refine qY zgO ?_
 refine zfD (fun _=>True) (fun k=>match k with | 0=>.stable | 1=>.stable | 2=>.stable | 3=>.stable | 4=>.own 0 | 5=>.rd [0] | 6=>.own 1 | 7=>.writes | _=>.here) mixed (by kernel_rfl) rfl (by kernel_rfl) trivial ?_
 refine jv Y Y (fun m hm=>zK Y Y yw (by exact zLb Y)) (jv Y Y (fun m hm=>zi Y Y zdQ) (jv Y Y (fun m hm=>zl Y Y Y zuq) (jv Y Y (fun m hm=>qA Y Y Y Tryz.underlying97) ?_)))
 refine ztC Y Y (wP Y Y Tryz.underlying82 zvg Y Y Y (zs:=[.slice none 0 0]) Y Y Y (by simp) (by simp) (by decide) Y) ?_
 refine zsH [0] Y Y (fun m hm hC=>zvd (cs:=[_, _, _, _, _, _]) Y zwk Y ⟨_, _, Y, zQ Y, ⟨_, _, Y, zc7 Y ((hm.one 0 (by simp)).trans Y) (by simp), Y⟩⟩ (by rfl) (by simp [ofV])) ?_
 refine ztC Y Y (zmH Y zvl Y Y Y) ?_
 refine zpt Y Y (zd0 Y Y Y Y Y Y (zkj Y) zup (by rfl) (by rfl)) trivial ?_
 refine zfa ?_
 refine qE ?_
 refine jU ?_
 refine yf ?_
 refine zx (zf (zi Y Y zdQ) (zf (zl Y Y Y zuq) (zf (qA Y Y Y Tryz.underlying97) ?_)))
 refine qL Y (znE Y Y Y Tryz.underlying352 zwB Y Y Y (zs:=[.slice none 0 0]) Y Y Y (by decide) (by omega) (by omega) (by decide)) ?_
 refine qL Y (jr Y Y zwC Y Y) ?_
 refine qL Y (qw Y Y Y Y Y Y (zc7 Y Y (by simp)) zuG (by rfl) (by exact zLb Y)) ?_
 refine zM ?_
 refine qE ?_
 refine jU ?_
 refine jU ?_
 refine yf ?_
 refine zx (zf (zi Y Y zdQ) (zf (zl Y Y Y zuq) (zf (qA Y Y Y Tryz.underlying97) (zf (zh Y Y) (zM ?_)))))
 refine qE ?_
 refine yf ?_
 refine zF ?_
 refine qm (ι:={ k:Nat // k < 4 }) (fun k=>match k.1 with | 0=>⟨Tryz.f246.ntmps, frL [(1, .pub (.ptr (eSu [s0, s1, s2] r q))), (2, .pub (.ptr [Yv C.l])), (3, .pp 1 1 0 0), (4, .pp 3 1 0 0), (20, .pub (.sl ([s0, s1, s2].map eLm))), (21, I 3), (22, I 0)], [.row [[.pub (.v (.slice none 0 0))], [.pub (.v (.slice none 0 0))], [.pub (.v (.slice none 0 0))]], .row [suE [s0, s1, s2] r q (.psl 0 3)], .row [[.pub (.v (.slice none 0 0))], [.pub (.v (.slice none 0 0))], [.pub (.v (.slice none 0 0))]], .row [[.psl 2 3]]]⟩ | 1=>⟨Tryz.f246.ntmps, frL [(1, .pub (.ptr (eSu [s0, s1, s2] r q))), (2, .pub (.ptr [Yv C.l])), (3, .pp 1 1 0 0), (4, .pp 3 1 0 0), (20, .pub (.sl ([s0, s1, s2].map eLm))), (21, I 3), (22, I 1)], [.row [[.psl 4 1], [.pub (.v (.slice none 0 0))], [.pub (.v (.slice none 0 0))]], .row [suE [s0, s1, s2] r q (.psl 0 3)], .row [[.psl 5 1], [.pub (.v (.slice none 0 0))], [.pub (.v (.slice none 0 0))]], .row [[.psl 2 3]], .row [[I 0]], .row [[I 0, I 0, I 0, I 0, I 0, I 0]]]⟩ | 2=>⟨Tryz.f246.ntmps, frL [(1, .pub (.ptr (eSu [s0, s1, s2] r q))), (2, .pub (.ptr [Yv C.l])), (3, .pp 1 1 0 0), (4, .pp 3 1 0 0), (20, .pub (.sl ([s0, s1, s2].map eLm))), (21, I 3), (22, I 2)], [.row [[.psl 4 1], [.psl 6 1], [.pub (.v (.slice none 0 0))]], .row [suE [s0, s1, s2] r q (.psl 0 3)], .row [[.psl 5 1], [.psl 7 1], [.pub (.v (.slice none 0 0))]], .row [[.psl 2 3]], .row [[I 0]], .row [[I 0, I 0, I 0, I 0, I 0, I 0]], .row [[I 0]], .row [[I 0, I 0, I 0, I 0, I 0, I 0]]]⟩ | _=>⟨Tryz.f246.ntmps, frL [(1, .pub (.ptr (eSu [s0, s1, s2] r q))), (2, .pub (.ptr [Yv C.l])), (3, .pp 1 1 0 0), (4, .pp 3 1 0 0), (20, .pub (.sl ([s0, s1, s2].map eLm))), (21, I 3), (22, I 3)], [.row [[.psl 4 1], [.psl 6 1], [.psl 8 1]], .row [suE [s0, s1, s2] r q (.psl 0 3)], .row [[.psl 5 1], [.psl 7 1], [.psl 9 1]], .row [[.psl 2 3]], .row [[I 0]], .row [[I 0, I 0, I 0, I 0, I 0, I 0]], .row [[I 0]], .row [[I 0, I 0, I 0, I 0, I 0, I 0]], .row [[I 0]], .row [[I 0, I 0, I 0, I 0, I 0, I 0]]]⟩) (fun k=>4 - k.1) (⟨0, by omega⟩) ?_ ?_
 ·exact zy _ ⟨Y, Y, Y, Y, Y, Y, Y, trivial⟩ (Y)
 ·rintro ⟨k, hk⟩
  have hk3:k = 0 ∨ k = 1 ∨ k = 2 ∨ k = 3:=by omega
  rcases hk3 with rfl | rfl | rfl | rfl
  ·dsimp only
   refine zn (zf (qx Y Y Y) (zo (zt (zA Y (fun h0=>?_) (fun h0=>?_)))))
   ·refine zH (zk (zt (zF (zn (zf (zh Y Y) ?_)))))
    refine zf (zD Y Y Y zur (by omega) (by rfl) zun) ?_
    refine zf (zK Y Y zuw (by exact zLb Y)) ?_
    refine zjZ  Y Y Y Y Y Y Y Y (zg Y Y) Y Y Y zuT zuw Y (by rfl) (zQ Y) Y ?_
    refine zo ?_
    refine qY zgO ?_
    refine qY zgO ?_
    refine zfD (CB 3 (.row [suE [s0, s1, s2] r q (.psl 0 3)]) (.row [[.psl 2 3]])) (fun k=>match k with | 0=>.stable | 1=>.stable | 2=>.stable | 3=>.stable | 4=>.stable | 5=>.stable | 6=>.stable | 7=>.stable | 8=>.own 4 | 9=>.stable | 10=>.stable | 11=>.stable | 12=>.own 5 | 13=>.stable | 14=>.rw [4] (0) | 15=>.stable | 16=>.writes | _=>.here) mixed (by kernel_rfl) rfl (by kernel_rfl) ⟨rfl, rfl, ⟨_, rfl, rfl, by simp [putCells]⟩, ⟨_, rfl, rfl, by simp [putCells]⟩⟩ ?_
    refine jv Y Y (fun m hm=>jJ Y Y hm.1 Y wF) (jv Y Y (fun m hm=>zX Y Y hm.1 Y Y Y zum) (jv Y Y (fun m hm=>zh Y Y) (jv Y Y (fun m hm=>zX Y Y hm.2.1 Y Y Y zuG) (jv Y Y (fun m hm=>zh Y Y) (jv Y Y (fun m hm=>zi Y Y zG) (jv Y Y (fun m hm=>zl Y Y Y zuo) (jv Y Y (fun m hm=>qA Y Y Y Tryz.underlying106) ?_)))))))
    refine ztC Y Y (fun m hm hC=>⟨(wP Y Y Tryz.underlying24 ti3 Y Y Y (zs:=[.int .i64 0]) Y Y Y (by simp) (by simp) (by decide) Y m hm trivial).1, zuv (by decide) hC⟩) ?_
    refine jv Y Y (fun m hm=>zi Y Y zG) (jv Y Y (fun m hm=>zl Y Y Y zuo) (jv Y Y (fun m hm=>qA Y Y Y Tryz.underlying106) ?_))
    refine ztC Y Y (fun m hm hC=>⟨(wP Y Y Tryz.underlying353 zuS Y Y Y (zs:=[.int .i64 0, .int .i64 0, .int .i64 0, .int .i64 0, .int .i64 0, .int .i64 0]) Y Y Y (by simp) (by simp) (by decide) Y m hm trivial).1, zuv (by decide) hC⟩) ?_
    refine jv Y Y (fun m hm=>jw Y Y Y hm.2.2.1.choose_spec.1 hm.2.2.1.choose_spec.2.1 zla (by omega) (by omega) hm.2.2.1.choose_spec.2.2) ?_
    refine zu3 [4] 0 Y Y (fun m hm hC=>⟨zd0 Y Y Y ((hm.one 0 (by simp)).trans Y) Y Y (zc7 Y ((hm.one 4 (by simp)).trans Y) (by simp)) kN (by rfl) (by rfl), zuI hC Y (by simp [putCells])⟩) ?_
    refine jv Y Y (fun m hm=>jw Y Y Y hm.2.2.2.choose_spec.1 hm.2.2.2.choose_spec.2.1 zuC (by omega) (by omega) hm.2.2.2.choose_spec.2.2) ?_
    refine zpt Y Y (zd0 Y Y Y Y Y Y (zc7 Y Y (by simp)) zuL (by rfl) (by rfl)) ⟨Y, Y, ⟨_, Y, Y, by simp [putCells]⟩, ⟨_, Y, Y, by simp [putCells]⟩⟩ ?_
    refine zfa (zJ (zk (zx (zf (zW Y Y Y ⟨by omega, by omega⟩) (zf (zh Y Y) (zM ?_))))))
    exact ⟨⟨1, by omega⟩, by dsimp only; omega, (by refine zy (mem':=[.row [[.psl 4 1], [.pub (.v (.slice none 0 0))], [.pub (.v (.slice none 0 0))]], .row [suE [s0, s1, s2] r q (.psl 0 3)], .row [[.psl 5 1], [.pub (.v (.slice none 0 0))], [.pub (.v (.slice none 0 0))]], .row [[.psl 2 3]], .row [[I 0]], .row [[I 0, I 0, I 0, I 0, I 0, I 0]]]) [(1, .pub (.ptr (eSu [s0, s1, s2] r q))), (2, .pub (.ptr [Yv C.l])), (3, .pp 1 1 0 0), (4, .pp 3 1 0 0), (20, .pub (.sl ([s0, s1, s2].map eLm))), (21, I 3), (22, I 1)] ?_ ?_; exact ⟨Y, Y, Y, Y, Y, Y, Y, trivial⟩; exact (Y))⟩
   ·exfalso; simp at h0
  ·dsimp only
   refine zn (zf (qx Y Y Y) (zo (zt (zA Y (fun h0=>?_) (fun h0=>?_)))))
   ·refine zH (zk (zt (zF (zn (zf (zh Y Y) ?_)))))
    refine zf (zD Y Y Y zur (by omega) (by rfl) zun) ?_
    refine zf (zK Y Y zuw (by exact zLb Y)) ?_
    refine zjZ  Y Y Y Y Y Y Y Y (zg Y Y) Y Y Y zuT zuw Y (by rfl) (zQ Y) Y ?_
    refine zo ?_
    refine qY zgO ?_
    refine qY zgO ?_
    refine zfD (CB 3 (.row [suE [s0, s1, s2] r q (.psl 0 3)]) (.row [[.psl 2 3]])) (fun k=>match k with | 0=>.stable | 1=>.stable | 2=>.stable | 3=>.stable | 4=>.stable | 5=>.stable | 6=>.stable | 7=>.stable | 8=>.own 6 | 9=>.stable | 10=>.stable | 11=>.stable | 12=>.own 7 | 13=>.stable | 14=>.rw [6] (0) | 15=>.stable | 16=>.writes | _=>.here) mixed (by kernel_rfl) rfl (by kernel_rfl) ⟨rfl, rfl, ⟨_, rfl, rfl, by simp [putCells]⟩, ⟨_, rfl, rfl, by simp [putCells]⟩⟩ ?_
    refine jv Y Y (fun m hm=>jJ Y Y hm.1 Y wF) (jv Y Y (fun m hm=>zX Y Y hm.1 Y Y Y zum) (jv Y Y (fun m hm=>zh Y Y) (jv Y Y (fun m hm=>zX Y Y hm.2.1 Y Y Y zuG) (jv Y Y (fun m hm=>zh Y Y) (jv Y Y (fun m hm=>zi Y Y zG) (jv Y Y (fun m hm=>zl Y Y Y zuo) (jv Y Y (fun m hm=>qA Y Y Y Tryz.underlying106) ?_)))))))
    refine ztC Y Y (fun m hm hC=>⟨(wP Y Y Tryz.underlying24 ti3 Y Y Y (zs:=[.int .i64 0]) Y Y Y (by simp) (by simp) (by decide) Y m hm trivial).1, zuv (by decide) hC⟩) ?_
    refine jv Y Y (fun m hm=>zi Y Y zG) (jv Y Y (fun m hm=>zl Y Y Y zuo) (jv Y Y (fun m hm=>qA Y Y Y Tryz.underlying106) ?_))
    refine ztC Y Y (fun m hm hC=>⟨(wP Y Y Tryz.underlying353 zuS Y Y Y (zs:=[.int .i64 0, .int .i64 0, .int .i64 0, .int .i64 0, .int .i64 0, .int .i64 0]) Y Y Y (by simp) (by simp) (by decide) Y m hm trivial).1, zuv (by decide) hC⟩) ?_
    refine jv Y Y (fun m hm=>jw Y Y Y hm.2.2.1.choose_spec.1 hm.2.2.1.choose_spec.2.1 zla (by omega) (by omega) hm.2.2.1.choose_spec.2.2) ?_
    refine zu3 [6] 0 Y Y (fun m hm hC=>⟨zd0 Y Y Y ((hm.one 0 (by simp)).trans Y) Y Y (zc7 Y ((hm.one 6 (by simp)).trans Y) (by simp)) kN (by rfl) (by rfl), zuI hC Y (by simp [putCells])⟩) ?_
    refine jv Y Y (fun m hm=>jw Y Y Y hm.2.2.2.choose_spec.1 hm.2.2.2.choose_spec.2.1 zuC (by omega) (by omega) hm.2.2.2.choose_spec.2.2) ?_
    refine zpt Y Y (zd0 Y Y Y Y Y Y (zc7 Y Y (by simp)) zuL (by rfl) (by rfl)) ⟨Y, Y, ⟨_, Y, Y, by simp [putCells]⟩, ⟨_, Y, Y, by simp [putCells]⟩⟩ ?_
    refine zfa (zJ (zk (zx (zf (zW Y Y Y ⟨by omega, by omega⟩) (zf (zh Y Y) (zM ?_))))))
    exact ⟨⟨2, by omega⟩, by dsimp only; omega, (by refine zy (mem':=[.row [[.psl 4 1], [.psl 6 1], [.pub (.v (.slice none 0 0))]], .row [suE [s0, s1, s2] r q (.psl 0 3)], .row [[.psl 5 1], [.psl 7 1], [.pub (.v (.slice none 0 0))]], .row [[.psl 2 3]], .row [[I 0]], .row [[I 0, I 0, I 0, I 0, I 0, I 0]], .row [[I 0]], .row [[I 0, I 0, I 0, I 0, I 0, I 0]]]) [(1, .pub (.ptr (eSu [s0, s1, s2] r q))), (2, .pub (.ptr [Yv C.l])), (3, .pp 1 1 0 0), (4, .pp 3 1 0 0), (20, .pub (.sl ([s0, s1, s2].map eLm))), (21, I 3), (22, I 2)] ?_ ?_; exact ⟨Y, Y, Y, Y, Y, Y, Y, trivial⟩; exact (Y))⟩
   ·exfalso; simp at h0
  ·dsimp only
   refine zn (zf (qx Y Y Y) (zo (zt (zA Y (fun h0=>?_) (fun h0=>?_)))))
   ·refine zH (zk (zt (zF (zn (zf (zh Y Y) ?_)))))
    refine zf (zD Y Y Y zur (by omega) (by rfl) zun) ?_
    refine zf (zK Y Y zuw (by exact zLb Y)) ?_
    refine zjZ  Y Y Y Y Y Y Y Y (zg Y Y) Y Y Y zuT zuw Y (by rfl) (zQ Y) Y ?_
    refine zo ?_
    refine qY zgO ?_
    refine qY zgO ?_
    refine zfD (CB 3 (.row [suE [s0, s1, s2] r q (.psl 0 3)]) (.row [[.psl 2 3]])) (fun k=>match k with | 0=>.stable | 1=>.stable | 2=>.stable | 3=>.stable | 4=>.stable | 5=>.stable | 6=>.stable | 7=>.stable | 8=>.own 8 | 9=>.stable | 10=>.stable | 11=>.stable | 12=>.own 9 | 13=>.stable | 14=>.rw [8] (0) | 15=>.stable | 16=>.writes | _=>.here) mixed (by kernel_rfl) rfl (by kernel_rfl) ⟨rfl, rfl, ⟨_, rfl, rfl, by simp [putCells]⟩, ⟨_, rfl, rfl, by simp [putCells]⟩⟩ ?_
    refine jv Y Y (fun m hm=>jJ Y Y hm.1 Y wF) (jv Y Y (fun m hm=>zX Y Y hm.1 Y Y Y zum) (jv Y Y (fun m hm=>zh Y Y) (jv Y Y (fun m hm=>zX Y Y hm.2.1 Y Y Y zuG) (jv Y Y (fun m hm=>zh Y Y) (jv Y Y (fun m hm=>zi Y Y zG) (jv Y Y (fun m hm=>zl Y Y Y zuo) (jv Y Y (fun m hm=>qA Y Y Y Tryz.underlying106) ?_)))))))
    refine ztC Y Y (fun m hm hC=>⟨(wP Y Y Tryz.underlying24 ti3 Y Y Y (zs:=[.int .i64 0]) Y Y Y (by simp) (by simp) (by decide) Y m hm trivial).1, zuv (by decide) hC⟩) ?_
    refine jv Y Y (fun m hm=>zi Y Y zG) (jv Y Y (fun m hm=>zl Y Y Y zuo) (jv Y Y (fun m hm=>qA Y Y Y Tryz.underlying106) ?_))
    refine ztC Y Y (fun m hm hC=>⟨(wP Y Y Tryz.underlying353 zuS Y Y Y (zs:=[.int .i64 0, .int .i64 0, .int .i64 0, .int .i64 0, .int .i64 0, .int .i64 0]) Y Y Y (by simp) (by simp) (by decide) Y m hm trivial).1, zuv (by decide) hC⟩) ?_
    refine jv Y Y (fun m hm=>jw Y Y Y hm.2.2.1.choose_spec.1 hm.2.2.1.choose_spec.2.1 zla (by omega) (by omega) hm.2.2.1.choose_spec.2.2) ?_
    refine zu3 [8] 0 Y Y (fun m hm hC=>⟨zd0 Y Y Y ((hm.one 0 (by simp)).trans Y) Y Y (zc7 Y ((hm.one 8 (by simp)).trans Y) (by simp)) kN (by rfl) (by rfl), zuI hC Y (by simp [putCells])⟩) ?_
    refine jv Y Y (fun m hm=>jw Y Y Y hm.2.2.2.choose_spec.1 hm.2.2.2.choose_spec.2.1 zuC (by omega) (by omega) hm.2.2.2.choose_spec.2.2) ?_
    refine zpt Y Y (zd0 Y Y Y Y Y Y (zc7 Y Y (by simp)) zuL (by rfl) (by rfl)) ⟨Y, Y, ⟨_, Y, Y, by simp [putCells]⟩, ⟨_, Y, Y, by simp [putCells]⟩⟩ ?_
    refine zfa (zJ (zk (zx (zf (zW Y Y Y ⟨by omega, by omega⟩) (zf (zh Y Y) (zM ?_))))))
    exact ⟨⟨3, by omega⟩, by dsimp only; omega, (by refine zy (mem':=[.row [[.psl 4 1], [.psl 6 1], [.psl 8 1]], .row [suE [s0, s1, s2] r q (.psl 0 3)], .row [[.psl 5 1], [.psl 7 1], [.psl 9 1]], .row [[.psl 2 3]], .row [[I 0]], .row [[I 0, I 0, I 0, I 0, I 0, I 0]], .row [[I 0]], .row [[I 0, I 0, I 0, I 0, I 0, I 0]], .row [[I 0]], .row [[I 0, I 0, I 0, I 0, I 0, I 0]]]) [(1, .pub (.ptr (eSu [s0, s1, s2] r q))), (2, .pub (.ptr [Yv C.l])), (3, .pp 1 1 0 0), (4, .pp 3 1 0 0), (20, .pub (.sl ([s0, s1, s2].map eLm))), (21, I 3), (22, I 3)] ?_ ?_; exact ⟨Y, Y, Y, Y, Y, Y, Y, trivial⟩; exact (Y))⟩
   ·exfalso; simp at h0
  ·dsimp only
   refine zn (zf (qx Y Y Y) (zo (zt (zA Y (fun h0=>?_) (fun h0=>?_)))))
   ·exfalso; simp at h0
   ·refine qg (zS (zS (qh ?_)))
    refine qE ?_
    refine jU ?_
    refine jU ?_
    refine yf ?_
    refine zx (zf (zi Y Y zdQ) (zf (zl Y Y Y zuq) ?_))
    refine zf (zD Y Y Y zur (by omega) (by rfl) zun) ?_
    refine zf (zi Y Y zG) (zf (zl Y Y Y zuo) (zf (qA Y Y Y Tryz.underlying106) (zf (zh Y Y) (zM ?_))))
    refine qE ?_
    refine yf ?_
    refine zF ?_
    refine qm (ι:={ k:Nat // k < 2 }) (fun k=>match k.1 with | 0=>⟨Tryz.f246.ntmps, frL [(1, .pub (.ptr (eSu [s0, s1, s2] r q))), (2, .pub (.ptr [Yv C.l])), (3, .pp 1 1 0 0), (4, .pp 3 1 0 0), (48, I 1), (49, I 0)], [.row [[.psl 4 1], [.psl 6 1], [.psl 8 1]], .row [suE [s0, s1, s2] r q (.psl 0 3)], .row [[.psl 5 1], [.psl 7 1], [.psl 9 1]], .row [[.psl 2 3]], .row [[I 0]], .row [[I 0, I 0, I 0, I 0, I 0, I 0]], .row [[I 0]], .row [[I 0, I 0, I 0, I 0, I 0, I 0]], .row [[I 0]], .row [[I 0, I 0, I 0, I 0, I 0, I 0]]]⟩ | _=>⟨Tryz.f246.ntmps, frL [(1, .pub (.ptr (eSu [s0, s1, s2] r q))), (2, .pub (.ptr [Yv C.l])), (3, .pp 1 1 0 0), (4, .pp 3 1 0 0), (48, I 1), (49, I 1)], [.row [[.psl 4 1], [.psl 6 1], [.psl 8 1]], .row [suE [s0, s1, s2] r q (.psl 0 3)], .row [[.psl 5 1], [.psl 7 1], [.psl 9 1]], .row [[.psl 2 3]], .row [[I (-1)]], .row [(eBx (ownB [s0, s1, s2] 0)).map .pub], .row [[I 0]], .row [[I 0, I 0, I 0, I 0, I 0, I 0]], .row [[I 0]], .row [[I 0, I 0, I 0, I 0, I 0, I 0]]]⟩) (fun k=>2 - k.1) (⟨0, by omega⟩) ?_ ?_
    ·exact zy _ ⟨Y, Y, Y, Y, Y, Y, trivial⟩ (Y)
    ·rintro ⟨k, hk⟩
     have hk3:k = 0 ∨ k = 1:=by omega
     rcases hk3 with rfl | rfl
     ·dsimp only
      refine zn (zf (qx Y Y Y) (zo (zt (zA Y (fun h1=>?_) (fun h1=>?_)))))
      ·refine zH (zk (zt (zF (zn (zf (zh Y Y) (zf (zg Y Y) (zo ?_)))))))
       refine zfD (CB2 3 (.row [suE [s0, s1, s2] r q (.psl 0 3)]) (.row [[.psl 2 3]])) (fun k=>match k with | 5=>.stable | 6=>.stable | 8=>.stable | 9=>.stable | 10=>.stable | 13=>.writes | 14=>.stable | 15=>.writes | _=>.here) mixed (by kernel_rfl) rfl (by kernel_rfl) ⟨⟨rfl, rfl, ⟨_, rfl, rfl, by simp [putCells]⟩, ⟨_, rfl, rfl, by simp [putCells]⟩⟩, ⟨_, rfl, rfl, by simp [putCells, eBx]⟩⟩ ?_
       refine znG Y Y (jJ Y Y Y Y wF) (znG Y Y (zX Y Y Y Y Y Y zum) ?_)
       refine znG Y Y (jw Y Y Y Y Y zla (by omega) (by omega) (by simp)) ?_
       refine znG Y Y (zX Y Y Y Y Y Y kN) (znG Y Y (zh Y Y) (jv Y Y (fun m hm=>zX Y Y hm.1.2.1 Y Y Y zuG) (jv Y Y (fun m hm=>jw Y Y Y hm.1.2.2.2.choose_spec.1 hm.1.2.2.2.choose_spec.2.1 zuC (by omega) (by omega) hm.1.2.2.2.choose_spec.2.2) (znG Y Y (zX Y Y Y Y Y Y zuL) (jv Y Y (fun m hm=>zh Y Y) (jv Y Y (fun m hm=>za9 (cs:=suE [s0, s1, s2] r q (.psl 0 3)) Y Y hm.1.1 Y Y (by exact zLb Y) Y zup) (jv Y Y (fun m hm=>zh Y Y) ?_)))))))
       refine znG Y Y (zeO (av:=[.agg (eLk [s0, s1, s2] r q .top), Ct.ei 0, Ct.ei 0]) Y ⟨_, _, Y, AVle.refl _, _, _, Y, AVle.refl _, _, _, Y, AVle.refl _, Y⟩ (zwf [s0, s1, s2] r q .top 0 (by simp) 0 Y)) ?_
       refine znG Y Y (jw Y Y Y Y Y zjc (by omega) (by omega) (by simp)) ?_
       refine zpt Y Y (zd0 Y Y Y Y Y Y (qU Y) ty3 (by rfl) (by rfl)) ⟨⟨Y, Y, ⟨_, Y, Y, by simp [putCells]⟩, ⟨_, Y, Y, by simp [putCells]⟩⟩, ⟨_, Y, Y, by simp [putCells, eBx]⟩⟩ ?_
       refine jv Y Y (fun m hm=>jw Y Y Y hm.2.choose_spec.1 hm.2.choose_spec.2.1 zva (by omega) (by omega) hm.2.choose_spec.2.2) ?_
       refine zpt Y Y (zd0 Y Y Y Y Y Y (zQ Y) wX (by rfl) (by rfl)) ⟨⟨Y, Y, ⟨_, Y, Y, by simp [putCells]⟩, ⟨_, Y, Y, by simp [putCells]⟩⟩, ⟨_, Y, Y, by simp [putCells, eBx]⟩⟩ ?_
       refine zfa (zJ (zk (zx (zf (zW Y Y Y ⟨by omega, by omega⟩) (zf (zh Y Y) (zM ?_))))))
       exact ⟨⟨1, by omega⟩, by dsimp only; omega, (by refine zy (mem':=[.row [[.psl 4 1], [.psl 6 1], [.psl 8 1]], .row [suE [s0, s1, s2] r q (.psl 0 3)], .row [[.psl 5 1], [.psl 7 1], [.psl 9 1]], .row [[.psl 2 3]], .row [[I (-1)]], .row [(eBx (ownB [s0, s1, s2] 0)).map .pub], .row [[I 0]], .row [[I 0, I 0, I 0, I 0, I 0, I 0]], .row [[I 0]], .row [[I 0, I 0, I 0, I 0, I 0, I 0]]]) [(1, .pub (.ptr (eSu [s0, s1, s2] r q))), (2, .pub (.ptr [Yv C.l])), (3, .pp 1 1 0 0), (4, .pp 3 1 0 0), (48, I 1), (49, I 1)] ?_ ?_; exact ⟨Y, Y, Y, Y, Y, Y, trivial⟩; exact (Y))⟩
      ·exfalso; simp at h1
     ·dsimp only
      refine zn (zf (qx Y Y Y) (zo (zt (zA Y (fun h1=>?_) (fun h1=>?_)))))
      ·exfalso; simp at h1
      ·refine qg (zS (zS (qh ?_)))
       refine qE ?_
       refine jU ?_
       refine yf ?_
       refine zx (qL Y (jr Y Y zwx Y Y) (zM ?_))
       refine qE ?_
       refine jU ?_
       refine yf ?_
       refine zx (zf (vP Y) ?_)
       refine qL Y (qw Y Y Y Y Y Y (zkm Y) zu8 (by rfl) (by exact zLb Y)) ?_
       refine zM ?_
       refine qE ?_
       refine zaj (zy (mem':=MM [s0, s1, s2] r q C.l 1 []) [(8, .pp 10 1 0 0)] ?_ ?_) ?_
       ·exact ⟨Y, trivial⟩
       ·exact Y
       refine yT ?_
       refine vX Y Y (zX Y Y Y Y Y Y zu8) ?_
       refine zuX (gh:=[]) (c:=true) (f:=247) (fs:=[]) (cs:=zve [s0, s1, s2] r q C.l) (av:=[I 1, I 0, I 0, I 0]) Y Y Y Y (fun _=>⟨Y, Y, Y⟩) (fun _=>⟨Y, Y, Y, Y, trivial⟩) (fun _=>zw5 hs ht (hq C hC) 2 1 (by omega) (by rfl) []) (fun h=>absurd h (by decide)) (fun _=>?_) (fun _=>?_)
       ·refine zas ?_
        exact ⟨.inl Y, Y, .inl Y⟩
       ·refine zas ?_
        exact ⟨.inl Y, Y, .inr ⟨0, Y⟩⟩
theorem zxM (s0 s1 s2 s3:Sp) {r q:Int} {D:List Int} (hs:SuB [s0, s1, s2, s3] r q) (ht:TrB [s0, s1, s2, s3] r q D):zcM Tryz.prog G 246 [] [.ptr (eSu [s0, s1, s2, s3] r q)] [[.agg (eLk [s0, s1, s2, s3] r q (sV 4))]]:=by
 have hl:((List.map eLm [s0, s1, s2, s3]).length:Int) = 4:=rfl
 have hq:∀ C:Cx Tryz.prog G, C.qs = [[.agg (eLk [s0, s1, s2, s3] r q (sV 4))]] -> C.qs[0]? = some [.agg (eLk [s0, s1, s2, s3] r q (sV [s0, s1, s2, s3].length))]:=fun C hC=>by rw [hC]; rfl
 refine ze2 (qs:=[[.agg (eLk [s0, s1, s2, s3] r q (sV 4))]]) Tryz.func246 Y (by kernel_rfl) Y Y (fun C hC=>?_)
 refine jU ?_
 refine yf ?_
 refine zx (zf (ql (cs:=[_]) Y (qU Y)) (zM ?_))
 refine qE ?_
 refine jU ?_
 refine yf ?_
 refine qY zgO ?_
 refine qY zgO ?_
 refine zfD (fun _=>True) (fun k=>match k with | 0=>.stable | 1=>.stable | 2=>.stable | 3=>.stable | 4=>.own 0 | 5=>.rd [0] | 6=>.own 1 | 7=>.writes | _=>.here) mixed (by kernel_rfl) rfl (by kernel_rfl) trivial ?_
 refine jv Y Y (fun m hm=>zK Y Y yw (by exact zLb Y)) (jv Y Y (fun m hm=>zi Y Y zdQ) (jv Y Y (fun m hm=>zl Y Y Y zuq) (jv Y Y (fun m hm=>qA Y Y Y Tryz.underlying97) ?_)))
 refine ztC Y Y (wP Y Y Tryz.underlying82 zvg Y Y Y (zs:=[.slice none 0 0]) Y Y Y (by simp) (by simp) (by decide) Y) ?_
 refine zsH [0] Y Y (fun m hm hC=>zvd (cs:=[_, _, _, _, _, _]) Y zwk Y ⟨_, _, Y, zQ Y, ⟨_, _, Y, zc7 Y ((hm.one 0 (by simp)).trans Y) (by simp), Y⟩⟩ (by rfl) (by simp [ofV])) ?_
 refine ztC Y Y (zmH Y zvl Y Y Y) ?_
 refine zpt Y Y (zd0 Y Y Y Y Y Y (zkj Y) zup (by rfl) (by rfl)) trivial ?_
 refine zfa ?_
 refine qE ?_
 refine jU ?_
 refine yf ?_
 refine zx (zf (zi Y Y zdQ) (zf (zl Y Y Y zuq) (zf (qA Y Y Y Tryz.underlying97) ?_)))
 refine qL Y (znE Y Y Y Tryz.underlying352 zwB Y Y Y (zs:=[.slice none 0 0]) Y Y Y (by decide) (by omega) (by omega) (by decide)) ?_
 refine qL Y (jr Y Y zwC Y Y) ?_
 refine qL Y (qw Y Y Y Y Y Y (zc7 Y Y (by simp)) zuG (by rfl) (by exact zLb Y)) ?_
 refine zM ?_
 refine qE ?_
 refine jU ?_
 refine jU ?_
 refine yf ?_
 refine zx (zf (zi Y Y zdQ) (zf (zl Y Y Y zuq) (zf (qA Y Y Y Tryz.underlying97) (zf (zh Y Y) (zM ?_)))))
 refine qE ?_
 refine yf ?_
 refine zF ?_
 refine qm (ι:={ k:Nat // k < 5 }) (fun k=>match k.1 with | 0=>⟨Tryz.f246.ntmps, frL [(1, .pub (.ptr (eSu [s0, s1, s2, s3] r q))), (2, .pub (.ptr [Yv C.l])), (3, .pp 1 1 0 0), (4, .pp 3 1 0 0), (20, .pub (.sl ([s0, s1, s2, s3].map eLm))), (21, I 4), (22, I 0)], [.row [[.pub (.v (.slice none 0 0))], [.pub (.v (.slice none 0 0))], [.pub (.v (.slice none 0 0))], [.pub (.v (.slice none 0 0))]], .row [suE [s0, s1, s2, s3] r q (.psl 0 4)], .row [[.pub (.v (.slice none 0 0))], [.pub (.v (.slice none 0 0))], [.pub (.v (.slice none 0 0))], [.pub (.v (.slice none 0 0))]], .row [[.psl 2 4]]]⟩ | 1=>⟨Tryz.f246.ntmps, frL [(1, .pub (.ptr (eSu [s0, s1, s2, s3] r q))), (2, .pub (.ptr [Yv C.l])), (3, .pp 1 1 0 0), (4, .pp 3 1 0 0), (20, .pub (.sl ([s0, s1, s2, s3].map eLm))), (21, I 4), (22, I 1)], [.row [[.psl 4 1], [.pub (.v (.slice none 0 0))], [.pub (.v (.slice none 0 0))], [.pub (.v (.slice none 0 0))]], .row [suE [s0, s1, s2, s3] r q (.psl 0 4)], .row [[.psl 5 1], [.pub (.v (.slice none 0 0))], [.pub (.v (.slice none 0 0))], [.pub (.v (.slice none 0 0))]], .row [[.psl 2 4]], .row [[I 0]], .row [[I 0, I 0, I 0, I 0, I 0, I 0]]]⟩ | 2=>⟨Tryz.f246.ntmps, frL [(1, .pub (.ptr (eSu [s0, s1, s2, s3] r q))), (2, .pub (.ptr [Yv C.l])), (3, .pp 1 1 0 0), (4, .pp 3 1 0 0), (20, .pub (.sl ([s0, s1, s2, s3].map eLm))), (21, I 4), (22, I 2)], [.row [[.psl 4 1], [.psl 6 1], [.pub (.v (.slice none 0 0))], [.pub (.v (.slice none 0 0))]], .row [suE [s0, s1, s2, s3] r q (.psl 0 4)], .row [[.psl 5 1], [.psl 7 1], [.pub (.v (.slice none 0 0))], [.pub (.v (.slice none 0 0))]], .row [[.psl 2 4]], .row [[I 0]], .row [[I 0, I 0, I 0, I 0, I 0, I 0]], .row [[I 0]], .row [[I 0, I 0, I 0, I 0, I 0, I 0]]]⟩ | 3=>⟨Tryz.f246.ntmps, frL [(1, .pub (.ptr (eSu [s0, s1, s2, s3] r q))), (2, .pub (.ptr [Yv C.l])), (3, .pp 1 1 0 0), (4, .pp 3 1 0 0), (20, .pub (.sl ([s0, s1, s2, s3].map eLm))), (21, I 4), (22, I 3)], [.row [[.psl 4 1], [.psl 6 1], [.psl 8 1], [.pub (.v (.slice none 0 0))]], .row [suE [s0, s1, s2, s3] r q (.psl 0 4)], .row [[.psl 5 1], [.psl 7 1], [.psl 9 1], [.pub (.v (.slice none 0 0))]], .row [[.psl 2 4]], .row [[I 0]], .row [[I 0, I 0, I 0, I 0, I 0, I 0]], .row [[I 0]], .row [[I 0, I 0, I 0, I 0, I 0, I 0]], .row [[I 0]], .row [[I 0, I 0, I 0, I 0, I 0, I 0]]]⟩ | _=>⟨Tryz.f246.ntmps, frL [(1, .pub (.ptr (eSu [s0, s1, s2, s3] r q))), (2, .pub (.ptr [Yv C.l])), (3, .pp 1 1 0 0), (4, .pp 3 1 0 0), (20, .pub (.sl ([s0, s1, s2, s3].map eLm))), (21, I 4), (22, I 4)], [.row [[.psl 4 1], [.psl 6 1], [.psl 8 1], [.psl 10 1]], .row [suE [s0, s1, s2, s3] r q (.psl 0 4)], .row [[.psl 5 1], [.psl 7 1], [.psl 9 1], [.psl 11 1]], .row [[.psl 2 4]], .row [[I 0]], .row [[I 0, I 0, I 0, I 0, I 0, I 0]], .row [[I 0]], .row [[I 0, I 0, I 0, I 0, I 0, I 0]], .row [[I 0]], .row [[I 0, I 0, I 0, I 0, I 0, I 0]], .row [[I 0]], .row [[I 0, I 0, I 0, I 0, I 0, I 0]]]⟩) (fun k=>5 - k.1) (⟨0, by omega⟩) ?_ ?_
 ·exact zy _ ⟨Y, Y, Y, Y, Y, Y, Y, trivial⟩ (Y)
 ·rintro ⟨k, hk⟩
  have hk3:k = 0 ∨ k = 1 ∨ k = 2 ∨ k = 3 ∨ k = 4:=by omega
  rcases hk3 with rfl | rfl | rfl | rfl | rfl
  ·dsimp only
   refine zn (zf (qx Y Y Y) (zo (zt (zA Y (fun h0=>?_) (fun h0=>?_)))))
   ·refine zH (zk (zt (zF (zn (zf (zh Y Y) ?_)))))
    refine zf (zD Y Y Y zur (by omega) (by rfl) zun) ?_
    refine zf (zK Y Y zuw (by exact zLb Y)) ?_
    refine zjZ  Y Y Y Y Y Y Y Y (zg Y Y) Y Y Y zuT zuw Y (by rfl) (zQ Y) Y ?_
    refine zo ?_
    refine qY zgO ?_
    refine qY zgO ?_
    refine zfD (CB 4 (.row [suE [s0, s1, s2, s3] r q (.psl 0 4)]) (.row [[.psl 2 4]])) (fun k=>match k with | 0=>.stable | 1=>.stable | 2=>.stable | 3=>.stable | 4=>.stable | 5=>.stable | 6=>.stable | 7=>.stable | 8=>.own 4 | 9=>.stable | 10=>.stable | 11=>.stable | 12=>.own 5 | 13=>.stable | 14=>.rw [4] (0) | 15=>.stable | 16=>.writes | _=>.here) mixed (by kernel_rfl) rfl (by kernel_rfl) ⟨rfl, rfl, ⟨_, rfl, rfl, by simp [putCells]⟩, ⟨_, rfl, rfl, by simp [putCells]⟩⟩ ?_
    refine jv Y Y (fun m hm=>jJ Y Y hm.1 Y wF) (jv Y Y (fun m hm=>zX Y Y hm.1 Y Y Y zum) (jv Y Y (fun m hm=>zh Y Y) (jv Y Y (fun m hm=>zX Y Y hm.2.1 Y Y Y zuG) (jv Y Y (fun m hm=>zh Y Y) (jv Y Y (fun m hm=>zi Y Y zG) (jv Y Y (fun m hm=>zl Y Y Y zuo) (jv Y Y (fun m hm=>qA Y Y Y Tryz.underlying106) ?_)))))))
    refine ztC Y Y (fun m hm hC=>⟨(wP Y Y Tryz.underlying24 ti3 Y Y Y (zs:=[.int .i64 0]) Y Y Y (by simp) (by simp) (by decide) Y m hm trivial).1, zuv (by decide) hC⟩) ?_
    refine jv Y Y (fun m hm=>zi Y Y zG) (jv Y Y (fun m hm=>zl Y Y Y zuo) (jv Y Y (fun m hm=>qA Y Y Y Tryz.underlying106) ?_))
    refine ztC Y Y (fun m hm hC=>⟨(wP Y Y Tryz.underlying353 zuS Y Y Y (zs:=[.int .i64 0, .int .i64 0, .int .i64 0, .int .i64 0, .int .i64 0, .int .i64 0]) Y Y Y (by simp) (by simp) (by decide) Y m hm trivial).1, zuv (by decide) hC⟩) ?_
    refine jv Y Y (fun m hm=>jw Y Y Y hm.2.2.1.choose_spec.1 hm.2.2.1.choose_spec.2.1 zla (by omega) (by omega) hm.2.2.1.choose_spec.2.2) ?_
    refine zu3 [4] 0 Y Y (fun m hm hC=>⟨zd0 Y Y Y ((hm.one 0 (by simp)).trans Y) Y Y (zc7 Y ((hm.one 4 (by simp)).trans Y) (by simp)) kN (by rfl) (by rfl), zuI hC Y (by simp [putCells])⟩) ?_
    refine jv Y Y (fun m hm=>jw Y Y Y hm.2.2.2.choose_spec.1 hm.2.2.2.choose_spec.2.1 zuC (by omega) (by omega) hm.2.2.2.choose_spec.2.2) ?_
    refine zpt Y Y (zd0 Y Y Y Y Y Y (zc7 Y Y (by simp)) zuL (by rfl) (by rfl)) ⟨Y, Y, ⟨_, Y, Y, by simp [putCells]⟩, ⟨_, Y, Y, by simp [putCells]⟩⟩ ?_
    refine zfa (zJ (zk (zx (zf (zW Y Y Y ⟨by omega, by omega⟩) (zf (zh Y Y) (zM ?_))))))
    exact ⟨⟨1, by omega⟩, by dsimp only; omega, (by refine zy (mem':=[.row [[.psl 4 1], [.pub (.v (.slice none 0 0))], [.pub (.v (.slice none 0 0))], [.pub (.v (.slice none 0 0))]], .row [suE [s0, s1, s2, s3] r q (.psl 0 4)], .row [[.psl 5 1], [.pub (.v (.slice none 0 0))], [.pub (.v (.slice none 0 0))], [.pub (.v (.slice none 0 0))]], .row [[.psl 2 4]], .row [[I 0]], .row [[I 0, I 0, I 0, I 0, I 0, I 0]]]) [(1, .pub (.ptr (eSu [s0, s1, s2, s3] r q))), (2, .pub (.ptr [Yv C.l])), (3, .pp 1 1 0 0), (4, .pp 3 1 0 0), (20, .pub (.sl ([s0, s1, s2, s3].map eLm))), (21, I 4), (22, I 1)] ?_ ?_; exact ⟨Y, Y, Y, Y, Y, Y, Y, trivial⟩; exact (Y))⟩
   ·exfalso; simp at h0
  ·dsimp only
   refine zn (zf (qx Y Y Y) (zo (zt (zA Y (fun h0=>?_) (fun h0=>?_)))))
   ·refine zH (zk (zt (zF (zn (zf (zh Y Y) ?_)))))
    refine zf (zD Y Y Y zur (by omega) (by rfl) zun) ?_
    refine zf (zK Y Y zuw (by exact zLb Y)) ?_
    refine zjZ  Y Y Y Y Y Y Y Y (zg Y Y) Y Y Y zuT zuw Y (by rfl) (zQ Y) Y ?_
    refine zo ?_
    refine qY zgO ?_
    refine qY zgO ?_
    refine zfD (CB 4 (.row [suE [s0, s1, s2, s3] r q (.psl 0 4)]) (.row [[.psl 2 4]])) (fun k=>match k with | 0=>.stable | 1=>.stable | 2=>.stable | 3=>.stable | 4=>.stable | 5=>.stable | 6=>.stable | 7=>.stable | 8=>.own 6 | 9=>.stable | 10=>.stable | 11=>.stable | 12=>.own 7 | 13=>.stable | 14=>.rw [6] (0) | 15=>.stable | 16=>.writes | _=>.here) mixed (by kernel_rfl) rfl (by kernel_rfl) ⟨rfl, rfl, ⟨_, rfl, rfl, by simp [putCells]⟩, ⟨_, rfl, rfl, by simp [putCells]⟩⟩ ?_
    refine jv Y Y (fun m hm=>jJ Y Y hm.1 Y wF) (jv Y Y (fun m hm=>zX Y Y hm.1 Y Y Y zum) (jv Y Y (fun m hm=>zh Y Y) (jv Y Y (fun m hm=>zX Y Y hm.2.1 Y Y Y zuG) (jv Y Y (fun m hm=>zh Y Y) (jv Y Y (fun m hm=>zi Y Y zG) (jv Y Y (fun m hm=>zl Y Y Y zuo) (jv Y Y (fun m hm=>qA Y Y Y Tryz.underlying106) ?_)))))))
    refine ztC Y Y (fun m hm hC=>⟨(wP Y Y Tryz.underlying24 ti3 Y Y Y (zs:=[.int .i64 0]) Y Y Y (by simp) (by simp) (by decide) Y m hm trivial).1, zuv (by decide) hC⟩) ?_
    refine jv Y Y (fun m hm=>zi Y Y zG) (jv Y Y (fun m hm=>zl Y Y Y zuo) (jv Y Y (fun m hm=>qA Y Y Y Tryz.underlying106) ?_))
    refine ztC Y Y (fun m hm hC=>⟨(wP Y Y Tryz.underlying353 zuS Y Y Y (zs:=[.int .i64 0, .int .i64 0, .int .i64 0, .int .i64 0, .int .i64 0, .int .i64 0]) Y Y Y (by simp) (by simp) (by decide) Y m hm trivial).1, zuv (by decide) hC⟩) ?_
    refine jv Y Y (fun m hm=>jw Y Y Y hm.2.2.1.choose_spec.1 hm.2.2.1.choose_spec.2.1 zla (by omega) (by omega) hm.2.2.1.choose_spec.2.2) ?_
    refine zu3 [6] 0 Y Y (fun m hm hC=>⟨zd0 Y Y Y ((hm.one 0 (by simp)).trans Y) Y Y (zc7 Y ((hm.one 6 (by simp)).trans Y) (by simp)) kN (by rfl) (by rfl), zuI hC Y (by simp [putCells])⟩) ?_
    refine jv Y Y (fun m hm=>jw Y Y Y hm.2.2.2.choose_spec.1 hm.2.2.2.choose_spec.2.1 zuC (by omega) (by omega) hm.2.2.2.choose_spec.2.2) ?_
    refine zpt Y Y (zd0 Y Y Y Y Y Y (zc7 Y Y (by simp)) zuL (by rfl) (by rfl)) ⟨Y, Y, ⟨_, Y, Y, by simp [putCells]⟩, ⟨_, Y, Y, by simp [putCells]⟩⟩ ?_
    refine zfa (zJ (zk (zx (zf (zW Y Y Y ⟨by omega, by omega⟩) (zf (zh Y Y) (zM ?_))))))
    exact ⟨⟨2, by omega⟩, by dsimp only; omega, (by refine zy (mem':=[.row [[.psl 4 1], [.psl 6 1], [.pub (.v (.slice none 0 0))], [.pub (.v (.slice none 0 0))]], .row [suE [s0, s1, s2, s3] r q (.psl 0 4)], .row [[.psl 5 1], [.psl 7 1], [.pub (.v (.slice none 0 0))], [.pub (.v (.slice none 0 0))]], .row [[.psl 2 4]], .row [[I 0]], .row [[I 0, I 0, I 0, I 0, I 0, I 0]], .row [[I 0]], .row [[I 0, I 0, I 0, I 0, I 0, I 0]]]) [(1, .pub (.ptr (eSu [s0, s1, s2, s3] r q))), (2, .pub (.ptr [Yv C.l])), (3, .pp 1 1 0 0), (4, .pp 3 1 0 0), (20, .pub (.sl ([s0, s1, s2, s3].map eLm))), (21, I 4), (22, I 2)] ?_ ?_; exact ⟨Y, Y, Y, Y, Y, Y, Y, trivial⟩; exact (Y))⟩
   ·exfalso; simp at h0
  ·dsimp only
   refine zn (zf (qx Y Y Y) (zo (zt (zA Y (fun h0=>?_) (fun h0=>?_)))))
   ·refine zH (zk (zt (zF (zn (zf (zh Y Y) ?_)))))
    refine zf (zD Y Y Y zur (by omega) (by rfl) zun) ?_
    refine zf (zK Y Y zuw (by exact zLb Y)) ?_
    refine zjZ  Y Y Y Y Y Y Y Y (zg Y Y) Y Y Y zuT zuw Y (by rfl) (zQ Y) Y ?_
    refine zo ?_
    refine qY zgO ?_
    refine qY zgO ?_
    refine zfD (CB 4 (.row [suE [s0, s1, s2, s3] r q (.psl 0 4)]) (.row [[.psl 2 4]])) (fun k=>match k with | 0=>.stable | 1=>.stable | 2=>.stable | 3=>.stable | 4=>.stable | 5=>.stable | 6=>.stable | 7=>.stable | 8=>.own 8 | 9=>.stable | 10=>.stable | 11=>.stable | 12=>.own 9 | 13=>.stable | 14=>.rw [8] (0) | 15=>.stable | 16=>.writes | _=>.here) mixed (by kernel_rfl) rfl (by kernel_rfl) ⟨rfl, rfl, ⟨_, rfl, rfl, by simp [putCells]⟩, ⟨_, rfl, rfl, by simp [putCells]⟩⟩ ?_
    refine jv Y Y (fun m hm=>jJ Y Y hm.1 Y wF) (jv Y Y (fun m hm=>zX Y Y hm.1 Y Y Y zum) (jv Y Y (fun m hm=>zh Y Y) (jv Y Y (fun m hm=>zX Y Y hm.2.1 Y Y Y zuG) (jv Y Y (fun m hm=>zh Y Y) (jv Y Y (fun m hm=>zi Y Y zG) (jv Y Y (fun m hm=>zl Y Y Y zuo) (jv Y Y (fun m hm=>qA Y Y Y Tryz.underlying106) ?_)))))))
    refine ztC Y Y (fun m hm hC=>⟨(wP Y Y Tryz.underlying24 ti3 Y Y Y (zs:=[.int .i64 0]) Y Y Y (by simp) (by simp) (by decide) Y m hm trivial).1, zuv (by decide) hC⟩) ?_
    refine jv Y Y (fun m hm=>zi Y Y zG) (jv Y Y (fun m hm=>zl Y Y Y zuo) (jv Y Y (fun m hm=>qA Y Y Y Tryz.underlying106) ?_))
    refine ztC Y Y (fun m hm hC=>⟨(wP Y Y Tryz.underlying353 zuS Y Y Y (zs:=[.int .i64 0, .int .i64 0, .int .i64 0, .int .i64 0, .int .i64 0, .int .i64 0]) Y Y Y (by simp) (by simp) (by decide) Y m hm trivial).1, zuv (by decide) hC⟩) ?_
    refine jv Y Y (fun m hm=>jw Y Y Y hm.2.2.1.choose_spec.1 hm.2.2.1.choose_spec.2.1 zla (by omega) (by omega) hm.2.2.1.choose_spec.2.2) ?_
    refine zu3 [8] 0 Y Y (fun m hm hC=>⟨zd0 Y Y Y ((hm.one 0 (by simp)).trans Y) Y Y (zc7 Y ((hm.one 8 (by simp)).trans Y) (by simp)) kN (by rfl) (by rfl), zuI hC Y (by simp [putCells])⟩) ?_
    refine jv Y Y (fun m hm=>jw Y Y Y hm.2.2.2.choose_spec.1 hm.2.2.2.choose_spec.2.1 zuC (by omega) (by omega) hm.2.2.2.choose_spec.2.2) ?_
    refine zpt Y Y (zd0 Y Y Y Y Y Y (zc7 Y Y (by simp)) zuL (by rfl) (by rfl)) ⟨Y, Y, ⟨_, Y, Y, by simp [putCells]⟩, ⟨_, Y, Y, by simp [putCells]⟩⟩ ?_
    refine zfa (zJ (zk (zx (zf (zW Y Y Y ⟨by omega, by omega⟩) (zf (zh Y Y) (zM ?_))))))
    exact ⟨⟨3, by omega⟩, by dsimp only; omega, (by refine zy (mem':=[.row [[.psl 4 1], [.psl 6 1], [.psl 8 1], [.pub (.v (.slice none 0 0))]], .row [suE [s0, s1, s2, s3] r q (.psl 0 4)], .row [[.psl 5 1], [.psl 7 1], [.psl 9 1], [.pub (.v (.slice none 0 0))]], .row [[.psl 2 4]], .row [[I 0]], .row [[I 0, I 0, I 0, I 0, I 0, I 0]], .row [[I 0]], .row [[I 0, I 0, I 0, I 0, I 0, I 0]], .row [[I 0]], .row [[I 0, I 0, I 0, I 0, I 0, I 0]]]) [(1, .pub (.ptr (eSu [s0, s1, s2, s3] r q))), (2, .pub (.ptr [Yv C.l])), (3, .pp 1 1 0 0), (4, .pp 3 1 0 0), (20, .pub (.sl ([s0, s1, s2, s3].map eLm))), (21, I 4), (22, I 3)] ?_ ?_; exact ⟨Y, Y, Y, Y, Y, Y, Y, trivial⟩; exact (Y))⟩
   ·exfalso; simp at h0
  ·dsimp only
   refine zn (zf (qx Y Y Y) (zo (zt (zA Y (fun h0=>?_) (fun h0=>?_)))))
   ·refine zH (zk (zt (zF (zn (zf (zh Y Y) ?_)))))
    refine zf (zD Y Y Y zur (by omega) (by rfl) zun) ?_
    refine zf (zK Y Y zuw (by exact zLb Y)) ?_
    refine zjZ  Y Y Y Y Y Y Y Y (zg Y Y) Y Y Y zuT zuw Y (by rfl) (zQ Y) Y ?_
    refine zo ?_
    refine qY zgO ?_
    refine qY zgO ?_
    refine zfD (CB 4 (.row [suE [s0, s1, s2, s3] r q (.psl 0 4)]) (.row [[.psl 2 4]])) (fun k=>match k with | 0=>.stable | 1=>.stable | 2=>.stable | 3=>.stable | 4=>.stable | 5=>.stable | 6=>.stable | 7=>.stable | 8=>.own 10 | 9=>.stable | 10=>.stable | 11=>.stable | 12=>.own 11 | 13=>.stable | 14=>.rw [10] (0) | 15=>.stable | 16=>.writes | _=>.here) mixed (by kernel_rfl) rfl (by kernel_rfl) ⟨rfl, rfl, ⟨_, rfl, rfl, by simp [putCells]⟩, ⟨_, rfl, rfl, by simp [putCells]⟩⟩ ?_
    refine jv Y Y (fun m hm=>jJ Y Y hm.1 Y wF) (jv Y Y (fun m hm=>zX Y Y hm.1 Y Y Y zum) (jv Y Y (fun m hm=>zh Y Y) (jv Y Y (fun m hm=>zX Y Y hm.2.1 Y Y Y zuG) (jv Y Y (fun m hm=>zh Y Y) (jv Y Y (fun m hm=>zi Y Y zG) (jv Y Y (fun m hm=>zl Y Y Y zuo) (jv Y Y (fun m hm=>qA Y Y Y Tryz.underlying106) ?_)))))))
    refine ztC Y Y (fun m hm hC=>⟨(wP Y Y Tryz.underlying24 ti3 Y Y Y (zs:=[.int .i64 0]) Y Y Y (by simp) (by simp) (by decide) Y m hm trivial).1, zuv (by decide) hC⟩) ?_
    refine jv Y Y (fun m hm=>zi Y Y zG) (jv Y Y (fun m hm=>zl Y Y Y zuo) (jv Y Y (fun m hm=>qA Y Y Y Tryz.underlying106) ?_))
    refine ztC Y Y (fun m hm hC=>⟨(wP Y Y Tryz.underlying353 zuS Y Y Y (zs:=[.int .i64 0, .int .i64 0, .int .i64 0, .int .i64 0, .int .i64 0, .int .i64 0]) Y Y Y (by simp) (by simp) (by decide) Y m hm trivial).1, zuv (by decide) hC⟩) ?_
    refine jv Y Y (fun m hm=>jw Y Y Y hm.2.2.1.choose_spec.1 hm.2.2.1.choose_spec.2.1 zla (by omega) (by omega) hm.2.2.1.choose_spec.2.2) ?_
    refine zu3 [10] 0 Y Y (fun m hm hC=>⟨zd0 Y Y Y ((hm.one 0 (by simp)).trans Y) Y Y (zc7 Y ((hm.one 10 (by simp)).trans Y) (by simp)) kN (by rfl) (by rfl), zuI hC Y (by simp [putCells])⟩) ?_
    refine jv Y Y (fun m hm=>jw Y Y Y hm.2.2.2.choose_spec.1 hm.2.2.2.choose_spec.2.1 zuC (by omega) (by omega) hm.2.2.2.choose_spec.2.2) ?_
    refine zpt Y Y (zd0 Y Y Y Y Y Y (zc7 Y Y (by simp)) zuL (by rfl) (by rfl)) ⟨Y, Y, ⟨_, Y, Y, by simp [putCells]⟩, ⟨_, Y, Y, by simp [putCells]⟩⟩ ?_
    refine zfa (zJ (zk (zx (zf (zW Y Y Y ⟨by omega, by omega⟩) (zf (zh Y Y) (zM ?_))))))
    exact ⟨⟨4, by omega⟩, by dsimp only; omega, (by refine zy (mem':=[.row [[.psl 4 1], [.psl 6 1], [.psl 8 1], [.psl 10 1]], .row [suE [s0, s1, s2, s3] r q (.psl 0 4)], .row [[.psl 5 1], [.psl 7 1], [.psl 9 1], [.psl 11 1]], .row [[.psl 2 4]], .row [[I 0]], .row [[I 0, I 0, I 0, I 0, I 0, I 0]], .row [[I 0]], .row [[I 0, I 0, I 0, I 0, I 0, I 0]], .row [[I 0]], .row [[I 0, I 0, I 0, I 0, I 0, I 0]], .row [[I 0]], .row [[I 0, I 0, I 0, I 0, I 0, I 0]]]) [(1, .pub (.ptr (eSu [s0, s1, s2, s3] r q))), (2, .pub (.ptr [Yv C.l])), (3, .pp 1 1 0 0), (4, .pp 3 1 0 0), (20, .pub (.sl ([s0, s1, s2, s3].map eLm))), (21, I 4), (22, I 4)] ?_ ?_; exact ⟨Y, Y, Y, Y, Y, Y, Y, trivial⟩; exact (Y))⟩
   ·exfalso; simp at h0
  ·dsimp only
   refine zn (zf (qx Y Y Y) (zo (zt (zA Y (fun h0=>?_) (fun h0=>?_)))))
   ·exfalso; simp at h0
   ·refine qg (zS (zS (qh ?_)))
    refine qE ?_
    refine jU ?_
    refine jU ?_
    refine yf ?_
    refine zx (zf (zi Y Y zdQ) (zf (zl Y Y Y zuq) ?_))
    refine zf (zD Y Y Y zur (by omega) (by rfl) zun) ?_
    refine zf (zi Y Y zG) (zf (zl Y Y Y zuo) (zf (qA Y Y Y Tryz.underlying106) (zf (zh Y Y) (zM ?_))))
    refine qE ?_
    refine yf ?_
    refine zF ?_
    refine qm (ι:={ k:Nat // k < 2 }) (fun k=>match k.1 with | 0=>⟨Tryz.f246.ntmps, frL [(1, .pub (.ptr (eSu [s0, s1, s2, s3] r q))), (2, .pub (.ptr [Yv C.l])), (3, .pp 1 1 0 0), (4, .pp 3 1 0 0), (48, I 1), (49, I 0)], [.row [[.psl 4 1], [.psl 6 1], [.psl 8 1], [.psl 10 1]], .row [suE [s0, s1, s2, s3] r q (.psl 0 4)], .row [[.psl 5 1], [.psl 7 1], [.psl 9 1], [.psl 11 1]], .row [[.psl 2 4]], .row [[I 0]], .row [[I 0, I 0, I 0, I 0, I 0, I 0]], .row [[I 0]], .row [[I 0, I 0, I 0, I 0, I 0, I 0]], .row [[I 0]], .row [[I 0, I 0, I 0, I 0, I 0, I 0]], .row [[I 0]], .row [[I 0, I 0, I 0, I 0, I 0, I 0]]]⟩ | _=>⟨Tryz.f246.ntmps, frL [(1, .pub (.ptr (eSu [s0, s1, s2, s3] r q))), (2, .pub (.ptr [Yv C.l])), (3, .pp 1 1 0 0), (4, .pp 3 1 0 0), (48, I 1), (49, I 1)], [.row [[.psl 4 1], [.psl 6 1], [.psl 8 1], [.psl 10 1]], .row [suE [s0, s1, s2, s3] r q (.psl 0 4)], .row [[.psl 5 1], [.psl 7 1], [.psl 9 1], [.psl 11 1]], .row [[.psl 2 4]], .row [[I (-1)]], .row [(eBx (ownB [s0, s1, s2, s3] 0)).map .pub], .row [[I 0]], .row [[I 0, I 0, I 0, I 0, I 0, I 0]], .row [[I 0]], .row [[I 0, I 0, I 0, I 0, I 0, I 0]], .row [[I 0]], .row [[I 0, I 0, I 0, I 0, I 0, I 0]]]⟩) (fun k=>2 - k.1) (⟨0, by omega⟩) ?_ ?_
    ·exact zy _ ⟨Y, Y, Y, Y, Y, Y, trivial⟩ (Y)
    ·rintro ⟨k, hk⟩
     have hk3:k = 0 ∨ k = 1:=by omega
     rcases hk3 with rfl | rfl
     ·dsimp only
      refine zn (zf (qx Y Y Y) (zo (zt (zA Y (fun h1=>?_) (fun h1=>?_)))))
      ·refine zH (zk (zt (zF (zn (zf (zh Y Y) (zf (zg Y Y) (zo ?_)))))))
       refine zfD (CB2 4 (.row [suE [s0, s1, s2, s3] r q (.psl 0 4)]) (.row [[.psl 2 4]])) (fun k=>match k with | 5=>.stable | 6=>.stable | 8=>.stable | 9=>.stable | 10=>.stable | 13=>.writes | 14=>.stable | 15=>.writes | _=>.here) mixed (by kernel_rfl) rfl (by kernel_rfl) ⟨⟨rfl, rfl, ⟨_, rfl, rfl, by simp [putCells]⟩, ⟨_, rfl, rfl, by simp [putCells]⟩⟩, ⟨_, rfl, rfl, by simp [putCells, eBx]⟩⟩ ?_
       refine znG Y Y (jJ Y Y Y Y wF) (znG Y Y (zX Y Y Y Y Y Y zum) ?_)
       refine znG Y Y (jw Y Y Y Y Y zla (by omega) (by omega) (by simp)) ?_
       refine znG Y Y (zX Y Y Y Y Y Y kN) (znG Y Y (zh Y Y) (jv Y Y (fun m hm=>zX Y Y hm.1.2.1 Y Y Y zuG) (jv Y Y (fun m hm=>jw Y Y Y hm.1.2.2.2.choose_spec.1 hm.1.2.2.2.choose_spec.2.1 zuC (by omega) (by omega) hm.1.2.2.2.choose_spec.2.2) (znG Y Y (zX Y Y Y Y Y Y zuL) (jv Y Y (fun m hm=>zh Y Y) (jv Y Y (fun m hm=>za9 (cs:=suE [s0, s1, s2, s3] r q (.psl 0 4)) Y Y hm.1.1 Y Y (by exact zLb Y) Y zup) (jv Y Y (fun m hm=>zh Y Y) ?_)))))))
       refine znG Y Y (zeO (av:=[.agg (eLk [s0, s1, s2, s3] r q .top), Ct.ei 0, Ct.ei 0]) Y ⟨_, _, Y, AVle.refl _, _, _, Y, AVle.refl _, _, _, Y, AVle.refl _, Y⟩ (zwf [s0, s1, s2, s3] r q .top 0 (by simp) 0 Y)) ?_
       refine znG Y Y (jw Y Y Y Y Y zjc (by omega) (by omega) (by simp)) ?_
       refine zpt Y Y (zd0 Y Y Y Y Y Y (qU Y) ty3 (by rfl) (by rfl)) ⟨⟨Y, Y, ⟨_, Y, Y, by simp [putCells]⟩, ⟨_, Y, Y, by simp [putCells]⟩⟩, ⟨_, Y, Y, by simp [putCells, eBx]⟩⟩ ?_
       refine jv Y Y (fun m hm=>jw Y Y Y hm.2.choose_spec.1 hm.2.choose_spec.2.1 zva (by omega) (by omega) hm.2.choose_spec.2.2) ?_
       refine zpt Y Y (zd0 Y Y Y Y Y Y (zQ Y) wX (by rfl) (by rfl)) ⟨⟨Y, Y, ⟨_, Y, Y, by simp [putCells]⟩, ⟨_, Y, Y, by simp [putCells]⟩⟩, ⟨_, Y, Y, by simp [putCells, eBx]⟩⟩ ?_
       refine zfa (zJ (zk (zx (zf (zW Y Y Y ⟨by omega, by omega⟩) (zf (zh Y Y) (zM ?_))))))
       exact ⟨⟨1, by omega⟩, by dsimp only; omega, (by refine zy (mem':=[.row [[.psl 4 1], [.psl 6 1], [.psl 8 1], [.psl 10 1]], .row [suE [s0, s1, s2, s3] r q (.psl 0 4)], .row [[.psl 5 1], [.psl 7 1], [.psl 9 1], [.psl 11 1]], .row [[.psl 2 4]], .row [[I (-1)]], .row [(eBx (ownB [s0, s1, s2, s3] 0)).map .pub], .row [[I 0]], .row [[I 0, I 0, I 0, I 0, I 0, I 0]], .row [[I 0]], .row [[I 0, I 0, I 0, I 0, I 0, I 0]], .row [[I 0]], .row [[I 0, I 0, I 0, I 0, I 0, I 0]]]) [(1, .pub (.ptr (eSu [s0, s1, s2, s3] r q))), (2, .pub (.ptr [Yv C.l])), (3, .pp 1 1 0 0), (4, .pp 3 1 0 0), (48, I 1), (49, I 1)] ?_ ?_; exact ⟨Y, Y, Y, Y, Y, Y, trivial⟩; exact (Y))⟩
      ·exfalso; simp at h1
     ·dsimp only
      refine zn (zf (qx Y Y Y) (zo (zt (zA Y (fun h1=>?_) (fun h1=>?_)))))
      ·exfalso; simp at h1
      ·refine qg (zS (zS (qh ?_)))
       refine qE ?_
       refine jU ?_
       refine yf ?_
       refine zx (qL Y (jr Y Y zwx Y Y) (zM ?_))
       refine qE ?_
       refine jU ?_
       refine yf ?_
       refine zx (zf (vP Y) ?_)
       refine qL Y (qw Y Y Y Y Y Y (zkm Y) zu8 (by rfl) (by exact zLb Y)) ?_
       refine zM ?_
       refine qE ?_
       refine zaj (zy (mem':=MM [s0, s1, s2, s3] r q C.l 1 []) [(8, .pp 12 1 0 0)] ?_ ?_) ?_
       ·exact ⟨Y, trivial⟩
       ·exact Y
       refine yT ?_
       refine vX Y Y (zX Y Y Y Y Y Y zu8) ?_
       refine zuX (gh:=[]) (c:=true) (f:=247) (fs:=[]) (cs:=zve [s0, s1, s2, s3] r q C.l) (av:=[I 1, I 0, I 0, I 0]) Y Y Y Y (fun _=>⟨Y, Y, Y⟩) (fun _=>⟨Y, Y, Y, Y, trivial⟩) (fun _=>zw5 hs ht (hq C hC) 3 1 (by omega) (by rfl) []) (fun h=>absurd h (by decide)) (fun _=>?_) (fun _=>?_)
       ·refine zas ?_
        exact ⟨.inl Y, Y, .inl Y⟩
       ·refine zas ?_
        exact ⟨.inl Y, Y, .inr ⟨0, Y⟩⟩
end Tp
end Go.Av
end
