import Derived.Test.YtgmbdadkbominaaGreatDoorBuA
import Derived.Test.YtgmbdadkbominaaGreatDoorPlatY
set_option linter.unusedVariables false
set_option linter.unusedSimpArgs false
section
namespace Go.Av
namespace Hs
open Go.Proofs
set_option maxRecDepth 100000
set_option maxHeartbeats 1000000
variable {G:Glob}
theorem zDq:(Tryz.prog.info? 37).bind (·.zero) = some (.agg #[.slice none 0 0, .slice none 0 0, .slice none 0 0, .int .i64 0, .int .i64 0, .int .i64 0, .int .i64 0, .int .i64 0, .int .i64 0, .int .i64 0, .int .i64 0, .slice none 0 0, .slice none 0 0, .slice none 0 0, .int .i64 0, .int .i64 0, .int .i64 0, .int .i64 0, .int .i64 0, .int .i64 0, .slice none 0 0, .int .i64 0, .int .i64 0, .int .i64 0, .int .i64 0]):=by kernel_rfl
def rSu (e:EV) (s:Sut):List EV:=[e, .pub (.sl (s.code.fields.map Wr.eSpn)), .pub (eI s.code.turns), I s.code.most, I s.op, I s.fr, I s.mo, I s.wide, I s.rows, I s.slope,
 I s.w.n, .pub (.sl (s.w.reps.map eRep)), .pub (.sl (s.w.lnks.map eLnk)), .pub (.sl (s.w.prts.map ePrt)), I s.w.fall, I s.w.win, I s.w.hold, I s.w.dawn, I s.w.dusk, I s.cls, .pub (eI s.wts), I s.pb, I s.pr, I s.pl, I s.days]
def zSu:List EV:=[.pub (.v (.slice none 0 0)), .pub (.v (.slice none 0 0)), .pub (.v (.slice none 0 0)), I 0, I 0, I 0, I 0, I 0, I 0, I 0, I 0, .pub (.v (.slice none 0 0)), .pub (.v (.slice none 0 0)), .pub (.v (.slice none 0 0)), I 0, I 0, I 0, I 0, I 0, I 0, .pub (.v (.slice none 0 0)), I 0, I 0, I 0, I 0]
def mK (s:Sut):List PO:=[.row [rSu (.psl 2 s.st.length) s], .row [zSu], .row (rBS s.st)]
theorem zDi {s:Sut} {k:Nat}:PO.okL k (.row [rSu (.pub (.sl (s.st.map eBSt))) s]):=fun r hr x hx=>by
 rw [List.mem_singleton] at hr; subst hr
 simp only[rSu, List.mem_cons, List.not_mem_nil, or_false] at hx
 rcases hx with rfl | rfl | rfl | rfl | rfl | rfl | rfl | rfl | rfl | rfl | rfl | rfl | rfl | rfl | rfl | rfl | rfl | rfl | rfl | rfl | rfl | rfl | rfl | rfl | rfl <;> simp [EV.lt, I]
theorem zDj {k:Nat}:PO.okL k (.row [zSu]):=fun r hr x hx=>by
 rw [List.mem_singleton] at hr; subst hr
 simp only[zSu, List.mem_cons, List.not_mem_nil, or_false] at hx
 rcases hx with rfl | rfl | rfl | rfl | rfl | rfl | rfl | rfl | rfl | rfl | rfl | rfl | rfl | rfl | rfl | rfl | rfl | rfl | rfl | rfl | rfl | rfl | rfl | rfl | rfl <;> simp [EV.lt, I]
theorem zCN {s:Sut} {k:Nat} (h:k < s.st.length):[PO.row [rSu (.psl 2 s.st.length) s], .row [zSu], .row ((rBS s.st).set k (putCells ((eBSt s.st[k]).map .pub) 8 [.pub (.sl ((s.st[k]).g.ck.map eChk))]))] = mK s:=by
 rw [show putCells ((eBSt s.st[k]).map EV.pub) 8 [.pub (.sl ((s.st[k]).g.ck.map eChk))] = (eBSt s.st[k]).map .pub from rfl, zB4 h]; rfl
end Hs
end Go.Av
end
section
namespace Go.Av
namespace Hs
open Go.Proofs
set_option maxRecDepth 100000
set_option maxHeartbeats 1000000
variable {G:Glob}
theorem zF1:ze3 Tryz.prog 248 1 [.int .i64 0, .int .i64 0, .int .i64 0, .int .i64 0, .int .i64 0, .int .i64 0]:=⟨_, _, Tryz.t41, Tryz.underlying248, by kernel_rfl, by kernel_rfl, by kernel_rfl⟩
theorem zDY:zeE Tryz.prog 248 6 1 = true:=by kernel_rfl
theorem zE6:tyIs Tryz.prog 41 false 1 = true:=by kernel_rfl
structure SuP (s:Sut):Prop where
 n:1 <= s.st.length /\ s.st.length <= 3
 days:1 <= s.days /\ s.days <= 4
 map:Ct.mapB (mpS s) = true
 st:∀ x ∈ s.st, Ct.inB x.pt 0 (s.wide * s.rows - 1) = true /\ zC1 x.g = true /\ clB x.g = false
 code:Wr.codB s.code = true
 tar:zC7 s.op s.fr s.mo = true
 w:zDr s.w = true
 s6:s6B s.cls s.wts = true
 pap:zC3 s.pb s.pr s.pl = true
theorem suP {s:Sut} (h:suB s = true):SuP s:=by
 simp only[suB, zLa, zz6, List.all_eq_true] at h
 obtain ⟨⟨⟨h1, h2⟩, h3⟩, h4, ⟨⟨⟨h5, h6⟩, h7⟩, h8⟩, h9⟩:=h
 refine ⟨by omega, h2, h3, fun x hx=>?_, h5, h6, by rw [← zCd]; exact h7, h8, h9⟩
 have:=h4 x hx
 simp only[zCs, zLa, Bool.not_eq_true'] at this
 exact ⟨this.1.1, this.1.2, this.2⟩
theorem f51 (s:Sut) (hsm:smB s = true) (hS:SuP s) (h135:∀ x ∈ s.st, ACall Tryz.prog G 135 [.agg (zDL x.g), ei 0] (.tup [.agg [.top, .top], ei 0])):ACall Tryz.prog G 51 [.agg (eSut s)] (ei 0):=by
 obtain ⟨⟨hn1, hn2, hn3, hn4, hn5, hn6, hn7⟩, hck⟩:=zBL hsm
 have hm:(s.st.map eBSt).length = s.st.length:=by simp
 have hn:=hS.n
 have hdy:=hS.days
 obtain ⟨m1, m2, m3, m4, _⟩:=(Ct.okM_iff (mpS s)).1 hS.map
 have hwr:0 <= s.wide * s.rows /\ s.wide * s.rows <= 30:=by
   have a1:1 <= s.wide:=m1
   have a2:s.wide <= 6:=m2
   have a3:1 <= s.rows:=m3
   have a4:s.rows <= 5:=m4
   refine ⟨Int.mul_nonneg (by omega) (by omega), ?_⟩
   have:=Int.mul_le_mul a2 a4 (by omega) (by omega:(0:Int) <= 6)
   omega
 have sp11:ACall Tryz.prog G 11 [.agg (eWt s.w)] (ei 0):=by
   have:=f11 (G:=G) s.w
   rw [hS.w] at this
   exact this
 refine zO Tryz.func51 rfl (by kernel_rfl) rfl ?_
 refine zn (jy rfl rfl (ql rfl (zQ rfl)) (jy rfl rfl (zg rfl rfl) (zo (zn (jy rfl rfl (zi rfl rfl zE5) (jy rfl rfl (zK rfl rfl zFC (by exact zLb rfl)) (jy rfl rfl (zB (av:=[_, _]) rfl ⟨rfl, rfl, trivial⟩ (f129 _ _ _ hS.pap)) (jy rfl rfl (zI rfl rfl) ?_))))))))
 refine jy rfl rfl (zU rfl rfl rfl) (jy rfl rfl (zU rfl rfl rfl) (jy rfl rfl (qG rfl rfl) (jy rfl rfl (zg rfl rfl) (zo (zn (jy rfl rfl (zi rfl rfl zEW) (jy rfl rfl (zK rfl rfl zGt (by exact zLb rfl)) (jy rfl rfl (zB (av:=[_, _, _]) rfl ⟨rfl, rfl, rfl, trivial⟩ (f130 _ _ _ hS.tar)) (jy rfl rfl (zI rfl rfl) ?_)))))))))
 refine jy rfl rfl (zU rfl rfl rfl) (jy rfl rfl (zU rfl rfl rfl) (jy rfl rfl (qG rfl rfl) (jy rfl rfl (zg rfl rfl) (zo (zt (zt ?_))))))
 refine qp mixed (by kernel_rfl) rfl ?_
 refine zu rfl (zi rfl rfl zAq) (zu rfl (zK rfl rfl zjk (by exact zLb rfl)) (zu rfl (zB (av:=[_]) rfl ⟨rfl, trivial⟩ (f131 s.code (by omega) hS.code)) (zu rfl (zh rfl rfl) (zu rfl (zK rfl rfl zAf (by exact zLb rfl)) (zu rfl (zB (av:=[_]) rfl ⟨rfl, trivial⟩ (f53 s)) (zu rfl (zB (av:=[_]) rfl ⟨rfl, trivial⟩ (f132 (mpS s) hS.map)) (zu rfl (zi rfl rfl zDs) (zu rfl (zK rfl rfl zz8 (by exact zLb rfl)) (zu rfl (zB (av:=[_]) rfl ⟨rfl, trivial⟩ sp11) (zu rfl (zi rfl rfl zEY) (zu rfl (zl rfl rfl rfl ty3) ?_)))))))))))
 refine zu rfl (zi rfl rfl zBp) (zu rfl (zl rfl rfl rfl kN) ?_)
 refine zu rfl (yl (cs:=[_, _, _]) rfl zFQ rfl ⟨_, _, rfl, (qU rfl), ⟨_, _, rfl, (zjo rfl), rfl⟩⟩ (by rfl) (by simp [ofV])) ?_
 refine zu rfl (zB (av:=[_]) rfl ⟨rfl, trivial⟩ (f133 _ _ (by omega) hS.s6)) (zu rfl (zh rfl rfl) ?_)
 refine zu rfl (zkf (cs:=[_, _, _, _, _, _]) rfl zF1 rfl ⟨_, _, rfl, (qU rfl), ⟨_, _, rfl, (qU rfl), ⟨_, _, rfl, (qU rfl), ⟨_, _, rfl, (qU rfl), ⟨_, _, rfl, (qU rfl), ⟨_, _, rfl, (qU rfl), rfl⟩⟩⟩⟩⟩⟩ (by rfl) (by simp [ofV])) ?_
 refine zu rfl (zh rfl rfl) (qF (zk (zF ?_)))
 refine qm (ι:={ k:Nat // k < 7 }) (fun k=>match k.1 with | 0=>⟨Tryz.f51.ntmps, frL [(1, .pub (.ptr (eSut s))), (42, .pub (.agg [ei 0, ei 0, ei 0, ei 0, ei 0, ei 0])), (43, I 0)], []⟩ | 1=>⟨Tryz.f51.ntmps, frL [(1, .pub (.ptr (eSut s))), (42, .pub (.agg [ei 0, ei 0, ei 0, ei 0, ei 0, ei 0])), (43, I 1)], []⟩ | 2=>⟨Tryz.f51.ntmps, frL [(1, .pub (.ptr (eSut s))), (42, .pub (.agg [ei 0, ei 0, ei 0, ei 0, ei 0, ei 0])), (43, I 2)], []⟩ | 3=>⟨Tryz.f51.ntmps, frL [(1, .pub (.ptr (eSut s))), (42, .pub (.agg [ei 0, ei 0, ei 0, ei 0, ei 0, ei 0])), (43, I 3)], []⟩ | 4=>⟨Tryz.f51.ntmps, frL [(1, .pub (.ptr (eSut s))), (42, .pub (.agg [ei 0, ei 0, ei 0, ei 0, ei 0, ei 0])), (43, I 4)], []⟩ | 5=>⟨Tryz.f51.ntmps, frL [(1, .pub (.ptr (eSut s))), (42, .pub (.agg [ei 0, ei 0, ei 0, ei 0, ei 0, ei 0])), (43, I 5)], []⟩ | _=>⟨Tryz.f51.ntmps, frL [(1, .pub (.ptr (eSut s))), (42, .pub (.agg [ei 0, ei 0, ei 0, ei 0, ei 0, ei 0])), (43, I 6)], []⟩) (fun k=>7 - k.1) (⟨0, by omega⟩) ?_ ?_
 ·exact zy _ ⟨rfl, rfl, rfl, trivial⟩ (rfl)
 ·rintro ⟨k, hk⟩
  have hk3:k = 0 ∨ k = 1 ∨ k = 2 ∨ k = 3 ∨ k = 4 ∨ k = 5 ∨ k = 6:=by omega
  rcases hk3 with rfl | rfl | rfl | rfl | rfl | rfl | rfl
  ·dsimp only
   refine zn (jy rfl rfl (qx rfl rfl rfl) (zo (zt (zA rfl (fun h0=>?_) (fun h0=>?_)))))
   ·refine zH (zk (zt (zF (zn ?_))))
    refine jy rfl rfl (zes rfl rfl rfl zDY (fun e he=>by rw [Tryz.underlying248] at he; cases he; exact zE6) (by omega) (by omega) rfl) ?_
    refine jy rfl rfl (zg rfl rfl) (zo (zn (jy rfl rfl (zh rfl rfl) (jy rfl rfl (wE rfl rfl rfl) (zo (zA rfl (fun h1=>?_) (fun h1=>?_)))))))
    ·exfalso; simp at h1
    ·refine zH (zJ (zk (zx (jy rfl rfl (zW rfl rfl rfl ⟨by omega, by omega⟩) (jy rfl rfl (zh rfl rfl) (zM ?_))))))
     exact ⟨⟨1, by omega⟩, by dsimp only; omega, (by refine zy (mem':=[]) [(1, .pub (.ptr (eSut s))), (42, .pub (.agg [ei 0, ei 0, ei 0, ei 0, ei 0, ei 0])), (43, I 1)] ?_ ?_; exact ⟨rfl, rfl, rfl, trivial⟩; exact (rfl))⟩
   ·exfalso; simp at h0
  ·dsimp only
   refine zn (jy rfl rfl (qx rfl rfl rfl) (zo (zt (zA rfl (fun h0=>?_) (fun h0=>?_)))))
   ·refine zH (zk (zt (zF (zn ?_))))
    refine jy rfl rfl (zes rfl rfl rfl zDY (fun e he=>by rw [Tryz.underlying248] at he; cases he; exact zE6) (by omega) (by omega) rfl) ?_
    refine jy rfl rfl (zg rfl rfl) (zo (zn (jy rfl rfl (zh rfl rfl) (jy rfl rfl (wE rfl rfl rfl) (zo (zA rfl (fun h1=>?_) (fun h1=>?_)))))))
    ·exfalso; simp at h1
    ·refine zH (zJ (zk (zx (jy rfl rfl (zW rfl rfl rfl ⟨by omega, by omega⟩) (jy rfl rfl (zh rfl rfl) (zM ?_))))))
     exact ⟨⟨2, by omega⟩, by dsimp only; omega, (by refine zy (mem':=[]) [(1, .pub (.ptr (eSut s))), (42, .pub (.agg [ei 0, ei 0, ei 0, ei 0, ei 0, ei 0])), (43, I 2)] ?_ ?_; exact ⟨rfl, rfl, rfl, trivial⟩; exact (rfl))⟩
   ·exfalso; simp at h0
  ·dsimp only
   refine zn (jy rfl rfl (qx rfl rfl rfl) (zo (zt (zA rfl (fun h0=>?_) (fun h0=>?_)))))
   ·refine zH (zk (zt (zF (zn ?_))))
    refine jy rfl rfl (zes rfl rfl rfl zDY (fun e he=>by rw [Tryz.underlying248] at he; cases he; exact zE6) (by omega) (by omega) rfl) ?_
    refine jy rfl rfl (zg rfl rfl) (zo (zn (jy rfl rfl (zh rfl rfl) (jy rfl rfl (wE rfl rfl rfl) (zo (zA rfl (fun h1=>?_) (fun h1=>?_)))))))
    ·exfalso; simp at h1
    ·refine zH (zJ (zk (zx (jy rfl rfl (zW rfl rfl rfl ⟨by omega, by omega⟩) (jy rfl rfl (zh rfl rfl) (zM ?_))))))
     exact ⟨⟨3, by omega⟩, by dsimp only; omega, (by refine zy (mem':=[]) [(1, .pub (.ptr (eSut s))), (42, .pub (.agg [ei 0, ei 0, ei 0, ei 0, ei 0, ei 0])), (43, I 3)] ?_ ?_; exact ⟨rfl, rfl, rfl, trivial⟩; exact (rfl))⟩
   ·exfalso; simp at h0
  ·dsimp only
   refine zn (jy rfl rfl (qx rfl rfl rfl) (zo (zt (zA rfl (fun h0=>?_) (fun h0=>?_)))))
   ·refine zH (zk (zt (zF (zn ?_))))
    refine jy rfl rfl (zes rfl rfl rfl zDY (fun e he=>by rw [Tryz.underlying248] at he; cases he; exact zE6) (by omega) (by omega) rfl) ?_
    refine jy rfl rfl (zg rfl rfl) (zo (zn (jy rfl rfl (zh rfl rfl) (jy rfl rfl (wE rfl rfl rfl) (zo (zA rfl (fun h1=>?_) (fun h1=>?_)))))))
    ·exfalso; simp at h1
    ·refine zH (zJ (zk (zx (jy rfl rfl (zW rfl rfl rfl ⟨by omega, by omega⟩) (jy rfl rfl (zh rfl rfl) (zM ?_))))))
     exact ⟨⟨4, by omega⟩, by dsimp only; omega, (by refine zy (mem':=[]) [(1, .pub (.ptr (eSut s))), (42, .pub (.agg [ei 0, ei 0, ei 0, ei 0, ei 0, ei 0])), (43, I 4)] ?_ ?_; exact ⟨rfl, rfl, rfl, trivial⟩; exact (rfl))⟩
   ·exfalso; simp at h0
  ·dsimp only
   refine zn (jy rfl rfl (qx rfl rfl rfl) (zo (zt (zA rfl (fun h0=>?_) (fun h0=>?_)))))
   ·refine zH (zk (zt (zF (zn ?_))))
    refine jy rfl rfl (zes rfl rfl rfl zDY (fun e he=>by rw [Tryz.underlying248] at he; cases he; exact zE6) (by omega) (by omega) rfl) ?_
    refine jy rfl rfl (zg rfl rfl) (zo (zn (jy rfl rfl (zh rfl rfl) (jy rfl rfl (wE rfl rfl rfl) (zo (zA rfl (fun h1=>?_) (fun h1=>?_)))))))
    ·exfalso; simp at h1
    ·refine zH (zJ (zk (zx (jy rfl rfl (zW rfl rfl rfl ⟨by omega, by omega⟩) (jy rfl rfl (zh rfl rfl) (zM ?_))))))
     exact ⟨⟨5, by omega⟩, by dsimp only; omega, (by refine zy (mem':=[]) [(1, .pub (.ptr (eSut s))), (42, .pub (.agg [ei 0, ei 0, ei 0, ei 0, ei 0, ei 0])), (43, I 5)] ?_ ?_; exact ⟨rfl, rfl, rfl, trivial⟩; exact (rfl))⟩
   ·exfalso; simp at h0
  ·dsimp only
   refine zn (jy rfl rfl (qx rfl rfl rfl) (zo (zt (zA rfl (fun h0=>?_) (fun h0=>?_)))))
   ·refine zH (zk (zt (zF (zn ?_))))
    refine jy rfl rfl (zes rfl rfl rfl zDY (fun e he=>by rw [Tryz.underlying248] at he; cases he; exact zE6) (by omega) (by omega) rfl) ?_
    refine jy rfl rfl (zg rfl rfl) (zo (zn (jy rfl rfl (zh rfl rfl) (jy rfl rfl (wE rfl rfl rfl) (zo (zA rfl (fun h1=>?_) (fun h1=>?_)))))))
    ·exfalso; simp at h1
    ·refine zH (zJ (zk (zx (jy rfl rfl (zW rfl rfl rfl ⟨by omega, by omega⟩) (jy rfl rfl (zh rfl rfl) (zM ?_))))))
     exact ⟨⟨6, by omega⟩, by dsimp only; omega, (by refine zy (mem':=[]) [(1, .pub (.ptr (eSut s))), (42, .pub (.agg [ei 0, ei 0, ei 0, ei 0, ei 0, ei 0])), (43, I 6)] ?_ ?_; exact ⟨rfl, rfl, rfl, trivial⟩; exact (rfl))⟩
   ·exfalso; simp at h0
  ·dsimp only
   refine zn (jy rfl rfl (qx rfl rfl rfl) (zo (zt (zA rfl (fun h0=>?_) (fun h0=>?_)))))
   ·exfalso; simp at h0
   ·refine zAj (zS (zS (zAi (zk (zt (zn (jy rfl rfl (zi rfl rfl zAp) (jy rfl rfl (zl rfl rfl rfl kS) (jy rfl rfl (qA rfl rfl rfl Tryz.underlying22) (jy rfl rfl (zB (av:=[_, _, _]) rfl ⟨rfl, rfl, rfl, trivial⟩ (f134 _ _ _)) ?_))))))))))
    refine jy rfl rfl (qJ rfl rfl) (jy rfl rfl (zh rfl rfl) (zjW rfl rfl rfl (fun hg=>zi rfl rfl zBG) (zjW rfl rfl rfl (fun hg=>zl rfl (if_pos hg) rfl ty3) (zjW rfl rfl rfl (fun hg=>zB (av:=[_, _, _]) rfl ⟨((if_pos hg)), rfl, rfl, trivial⟩ (f134 _ _ _)) (zjW rfl rfl rfl (fun hg=>qJ rfl (if_pos hg)) (jy rfl rfl (jf rfl rfl rfl rfl) (zo (zA rfl (fun h2=>?_) (fun h2=>?_)))))))))
    ·exfalso; simp [inB] at h2; omega
    ·refine zH (zk (zt (zn (jy rfl rfl (zi rfl rfl zAp) (jy rfl rfl (zl rfl rfl rfl kS) (jy rfl rfl (qA rfl rfl rfl Tryz.underlying22) (jy rfl rfl (zh rfl rfl) (zo (zF ?_)))))))))
     refine qm (ι:={ a:Nat // a <= s.st.length }) (fun a=>⟨Tryz.f51.ntmps, frL [(1, .pub (.ptr (eSut s))), (61, .pub (.sl (s.st.map eBSt))), (62, I (((s.st.map eBSt).length:Nat):Int)), (63, I (a.1:Int))], []⟩) (fun a=>s.st.length - a.1) (⟨0, by omega⟩) ?_ ?_
     ·exact zy _ ⟨rfl, rfl, rfl, rfl, trivial⟩ (rfl)
     ·rintro ⟨a, ha⟩
      dsimp only
      refine zn (jy rfl rfl (qx rfl rfl rfl) (zo (zt (zA rfl (fun h3=>?_) (fun h3=>?_)))))
      ·have hlt:a < s.st.length:=by simpa using h3
       have hst:=hS.st _ (List.getElem_mem hlt)
       refine zH (zk (zt (zF (zn ?_))))
       refine jy rfl rfl (zD rfl rfl rfl zaC (by omega) (by exact zFe (k:=a) hlt) (zz7 fun _=>rfl)) ?_
       refine jy rfl rfl (zK rfl rfl zEQ (by exact zLb rfl)) ?_
       refine qP  rfl rfl rfl rfl rfl rfl rfl zFH zEQ rfl (by rfl) (zQ rfl) rfl ?_
       refine zo (zn (jy rfl rfl (zi rfl rfl zBV) (jy rfl rfl (zK rfl rfl zDX (by exact zLb rfl)) (jy rfl rfl (zB (av:=[_, _]) rfl ⟨rfl, rfl, trivial⟩ (h135 _ (List.getElem_mem hlt))) (jy rfl rfl (zI rfl rfl) (jy rfl rfl (zU rfl rfl rfl) (jy rfl rfl (zU rfl rfl rfl) ?_)))))))
       refine qP  rfl rfl rfl rfl rfl rfl rfl zwq zuz rfl (by rfl) (zQ rfl) rfl ?_
       refine jy rfl rfl (zg rfl rfl) (zo (zn (jy rfl rfl (zh rfl rfl) (jy rfl rfl (wE rfl rfl rfl) (jy rfl rfl (zh rfl rfl) (zjW rfl rfl rfl (fun hg=>zi rfl rfl zEx) (zjW rfl rfl rfl (fun hg=>zl rfl (rfl) rfl ty3) (zjW rfl rfl rfl (fun hg=>zi rfl rfl zEm) (zjW rfl rfl rfl (fun hg=>zl rfl (rfl) rfl ty3) ?_)))))))))
       refine zjW rfl rfl rfl (fun hg=>zi rfl rfl zEf) (zjW rfl rfl rfl (fun hg=>zl rfl (rfl) rfl ty3) ?_)
       refine zjW rfl rfl rfl (fun hg=>ya rfl rfl rfl ⟨by omega, by omega⟩) ?_
       refine zjW rfl rfl rfl (fun hg=>vN rfl rfl rfl ⟨by omega, by omega⟩) ?_
       refine zjW rfl rfl rfl (fun hg=>zB (av:=[_, _, _]) rfl ⟨((by first | exact rfl | exact (if_pos hg))), rfl, ((by first | exact rfl | exact (if_pos hg))), trivial⟩ (f134 _ _ _)) ?_
       refine zjW rfl rfl rfl (fun hg=>qJ rfl (rfl)) (jy rfl rfl (jf rfl rfl rfl rfl) (zo (zA rfl (fun h4=>?_) (fun h4=>?_))))
       ·exfalso; have:=hst.1; simp [Ct.inB] at this; simp [inB] at h4; omega
       ·refine zH (zJ (zk (zx (jy rfl rfl (zW rfl rfl rfl ⟨by omega, by omega⟩) (jy rfl rfl (zh rfl rfl) (zM ?_))))))
        exact ⟨⟨a + 1, by omega⟩, by dsimp only; omega, zy _ ⟨rfl, rfl, rfl, rfl, trivial⟩ (rfl)⟩
      ·refine zAj (zS (zS (zAi (zk (zn (jy rfl rfl (zg rfl rfl) (zo (zN ?_))))))))
       exact ⟨.inr rfl, AVle.refl _⟩
end Hs
end Go.Av
end
