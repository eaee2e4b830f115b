import Derived.Test.YtgmbdadkbominaaGreatDoorRfA
set_option linter.unusedVariables false
set_option linter.unusedSimpArgs false
section
namespace Go.Av
namespace Hs
open Go.Proofs
set_option maxRecDepth 100000
set_option maxHeartbeats 1000000
variable {G:Glob}
theorem zFQ:vM Tryz.prog 133 [(0, 1), (1, 1), (2, 1)] [.int .i64 0, .slice none 0 0, .slice none 0 0]:=⟨_, Tryz.underlying133, by kernel_rfl, by kernel_rfl⟩
theorem zBG:fldIs Tryz.prog 37 10 24 = true:=by kernel_rfl
theorem zAf:tyIs Tryz.prog 37 true 25 = true:=by kernel_rfl
theorem zEQ:tyIs Tryz.prog 125 true 10 = true:=by kernel_rfl
theorem zFH:(Tryz.prog.info? 125).bind (·.zero) = some (.agg #[.int .i64 0, .int .i64 0, .int .i64 0, .int .i64 0, .int .i64 0, .int .i64 0, .int .i64 0, .int .i64 0, .slice none 0 0, .int .i64 0]):=by kernel_rfl
theorem zEx:fldIs Tryz.prog 125 1 9 = true:=by kernel_rfl
theorem zjk:tyIs Tryz.prog 26 true 3 = true:=by kernel_rfl
theorem zEW:fldIs Tryz.prog 37 2 4 = true:=by kernel_rfl
theorem zGt:tyIs Tryz.prog 28 true 3 = true:=by kernel_rfl
theorem zEY:fldIs Tryz.prog 37 7 19 = true:=by kernel_rfl
theorem zE5:fldIs Tryz.prog 37 9 21 = true:=by kernel_rfl
theorem zFC:tyIs Tryz.prog 35 true 3 = true:=by kernel_rfl
theorem zF9 {a b:Bool} (h:(!(a || !b)) = true):b = true:=by cases a <;> cases b <;> simp_all
theorem zFe {s:Sut} {k:Nat} (h:k < s.st.length):(s.st.map eBSt)[k]? = some (eBSt s.st[k]):=zBh h
theorem f7 (s:Sut) (hsm:smB s = true):ACall Tryz.prog G 7 [.agg (eSut s)] (.v (.bool (suB s))):=by
 have hm:(s.st.map eBSt).length = s.st.length:=by simp
 obtain ⟨⟨hn1, hn2, hn3, hn4, hn5, hn6, hn7⟩, hck⟩:=zBL hsm
 refine zO Tryz.func7 rfl (by kernel_rfl) rfl ?_
 refine zn (jy rfl rfl (ql rfl (zQ rfl)) (jy rfl rfl (zg rfl rfl) (zo (zt (zn (jy rfl rfl (zi rfl rfl zAp) (jy rfl rfl (zl rfl rfl rfl kS) (jy rfl rfl (qA rfl rfl rfl Tryz.underlying22) ?_))))))))
 refine jy rfl rfl (zB (av:=[_, _, _]) rfl ⟨rfl, rfl, rfl, trivial⟩ (f39 _ _ _)) (jy rfl rfl (qJ rfl rfl) (jy rfl rfl (zh rfl rfl) (zjW rfl rfl rfl (fun hg=>zi rfl rfl zBG) (zjW rfl rfl rfl (fun hg=>zl rfl (if_pos hg) rfl ty3) (zjW rfl rfl rfl (fun hg=>zB (av:=[_, _, _]) rfl ⟨((if_pos hg)), rfl, rfl, trivial⟩ (f39 _ _ _)) (zjW rfl rfl rfl (fun hg=>qJ rfl (if_pos hg)) (jy rfl rfl (jf rfl rfl rfl rfl) (jy rfl rfl (zh rfl rfl) (zjW rfl rfl rfl (fun hg=>zK rfl rfl zAf (by exact zLb rfl)) (zjW rfl rfl rfl (fun hg=>zB (av:=[_, _]) rfl ⟨((if_pos hg)), rfl, trivial⟩ (f40 s)) (zjW rfl rfl rfl (fun hg=>zB (av:=[_]) rfl ⟨((if_pos hg)), trivial⟩ (Ct.f40 (mpS s))) ?_)))))))))))
 refine zjW rfl rfl rfl (fun hg=>qJ rfl (if_pos hg)) (jy rfl rfl (jf rfl rfl rfl rfl) (zo (zA rfl (fun h0=>?_) (fun h0=>?_))))
 ·have hno:(inB (s.st.length:Int) 1 3 && inB s.days 1 4 && Ct.mapB (mpS s)) = false:=by
   cases hv1:inB (s.st.length:Int) 1 3 <;> cases hv2:inB s.days 1 4 <;> cases hv3:Ct.mapB (mpS s) <;> simp_all
  refine zn (jy rfl rfl (zg rfl rfl) (zo (zN (zP ?_))))
  exact ⟨.inr rfl, AVle.of (by rw [suB, hno]; rfl)⟩
 ·have hyes:(inB (s.st.length:Int) 1 3 && inB s.days 1 4 && Ct.mapB (mpS s)) = true:=by
   cases hv1:inB (s.st.length:Int) 1 3 <;> cases hv2:inB s.days 1 4 <;> cases hv3:Ct.mapB (mpS s) <;> simp_all
  have hmap:=(Ct.okM_iff (mpS s)).1 (zEu hyes)
  obtain ⟨m1, m2, m3, m4, _⟩:=hmap
  have hw1:1 <= (mpS s).wide /\ (mpS s).wide <= 6:=⟨m1, m2⟩
  have hw2:1 <= (mpS s).rows /\ (mpS s).rows <= 5:=⟨m3, m4⟩
  refine zH (zk (zt (zn (jy rfl rfl (zg rfl rfl) (zo (zF ?_))))))
  refine qm (ι:={ a:Nat // (s.st.take a).all (zCs s) = true }) (fun a=>⟨Tryz.f7.ntmps, frL [(1, .pub (.ptr (eSut s))), (3, I (a.1:Int))], []⟩) (fun a=>s.st.length - a.1) (⟨0, by simp⟩) ?_ ?_
  ·exact zy _ ⟨rfl, rfl, trivial⟩ (rfl)
  ·rintro ⟨a, ha⟩
   dsimp only
   refine zt (zn (jy rfl rfl (zh rfl rfl) (jy rfl rfl (zi rfl rfl zAp) (jy rfl rfl (zl rfl rfl rfl kS) (jy rfl rfl (qA rfl rfl rfl Tryz.underlying22) (jy rfl rfl (qx rfl rfl rfl) (zo (zA rfl (fun h1=>?_) (fun h1=>?_)))))))))
   ·have hlt:a < s.st.length:=by simpa using h1
    refine zH (zk (zt (zF (zn (jy rfl rfl (zi rfl rfl zAp) (jy rfl rfl (zl rfl rfl rfl kS) (jy rfl rfl (zh rfl rfl) ?_)))))))
    refine jy rfl rfl (zD rfl rfl rfl zaC (by omega) (by exact zFe (k:=a) hlt) (zz7 fun _=>rfl)) ?_
    refine jy rfl rfl (zK rfl rfl zEQ (by exact zLb rfl)) ?_
    refine qP  rfl rfl rfl rfl rfl rfl rfl zFH zEQ rfl (by rfl) (zQ rfl) rfl ?_
    refine zo (zt ?_)
    refine qp mixed (by kernel_rfl) rfl ?_
    refine zu rfl (zK rfl rfl zAf (by exact zLb rfl)) (zu rfl (zB (av:=[_, _]) rfl ⟨rfl, rfl, trivial⟩ (f40 s)) (zu rfl (zi rfl rfl zEx) (zu rfl (zl rfl rfl rfl ty3) (zu rfl (zB (av:=[_, _]) rfl ⟨rfl, rfl, trivial⟩ (Ct.f41 (mpS s) _ hw1 hw2)) (zu rfl (qJ rfl rfl) (zu rfl (zh rfl rfl) (zq rfl (fun hg=>zi rfl rfl zBV) (zq rfl (fun hg=>zK rfl (if_pos hg) zDX (by exact zLb rfl)) ?_))))))))
    refine zq rfl (fun hg=>zB (av:=[_]) rfl ⟨((if_pos hg)), trivial⟩ (f41 (s.st[a]).g (by have:=hck _ (List.getElem_mem hlt); omega))) ?_
    refine zq rfl (fun hg=>qJ rfl (if_pos hg)) (zu rfl (jf rfl rfl rfl rfl) (zu rfl (zh rfl rfl) (zq rfl (fun hg=>zi rfl rfl zBV) (zq rfl (fun hg=>zK rfl (if_pos hg) zDX (by exact zLb rfl)) (zq rfl (fun hg=>zB (av:=[_]) rfl ⟨((if_pos hg)), trivial⟩ (f42 (g:=(s.st[a]).g) (zF9 hg))) (zq rfl (fun hg=>qJ rfl (if_pos hg)) (zu rfl (jf rfl rfl rfl rfl) (qF (zk (zA rfl (fun h2=>?_) (fun h2=>?_)))))))))))
    ·have hbad:zCs s s.st[a] = false:=by
      simp only[zCs]
      have h2b:=h2
      simp only[mpS] at h2b
      cases hv1:Ct.inB (s.st[a]).pt 0 (s.wide * s.rows - 1) <;> cases hv2:zC1 (s.st[a]).g <;> cases hv3:clB (s.st[a]).g <;> simp_all
     refine zn (jy rfl rfl (zg rfl rfl) (zo (zN (zZ (zP (zP (zZ (zP ?_))))))))
     exact ⟨.inr rfl, AVle.of (by rw [suB, hyes, zDH hlt hbad]; rfl)⟩
    ·have hok:zCs s s.st[a] = true:=by
      simp only[zCs]
      have h2b:=h2
      simp only[mpS] at h2b
      cases hv1:Ct.inB (s.st[a]).pt 0 (s.wide * s.rows - 1) <;> cases hv2:zC1 (s.st[a]).g <;> cases hv3:clB (s.st[a]).g <;> simp_all
     refine zH (zJ (zk (zx (jy rfl rfl (zh rfl rfl) (jy rfl rfl (zW rfl rfl rfl ⟨by omega, by omega⟩) (jy rfl rfl (zg rfl rfl) (zM ?_)))))))
     exact ⟨⟨a + 1, zDz hlt ha hok⟩, by dsimp only; omega, zy _ ⟨rfl, rfl, trivial⟩ (rfl)⟩
   ·have hall:=zDG (p:=zCs s) (by simpa using h1) ha
    refine zAj (zS (zS (zAi (zk (zn (jy rfl rfl (zi rfl rfl zAq) (jy rfl rfl (zK rfl rfl zjk (by exact zLb rfl)) (jy rfl rfl (zB (av:=[_]) rfl ⟨rfl, trivial⟩ (Wr.f31 s.code (by omega))) (jy rfl rfl (zh rfl rfl) (zjW rfl rfl rfl (fun hg=>zi rfl rfl zEW) ?_))))))))))
    refine zjW rfl rfl rfl (fun hg=>zK rfl (if_pos hg) zGt (by exact zLb rfl)) (zjW rfl rfl rfl (fun hg=>zB (av:=[_]) rfl ⟨((if_pos hg)), trivial⟩ (f43 _ _ _)) (jy rfl rfl (jg rfl rfl rfl rfl) (jy rfl rfl (zh rfl rfl) (zjW rfl rfl rfl (fun hg=>zi rfl rfl zDs) (zjW rfl rfl rfl (fun hg=>zK rfl (if_pos hg) zz8 (by exact zLb rfl)) (zjW rfl rfl rfl (fun hg=>zB (av:=[_]) rfl ⟨((if_pos hg)), trivial⟩ (f44 s.w (by omega))) (jy rfl rfl (jg rfl rfl rfl rfl) (jy rfl rfl (zh rfl rfl) (zjW rfl rfl rfl (fun hg=>zi rfl rfl zEY) (zjW rfl rfl rfl (fun hg=>zl rfl (if_pos hg) rfl ty3) (zjW rfl rfl rfl (fun hg=>zi rfl rfl zBp) ?_)))))))))))
    refine zjW rfl rfl rfl (fun hg=>zl rfl (if_pos hg) rfl kN) ?_
    refine zjW rfl rfl rfl (fun hg=>yl (cs:=[_, _, _]) rfl zFQ rfl ⟨_, _, rfl, qU (if_pos hg), ⟨_, _, rfl, zjo (if_pos hg), rfl⟩⟩ (by rfl) (by simp [ofV])) ?_
    refine zjW rfl rfl rfl (fun hg=>zB (av:=[_]) rfl ⟨((if_pos hg)), trivial⟩ (f45 _ _ (by omega))) (jy rfl rfl (jg rfl rfl rfl rfl) (jy rfl rfl (zh rfl rfl) (zjW rfl rfl rfl (fun hg=>zi rfl rfl zE5) (zjW rfl rfl rfl (fun hg=>zK rfl (if_pos hg) zFC (by exact zLb rfl)) (zjW rfl rfl rfl (fun hg=>zB (av:=[_]) rfl ⟨((if_pos hg)), trivial⟩ (f46 _ _ _)) (jy rfl rfl (jg rfl rfl rfl rfl) (jy rfl rfl (zg rfl rfl) (zo (zN ?_)))))))))
    exact ⟨.inr rfl, AVle.of (by rw [suB, hyes, hall]; simp [Bool.and_assoc])⟩
end Hs
end Go.Av
end
