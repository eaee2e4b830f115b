import Derived.Test.YtgmbdadkbominaaGreatDoorHsB
set_option linter.unusedVariables false
set_option linter.unusedSimpArgs false
section
namespace Go.Av
namespace Hs
open Go.Proofs
set_option maxRecDepth 100000
set_option maxHeartbeats 1000000
variable {G:Glob}
theorem zEP:(Tryz.prog.info? 186).bind (·.zero) = some (.agg #[.slice none 0 0, .slice none 0 0]):=by kernel_rfl
theorem zGs:ze3 Tryz.prog 296 1 [.nilFunc, .nilFunc]:=⟨_, _, Tryz.t205, Tryz.underlying296, by kernel_rfl, by kernel_rfl, by kernel_rfl⟩
theorem zFn:zeE Tryz.prog 296 2 1 = true:=by kernel_rfl
theorem zFJ:tyIs Tryz.prog 205 false 1 = true:=by kernel_rfl
theorem zDK:zeE Tryz.prog 186 2 1 = true:=by kernel_rfl
theorem ti3:Tryz.prog.info? 3 = some Tryz.t3:=by kernel_rfl
theorem zt2:elemIs Tryz.prog 24 3 1 8:=⟨Tryz.underlying24, Tryz.t3, _, by kernel_rfl, rfl, rfl, rfl, rfl, by decide⟩
theorem zEt:tyIs Tryz.prog 186 true 2 = true:=by kernel_rfl
def zz1 (w:Wt):List Int:=w.reps.map (·.dl)
def zzY (w:Wt):List Int:=w.reps.map (·.dh)
abbrev zDI (l:List Int):List (List EV):=l.map fun n=>[I n]
theorem zEO {l:List Int} {j:Nat} {x:Int} (h:l[j]? = some x):zDI (l.take j) ++ [[I x]] = zDI (l.take (j + 1)):=by
 have hl:j < l.length:=(zLg h).1
 have he:l[j] = x:=(zLg h).2
 rw [List.take_succ_eq_append_getElem hl, he]; simp [zDI]
theorem zCV {w:Wt} {j:Nat} (h:j < w.reps.length):(zz1 w)[j]? = some (rpW w j).dl:=by rw [← zAI h]; simp [zz1, h]
theorem zB8 {w:Wt} {j:Nat} (h:j < w.reps.length):(zzY w)[j]? = some (rpW w j).dh:=by rw [← zAI h]; simp [zzY, h]
theorem zFl {w:Wt}:(zz1 w).length = w.reps.length:=by simp [zz1]
theorem zEL {w:Wt}:(zzY w).length = w.reps.length:=by simp [zzY]
theorem zFr {w:Wt}:(zz1 w).take w.reps.length = zz1 w:=by rw [← zFl, List.take_length]
theorem zFa {w:Wt}:(zzY w).take w.reps.length = zzY w:=by rw [← zEL, List.take_length]
theorem zFv:∀ {l:List Int}, ∀ r ∈ zDI l, r.length = 1:=fun r hr=>by
 obtain ⟨x, _, rfl⟩:=List.mem_map.1 hr; rfl
theorem zEv {l:List Int}:zDI l = (l.map fun n=>[ei n]).map (·.map .pub):=by simp [zDI, I]
theorem zER {w:Wt} (hP:WtP w):DlP w (zz1 w):=⟨zFl, fun d hd=>by
 obtain ⟨r, hr, rfl⟩:=List.mem_map.1 hd
 have:=zz4 (hP.reps r hr); omega⟩
theorem zEG {w:Wt} (hP:WtP w):DlP w (zzY w):=⟨zEL, fun d hd=>by
 obtain ⟨r, hr, rfl⟩:=List.mem_map.1 hd
 have:=zz4 (hP.reps r hr); omega⟩
theorem mc1 {m:Nat} {a b:EV} {A B:List (List EV)} {X:List PO} (h:A = B) (hn:a = b):[PO.row [[ztY, ztY]], .row [[a, ztY]], .row A] = [PO.row [[ztY, ztY]], .row [[b, ztY]], .row B]:=by subst h; subst hn; rfl
theorem mc2 {a b c:EV} {A B C:List (List EV)} (h:A = B) (hn:a = b):[PO.row [[ztY, ztY]], .row [[c, a]], .row C, .row A] = [PO.row [[ztY, ztY]], .row [[c, b]], .row C, .row B]:=by subst h; subst hn; rfl
theorem f224 {w:Wt} (hP:WtP w) (i:Nat) (hi:i < w.reps.length):ACall Tryz.prog G 224 [.agg (eLk w), ei (i:Int)] (ei (rpW w i).dl):=by
 refine zO Tryz.func224 rfl (by kernel_rfl) rfl ?_
 refine zn (jy rfl rfl (ql rfl (zQ rfl)) (jy rfl rfl (zg rfl rfl) (zo (zn (jy rfl rfl (zi rfl rfl zDu) (jy rfl rfl (zi rfl rfl zzR) (jy rfl rfl (zl rfl rfl rfl zq0) (jy rfl rfl (zh rfl rfl) ?_))))))))
 refine jy rfl rfl (zD rfl rfl rfl zA1 (by omega) (by exact zD0 (k:=i) hi) zDU) ?_
 refine jy rfl rfl (zi rfl rfl zB7) (jy rfl rfl (zi rfl rfl zqK) (jy rfl rfl (zl rfl rfl rfl ty3) (jy rfl rfl (zg rfl rfl) (zo (zN ?_)))))
 exact ⟨.inr rfl, AVle.refl _⟩
theorem f225 {w:Wt} (hP:WtP w) (i:Nat) (hi:i < w.reps.length):ACall Tryz.prog G 225 [.agg (eLk w), ei (i:Int)] (ei (rpW w i).dh):=by
 refine zO Tryz.func225 rfl (by kernel_rfl) rfl ?_
 refine zn (jy rfl rfl (ql rfl (zQ rfl)) (jy rfl rfl (zg rfl rfl) (zo (zn (jy rfl rfl (zi rfl rfl zDu) (jy rfl rfl (zi rfl rfl zzR) (jy rfl rfl (zl rfl rfl rfl zq0) (jy rfl rfl (zh rfl rfl) ?_))))))))
 refine jy rfl rfl (zD rfl rfl rfl zA1 (by omega) (by exact zD0 (k:=i) hi) zDU) ?_
 refine jy rfl rfl (zi rfl rfl zB7) (jy rfl rfl (zi rfl rfl zqc) (jy rfl rfl (zl rfl rfl rfl ty3) (jy rfl rfl (zg rfl rfl) (zo (zN ?_)))))
 exact ⟨.inr rfl, AVle.refl _⟩
theorem f163 {w:Wt} (hP:WtP w):ACall Tryz.prog G 163 [.agg (eLk w)] (.agg [eI (zz1 w), eI (zzY w)]):=by
 have hlr:=hP.lr
 have hlm:(w.reps.map eRep).length = w.reps.length:=by simp
 have hl2:=zFl (w:=w)
 have hl3:=zEL (w:=w)
 refine zO Tryz.func163 rfl (by kernel_rfl) rfl ?_
 refine zn (jy rfl rfl (ql rfl (zQ rfl)) (qL rfl (jr rfl rfl zEP rfl rfl) (zo (zn (qL rfl (jr rfl rfl zEP rfl rfl) (zo (zt ?_)))))))
 refine zn (jy rfl rfl (zK rfl rfl zDy (by exact zLb rfl)) (jy rfl rfl (wC (fs:=[_]) (cs:=[]) rfl rfl rfl) (jy rfl rfl (zK rfl rfl zDy (by exact zLb rfl)) (jy rfl rfl (wC (fs:=[_]) (cs:=[]) rfl rfl rfl) ?_))))
 refine jy rfl rfl (zkf (cs:=[_, _]) rfl zGs rfl ⟨_, _, rfl, (zg4 rfl), ⟨_, _, rfl, (zg4 rfl), rfl⟩⟩ (by rfl) (by simp [ofV])) ?_
 refine jy rfl rfl (zh rfl rfl) (zo (zF ?_))
 refine qm (ι:={ k:Nat // k < 3 }) (fun k=>match k.1 with | 0=>⟨Tryz.f163.ntmps, frL [(1, .pub (.ptr (eLk w))), (2, .pp 0 1 0 0), (3, .pp 1 1 0 0), (12, .pub (.agg [.fn 224 [.agg (eLk w)] [], .fn 225 [.agg (eLk w)] []])), (13, I 0)], [.row [[ztY, ztY]], .row [[ztY, ztY]]]⟩ | 1=>⟨Tryz.f163.ntmps, frL [(1, .pub (.ptr (eLk w))), (2, .pp 0 1 0 0), (3, .pp 1 1 0 0), (12, .pub (.agg [.fn 224 [.agg (eLk w)] [], .fn 225 [.agg (eLk w)] []])), (13, I 1)], [.row [[ztY, ztY]], .row [[.psl 2 w.reps.length, ztY]], .row (zDI (zz1 w))]⟩ | _=>⟨Tryz.f163.ntmps, frL [(1, .pub (.ptr (eLk w))), (2, .pp 0 1 0 0), (3, .pp 1 1 0 0), (12, .pub (.agg [.fn 224 [.agg (eLk w)] [], .fn 225 [.agg (eLk w)] []])), (13, I 2)], [.row [[ztY, ztY]], .row [[.psl 2 w.reps.length, .psl 3 w.reps.length]], .row (zDI (zz1 w)), .row (zDI (zzY w))]⟩) (fun k=>3 - k.1) (⟨0, by omega⟩) ?_ ?_
 ·exact zy _ ⟨rfl, rfl, rfl, rfl, rfl, trivial⟩ (rfl)
 ·rintro ⟨k, hk⟩
  have hk3:k = 0 ∨ k = 1 ∨ k = 2:=by omega
  rcases hk3 with rfl | rfl | rfl
  ·dsimp only
   refine zn (jy rfl rfl (qx rfl rfl rfl) (zo (zt (zA rfl (fun h0=>?_) (fun h0=>?_)))))
   ·refine zH (zk (zt (zF (zn (jy rfl rfl (zh rfl rfl) ?_)))))
    refine jy rfl rfl (zes rfl rfl rfl zFn (fun e he=>by rw [Tryz.underlying296] at he; cases he; exact zFJ) (by omega) (by omega) rfl) ?_
    refine jy rfl rfl (zg rfl rfl) (jy rfl rfl (qG rfl rfl) (zo (zn (jy rfl rfl (zi rfl rfl zDu) (jy rfl rfl (zi rfl rfl zzR) (jy rfl rfl (zl rfl rfl rfl zq0) (jy rfl rfl (qA rfl rfl rfl Tryz.underlying29) (jy rfl rfl (zh rfl rfl) (zM ?_)))))))))
    refine zk (zF ?_)
    refine qY (zgZ (k:=1) (i:=0) (j:=0) rfl rfl rfl) ?_
    refine qm (ι:={ j:Nat // j <= w.reps.length }) (fun j=>⟨Tryz.f163.ntmps, frL [(1, .pub (.ptr (eLk w))), (2, .pp 0 1 0 0), (3, .pp 1 1 0 0), (12, .pub (.agg [.fn 224 [.agg (eLk w)] [], .fn 225 [.agg (eLk w)] []])), (13, I 0), (4, I 0), (5, .pub (.fn 224 [.agg (eLk w)] [])), (20, I (((w.reps.map eRep).length:Nat):Int)), (21, I (j.1:Int))], [.row [[ztY, ztY]], .row [[.psl 2 j.1, ztY]], .row (zDI ((zz1 w).take j.1))]⟩) (fun j=>w.reps.length - j.1) (⟨0, by omega⟩) ?_ ?_
    ·exact zy _ ⟨rfl, rfl, rfl, rfl, rfl, rfl, rfl, rfl, rfl, trivial⟩ (rfl)
    ·rintro ⟨j, hj⟩
     dsimp only
     refine zn (jy rfl rfl (qx rfl rfl rfl) (zo (zt (zA rfl (fun h1=>?_) (fun h1=>?_)))))
     ·have hjl:j < w.reps.length:=by simpa using h1
      refine zH (zk (zt (zF (zn (jy rfl rfl (zh rfl rfl) (jy rfl rfl (zg rfl rfl) (zo (zn ?_))))))))
      refine jy rfl rfl (zI rfl rfl) (jy rfl rfl (zh rfl rfl) (jy rfl rfl (vH (av:=[_]) rfl rfl ⟨rfl, trivial⟩ (f224 hP j hjl)) (jy rfl rfl (zg rfl rfl) (zo (zx (jy rfl rfl (zh rfl rfl) (jy rfl rfl (zh rfl rfl) (jy rfl rfl (zV rfl rfl rfl rfl rfl zDK (by omega) (by omega)) (jy rfl rfl (zX rfl rfl rfl rfl rfl rfl kN) (jy rfl rfl (zh rfl rfl) ?_))))))))))
      refine jy rfl rfl (qy (size:=1) (rows:=[[_]]) rfl Tryz.underlying24 ti3 rfl (by decide) rfl (by decide) ⟨_, _, rfl, (qU rfl), rfl⟩ (by rfl) (by simp [ofV]) rfl (by simp)) ?_
      refine qL rfl (yJ rfl rfl rfl rfl (by simp only[List.length_map, List.length_take]; omega) rfl zt2 zFv (by simp) (by simp <;> omega) (by unfold maxLen; simp <;> omega)) ?_
      refine jy rfl rfl (zV rfl rfl rfl rfl rfl zDK (by omega) (by omega)) ?_
      refine qL rfl (qw rfl rfl rfl rfl rfl rfl (zc7 rfl rfl (by first | (simp; done) | (simp; omega))) kN (by rfl) (by exact zLb rfl)) ?_
      refine zM (zJ (zk (zx (jy rfl rfl (zW rfl rfl rfl ⟨by omega, by omega⟩) (jy rfl rfl (zh rfl rfl) (zM ?_))))))
      exact ⟨⟨j + 1, by omega⟩, by dsimp only; omega, zy _ ⟨rfl, rfl, rfl, rfl, rfl, rfl, rfl, rfl, rfl, trivial⟩ ((mc1 (m:=0) (X:=[]) (zEO (zCV hjl)) (by first | (simp; done) | (simp; omega))))⟩
     ·have hje:j = w.reps.length:=by simp at h1; omega
      subst hje
      refine zAj (zS (zS (zAi (zJ (zk (zx (jy rfl rfl (zW rfl rfl rfl ⟨by omega, by omega⟩) (jy rfl rfl (zh rfl rfl) (zM ?_)))))))))
      exact ⟨⟨1, by omega⟩, by dsimp only; omega, (by refine zy (mem':=[.row [[ztY, ztY]], .row [[.psl 2 w.reps.length, ztY]], .row (zDI (zz1 w))]) [(1, .pub (.ptr (eLk w))), (2, .pp 0 1 0 0), (3, .pp 1 1 0 0), (12, .pub (.agg [.fn 224 [.agg (eLk w)] [], .fn 225 [.agg (eLk w)] []])), (13, I 1)] ?_ ?_; exact ⟨rfl, rfl, rfl, rfl, rfl, trivial⟩; exact ((congrArg (fun z=>[PO.row [[ztY, ztY]], .row [[.psl 2 w.reps.length, ztY]], .row (zDI z)]) zFr)))⟩
   ·exfalso; simp at h0
  ·dsimp only
   refine zn (jy rfl rfl (qx rfl rfl rfl) (zo (zt (zA rfl (fun h0=>?_) (fun h0=>?_)))))
   ·refine zH (zk (zt (zF (zn (jy rfl rfl (zh rfl rfl) ?_)))))
    refine jy rfl rfl (zes rfl rfl rfl zFn (fun e he=>by rw [Tryz.underlying296] at he; cases he; exact zFJ) (by omega) (by omega) rfl) ?_
    refine jy rfl rfl (zg rfl rfl) (jy rfl rfl (qG rfl rfl) (zo (zn (jy rfl rfl (zi rfl rfl zDu) (jy rfl rfl (zi rfl rfl zzR) (jy rfl rfl (zl rfl rfl rfl zq0) (jy rfl rfl (qA rfl rfl rfl Tryz.underlying29) (jy rfl rfl (zh rfl rfl) (zM ?_)))))))))
    refine zk (zF ?_)
    refine qY (zgZ (k:=1) (i:=0) (j:=1) rfl rfl rfl) ?_
    refine qm (ι:={ j:Nat // j <= w.reps.length }) (fun j=>⟨Tryz.f163.ntmps, frL [(1, .pub (.ptr (eLk w))), (2, .pp 0 1 0 0), (3, .pp 1 1 0 0), (12, .pub (.agg [.fn 224 [.agg (eLk w)] [], .fn 225 [.agg (eLk w)] []])), (13, I 1), (4, I 1), (5, .pub (.fn 225 [.agg (eLk w)] [])), (20, I (((w.reps.map eRep).length:Nat):Int)), (21, I (j.1:Int))], [.row [[ztY, ztY]], .row [[.psl 2 w.reps.length, .psl 3 j.1]], .row (zDI (zz1 w)), .row (zDI ((zzY w).take j.1))]⟩) (fun j=>w.reps.length - j.1) (⟨0, by omega⟩) ?_ ?_
    ·exact zy _ ⟨rfl, rfl, rfl, rfl, rfl, rfl, rfl, rfl, rfl, trivial⟩ (rfl)
    ·rintro ⟨j, hj⟩
     dsimp only
     refine zn (jy rfl rfl (qx rfl rfl rfl) (zo (zt (zA rfl (fun h1=>?_) (fun h1=>?_)))))
     ·have hjl:j < w.reps.length:=by simpa using h1
      refine zH (zk (zt (zF (zn (jy rfl rfl (zh rfl rfl) (jy rfl rfl (zg rfl rfl) (zo (zn ?_))))))))
      refine jy rfl rfl (zI rfl rfl) (jy rfl rfl (zh rfl rfl) (jy rfl rfl (vH (av:=[_]) rfl rfl ⟨rfl, trivial⟩ (f225 hP j hjl)) (jy rfl rfl (zg rfl rfl) (zo (zx (jy rfl rfl (zh rfl rfl) (jy rfl rfl (zh rfl rfl) (jy rfl rfl (zV rfl rfl rfl rfl rfl zDK (by omega) (by omega)) (jy rfl rfl (zX rfl rfl rfl rfl rfl rfl kN) (jy rfl rfl (zh rfl rfl) ?_))))))))))
      refine jy rfl rfl (qy (size:=1) (rows:=[[_]]) rfl Tryz.underlying24 ti3 rfl (by decide) rfl (by decide) ⟨_, _, rfl, (qU rfl), rfl⟩ (by rfl) (by simp [ofV]) rfl (by simp)) ?_
      refine qL rfl (yJ rfl rfl rfl rfl (by simp only[List.length_map, List.length_take]; omega) rfl zt2 zFv (by simp) (by simp <;> omega) (by unfold maxLen; simp <;> omega)) ?_
      refine jy rfl rfl (zV rfl rfl rfl rfl rfl zDK (by omega) (by omega)) ?_
      refine qL rfl (qw rfl rfl rfl rfl rfl rfl (zc7 rfl rfl (by first | (simp; done) | (simp; omega))) kN (by rfl) (by exact zLb rfl)) ?_
      refine zM (zJ (zk (zx (jy rfl rfl (zW rfl rfl rfl ⟨by omega, by omega⟩) (jy rfl rfl (zh rfl rfl) (zM ?_))))))
      exact ⟨⟨j + 1, by omega⟩, by dsimp only; omega, zy _ ⟨rfl, rfl, rfl, rfl, rfl, rfl, rfl, rfl, rfl, trivial⟩ ((mc2 (zEO (zB8 hjl)) (by first | (simp; done) | (simp; omega))))⟩
     ·have hje:j = w.reps.length:=by simp at h1; omega
      subst hje
      refine zAj (zS (zS (zAi (zJ (zk (zx (jy rfl rfl (zW rfl rfl rfl ⟨by omega, by omega⟩) (jy rfl rfl (zh rfl rfl) (zM ?_)))))))))
      exact ⟨⟨2, by omega⟩, by dsimp only; omega, (by refine zy (mem':=[.row [[ztY, ztY]], .row [[.psl 2 w.reps.length, .psl 3 w.reps.length]], .row (zDI (zz1 w)), .row (zDI (zzY w))]) [(1, .pub (.ptr (eLk w))), (2, .pp 0 1 0 0), (3, .pp 1 1 0 0), (12, .pub (.agg [.fn 224 [.agg (eLk w)] [], .fn 225 [.agg (eLk w)] []])), (13, I 2)] ?_ ?_; exact ⟨rfl, rfl, rfl, rfl, rfl, trivial⟩; exact ((congrArg (fun z=>[PO.row [[ztY, ztY]], .row [[.psl 2 w.reps.length, .psl 3 w.reps.length]], .row (zDI (zz1 w)), .row (zDI z)]) zFa)))⟩
   ·exfalso; simp at h0
  ·dsimp only
   refine zn (jy rfl rfl (qx rfl rfl rfl) (zo (zt (zA rfl (fun h0=>?_) (fun h0=>?_)))))
   ·exfalso; simp at h0
   ·refine zAj (zS (zS (zAi (zk (zt ?_)))))
    refine qY (zmE (k:=2) (c:=1) (i:=0) (j:=0) (rows:=(zz1 w).map fun n=>[ei n]) (by rw [← zEv]; rfl) (by simp [zz1]) rfl rfl rfl rfl) ?_
    refine qY (zmE (k:=3) (c:=1) (i:=0) (j:=1) (rows:=(zzY w).map fun n=>[ei n]) (by rw [← zEv]; rfl) (by simp [zzY]) rfl rfl rfl rfl) ?_
    refine zx (jy rfl rfl (qV (cs:=[_, _]) rfl rfl rfl rfl rfl (by exact zLb rfl) rfl zEt) ?_)
    refine qL rfl (qw rfl rfl rfl rfl rfl rfl (zQ rfl) zEt (by rfl) (by exact zLb rfl)) ?_
    refine zo (zN ?_)
    exact ⟨.inr rfl, zcp rfl (jd rfl rfl rfl rfl zEt rfl ⟨_, _, rfl, AVle.refl _, ⟨_, _, rfl, AVle.refl _, rfl⟩⟩)⟩
end Hs
end Go.Av
end
section
namespace Go.Av
namespace Hs
open Go.Proofs
set_option maxRecDepth 100000
set_option maxHeartbeats 1000000
variable {G:Glob}
theorem zwq:(Tryz.prog.info? 46).bind (·.zero) = some (.agg #[.int .i64 0, .int .i64 0]):=by kernel_rfl
def zCT (lo hi:Int) (p:Int -> Bool):Bool:=(List.range (hi - lo + 1).toNat).any fun i=>p (lo + (i:Int))
theorem zoV {lo hi:Int} {p:Int -> Bool} {k:Nat} (hk:(k:Int) < hi - lo + 1) (h:p (lo + (k:Int)) = true):zCT lo hi p = true:=List.any_eq_true.2 ⟨k, List.mem_range.2 (by omega), h⟩
theorem zqv {lo hi:Int} {p:Int -> Bool} {k:Nat} (hk:hi - lo + 1 <= (k:Int)) (h:∀ j, j < k -> p (lo + (j:Int)) = false):zCT lo hi p = false:=by
 unfold zCT
 rw [List.any_eq_false]
 intro i hi'
 rw [List.mem_range] at hi'
 rw [h i (by omega)]; simp
def pt0:Prt:=⟨0, 0, 0, 0⟩
def ptW (w:Wt) (i:Int):Prt:=w.prts.getD i.toNat pt0
theorem zCo {w:Wt} {i:Int} (h:0 <= i /\ i < w.prts.length):(w.prts.map ePrt)[i.toNat]? = some (ePrt (ptW w i)):=by
 have h2:i.toNat < w.prts.length:=by omega
 rw [List.getElem?_map, List.getElem?_eq_getElem h2, ptW, List.getD_eq_getElem?_getD, List.getElem?_eq_getElem h2]; rfl
theorem zBB {w:Wt}:∀ q ∈ w.prts.map ePrt, q.length = 4:=zz7 fun _=>rfl
theorem zCt {w:Wt} (hP:WtP w) {i:Int} (h:0 <= i /\ i < w.prts.length):0 <= (ptW w i).ol /\ (ptW w i).ol <= (ptW w i).oh /\ (ptW w i).oh <= 2880:=by
 have h2:i.toNat < w.prts.length:=by omega
 have:=hP.pts _ (List.getElem_mem h2)
 have e:ptW w i = w.prts[i.toNat]:=by rw [ptW, List.getD_eq_getElem?_getD, List.getElem?_eq_getElem h2]; rfl
 rw [e]
 simp only[zAk, zLa, zB5, decide_eq_true_eq] at this
 omega
def upA (w:Wt) (i t:Int):Bool:=zCT (ptW w i).ol (ptW w i).oh fun n=>zAB w (zz1 w) (t - n)
def upB (w:Wt) (i t:Int):Bool:=zCT (ptW w i).ol (ptW w i).oh fun n=>!zAB w (zzY w) (t - n)
def upV (w:Wt) (i t:Int):Int:=if upA w i t then (if upB w i t then 2 else 3) else 1
def eqL {α:Type} (p:Int -> α -> Bool) (ds:List Int) (xs:List α):Bool:=decide (ds.length = xs.length) && (ds.zip xs).all fun q=>p q.1 q.2
def dlB (w:Wt) (ds:List Int):Bool:=eqL (fun d (r:Rep)=>inB d r.dl r.dh) ds w.reps
theorem zFY {α:Type} {p:Int -> α -> Bool} {ds:List Int} {xs:List α} {k:Nat} (h1:k < ds.length) (h2:k < xs.length) (h:p ds[k] xs[k] = false):eqL p ds xs = false:=by
 unfold eqL
 rw [Bool.and_eq_false_iff]; right
 rw [List.all_eq_false]
 exact ⟨(ds[k], xs[k]), List.mem_iff_getElem.2 ⟨k, by simp; omega, by simp⟩, by simp [h]⟩
theorem zCh {α:Type} {p:Int -> α -> Bool} {ds:List Int} {xs:List α} (hl:ds.length = xs.length) (h:∀ j (h1:j < ds.length) (h2:j < xs.length), p ds[j] xs[j] = true):eqL p ds xs = true:=by
 unfold eqL
 rw [zLa, decide_eq_true_eq, List.all_eq_true]
 refine ⟨hl, fun q hq=>?_⟩
 obtain ⟨j, hj, rfl⟩:=List.mem_iff_getElem.1 hq
 simp only[List.length_zip] at hj
 rw [List.getElem_zip]
 exact h j (by omega) (by omega)
theorem dlP {w:Wt} {ds:List Int} (hP:WtP w) (h:dlB w ds = true):DlP w ds:=by
 unfold dlB eqL at h
 rw [zLa, decide_eq_true_eq, List.all_eq_true] at h
 refine ⟨h.1, fun d hd=>?_⟩
 obtain ⟨j, hj, rfl⟩:=List.mem_iff_getElem.1 hd
 have h2:j < w.reps.length:=by rw [← h.1]; exact hj
 have:=h.2 (ds[j], w.reps[j]) (List.mem_iff_getElem.2 ⟨j, by simp; omega, by simp⟩)
 rw [zz6] at this
 have hb:=zz4 (hP.reps _ (List.getElem_mem h2))
 simp only at this
 omega
theorem zBm {ds:List Int} {i:Nat} (h:i < ds.length):(ds.map fun n=>[ei n])[i]? = some [ei ds[i]]:=by simp [h]
theorem f226 {p:Int -> Bool} (c:FuncId) (cs:List AV) (lo hi:Int) (hb:0 <= lo /\ lo <= hi /\ hi <= 3000) (hp:∀ x, lo <= x -> x <= hi -> ACall Tryz.prog G c ([ei x] ++ cs) (.v (.bool (p x)))):ACall Tryz.prog G 226 [ei lo, ei hi, .fn c [] cs] (.tup [.top, .v (.bool (zCT lo hi p))]):=by
 refine zO Tryz.func226 rfl (by kernel_rfl) rfl ?_
 refine zn (jy rfl rfl (zg rfl rfl) (jy rfl rfl (zg rfl rfl) (zo (zt (zn (jy rfl rfl (zh rfl rfl) (jy rfl rfl (zh rfl rfl) (jy rfl rfl (vN rfl rfl rfl ⟨by omega, by omega⟩) ?_))))))))
 refine jy rfl rfl (zW rfl rfl rfl ⟨by omega, by omega⟩) (jy rfl rfl (zh rfl rfl) (zo (zF ?_)))
 refine qm (ι:={ k:Nat // (k:Int) <= hi - lo + 1 /\ ∀ j, j < k -> p (lo + (j:Int)) = false }) (fun k=>⟨Tryz.f226.ntmps, frL [(0, .pub (ei lo)), (1, .pub (ei hi)), (2, .pub (.fn c [] cs)), (12, I (hi - lo + 1)), (13, I (k.1:Int))], []⟩) (fun k=>(hi - lo + 1).toNat - k.1) (⟨0, by omega, fun j h=>absurd h (by omega)⟩) ?_ ?_
 ·exact zy _ ⟨rfl, rfl, rfl, rfl, rfl, trivial⟩ (rfl)
 ·rintro ⟨k, hk⟩
  dsimp only
  refine zn (jy rfl rfl (qx rfl rfl rfl) (zo (zt (zA rfl (fun h0=>?_) (fun h0=>?_)))))
  ·have hlt:(k:Int) < hi - lo + 1:=by simpa using h0
   refine zH (zk (zt (zF (zn (jy rfl rfl (zh rfl rfl) (jy rfl rfl (zg rfl rfl) (zo (zn ?_))))))))
   refine jy rfl rfl (zI rfl rfl) (jy rfl rfl (zh rfl rfl) (jy rfl rfl (zh rfl rfl) (jy rfl rfl (zW rfl rfl rfl ⟨by omega, by omega⟩) (jy rfl rfl (vH (av:=[_]) rfl rfl ⟨rfl, trivial⟩ (hp (lo + (k:Int)) (by omega) (by omega))) (zo (zA rfl (fun h1=>?_) (fun h1=>?_)))))))
   ·refine zn (jy rfl rfl (zh rfl rfl) (jy rfl rfl (zh rfl rfl) (jy rfl rfl (zW rfl rfl rfl ⟨by omega, by omega⟩) (jy rfl rfl (zg rfl rfl) (jy rfl rfl (zg rfl rfl) (zo (zN (zZ (zP ?_)))))))))
    refine zP (zZ (zP ?_))
    exact ⟨.inr rfl, ⟨_, rfl, ⟨_, _, rfl, AVle.top _, ⟨_, _, rfl, AVle.of (by rw [zoV hlt h1]), rfl⟩⟩⟩⟩
   ·have hno:p (lo + (k:Int)) = false:=by simpa using h1
    refine zH (zJ (zk (zx (jy rfl rfl (zW rfl rfl rfl ⟨by omega, by omega⟩) (jy rfl rfl (zh rfl rfl) (zM ?_))))))
    exact ⟨⟨k + 1, by omega, fun j hj=>(Nat.lt_succ_iff_lt_or_eq.1 hj).elim (hk.2 j) (fun e=>by subst e; exact hno)⟩, by dsimp only; omega, zy _ ⟨rfl, rfl, rfl, rfl, rfl, trivial⟩ (rfl)⟩
  ·have hge:hi - lo + 1 <= (k:Int):=by simpa using h0
   refine zAj (zS (zS (zAi (zk (zn (jy rfl rfl (zg rfl rfl) (jy rfl rfl (zg rfl rfl) (zo (zN ?_)))))))))
   exact ⟨.inr rfl, ⟨_, rfl, ⟨_, _, rfl, AVle.top _, ⟨_, _, rfl, AVle.of (by rw [zqv hge hk.2]), rfl⟩⟩⟩⟩
theorem f227 {w:Wt} (hP:WtP w) (t:Int) (ht:0 <= t /\ t <= 20000) (n:Int) (hn:0 <= n /\ n <= 2880):ACall Tryz.prog G 227 [ei n, .ptr (eLk w), .ptr [eI (zz1 w), eI (zzY w)], .ptr [ei t]] (.v (.bool (zAB w (zz1 w) (t - n)))):=by
 refine zO Tryz.func227 rfl (by kernel_rfl) rfl ?_
 refine zn (jy rfl rfl (zg rfl rfl) (zo (zn (jy rfl rfl (zK rfl rfl zDy (by exact zLb rfl)) (jy rfl rfl (zDv rfl rfl rfl zDK (by omega) (by omega)) (jy rfl rfl (zl rfl rfl rfl kN) (jy rfl rfl (zl rfl rfl rfl ty3) (jy rfl rfl (zh rfl rfl) ?_))))))))
 refine jy rfl rfl (vN rfl rfl rfl ⟨by omega, by omega⟩) (jy rfl rfl (zB (av:=[_, _, _]) rfl ⟨rfl, rfl, rfl, trivial⟩ (f65 hP (zER hP) _)) (jy rfl rfl (zg rfl rfl) (zo (zN ?_))))
 exact ⟨.inr rfl, AVle.refl _⟩
theorem f228 {w:Wt} (hP:WtP w) (t:Int) (ht:0 <= t /\ t <= 20000) (n:Int) (hn:0 <= n /\ n <= 2880):ACall Tryz.prog G 228 [ei n, .ptr (eLk w), .ptr [eI (zz1 w), eI (zzY w)], .ptr [ei t]] (.v (.bool (!zAB w (zzY w) (t - n)))):=by
 refine zO Tryz.func228 rfl (by kernel_rfl) rfl ?_
 refine zn (jy rfl rfl (zg rfl rfl) (zo (zn (jy rfl rfl (zK rfl rfl zDy (by exact zLb rfl)) (jy rfl rfl (zDv rfl rfl rfl zDK (by omega) (by omega)) (jy rfl rfl (zl rfl rfl rfl kN) (jy rfl rfl (zl rfl rfl rfl ty3) (jy rfl rfl (zh rfl rfl) ?_))))))))
 refine jy rfl rfl (vN rfl rfl rfl ⟨by omega, by omega⟩) (jy rfl rfl (zB (av:=[_, _, _]) rfl ⟨rfl, rfl, rfl, trivial⟩ (f65 hP (zEG hP) _)) (jy rfl rfl (qJ rfl rfl) (jy rfl rfl (zg rfl rfl) (zo (zN ?_)))))
 exact ⟨.inr rfl, AVle.refl _⟩
theorem f167 {w:Wt} (hP:WtP w) (i:Int) (hi:0 <= i /\ i < w.prts.length) (t:Int) (ht:0 <= t /\ t <= 20000):ACall Tryz.prog G 167 [.agg (eLk w), ei i, ei t] (.tup [.v (.bool (upA w i t)), .v (.bool (upA w i t && !upB w i t))]):=by
 have hlp:=hP.lp
 have hpb:=zCt hP hi
 have hlm:(w.prts.map ePrt).length = w.prts.length:=by simp
 refine zO Tryz.func167 rfl (by kernel_rfl) rfl ?_
 refine zn (jy rfl rfl (ql rfl (zQ rfl)) (jy rfl rfl (ql (cs:=[_]) rfl (qU rfl)) (jy rfl rfl (zg rfl rfl) (jy rfl rfl (zg rfl rfl) (zo (zt ?_))))))
 refine qY zgO ?_
 refine qY zgO ?_
 refine zfD (fun _=>True) (fun k=>match k with | 0=>.stable | 1=>.stable | 2=>.stable | 3=>.stable | 4=>.stable | 5=>.stable | 6=>.stable | 7=>.stable | 8=>.stable | 9=>.own 0 | 10=>.own 1 | 11=>.writes | 12=>.writes | _=>.here) mixed (by kernel_rfl) rfl (by kernel_rfl) trivial ?_
 refine jv rfl rfl (fun m hm=>zK rfl rfl zDy (by exact zLb rfl)) (jv rfl rfl (fun m hm=>zB (av:=[_]) rfl ⟨rfl, trivial⟩ (f163 hP)) (jv rfl rfl (fun m hm=>zi rfl rfl zDu) (jv rfl rfl (fun m hm=>zi rfl rfl zAa) (jv rfl rfl (fun m hm=>zl rfl rfl rfl zBt) (jv rfl rfl (fun m hm=>zh rfl rfl) ?_)))))
 refine jv rfl rfl (fun m hm=>zD rfl rfl rfl zCn (by omega) (by exact zCo hi) zBB) ?_
 refine jv rfl rfl (fun m hm=>zi rfl rfl zBf) (jv rfl rfl (fun m hm=>zK rfl rfl zuz (by exact zLb rfl)) ?_)
 refine ztC rfl rfl (zmH rfl zEP rfl rfl rfl) ?_
 refine ztC rfl rfl (zmH rfl zwq rfl rfl rfl) ?_
 refine zpt rfl rfl (zd0 rfl rfl rfl rfl rfl rfl (zQ rfl) zEt (by rfl) (by rfl)) trivial ?_
 refine zpt rfl rfl (zd0 rfl rfl rfl rfl rfl rfl (zQ rfl) zuz (by rfl) (by rfl)) trivial ?_
 refine zfa (zk (zt ?_))
 refine qY (zmJ (k:=0) (cs:=[eI (zz1 w), eI (zzY w)]) 8 rfl rfl) ?_
 refine qY (zmJ (k:=1) (cs:=[ei (ptW w i).ol, ei (ptW w i).oh]) 9 rfl rfl) ?_
 refine zx (jy rfl rfl (zi rfl rfl zqK) (jy rfl rfl (zl rfl rfl rfl ty3) (jy rfl rfl (zi rfl rfl zqc) (jy rfl rfl (zl rfl rfl rfl ty3) (jy rfl rfl (wC (fs:=[]) (cs:=[_, _, _]) rfl rfl rfl) (jy rfl rfl (zB (av:=[_, _, _]) rfl ⟨rfl, rfl, rfl, trivial⟩ (f226 227 [.ptr (eLk w), .ptr [eI (zz1 w), eI (zzY w)], .ptr [ei t]] (ptW w i).ol (ptW w i).oh (by omega) (fun x h1 h2=>f227 hP t ht x (by omega)))) (jy rfl rfl (zI rfl rfl) (jy rfl rfl (zU rfl rfl rfl) (jy rfl rfl (zU rfl rfl rfl) (jy rfl rfl (zg rfl rfl) (zM ?_)))))))))))
 refine zk (zt (zn (jy rfl rfl (zh rfl rfl) (jy rfl rfl (qJ rfl rfl) (zo (zA rfl (fun h0=>?_) (fun h0=>?_)))))))
 ·have ha:upA w i t = false:=by simpa [upA] using h0
  refine zn (jy rfl rfl (zg rfl rfl) (jy rfl rfl (zg rfl rfl) (zo (zN (zP ?_)))))
  exact ⟨.inr rfl, ⟨_, rfl, ⟨_, _, rfl, AVle.of (by rw [ha]), ⟨_, _, rfl, AVle.of (by rw [ha]; rfl), rfl⟩⟩⟩⟩
 ·have ha:upA w i t = true:=by simpa [upA] using h0
  refine zH (zk (zn (jy rfl rfl (zi rfl rfl zqK) (jy rfl rfl (zl rfl rfl rfl ty3) (jy rfl rfl (zi rfl rfl zqc) (jy rfl rfl (zl rfl rfl rfl ty3) (jy rfl rfl (wC (fs:=[]) (cs:=[_, _, _]) rfl rfl rfl) (jy rfl rfl (zB (av:=[_, _, _]) rfl ⟨rfl, rfl, rfl, trivial⟩ (f226 228 [.ptr (eLk w), .ptr [eI (zz1 w), eI (zzY w)], .ptr [ei t]] (ptW w i).ol (ptW w i).oh (by omega) (fun x h1 h2=>f228 hP t ht x (by omega)))) (jy rfl rfl (zI rfl rfl) (jy rfl rfl (zU rfl rfl rfl) ?_))))))))))
  refine jy rfl rfl (zU rfl rfl rfl) (jy rfl rfl (qG rfl rfl) (jy rfl rfl (zg rfl rfl) (zo (zn (jy rfl rfl (zh rfl rfl) (jy rfl rfl (qJ rfl rfl) (jy rfl rfl (zg rfl rfl) (jy rfl rfl (zg rfl rfl) (zM ?_)))))))))
  refine zk (zN ?_)
  exact ⟨.inr rfl, ⟨_, rfl, ⟨_, _, rfl, AVle.of (by rw [ha]), ⟨_, _, rfl, AVle.of (by rw [ha]; rfl), rfl⟩⟩⟩⟩
theorem f166 (a b:Bool):ACall Tryz.prog G 166 [.v (.bool a), .v (.bool b)] (ei (if b then 3 else if a then 2 else 1)):=by
 refine zO Tryz.func166 rfl (by kernel_rfl) rfl ?_
 refine zn (jy rfl rfl (zg rfl rfl) (zo (zn (jy rfl rfl (zg rfl rfl) (zo (zt (zt ?_)))))))
 refine zx (jy rfl rfl (zh rfl rfl) (zo (zA rfl (fun h0=>?_) (fun h0=>?_))))
 ·refine zx (jy rfl rfl (zg rfl rfl) (zo (zt (zn (jy rfl rfl (zh rfl rfl) (zo (zA rfl (fun h1=>?_) (fun h1=>?_))))))))
  ·refine zx (jy rfl rfl (zg rfl rfl) (zo (zn (jy rfl rfl (zh rfl rfl) (jy rfl rfl (zW rfl rfl rfl ⟨by omega, by omega⟩) (jy rfl rfl (zg rfl rfl) (zo (zN ?_))))))))
   exact ⟨.inr rfl, AVle.of (by simp [h0, h1])⟩
  ·refine zH (zk (zn (jy rfl rfl (zh rfl rfl) (jy rfl rfl (zW rfl rfl rfl ⟨by omega, by omega⟩) (jy rfl rfl (zg rfl rfl) (zo (zN ?_)))))))
   exact ⟨.inr rfl, AVle.of (by simp [h0, h1])⟩
 ·refine zH (zk (zt (zn (jy rfl rfl (zh rfl rfl) (zo (zA rfl (fun h1=>?_) (fun h1=>?_)))))))
  ·refine zx (jy rfl rfl (zg rfl rfl) (zo (zn (jy rfl rfl (zh rfl rfl) (jy rfl rfl (zW rfl rfl rfl ⟨by omega, by omega⟩) (jy rfl rfl (zg rfl rfl) (zo (zN ?_))))))))
   exact ⟨.inr rfl, AVle.of (by simp [h0, h1])⟩
  ·refine zH (zk (zn (jy rfl rfl (zh rfl rfl) (jy rfl rfl (zW rfl rfl rfl ⟨by omega, by omega⟩) (jy rfl rfl (zg rfl rfl) (zo (zN ?_)))))))
   exact ⟨.inr rfl, AVle.of (by simp [h0, h1])⟩
end Hs
end Go.Av
end
