import Derived.Test.YtdjncbjfejdamaaGreatDoorChLE
import Derived.Test.YtdjncbjfejdamaaGreatDoorChLF
import Derived.Test.YtdjncbjfejdamaaGreatDoorPlatQ
set_option linter.unusedVariables false
set_option linter.unusedSimpArgs false
section
namespace Go.Av
open Go.Proofs
set_option maxRecDepth 100000
set_option maxHeartbeats 1000000
variable {G:Glob}
open Go.Gr
theorem mbC {st:ASt} {o:Oper} {x:Operand} {c:Cr} (ho:o.op = .buildSlice 48 1 #[(0, x)]) (hd:vC o st.n = true) (hx:evO st.fr x = .pub (.agg (eCr c))):
  OpM Tryz.prog G st o ⟨st.n, jr st.fr o.dst (.psl st.mem.length 1), st.mem ++ [.row [rCr c]]⟩:=
 zOj (rows:=[rCr c]) (qs:=[(0, rCr c)]) (size:=2) ho hd Tryz.underlying48 zKq rfl (by decide) rfl (by decide) ⟨_, _, rfl, zY hx, rfl⟩ rfl (by simp [rCr]) rfl (by decide) (by simp [rCr])
def nfO (out:List Cr) (y:Cr):Bool:=!decide (y ∈ ([]:List Cr)) && !decide (y ∈ out)
theorem zNQ {out:List Cr} {y:Cr}:nfO out y = !out.contains y:=by simp [nfO]
theorem nx_nfO {nb:Cr -> List Cr} {out:List Cr} {x:Cr}:nxW nb [] out x = (nb x).find? (nfO out):=by
 unfold nxW
 congr 1
 funext y
 simp [nfO]
def flI (out l:List Cr) (k:Nat) (b:Bool):Prop:=match b with
 | true=>0 < k /\ l.find? (nfO out) = some (l.getD (k - 1) (0, 0))
 | false=>l.find? (nfO out) = (l.drop k).find? (nfO out)
def oB (out l:List Cr) (k:Nat) (b:Bool):List Cr:=bif b then out ++ [l.getD (k - 1) (0, 0)] else out
theorem zQY (out l:List Cr):flI out l 0 false:=by simp [flI]
theorem zQa {out l:List Cr} {k:Nat} (h:flI out l k false) (hk:k < l.length) (e:(!out.contains l[k]) = false):flI out l (k + 1) false:=by
 have h':l.find? (nfO out) = (l.drop k).find? (nfO out):=h
 show l.find? (nfO out) = (l.drop (k + 1)).find? (nfO out)
 rw [h', List.drop_eq_getElem_cons hk, List.find?_cons, zNQ, e]
theorem zPa {out l:List Cr} {k:Nat} (h:flI out l k false) (hk:k < l.length) (e:(!out.contains l[k]) = true):flI out l (k + 1) true:=by
 have h':l.find? (nfO out) = (l.drop k).find? (nfO out):=h
 refine ⟨by omega, ?_⟩
 rw [h', List.drop_eq_getElem_cons hk, List.find?_cons, zNQ, e]
 simp [List.getD, hk]
theorem zPu {out l:List Cr} {k:Nat} (h:flI out l k false) (hk:l.length <= k):l.find? (nfO out) = none:=by
 have h':l.find? (nfO out) = (l.drop k).find? (nfO out):=h
 rw [h', List.drop_eq_nil_of_le hk]; rfl
theorem zPS {b:Bool} (h:(!b) = true):b = false:=by cases b <;> simp_all
theorem zQM {b:Bool} (h:(!b) = false):b = true:=by cases b <;> simp_all
theorem last_at (t:List Cr) (x:Cr):((t ++ [x]).map rCr)[((((t ++ [x]).length:Int)) - 1).toNat]? = some (rCr x):=by
 have:((((t ++ [x]).length:Int)) - 1).toNat = t.length:=by simp
 rw [this]; simp
theorem f84 (js:List (Nat × Cr × Cr)) (c:Cr) (nb:Cr -> List Cr) (all:List Cr) (N:Nat) (hl:js.length <= 1000) (hnb:∀ x, sort2 (nxJ x js) = nb x) (hcl:∀ x ∈ all, ∀ y ∈ nb x, y ∈ all) (hc:c ∈ all) (hN:all.length <= N) (hal:all.length <= 1000) (hn2:∀ x, (nb x).length <= 1000):ACall Tryz.prog G 84 [.sl (js.map eJn), .agg (eCr c)] ((zHA (goW nb [] N [] c))):=by
 have hst:=FI.start (nb:=nb) (met:=[]) hc (by simp) hN
 generalize goW nb [] N [] c = R at hst ⊢
 have h83:∀ x, ACall Tryz.prog G 83 [.sl (js.map eJn), .agg (eCr x)] (zHA (nb x)):=fun x=>by rw [← hnb x]; exact f83 js x hl
 refine zS Tryz.func84 rfl (by kernel_rfl) rfl ?_
 refine zuy (zh ?_)
 refine zg rfl rfl (jf rfl (zY rfl)) ?_
 refine zg rfl rfl (zn rfl rfl) ?_
 refine zo (zf (zuy (zh ?_)))
 refine zg rfl rfl (zZ rfl rfl zHs (by exact zLb rfl)) ?_
 refine jb rfl (mbC (c:=c) rfl rfl rfl) ?_
 refine zg rfl rfl (qo rfl rfl) ?_
 refine zo (zf (zB ?_))
 refine qy (ι:={ q:Nat × List Cr × Cr // FI nb all [] R q.1 q.2.1 q.2.2 }) (fun q=>⟨Tryz.f84.ntmps, frL [(0, .pub (.sl (js.map eJn))), (5, .psl 0 (q.1.2.1 ++ [q.1.2.2]).length)], [.row ((q.1.2.1 ++ [q.1.2.2]).map rCr)]⟩) (fun q=>q.1.1) (⟨(N, [], c), hst⟩) ?_ ?_
 ·
  exact zt _ ⟨rfl, rfl, trivial⟩ rfl
 ·
  rintro ⟨⟨n, t, x⟩, hq⟩
  dsimp only at hq ⊢
  have hqn:=hq.lenR
  have hx2:=hn2 x
  have hol:(t ++ [x]).length = t.length + 1:=by simp
  refine zB (zuy (zh ?_))
  refine zg rfl rfl (zq rfl rfl) ?_
  refine zg rfl rfl (zI rfl rfl) ?_
  refine zg rfl rfl (zI rfl rfl) ?_
  refine zg rfl rfl (jE rfl rfl rfl (List.length_map _) Tryz.underlying48) ?_
  refine zg rfl rfl (ze5 rfl rfl rfl ⟨(by omega), (by omega)⟩) ?_
  refine zg rfl rfl (qc rfl rfl rfl rfl (List.length_map _) zt9 (by simp) (by simp; omega) zHv) ?_
  refine zg rfl rfl (qN (cs:=eCr x) rfl rfl rfl (List.length_map _) (last_at t x) (show 0 + 2 <= (rCr _).length from Nat.le_refl 2) rfl zHs) ?_
  refine zg rfl rfl (zy (av:=[_, _]) rfl ⟨rfl, rfl, trivial⟩ (h83 x)) ?_
  refine zg rfl rfl (zW rfl rfl) ?_
  refine zo (zf (zuy (zh ?_)))
  refine zg rfl rfl (zn rfl rfl) ?_
  refine zo (zf (zuy (zuy (zh ?_))))
  refine zg rfl rfl (zn rfl rfl) ?_
  refine zo (zf (zB ?_))
  refine qy (ι:={ s:Nat × Bool // s.1 <= (nb x).length /\ flI (t ++ [x]) (nb x) s.1 s.2 }) (fun s=>⟨Tryz.f84.ntmps, frL [(0, .pub (.sl (js.map eJn))), (5, .psl 0 (oB (t ++ [x]) (nb x) s.1.1 s.1.2).length), (6, .pub (zHA (nb x))), (7, B s.1.2), (8, I (s.1.1:Int))], [.row ((oB (t ++ [x]) (nb x) s.1.1 s.1.2).map rCr)]⟩) (fun s=>(nb x).length - s.1.1) (⟨(0, false), by simp, zQY _ _⟩) ?_ ?_
  ·
   exact zt _ ⟨rfl, rfl, rfl, rfl, rfl, trivial⟩ rfl
  ·
   rintro ⟨⟨k, b⟩, hk, hI⟩
   dsimp only at hk hI ⊢
   refine zuy (zuy (zh ?_))
   refine zg rfl rfl (zi rfl rfl) ?_
   refine zg rfl rfl (zq rfl rfl) ?_
   refine zg rfl rfl (zuB rfl rfl Tryz.underlying48) ?_
   refine zg rfl rfl (qi rfl rfl rfl) ?_
   refine zg rfl rfl (zi rfl rfl) ?_
   refine zk rfl rfl rfl (fun hg=>zi rfl rfl) ?_
   refine zk rfl rfl rfl (fun hg=>je rfl (if_pos hg)) ?_
   refine zg rfl rfl (qI rfl rfl rfl rfl) ?_
   refine zo (zf (zx rfl (fun h0=>?_) (fun h0=>?_)))
   ·
    have h0b:k < (nb x).length /\ b = false:=by rw [zLa] at h0; exact ⟨by have:=h0.1; simp only[decide_eq_true_eq] at this; omega, zPS h0.2⟩
    have hlt:=h0b.1
    have hb:=h0b.2
    have hf0:flI (t ++ [x]) (nb x) k false:=hb ▸ hI
    refine qx (zt (mem':=[.row ((t ++ [x]).map rCr)]) [(0, .pub (.sl (js.map eJn))), (5, .psl 0 (t ++ [x]).length), (6, .pub (zHA (nb x))), (7, B false), (8, I (k:Int))] ⟨rfl, congrArg (fun b=>EV.psl 0 (oB (t ++ [x]) (nb x) k b).length) hb, rfl, congrArg B hb, rfl, trivial⟩ (congrArg (fun b=>[PO.row ((oB (t ++ [x]) (nb x) k b).map rCr)]) hb)) ?_
    refine zC (zf (zuy (zB (zuy (zh ?_)))))
    refine zg rfl rfl (zI rfl rfl) ?_
    refine zg rfl rfl (zq rfl rfl) ?_
    refine zg rfl rfl (zi rfl rfl) ?_
    refine zg rfl rfl (zG rfl rfl rfl zt9 (by omega) (zIU hlt) zH4) ?_
    refine zg rfl rfl (zZ rfl rfl zHs (by exact zLb rfl)) ?_
    refine zg rfl rfl (znB (av:=[zHA (t ++ [x]), .agg (eCr (nb x)[k])]) rfl ⟨⟨(t ++ [x]).map eCr, (show some (PO.row _) = some (PO.row _) by rw [zIg]), List.length_map _, rfl⟩, AVle.refl _, trivial⟩ rfl (f82 (t ++ [x]) (nb x)[k] (by simp; omega))) ?_
    refine zg rfl rfl (je rfl rfl) ?_
    refine zo (zf (zx rfl (fun h1=>?_) (fun h1=>?_)))
    ·
     refine Exists.elim (show ∃ b2, b2 = true /\ flI (t ++ [x]) (nb x) (k + 1) b2 from ⟨true, rfl, zPa hf0 hlt h1⟩) (fun b2 hh=>?_)
     have hbb:oB (t ++ [x]) (nb x) (k + 1) b2 = (t ++ [x]) ++ [(nb x)[k]]:=by rw [hh.1]; simp [oB, List.getD, hlt]
     have hp5:EV.psl 0 ((t ++ [x]).length + 1) = EV.psl 0 (oB (t ++ [x]) (nb x) (k + 1) b2).length:=by rw [hbb]; simp
     have hm5:[PO.row ((t ++ [x]).map rCr ++ [rCr (nb x)[k]])] = [PO.row ((oB (t ++ [x]) (nb x) (k + 1) b2).map rCr)]:=by rw [hbb]; simp
     refine zh ?_
     refine zg rfl rfl (zI rfl rfl) ?_
     refine zg rfl rfl (zq rfl rfl) ?_
     refine zg rfl rfl (zi rfl rfl) ?_
     refine zg rfl rfl (zG rfl rfl rfl zt9 (by omega) (zIU hlt) zH4) ?_
     refine zg rfl rfl (zZ rfl rfl zHs (by exact zLb rfl)) ?_
     refine zg rfl rfl (qg (size:=2) (rows:=[[_, _]]) rfl Tryz.underlying48 zKq rfl (by decide) rfl (by decide) ⟨_, _, rfl, (zY rfl), rfl⟩ (by rfl) (by simp [ofV]) rfl (by simp)) ?_
     refine jb rfl (vS rfl rfl rfl rfl (List.length_map _) rfl zt5 zHv (by simp) (by have:=hqn; show ((t ++ [x]).length + 1) * 16 <= 140737488355328; omega) (by have:=hqn; show (t ++ [x]).length + 1 <= maxLen; unfold maxLen; omega)) ?_
     refine zg rfl rfl (qo rfl rfl) ?_
     refine zg rfl rfl (zn rfl rfl) ?_
     refine zo (zD (zf (zh ?_)))
     refine zg rfl rfl (zi rfl rfl) ?_
     refine zg rfl rfl (zV rfl rfl rfl ⟨(by omega), (by omega)⟩) ?_
     refine zg rfl rfl (zn rfl rfl) ?_
     refine zo ?_
     exact ⟨⟨(k + 1, b2), (by dsimp only; omega), hh.2⟩, (by dsimp only; omega), zt _ ⟨rfl, hp5, rfl, congrArg B hh.1.symm, rfl, trivial⟩ hm5⟩
    ·
     refine Exists.elim (show ∃ b2, b2 = false /\ flI (t ++ [x]) (nb x) (k + 1) b2 from ⟨false, rfl, zQa hf0 hlt h1⟩) (fun b2 hh=>?_)
     have hbb:oB (t ++ [x]) (nb x) (k + 1) b2 = (t ++ [x]):=by rw [hh.1]; rfl
     have hp5:EV.psl 0 (t ++ [x]).length = EV.psl 0 (oB (t ++ [x]) (nb x) (k + 1) b2).length:=by rw [hbb]
     have hm5:[PO.row ((t ++ [x]).map rCr)] = [PO.row ((oB (t ++ [x]) (nb x) (k + 1) b2).map rCr)]:=by rw [hbb]
     refine zC (zD (zf (zh ?_)))
     refine zg rfl rfl (zi rfl rfl) ?_
     refine zg rfl rfl (zV rfl rfl rfl ⟨(by omega), (by omega)⟩) ?_
     refine zg rfl rfl (zn rfl rfl) ?_
     refine zo ?_
     exact ⟨⟨(k + 1, b2), (by dsimp only; omega), hh.2⟩, (by dsimp only; omega), zt _ ⟨rfl, hp5, rfl, congrArg B hh.1.symm, rfl, trivial⟩ hm5⟩
   ·
    refine qp (zRQ (zRQ (qw (zf (zuy (zh ?_))))))
    refine zg rfl rfl (zi rfl rfl) ?_
    refine zg rfl rfl (je rfl rfl) ?_
    refine zo (zf (zx rfl (fun h2=>?_) (fun h2=>?_)))
    ·
     have hb:=zPS h2
     have hf0:flI (t ++ [x]) (nb x) k false:=hb ▸ hI
     have hge:(nb x).length <= k:=by rw [hb] at h0; simp at h0; omega
     have hR:R = (t ++ [x]):=hq.stop (nx_nfO.trans (zPu hf0 hge))
     have hRo:(oB (t ++ [x]) (nb x) k b) = R:=by rw [hb, hR]; rfl
     refine zuy (zh ?_)
     refine zg rfl rfl (zI rfl rfl) ?_
     refine zg rfl rfl (qo rfl rfl) ?_
     refine zo (zf (zP (qF (zQ (qF ?_)))))
     exact ⟨.inr rfl, ⟨(oB (t ++ [x]) (nb x) k b).map eCr, by show some (PO.row _) = some (PO.row _); rw [← zIg], by simp, by rw [hRo]; rfl⟩⟩
    ·
     have hb:=zQM h2
     have hf0:flI (t ++ [x]) (nb x) k true:=hb ▸ hI
     refine Exists.elim (hq.go hcl (nx_nfO.trans hf0.2)) (fun m hm=>?_)
     have hbb:(oB (t ++ [x]) (nb x) k b) = t ++ [x] ++ [(nb x).getD (k - 1) (0, 0)]:=by rw [hb]; rfl
     refine zC (zD ?_)
     exact ⟨⟨(m, t ++ [x], (nb x).getD (k - 1) (0, 0)), hm.2⟩, (by have:=hm.1; dsimp only; omega), zt _ ⟨rfl, congrArg (fun l:List Cr=>EV.psl 0 l.length) hbb, trivial⟩ (congrArg (fun l:List Cr=>[PO.row (l.map rCr)]) hbb)⟩
end Go.Av
end
