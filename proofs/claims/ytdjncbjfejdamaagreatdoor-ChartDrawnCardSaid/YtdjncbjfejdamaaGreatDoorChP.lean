import Derived.Test.YtdjncbjfejdamaaGreatDoorChE
set_option linter.unusedVariables false
set_option linter.unusedSimpArgs false
section
namespace Go.Av
open Go.Proofs
set_option maxRecDepth 100000
set_option maxHeartbeats 1000000
variable {G:Glob}
theorem f26 (f:Fld):ACall Tryz.prog G 26 [.agg (zHF f)] (.v (.bool (decide ((f.vals.length:Int) <= 40)))):=by
 refine zS Tryz.func26 rfl (by kernel_rfl) rfl ?_
 refine zuy (zh (zg rfl rfl (jf rfl (zY rfl)) (zg rfl rfl (zn rfl rfl) (zo (zf (zuy (zh (zg rfl rfl (zu rfl rfl zHx) (zg rfl rfl (zA rfl rfl rfl zHR) (zg rfl rfl (qh rfl rfl rfl Tryz.underlying27) (zg rfl rfl (zaq rfl rfl rfl) ?_)))))))))))
 refine zg rfl rfl (zn rfl rfl) (zo (zf (zP ?_)))
 exact ⟨.inr rfl, AVle.of (by simp)⟩
theorem f117 (n:Int):ACall Tryz.prog G 117 [.v (.int .i64 n)] (.v (.bool (!inB n 0 99999))):=by
 refine zS Tryz.func117 rfl (by kernel_rfl) rfl ?_
 refine zuy (zh (zg rfl rfl (zn rfl rfl) (zo (zf (zuy (zh (zg rfl rfl (zi rfl rfl) (zg rfl rfl (zy (av:=[_, _, _]) rfl ⟨rfl, rfl, rfl, trivial⟩ (f68 n 0 99999)) (zg rfl rfl (je rfl rfl) (zg rfl rfl (zn rfl rfl) (zo ?_)))))))))))
 refine zf (zP ?_)
 exact ⟨.inr rfl, AVle.refl _⟩
theorem zKS {l:List Int} {h:Int -> Bool} {k:Nat} (h0:(l.take k).any h = false) (hk:k < l.length) (h1:h l[k] = false):(l.take (k + 1)).any h = false:=by
 rw [List.take_succ_eq_append_getElem hk, List.any_append, h0]; simp [h1]
theorem zMW {l:List Int} {h:Int -> Bool} {k:Nat} (hk:k < l.length) (h1:h l[k] = true):l.any h = true:=List.any_eq_true.2 ⟨_, List.getElem_mem hk, h1⟩
theorem f116 (l:List Int) (h:Int -> Bool) (f:FuncId) (fs cs:List AV) (hl:l.length <= 1000) (hf:∀ n ∈ l, ACall Tryz.prog G f (fs ++ [.v (.int .i64 n)] ++ cs) (.v (.bool (h n)))):ACall Tryz.prog G 116 [zO l, .fn f fs cs] (.tup [.top, .v (.bool (l.any h))]):=by
 have hF:=Lib.hid hf
 clear hf
 refine zS Tryz.func116 rfl (by kernel_rfl) rfl ?_
 refine zuy (zh (zg rfl rfl (zn rfl rfl) (zg rfl rfl (zn rfl rfl) (zo (zf (zuy (zuy (zh (zg rfl rfl (zq rfl rfl) (zg rfl rfl (qh rfl rfl rfl Tryz.underlying27) (zg rfl rfl (zi rfl rfl) ?_)))))))))))
 refine zo (zf (zB ?_))
 refine qy (ι:={ k:Nat // k <= l.length /\ (l.take k).any h = false }) (fun k=>⟨Tryz.f116.ntmps, frL [(1, .pub (.fn f fs cs)), (9, .pub (zO l)), (10, I (l.length:Int)), (11, I (k.1:Int))], []⟩) (fun k=>l.length - k.1) (⟨0, by simp⟩) ?_ ?_
 ·
  exact zt _ ⟨rfl, rfl, (congrArg (fun x:Nat=>I (x:Int)) (List.length_map _)), rfl, trivial⟩ (rfl)
 ·
  rintro ⟨k, hk⟩
  dsimp only
  refine zuy (zh (zg rfl rfl (zUB rfl rfl rfl) (zo (zf (zuy (zx rfl (fun h0=>?_) (fun h0=>?_)))))))
  ·
   have hlt:k < l.length:=by simpa using h0
   refine zC (zf (zuy (zB (zuy (zh (zg rfl rfl (zG rfl rfl rfl zIz (by omega) (wu hlt) jC) (zg rfl rfl (zA rfl rfl rfl ty3) (zg rfl rfl (zn rfl rfl) (zo (zf (zuy ?_)))))))))))
   refine zh (zg rfl rfl (zq rfl rfl) (zg rfl rfl (zi rfl rfl) (zg rfl rfl (zbX (av:=[_]) rfl rfl ⟨rfl, trivial⟩ (hF.out _ (List.getElem_mem hlt))) (zo (zf (zx rfl (fun h1=>?_) (fun h1=>?_)))))))
   ·
    refine zuy (zh (zg rfl rfl (zi rfl rfl) (zg rfl rfl (zn rfl rfl) (zg rfl rfl (zn rfl rfl) (zo (zf (zP (qF (zQ (zQ (qF ?_)))))))))))
    refine zQ ?_
    exact ⟨.inr rfl, ⟨_, rfl, ⟨_, _, rfl, (fun _ _ _ _=>by simp only[Fits]), ⟨_, _, rfl, AVle.of (by rw [zMW hlt h1]), rfl⟩⟩⟩⟩
   ·
    refine zC (zD (zf (zh (zg rfl rfl (zV rfl rfl rfl ⟨(by omega), (by omega)⟩) (zg rfl rfl (zi rfl rfl) (zo ?_))))))
    exact ⟨⟨k + 1, by omega, zKS hk.2 hlt h1⟩, by dsimp only; omega, zt _ ⟨rfl, rfl, rfl, rfl, trivial⟩ (rfl)⟩
  ·
   have hge:l.length <= k:=by simpa using h0
   refine qp (zRQ (zRQ (qw (zf (zuy (zh (zg rfl rfl (zn rfl rfl) (zo (zf (zuy (zh ?_)))))))))))
   refine zg rfl rfl (zi rfl rfl) (zg rfl rfl (zn rfl rfl) (zg rfl rfl (zn rfl rfl) (zo (zf (zP ?_)))))
   exact ⟨.inr rfl, ⟨_, rfl, ⟨_, _, rfl, (fun _ _ _ _=>by simp only[Fits]), ⟨_, _, rfl, AVle.of (by rw [List.take_of_length_le hge] at hk; rw [hk.2]), rfl⟩⟩⟩⟩
end Go.Av
end
section
namespace Go.Av
open Go.Proofs
set_option maxRecDepth 100000
set_option maxHeartbeats 1000000
variable {G:Glob}
def zH2 (f:Fld):Bool:=inB f.wide 1 6 && (((f.vals.length:Int) % f.wide == 0) && inB ((f.vals.length:Int) / f.wide) 1 5)
def zJM (f:Fld):Bool:=!(f.vals.any fun n=>!inB n 0 99999)
def rowsOf (f:Fld):Int:=(f.vals.length:Int) / f.wide
theorem zPl (f:Fld) (hl:f.vals.length <= 1000) (hb:zH2 f = false):ACall Tryz.prog G 67 [.agg (zHF f)] (.tup [ei 0, .v (.bool false)]):=by
 refine zS Tryz.func67 rfl (by kernel_rfl) rfl ?_
 refine zuy (zh (zg rfl rfl (jf rfl (zY rfl)) (zg rfl rfl (zn rfl rfl) (zg rfl rfl (zn rfl rfl) (zo (zf (zuy (zuy (zh (zg rfl rfl (zu rfl rfl zHB) (zg rfl rfl (zA rfl rfl rfl ty3) ?_)))))))))))
 refine zg rfl rfl (zy (av:=[_, _, _]) rfl ⟨rfl, rfl, rfl, trivial⟩ (f68 _ _ _)) (zg rfl rfl (je rfl rfl) (zg rfl rfl (zi rfl rfl) (zk rfl rfl rfl (fun hg=>zu rfl rfl zHx) (zk rfl rfl rfl (fun hg=>zA rfl (if_pos hg) rfl zHR) (zk rfl rfl rfl (fun hg=>qh rfl rfl (if_pos hg) Tryz.underlying27) (zk rfl rfl rfl (fun hg=>zu rfl rfl zHB) (zk rfl rfl rfl (fun hg=>zA rfl (if_pos hg) rfl ty3) ?_)))))))
 refine zk rfl rfl rfl (fun hg=>yA rfl (if_pos hg) (if_pos hg) ⟨by simp, by have:=zdh.1 (by simpa using hg:inB f.wide 1 6 = true); omega⟩) ?_
 refine zk rfl rfl rfl (fun hg=>vg rfl (if_pos hg) rfl) (zg rfl rfl (qU rfl rfl rfl rfl) (zg rfl rfl (zi rfl rfl) (zk rfl rfl rfl (fun hg=>zu rfl rfl zHx) (zk rfl rfl rfl (fun hg=>zA rfl (if_pos hg) rfl zHR) (zk rfl rfl rfl (fun hg=>qh rfl rfl (if_pos hg) Tryz.underlying27) (zk rfl rfl rfl (fun hg=>zu rfl rfl zHB) (zk rfl rfl rfl (fun hg=>zA rfl (if_pos hg) rfl ty3) ?_)))))))
 refine zk rfl rfl rfl (fun hg=>zcj rfl (if_pos hg) (if_pos hg) ⟨by simp, by simp; omega, by simp at hg; have:=zdh.1 hg.1; omega⟩) ?_
 refine zk rfl rfl rfl (fun hg=>zy (av:=[_, _, _]) rfl ⟨((if_pos hg)), rfl, rfl, trivial⟩ (f68 _ _ _)) (zk rfl rfl rfl (fun hg=>je rfl (if_pos hg)) (zg rfl rfl (qU rfl rfl rfl rfl) (zo (zf (zx rfl (fun h0=>?_) (fun h0=>?_))))))
 ·
  refine zuy (zh (zg rfl rfl (zn rfl rfl) (zg rfl rfl (zn rfl rfl) (zo (zf (zP (zQ ?_)))))))
  exact ⟨.inr rfl, ⟨_, rfl, ⟨_, _, rfl, AVle.refl _, ⟨_, _, rfl, AVle.refl _, rfl⟩⟩⟩⟩
 ·
  exfalso; unfold zH2 at hb; simp at hb h0; rw [hb h0.1.1 h0.1.2] at h0; simp at h0
theorem zQm (f:Fld) (hl:f.vals.length <= 1000) (hb:zH2 f = true):ACall Tryz.prog G 67 [.agg (zHF f)] (.tup [ei (rowsOf f), .v (.bool (zJM f))]):=by
 have hb1:=hb
 unfold zH2 at hb1
 simp only[zLa] at hb1
 have hw1:=zdh.1 hb1.1
 refine zS Tryz.func67 rfl (by kernel_rfl) rfl ?_
 refine zuy (zh (zg rfl rfl (jf rfl (zY rfl)) (zg rfl rfl (zn rfl rfl) (zg rfl rfl (zn rfl rfl) (zo (zf (zuy (zuy (zh (zg rfl rfl (zu rfl rfl zHB) (zg rfl rfl (zA rfl rfl rfl ty3) ?_)))))))))))
 refine zg rfl rfl (zy (av:=[_, _, _]) rfl ⟨rfl, rfl, rfl, trivial⟩ (f68 _ _ _)) (zg rfl rfl (je rfl rfl) (zg rfl rfl (zi rfl rfl) (zk rfl rfl rfl (fun hg=>zu rfl rfl zHx) (zk rfl rfl rfl (fun hg=>zA rfl (if_pos hg) rfl zHR) (zk rfl rfl rfl (fun hg=>qh rfl rfl (if_pos hg) Tryz.underlying27) (zk rfl rfl rfl (fun hg=>zu rfl rfl zHB) (zk rfl rfl rfl (fun hg=>zA rfl (if_pos hg) rfl ty3) ?_)))))))
 refine zk rfl rfl rfl (fun hg=>yA rfl (if_pos hg) (if_pos hg) ⟨by simp, by have:=zdh.1 (by simpa using hg:inB f.wide 1 6 = true); omega⟩) ?_
 refine zk rfl rfl rfl (fun hg=>vg rfl (if_pos hg) rfl) (zg rfl rfl (qU rfl rfl rfl rfl) (zg rfl rfl (zi rfl rfl) (zk rfl rfl rfl (fun hg=>zu rfl rfl zHx) (zk rfl rfl rfl (fun hg=>zA rfl (if_pos hg) rfl zHR) (zk rfl rfl rfl (fun hg=>qh rfl rfl (if_pos hg) Tryz.underlying27) (zk rfl rfl rfl (fun hg=>zu rfl rfl zHB) (zk rfl rfl rfl (fun hg=>zA rfl (if_pos hg) rfl ty3) ?_)))))))
 refine zk rfl rfl rfl (fun hg=>zcj rfl (if_pos hg) (if_pos hg) ⟨by simp, by simp; omega, by simp at hg; have:=zdh.1 hg.1; omega⟩) ?_
 refine zk rfl rfl rfl (fun hg=>zy (av:=[_, _, _]) rfl ⟨((if_pos hg)), rfl, rfl, trivial⟩ (f68 _ _ _)) (zk rfl rfl rfl (fun hg=>je rfl (if_pos hg)) (zg rfl rfl (qU rfl rfl rfl rfl) (zo (zf (zx rfl (fun h0=>?_) (fun h0=>?_))))))
 ·
  exfalso; simp at hb1; simp [hb1.1, hb1.2.1, hb1.2.2] at h0
 ·
  refine zC (zf (zuy (zh (zg rfl rfl (zu rfl rfl zHx) (zg rfl rfl (zA rfl rfl rfl zHR) (zg rfl rfl (zy (av:=[_, _]) rfl ⟨rfl, rfl, trivial⟩ (f116 f.vals (fun n=>!inB n 0 99999) 117 [] [] hl (fun n _=>f117 n))) (zg rfl rfl (zq rfl rfl) (zg rfl rfl (zN rfl rfl rfl) (zg rfl rfl (zN rfl rfl rfl) (zg rfl rfl (zW rfl rfl) (zg rfl rfl (zn rfl rfl) ?_)))))))))))
  refine zo (zf (zuy (zh (zg rfl rfl (zu rfl rfl zHx) (zg rfl rfl (zA rfl rfl rfl zHR) (zg rfl rfl (qh rfl rfl rfl Tryz.underlying27) (zg rfl rfl (zu rfl rfl zHB) (zg rfl rfl (zA rfl rfl rfl ty3) ?_))))))))
  refine zg rfl rfl (zcj rfl rfl rfl ⟨by simp, by simp; omega, by omega⟩) ?_
  refine zg rfl rfl (zi rfl rfl) (zg rfl rfl (je rfl rfl) (zg rfl rfl (zn rfl rfl) (zg rfl rfl (zn rfl rfl) (zo (zf (zP ?_))))))
  exact ⟨.inr rfl, ⟨_, rfl, ⟨_, _, rfl, AVle.of (by simp [rowsOf, ei]), ⟨_, _, rfl, AVle.of (by simp [zJM]), rfl⟩⟩⟩⟩
end Go.Av
end
