import Derived.Test.YtdjncbjfejdamaaGreatDoorChD
set_option linter.unusedVariables false
set_option linter.unusedSimpArgs false
section
namespace Go.Av
open Go.Proofs
set_option maxRecDepth 100000
set_option maxHeartbeats 1000000
variable {G:Glob}
theorem f48 (m:Mp) (hm:okM m):ACall Tryz.prog G 48 [.agg (eMp m)] (zOA (zH5 m)):=by
 have hln:=hm.2.2.2.2.2.2.1
 generalize hcl:zH5 m = cc
 refine zS Tryz.func48 rfl (by kernel_rfl) rfl ?_
 refine zuy (zh (zg rfl rfl (jf rfl (zY rfl)) (zg rfl rfl (zn rfl rfl) (zg rfl rfl (zn rfl rfl) (zg rfl rfl (zn rfl rfl) (zo (zf (zuy (zuy (zh (zg rfl rfl (zn rfl rfl) ?_)))))))))))
 refine zo (zf (zB ?_))
 refine qy (ι:={ k:Nat // k <= m.st.length /\ ∀ a < k, ∀ b < m.st.length, a < b -> zIK m a b = false }) (fun k=>⟨Tryz.f48.ntmps, frL [(1, .pub (.ptr (eMp m))), (5, I (k.1:Int))], []⟩) (fun k=>m.st.length - k.1) (⟨0, by omega, fun a ha=>absurd ha (by omega)⟩) ?_ ?_
 ·
  exact zt _ ⟨rfl, rfl, trivial⟩ (rfl)
 ·
  rintro ⟨k, hk⟩
  dsimp only
  refine zuy (zuy (zh (zg rfl rfl (zi rfl rfl) (zg rfl rfl (zu rfl rfl zHN) (zg rfl rfl (zA rfl rfl rfl zah) (zg rfl rfl (qh rfl rfl rfl Tryz.underlying22) (zg rfl rfl (zUB rfl rfl rfl) (zo (zf (zx rfl (fun h0=>?_) (fun h0=>?_)))))))))))
  ·
   have hlt:k < m.st.length:=by simpa using h0
   refine zC (zf (zuy (zB (zuy (zh (zg rfl rfl (zi rfl rfl) (zg rfl rfl (zV rfl rfl rfl ⟨(by omega), (by omega)⟩) (zg rfl rfl (zn rfl rfl) (zo (zf (zB ?_)))))))))))
   refine qy (ι:={ j:Nat // k < j /\ j <= m.st.length /\ ∀ b, k < b -> b < j -> b < m.st.length -> zIK m k b = false }) (fun j=>⟨Tryz.f48.ntmps, frL [(1, .pub (.ptr (eMp m))), (5, I (k:Int)), (6, I (j.1:Int))], []⟩) (fun j=>m.st.length - j.1) (⟨k + 1, by omega, by omega, fun b h1 h2=>absurd h1 (by omega)⟩) ?_ ?_
   ·
    exact zt _ ⟨rfl, rfl, rfl, trivial⟩ (rfl)
   ·
    rintro ⟨j, hj⟩
    dsimp only
    refine zuy (zuy (zh (zg rfl rfl (zi rfl rfl) (zg rfl rfl (zu rfl rfl zHN) (zg rfl rfl (zA rfl rfl rfl zah) (zg rfl rfl (qh rfl rfl rfl Tryz.underlying22) (zg rfl rfl (zUB rfl rfl rfl) (zo (zf (zx rfl (fun h1=>?_) (fun h1=>?_)))))))))))
    ·
     have hjt:j < m.st.length:=by simp at h1; omega
     refine zC (zf (zuy (zB (zuy (zh (zg rfl rfl (zZ rfl rfl zMg (by exact zLb rfl)) (zg rfl rfl (zi rfl rfl) (zg rfl rfl (zi rfl rfl) (zg rfl rfl (zy (av:=[_, _, _]) rfl ⟨rfl, rfl, rfl, trivial⟩ (f102 m hm k j hlt hjt)) (zo (zf (zx rfl (fun h2=>?_) (fun h2=>?_)))))))))))))
     ·
      have hyes:zIK m k j = true:=h2
      have hc:zH5 m = some (k, j):=zIS hj.1 hjt hyes hk.2 (fun b b1 b2=>hj.2.2 b b1 b2 (by omega))
      refine zuy (zh (zg rfl rfl (zi rfl rfl) (zg rfl rfl (zi rfl rfl) (zg rfl rfl (zn rfl rfl) (zg rfl rfl (zn rfl rfl) (zg rfl rfl (zn rfl rfl) (zo (zf (zP (qF (zQ ?_)))))))))))
      refine zQ (qF (qF (zQ (zQ (qF (zQ ?_))))))
      have hcc:=hcl.symm.trans (hc)
      subst hcc
      refine ⟨.inr rfl, ?_⟩
      exact ⟨_, rfl, ⟨_, _, rfl, AVle.refl _, ⟨_, _, rfl, AVle.refl _, ⟨_, _, rfl, AVle.refl _, rfl⟩⟩⟩⟩
     ·
      have hno:zIK m k j = false:=h2
      refine zC (zD (zf (zh (zg rfl rfl (zi rfl rfl) (zg rfl rfl (zV rfl rfl rfl ⟨(by omega), (by omega)⟩) (zg rfl rfl (zn rfl rfl) (zo ?_)))))))
      exact ⟨⟨j + 1, by omega, by omega, fun b b1 b2 b3 => by
               by_cases e:b = j
               ·
                subst e; exact hno
               ·
                exact hj.2.2 b b1 (by omega) b3⟩, by dsimp only; omega, zt _ ⟨rfl, rfl, rfl, trivial⟩ (rfl)⟩
    ·
     have hjge:m.st.length <= j:=by simp at h1; omega
     refine qp (zRQ (zRQ (qw (zD (zf (zh (zg rfl rfl (zi rfl rfl) (zg rfl rfl (zV rfl rfl rfl ⟨(by omega), (by omega)⟩) (zg rfl rfl (zn rfl rfl) (zo ?_))))))))))
     exact ⟨⟨k + 1, by omega, fun a ha b hb hab => by
               by_cases e:a = k
               ·
                subst e; exact hj.2.2 b hab (by omega) hb
               ·
                exact hk.2 a (by omega) b hb hab⟩, by dsimp only; omega, zt _ ⟨rfl, rfl, trivial⟩ (rfl)⟩
  ·
   have hge:m.st.length <= k:=by simpa using h0
   refine qp (zRQ (zRQ (qw (zf (zuy (zh (zg rfl rfl (zn rfl rfl) (zg rfl rfl (zn rfl rfl) (zg rfl rfl (zn rfl rfl) (zo (zf ?_)))))))))))
   refine zP ?_
   have hcc:=hcl.symm.trans ((zI0 (fun a ha b hb hab=>hk.2 a (by omega) b hb hab):zH5 m = none))
   subst hcc
   refine ⟨.inr rfl, ?_⟩
   exact ⟨_, rfl, ⟨_, _, rfl, AVle.refl _, ⟨_, _, rfl, AVle.refl _, ⟨_, _, rfl, AVle.refl _, rfl⟩⟩⟩⟩
theorem zYo (m:Mp) (hm:okM m) (p:Nat × Nat) (hc:zH5 m = some p):ACall Tryz.prog G 65 [.agg (eMp m)] (.v (.bool false)):=by
 refine zS Tryz.func65 rfl (by kernel_rfl) rfl ?_
 refine zuy (zh (zg rfl rfl (jf rfl (zY rfl)) (zg rfl rfl (zn rfl rfl) (zo (zf (zuy (zh (zg rfl rfl (zZ rfl rfl zMg (by exact zLb rfl)) ?_))))))))
 refine zg rfl rfl (zy (av:=[_]) rfl ⟨rfl, trivial⟩ (r:=.tup [ei p.1, ei p.2, .v (.bool true)]) (by have h:=f48 (G:=G) m hm; rw [hc] at h; exact h)) ?_
 refine zg rfl rfl (zq rfl rfl) (zg rfl rfl (zN rfl rfl rfl) (zg rfl rfl (zN rfl rfl rfl) (zg rfl rfl (zN rfl rfl rfl) (zg rfl rfl (zn rfl rfl) (zg rfl rfl (zn rfl rfl) (zg rfl rfl (zn rfl rfl) (zo (zf (zuy (zh (zg rfl rfl (zi rfl rfl) ?_)))))))))))
 refine zg rfl rfl (je rfl rfl) (zg rfl rfl (zn rfl rfl) (zo (zf (zP ?_))))
 exact ⟨.inr rfl, AVle.refl _⟩
theorem zYv (m:Mp) (hm:okM m) (hc:zH5 m = none):ACall Tryz.prog G 65 [.agg (eMp m)] (.v (.bool true)):=by
 refine zS Tryz.func65 rfl (by kernel_rfl) rfl ?_
 refine zuy (zh (zg rfl rfl (jf rfl (zY rfl)) (zg rfl rfl (zn rfl rfl) (zo (zf (zuy (zh (zg rfl rfl (zZ rfl rfl zMg (by exact zLb rfl)) ?_))))))))
 refine zg rfl rfl (zy (av:=[_]) rfl ⟨rfl, trivial⟩ (r:=.tup [ei 0, ei 0, .v (.bool false)]) (by have h:=f48 (G:=G) m hm; rw [hc] at h; exact h)) ?_
 refine zg rfl rfl (zq rfl rfl) (zg rfl rfl (zN rfl rfl rfl) (zg rfl rfl (zN rfl rfl rfl) (zg rfl rfl (zN rfl rfl rfl) (zg rfl rfl (zn rfl rfl) (zg rfl rfl (zn rfl rfl) (zg rfl rfl (zn rfl rfl) (zo (zf (zuy (zh (zg rfl rfl (zi rfl rfl) ?_)))))))))))
 refine zg rfl rfl (je rfl rfl) (zg rfl rfl (zn rfl rfl) (zo (zf (zP ?_))))
 exact ⟨.inr rfl, AVle.refl _⟩
theorem zZM (m:Mp) (fine:Bool) (hb:(zNr m && fine) = false):ACall Tryz.prog G 23 [.agg (eMp m), .v (.bool fine)] (.v (.int .i64 2)):=by
 refine zS Tryz.func23 rfl (by kernel_rfl) rfl ?_
 refine zuy (zh (zg rfl rfl (jf rfl (zY rfl)) (zg rfl rfl (zn rfl rfl) (zo (zf (zuy (zuy (zh (zg rfl rfl (zZ rfl rfl zMg (by exact zLb rfl)) (zg rfl rfl (zy (av:=[_]) rfl ⟨rfl, trivial⟩ (f40 m)) (zg rfl rfl (je rfl rfl) ?_)))))))))))
 refine zg rfl rfl (zi rfl rfl) (zk rfl rfl rfl (fun hg=>zi rfl rfl) (zk rfl rfl rfl (fun hg=>je rfl (if_pos hg)) (zg rfl rfl (qU rfl rfl rfl rfl) (zo (zf (zx rfl (fun h0=>?_) (fun h0=>?_)))))))
 ·
  refine zuy (zh (zg rfl rfl (zn rfl rfl) (zo (zf (zP (zQ ?_))))))
  exact ⟨.inr rfl, AVle.refl _⟩
 ·
  exfalso; revert h0 hb; cases zNr m <;> cases fine <;> simp
theorem zZQ (m:Mp) (hm:okM m) (p:Nat × Nat) (hc:zH5 m = some p):ACall Tryz.prog G 23 [.agg (eMp m), .v (.bool true)] (.v (.int .i64 7)):=by
 have hb2:zNr m = true:=(zMw m).2 hm
 refine zS Tryz.func23 rfl (by kernel_rfl) rfl ?_
 refine zuy (zh (zg rfl rfl (jf rfl (zY rfl)) (zg rfl rfl (zn rfl rfl) (zo (zf (zuy (zuy (zh (zg rfl rfl (zZ rfl rfl zMg (by exact zLb rfl)) (zg rfl rfl (zy (av:=[_]) rfl ⟨rfl, trivial⟩ (f40 m)) (zg rfl rfl (je rfl rfl) ?_)))))))))))
 refine zg rfl rfl (zi rfl rfl) (zk rfl rfl rfl (fun hg=>zi rfl rfl) (zk rfl rfl rfl (fun hg=>je rfl (if_pos hg)) (zg rfl rfl (qU rfl rfl rfl rfl) (zo (zf (zx rfl (fun h0=>?_) (fun h0=>?_)))))))
 ·
  exfalso; simp [hb2] at h0
 ·
  refine zC (zf (zuy (zuy (zh (zg rfl rfl (zZ rfl rfl zMg (by exact zLb rfl)) (zg rfl rfl (zy (av:=[_]) rfl ⟨rfl, trivial⟩ (zYo m hm p hc)) (zg rfl rfl (je rfl rfl) (zo (zf (zx rfl (fun h1=>?_) (fun h1=>?_)))))))))))
  ·
   refine zuy (zh (zg rfl rfl (zn rfl rfl) (zo (zf (zP (zQ ?_))))))
   exact ⟨.inr rfl, AVle.refl _⟩
  ·
   exfalso; simp at h1
theorem z0d (m:Mp) (hm:okM m) (hc:zH5 m = none):ACall Tryz.prog G 23 [.agg (eMp m), .v (.bool true)] (.v (.int .i64 0)):=by
 have hb2:zNr m = true:=(zMw m).2 hm
 refine zS Tryz.func23 rfl (by kernel_rfl) rfl ?_
 refine zuy (zh (zg rfl rfl (jf rfl (zY rfl)) (zg rfl rfl (zn rfl rfl) (zo (zf (zuy (zuy (zh (zg rfl rfl (zZ rfl rfl zMg (by exact zLb rfl)) (zg rfl rfl (zy (av:=[_]) rfl ⟨rfl, trivial⟩ (f40 m)) (zg rfl rfl (je rfl rfl) ?_)))))))))))
 refine zg rfl rfl (zi rfl rfl) (zk rfl rfl rfl (fun hg=>zi rfl rfl) (zk rfl rfl rfl (fun hg=>je rfl (if_pos hg)) (zg rfl rfl (qU rfl rfl rfl rfl) (zo (zf (zx rfl (fun h0=>?_) (fun h0=>?_)))))))
 ·
  exfalso; simp [hb2] at h0
 ·
  refine zC (zf (zuy (zuy (zh (zg rfl rfl (zZ rfl rfl zMg (by exact zLb rfl)) (zg rfl rfl (zy (av:=[_]) rfl ⟨rfl, trivial⟩ (zYv m hm hc)) (zg rfl rfl (je rfl rfl) (zo (zf (zx rfl (fun h1=>?_) (fun h1=>?_)))))))))))
  ·
   exfalso; simp at h1
  ·
   refine zC (zf (zuy (zh (zg rfl rfl (zn rfl rfl) (zo (zf (zP ?_)))))))
   exact ⟨.inr rfl, AVle.refl _⟩
theorem f20 (m:Mp):ACall Tryz.prog G 20 [.agg (eMp m)] (.v (.bool (decide ((m.st.length:Int) <= 16)))):=by
 refine zS Tryz.func20 rfl (by kernel_rfl) rfl ?_
 refine zuy (zh (zg rfl rfl (jf rfl (zY rfl)) (zg rfl rfl (zn rfl rfl) (zo (zf (zuy (zh (zg rfl rfl (zu rfl rfl zHN) (zg rfl rfl (zA rfl rfl rfl zah) (zg rfl rfl (qh rfl rfl rfl Tryz.underlying22) (zg rfl rfl (zaq rfl rfl rfl) ?_)))))))))))
 refine zg rfl rfl (zn rfl rfl) (zo (zf (zP ?_)))
 exact ⟨.inr rfl, AVle.of (by simp)⟩
end Go.Av
end
section
namespace Go.Av
open Go.Proofs
set_option maxRecDepth 100000
set_option maxHeartbeats 1000000
variable {G:Glob}
def KN (G:Glob):Prop:=ACall Tryz.prog G 21 [] (.v (.bool true))
theorem zZW (f:Fld) (hf:f.vals.length <= 1000):ACall Tryz.prog G 24 [.agg (zHF f), .agg [.v (.int .i64 0), .v (.slice none 0 0)]] (.v (.bool (zRd f zVY))):=
 (f24 (G:=G) f zVY hf (by simp [zVY])).sub ⟨_, _, rfl, AVle.refl _, _, _, rfl, AVle.agg ⟨_, _, rfl, AVle.refl _, _, _, rfl, AVle.nil, rfl⟩, rfl⟩ (AVle.refl _)
theorem zZm:zRd zVY zVY = true:=by simp [zRd]
theorem zZl (f:Fld):zRd f f = true:=by simp [zRd]
theorem zZS (m:Mp):zNr m = false ∨ (okM m /\ ((∃ p, zH5 m = some p) ∨ zH5 m = none)):=by
 cases hb:zNr m with
 | false=>exact .inl rfl
 | true=>
  refine .inr ⟨(zMw m).1 hb, ?_⟩
  cases hc:zH5 m with
  | none=>exact .inr rfl
  | some p=>exact .inl ⟨p, rfl⟩
end Go.Av
end
