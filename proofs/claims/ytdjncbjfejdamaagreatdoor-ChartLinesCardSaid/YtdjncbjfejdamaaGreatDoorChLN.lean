/- ChartLines. -/
import Derived.Test.YtdjncbjfejdamaaGreatDoorChLM
import Derived.Test.YtdjncbjfejdamaaGreatDoorExG
import Derived.Test.YtdjncbjfejdamaaGreatDoorChP
set_option linter.unusedVariables false
set_option linter.unusedSimpArgs false
section
namespace Go.Av
open Go.Proofs
set_option maxRecDepth 100000
set_option maxHeartbeats 1000000
variable {G:Glob}
section
variable {fr:Nat -> EV} {mem:List PO} {o:Oper}
theorem zQZ {P:Program} {T U:TypeId} {x y:Operand} {l m:List Value} {r:Bool} (ho:o.op = .binOp .neq T x y U) (hx:evO fr x = .pub (.agg (l.map .v))) (hy:evO fr y = .pub (.agg (m.map .v)))
  (hg:∀ w, (eqGuard .neq T x y (.agg l.toArray) (.agg m.toArray)).run P w = .ok () w) (hb:∀ w, (binOp .neq T (.agg l.toArray) (.agg m.toArray)).run P w = .ok (.bool r) w):OpY P G fr mem o (.pub (.v (.bool r))):=
 jI fun ok bs w act _ _ hfit=>by
  have h1:=hfit x (by simp [ho, Op.operands])
  have h2:=hfit y (by simp [ho, Op.operands])
  rw [hx] at h1
  rw [hy] at h2
  simp only[FitsE] at h1 h2
  have e1:act.eval x = .agg l.toArray:=zMY (xs:=l) h1
  have e2:act.eval y = .agg m.toArray:=zMY (xs:=m) h2
  have h3:=hg w
  have h4:=hb w
  refine ⟨.bool r, ?_, by simp only[FitsE, Fits]; exact ⟨trivial, rfl⟩⟩
  simp only[execOp, ho, e1, e2, Sem.run_bind]
  rw [h3]
  simp only[Result.andThen_ok]
  rw [h4]
  rfl
theorem zO9 (a b:Cr) (w:World):(binOp .neq 50 (zHG a) (zHG b)).run Tryz.prog w = .ok (.bool (!(a == b))) w:=by
 have e4:=zMb a b w
 have e5:decide (b = a) = (a == b):=by rw [Bool.eq_iff_iff, decide_eq_true_iff, beq_iff_eq]; exact eq_comm
 rw [e5] at e4
 unfold zHG at e4 ⊢
 rw [run_neq_struct, e4]
 rfl
theorem zRk {x y:Operand} {U:TypeId} {a b:Cr} (ho:o.op = .binOp .neq 50 x y U) (hx:evO fr x = .pub (.agg (eCr a))) (hy:evO fr y = .pub (.agg (eCr b))):OpY Tryz.prog G fr mem o (.pub (.v (.bool (!(a == b))))):=
 zQZ (l:=[.int .i64 (a.1:Int), .int .i64 (a.2:Int)]) (m:=[.int .i64 (b.1:Int), .int .i64 (b.2:Int)]) ho hx hy (fun w=>run_eqGuard_agg w .neq 50 _ _ _ _ zNc) (zO9 a b)
end
theorem zSs {L:List (List Cr)} {k:Nat} (h:k < L.length):(L.map fun x=>[zHA x])[k]? = some [zHA L[k]]:=by simp [h]
theorem zNs {h:Nat -> Bool} {w r:Nat} (hw6:w <= 6) (hr:r <= 5) (hwr:w * r <= 30):(zHT h w r).length <= 930 /\ ∀ l ∈ zHT h w r, l.length <= 930:=by
 have hal:=zKi (h:=h) hwr
 have hG:=zMI (h:=h) hw6 hr
 have hp:=lines_perm (h:=h) (w:=w) (r:=r)
 have e:zJV h w r = (stM (nbC h w r) (zH1 h w r) 2).2:=rfl
 rw [e] at hp
 have hk:=zJ7 hG (m:=1) (by omega) (zH1 h w r).length
 rw [zKm (by omega)] at hk
 refine ⟨by rw [hp.length_eq]; exact Nat.le_trans hk.2.1 hal, fun l hl=>?_⟩
 have hl2:=hp.mem_iff.1 hl
 obtain ⟨h1, h2, _⟩:=zN4 (h:=h) hw6 hr
 rw [List.nodup_iff_pairwise_ne, List.pairwise_flatten] at h2
 exact Nat.le_trans (List.Nodup.length_le_of_subset (List.nodup_iff_pairwise_ne.2 (h2.1 l hl2)) fun x hx=>(h1 l hl2).sub x hx) (by omega)
theorem f30 (L:List (List Cr)) (hL:L.length <= 1000) (hl:∀ l ∈ L, l.length <= 1000):ACall Tryz.prog G 30 [zH7 L, zH7 L] (.v (.bool true)):=by
 refine zS Tryz.func30 rfl (by kernel_rfl) rfl ?_
 refine zuy (zh ?_)
 refine zg rfl rfl (zn rfl rfl) ?_
 refine zo (zf (zuy (zuy (zh ?_))))
 refine zg rfl rfl (zq rfl rfl) ?_
 refine zg rfl rfl (zuB rfl rfl Tryz.underlying37) ?_
 refine zg rfl rfl (zq rfl rfl) ?_
 refine zg rfl rfl (zuB rfl rfl Tryz.underlying37) ?_
 refine zg rfl rfl (vg rfl rfl rfl) ?_
 refine zo (zf (zx rfl (fun h0=>?_) (fun h0=>?_)))
 ·
  exfalso; simp at h0
 ·
  refine zC (zf (zuy (zuy (zh ?_))))
  refine zg rfl rfl (zn rfl rfl) ?_
  refine zo (zf (zB ?_))
  refine qy (ι:={ k:Nat // k <= L.length }) (fun k=>⟨Tryz.f30.ntmps, frL [(0, .pub (zH7 L)), (1, .pub (zH7 L)), (5, I (k.1:Int))], []⟩) (fun k=>L.length - k.1) (⟨0, by simp⟩) ?_ ?_
  ·
   exact zt _ ⟨rfl, rfl, rfl, trivial⟩ (rfl)
  ·
   rintro ⟨k, hk⟩
   dsimp only
   refine zuy (zuy (zh ?_))
   refine zg rfl rfl (zi rfl rfl) ?_
   refine zg rfl rfl (zq rfl rfl) ?_
   refine zg rfl rfl (zuB rfl rfl Tryz.underlying37) ?_
   refine zg rfl rfl (qi rfl rfl rfl) ?_
   refine zo (zf (zx rfl (fun h1=>?_) (fun h1=>?_)))
   ·
    have hlt:k < L.length:=by simpa using h1
    have hlk:=hl _ (List.getElem_mem hlt)
    refine zC (zf (zuy (zB (zuy (zuy ?_)))))
    refine qY mixed (by kernel_rfl) rfl ?_
    refine zH rfl (zq rfl rfl) ?_
    refine zH rfl (zi rfl rfl) ?_
    refine zH rfl (zG rfl rfl rfl zJQ (by omega) (zSs hlt) zIb) ?_
    refine zH rfl (zA rfl rfl rfl zKE) ?_
    refine zH rfl (zuB rfl rfl Tryz.underlying48) ?_
    refine zH rfl (zq rfl rfl) ?_
    refine zH rfl (zi rfl rfl) ?_
    refine zH rfl (zG rfl rfl rfl zJQ (by omega) (zSs hlt) zIb) ?_
    refine zH rfl (zA rfl rfl rfl zKE) ?_
    refine zH rfl (zuB rfl rfl Tryz.underlying48) ?_
    refine zH rfl (vg rfl rfl rfl) ?_
    refine jw (zf (zx rfl (fun h2=>?_) (fun h2=>?_)))
    ·
     exfalso; simp at h2
    ·
     refine zC (zf (zuy (zh ?_)))
     refine zg rfl rfl (zn rfl rfl) ?_
     refine zo (zf (zB ?_))
     refine qy (ι:={ j:Nat // j <= L[k].length }) (fun j=>⟨Tryz.f30.ntmps, frL [(0, .pub (zH7 L)), (1, .pub (zH7 L)), (5, I (k:Int)), (6, I (j.1:Int))], []⟩) (fun j=>L[k].length - j.1) (⟨0, by simp⟩) ?_ ?_
     ·
      exact zt _ ⟨rfl, rfl, rfl, rfl, trivial⟩ (rfl)
     ·
      rintro ⟨j, hj⟩
      dsimp only
      refine zuy (zuy (zh ?_))
      refine zg rfl rfl (zi rfl rfl) ?_
      refine zg rfl rfl (zq rfl rfl) ?_
      refine zg rfl rfl (zi rfl rfl) ?_
      refine zg rfl rfl (zG rfl rfl rfl zJQ (by omega) (zSs hlt) zIb) ?_
      refine zg rfl rfl (zA rfl rfl rfl zKE) ?_
      refine zg rfl rfl (zuB rfl rfl Tryz.underlying48) ?_
      refine zg rfl rfl (qi rfl rfl rfl) ?_
      refine zo (zf (zx rfl (fun h3=>?_) (fun h3=>?_)))
      ·
       have hlt2:j < L[k].length:=by simpa using h3
       refine zC (zf (zuy (zB (zuy ?_))))
       refine qY mixed (by kernel_rfl) rfl ?_
       refine zH rfl (zq rfl rfl) ?_
       refine zH rfl (zi rfl rfl) ?_
       refine zH rfl (zG rfl rfl rfl zJQ (by omega) (zSs hlt) zIb) ?_
       refine zH rfl (zA rfl rfl rfl zKE) ?_
       refine zH rfl (zi rfl rfl) ?_
       refine zH rfl (zG rfl rfl rfl zt9 (by omega) (zIU hlt2) zH4) ?_
       refine zH rfl (zZ rfl rfl zHs (by exact zLb rfl)) ?_
       refine zH rfl (zq rfl rfl) ?_
       refine zH rfl (zi rfl rfl) ?_
       refine zH rfl (zG rfl rfl rfl zJQ (by omega) (zSs hlt) zIb) ?_
       refine zH rfl (zA rfl rfl rfl zKE) ?_
       refine zH rfl (zi rfl rfl) ?_
       refine zH rfl (zG rfl rfl rfl zt9 (by omega) (zIU hlt2) zH4) ?_
       refine zH rfl (zZ rfl rfl zHs (by exact zLb rfl)) ?_
       refine zH rfl (zRk rfl rfl rfl) ?_
       refine jw (zf (zx rfl (fun h4=>?_) (fun h4=>?_)))
       ·
        exfalso; simp at h4
       ·
        refine zC (zD (zf (zh ?_)))
        refine zg rfl rfl (zi rfl rfl) ?_
        refine zg rfl rfl (zV rfl rfl rfl ⟨(by omega), (by omega)⟩) ?_
        refine zg rfl rfl (zn rfl rfl) ?_
        refine zo ?_
        exact ⟨⟨j + 1, by omega⟩, by dsimp only; omega, zt _ ⟨rfl, rfl, rfl, rfl, trivial⟩ (rfl)⟩
      ·
       have hge2:L[k].length <= j:=by simpa using h3
       refine qp (zRQ (zRQ (qw (zD (zf (zh ?_))))))
       refine zg rfl rfl (zi rfl rfl) ?_
       refine zg rfl rfl (zV rfl rfl rfl ⟨(by omega), (by omega)⟩) ?_
       refine zg rfl rfl (zn rfl rfl) ?_
       refine zo ?_
       exact ⟨⟨k + 1, by omega⟩, by dsimp only; omega, zt _ ⟨rfl, rfl, rfl, trivial⟩ (rfl)⟩
   ·
    have hge:L.length <= k:=by simpa using h1
    refine qp (zRQ (zRQ (qw (zf (zuy (zh ?_))))))
    refine zg rfl rfl (zn rfl rfl) ?_
    refine zo (zf (zP ?_))
    exact ⟨.inr rfl, AVle.refl _⟩
theorem zQe (hkn:KN GT) (f:Fld) (lvl:Int) (hl:¬ f.vals.length <= 40):ACall Tryz.prog GT 4 [.agg (zHF f), ei lvl] (.v (.bool true)):=by
 refine zS Tryz.func4 rfl (by kernel_rfl) rfl ?_
 refine zuy (zh ?_)
 refine zg rfl rfl (jf rfl (zY rfl)) ?_
 refine zg rfl rfl (zn rfl rfl) ?_
 refine zo (zf (zuy (zuy (zh ?_))))
 refine zg rfl rfl (zZ rfl rfl zHQ (by exact zLb rfl)) ?_
 refine zg rfl rfl (zy (av:=[_]) rfl ⟨rfl, trivial⟩ (f26 f)) ?_
 refine zg rfl rfl (je rfl rfl) ?_
 refine zo (zf (zx rfl (fun h0=>?_) (fun h0=>?_)))
 ·
  refine zuy (zh ?_)
  refine zg rfl rfl (zy (av:=[]) rfl trivial hkn) ?_
  refine zg rfl rfl (zn rfl rfl) ?_
  refine zo (zf (zP (zQ ?_)))
  exact ⟨.inr rfl, AVle.refl _⟩
 ·
  exfalso; simp at h0; omega
theorem zON (hkn:KN GT) (f:Fld) (lvl:Int) (hl:f.vals.length <= 40) (hb:zHz f = false ∨ inB lvl 1 99999 = false):ACall Tryz.prog GT 4 [.agg (zHF f), ei lvl] (.v (.bool true)):=by
 refine zS Tryz.func4 rfl (by kernel_rfl) rfl ?_
 refine zuy (zh ?_)
 refine zg rfl rfl (jf rfl (zY rfl)) ?_
 refine zg rfl rfl (zn rfl rfl) ?_
 refine zo (zf (zuy (zuy (zh ?_))))
 refine zg rfl rfl (zZ rfl rfl zHQ (by exact zLb rfl)) ?_
 refine zg rfl rfl (zy (av:=[_]) rfl ⟨rfl, trivial⟩ (f26 f)) ?_
 refine zg rfl rfl (je rfl rfl) ?_
 refine zo (zf (zx rfl (fun h0=>?_) (fun h0=>?_)))
 ·
  exfalso; simp at h0; omega
 ·
  refine zC (zf (zuy (zh ?_)))
  refine zg rfl rfl (zZ rfl rfl zHQ (by exact zLb rfl)) ?_
  refine zg rfl rfl (zi rfl rfl) ?_
  refine zg rfl rfl (zy (av:=[_, _]) rfl ⟨rfl, rfl, trivial⟩ (zOW f lvl (by omega) hb)) ?_
  refine zg rfl rfl (zq rfl rfl) ?_
  refine zg rfl rfl (zN rfl rfl rfl) ?_
  refine zg rfl rfl (zN rfl rfl rfl) ?_
  refine zg rfl rfl (zn rfl rfl) ?_
  refine zg rfl rfl (zn rfl rfl) ?_
  refine zo (zf (zuy (zuy (zh ?_))))
  refine zg rfl rfl (zZ rfl rfl zHQ (by exact zLb rfl)) ?_
  refine zg rfl rfl (zy (av:=[_]) rfl ⟨rfl, trivial⟩ (f28 f (by omega))) ?_
  refine zg rfl rfl (je rfl rfl) ?_
  refine zg rfl rfl (zi rfl rfl) ?_
  refine zk rfl rfl rfl (fun hg=>zi rfl rfl) ?_
  refine zk rfl rfl rfl (fun hg=>zy (av:=[_]) rfl ⟨(by exact if_pos hg), trivial⟩ (f29 lvl)) ?_
  refine zk rfl rfl rfl (fun hg=>je rfl (if_pos hg)) ?_
  refine zg rfl rfl (qU rfl rfl rfl rfl) ?_
  refine zo (zf (zx rfl (fun h1=>?_) (fun h1=>?_)))
  ·
   refine zuy (zh ?_)
   refine zg rfl rfl (zi rfl rfl) ?_
   refine zg rfl rfl (qJ rfl rfl rfl) ?_
   refine zg rfl rfl (zi rfl rfl) ?_
   refine zk rfl rfl rfl (fun hg=>zi rfl rfl) ?_
   refine zk rfl rfl rfl (fun hg=>zuA rfl (rfl) Tryz.underlying37) ?_
   refine zk rfl rfl rfl (fun hg=>qJ rfl (rfl) rfl) ?_
   refine zg rfl rfl (qI rfl rfl rfl rfl) ?_
   refine zg rfl rfl (zi rfl rfl) ?_
   refine zk rfl rfl rfl (fun hg=>zy (av:=[]) rfl trivial hkn) ?_
   refine zg rfl rfl (qI rfl rfl rfl rfl) ?_
   refine zg rfl rfl (zn rfl rfl) ?_
   refine zo (zf (zP (zQ ?_)))
   exact ⟨.inr rfl, AVle.refl _⟩
  ·
   exfalso; simp at h1; rcases hb with h | h <;> simp [h] at h1
theorem zRj (hkn:KN GT) (f:Fld) (lvl:Int) (hl:f.vals.length <= 40) (hf:zHz f = true) (hv:inB lvl 1 99999 = true):ACall Tryz.prog GT 4 [.agg (zHF f), ei lvl] (.v (.bool true)):=by
 obtain ⟨zw, w1, w6, r1, r5, hlen⟩:=zNh hf
 have hwr:=zKu w6 r5
 obtain ⟨b1, b2, b3⟩:=zJI hf
 have hLL:=zNs (h:=hiF f lvl) (w:=wF f) (r:=rF f) w6 r5 hwr
 have h31:=f31 (G:=GT) f lvl hf
 have h30:=f30 (G:=GT) (zHT (hiF f lvl) (wF f) (rF f)) (by omega) (fun l hl=>by have:=hLL.2 l hl; omega)
 refine zS Tryz.func4 rfl (by kernel_rfl) rfl ?_
 refine zuy (zh ?_)
 refine zg rfl rfl (jf rfl (zY rfl)) ?_
 refine zg rfl rfl (zn rfl rfl) ?_
 refine zo (zf (zuy (zuy (zh ?_))))
 refine zg rfl rfl (zZ rfl rfl zHQ (by exact zLb rfl)) ?_
 refine zg rfl rfl (zy (av:=[_]) rfl ⟨rfl, trivial⟩ (f26 f)) ?_
 refine zg rfl rfl (je rfl rfl) ?_
 refine zo (zf (zx rfl (fun h0=>?_) (fun h0=>?_)))
 ·
  exfalso; simp at h0; omega
 ·
  refine zC (zf (zuy (zh ?_)))
  refine zg rfl rfl (zZ rfl rfl zHQ (by exact zLb rfl)) ?_
  refine zg rfl rfl (zi rfl rfl) ?_
  refine zg rfl rfl (zy (av:=[_, _]) rfl ⟨rfl, rfl, trivial⟩ (zQD f lvl (by omega) hf hv)) ?_
  refine zg rfl rfl (zq rfl rfl) ?_
  refine zg rfl rfl (zN rfl rfl rfl) ?_
  refine zg rfl rfl (zN rfl rfl rfl) ?_
  refine zg rfl rfl (zW rfl rfl) ?_
  refine zg rfl rfl (zn rfl rfl) ?_
  refine zo (zf (zuy (zuy (zh ?_))))
  refine zg rfl rfl (zZ rfl rfl zHQ (by exact zLb rfl)) ?_
  refine zg rfl rfl (zy (av:=[_]) rfl ⟨rfl, trivial⟩ (f28 f (by omega))) ?_
  refine zg rfl rfl (je rfl rfl) ?_
  refine zg rfl rfl (zi rfl rfl) ?_
  refine zk rfl rfl rfl (fun hg=>zi rfl rfl) ?_
  refine zk rfl rfl rfl (fun hg=>zy (av:=[_]) rfl ⟨(by exact if_pos hg), trivial⟩ (f29 lvl)) ?_
  refine zk rfl rfl rfl (fun hg=>je rfl (if_pos hg)) ?_
  refine zg rfl rfl (qU rfl rfl rfl rfl) ?_
  refine zo (zf (zx rfl (fun h1=>?_) (fun h1=>?_)))
  ·
   exfalso; simp [hf, hv] at h1
  ·
   refine zC (zf (zuy (zh ?_)))
   refine zg rfl rfl (zi rfl rfl) ?_
   refine zg rfl rfl (qJ rfl rfl rfl) ?_
   refine zg rfl rfl (zi rfl rfl) ?_
   refine zk rfl rfl rfl (fun hg=>zq rfl rfl) ?_
   refine zk rfl rfl rfl (fun hg=>zZ rfl rfl zHQ (by exact zLb rfl)) ?_
   refine zk rfl rfl rfl (fun hg=>zi rfl rfl) ?_
   refine zk rfl rfl rfl (fun hg=>zy (av:=[_, _]) rfl ⟨(rfl), (rfl), trivial⟩ h31) ?_
   refine zk rfl rfl rfl (fun hg=>zy (av:=[_, _]) rfl ⟨(rfl), (rfl), trivial⟩ h30) ?_
   refine zg rfl rfl (qI rfl rfl rfl rfl) ?_
   refine zg rfl rfl (zi rfl rfl) ?_
   refine zk rfl rfl rfl (fun hg=>zy (av:=[]) rfl trivial hkn) ?_
   refine zg rfl rfl (qI rfl rfl rfl rfl) ?_
   refine zg rfl rfl (zn rfl rfl) ?_
   refine zo (zf (zP ?_))
   exact ⟨.inr rfl, AVle.refl _⟩
theorem f4 (hkn:KN GT) (f:Fld) (lvl:Int):ACall Tryz.prog GT 4 [.agg (zHF f), ei lvl] (.v (.bool true)):=by
 by_cases hl:f.vals.length <= 40
 ·
  cases hf:zHz f with
  | false=>exact zON hkn f lvl hl (.inl hf)
  | true=>
   cases hv:inB lvl 1 99999 with
   | false=>exact zON hkn f lvl hl (.inr hv)
   | true=>exact zRj hkn f lvl hl hf hv
 ·
  exact zQe hkn f lvl hl
end Go.Av
end
