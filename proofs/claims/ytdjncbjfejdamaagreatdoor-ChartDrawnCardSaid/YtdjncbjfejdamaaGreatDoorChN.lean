import Derived.Test.YtdjncbjfejdamaaGreatDoorChM
set_option linter.unusedVariables false
set_option linter.unusedSimpArgs false
section
namespace Go.Av
open Go.Proofs
set_option maxRecDepth 100000
set_option maxHeartbeats 1000000
variable {G:Glob}
def zvW (f:Fld) (s:Stn):Bool:=!inB (f.vals.getD s.pt.toNat 0) s.lo s.hi
theorem f104 (f:Fld) (s:Stn) (hp:0 <= s.pt) (hpt:s.pt.toNat < f.vals.length):ACall Tryz.prog G 104 [.agg (zIW s), .ptr (zHF f)] (.v (.bool (zvW f s))):=by
 refine zS Tryz.func104 rfl (by kernel_rfl) rfl ?_
 refine zuy (zh (zg rfl rfl (jf rfl (zY rfl)) ?_))
 first | refine zg rfl rfl (zn rfl rfl) ?_ | refine zg rfl rfl (zW rfl rfl) ?_ | refine zg rfl rfl (qo rfl rfl) ?_ | refine zg rfl rfl (qV rfl rfl) ?_
 refine zo (zf (zuy ?_))
 refine qY mixed (by kernel_rfl) rfl ?_
 first | refine zH rfl (zu rfl rfl zHx) ?_ | refine zH rfl (qE rfl rfl rfl rfl zHx) ?_
 first | refine zH rfl (zA rfl rfl rfl zHR) ?_ | refine zH rfl (zK rfl rfl rfl rfl rfl rfl zHR) ?_
 first | refine zH rfl (zu rfl rfl zIq) ?_ | refine zH rfl (qE rfl rfl rfl rfl zIq) ?_
 first | refine zH rfl (zA rfl rfl rfl ty3) ?_ | refine zH rfl (zK rfl rfl rfl rfl rfl rfl ty3) ?_
 first | refine zH rfl (zG rfl rfl rfl zIz (by omega) (by simp [hpt]; rfl) jC) ?_ | refine zH rfl (qc rfl rfl rfl rfl rfl zIz (by omega) (by simp [hpt]; rfl) jC) ?_
 first | refine zH rfl (zA rfl rfl rfl ty3) ?_ | refine zH rfl (zK rfl rfl rfl rfl rfl rfl ty3) ?_
 first | refine zH rfl (zu rfl rfl zHJ) ?_ | refine zH rfl (qE rfl rfl rfl rfl zHJ) ?_
 first | refine zH rfl (zu rfl rfl zHY) ?_ | refine zH rfl (qE rfl rfl rfl rfl zHY) ?_
 first | refine zH rfl (zA rfl rfl rfl ty3) ?_ | refine zH rfl (zK rfl rfl rfl rfl rfl rfl ty3) ?_
 first | refine zH rfl (zu rfl rfl zHJ) ?_ | refine zH rfl (qE rfl rfl rfl rfl zHJ) ?_
 first | refine zH rfl (zu rfl rfl zHX) ?_ | refine zH rfl (qE rfl rfl rfl rfl zHX) ?_
 first | refine zH rfl (zA rfl rfl rfl ty3) ?_ | refine zH rfl (zK rfl rfl rfl rfl rfl rfl ty3) ?_
 refine zH rfl (zy (av:=[_, _, _]) rfl ⟨rfl, rfl, rfl, trivial⟩ (f68 _ _ _)) (zH rfl (je rfl rfl) ?_)
 first | refine zH rfl (zn rfl rfl) ?_ | refine zH rfl (zW rfl rfl) ?_ | refine zH rfl (qo rfl rfl) ?_ | refine zH rfl (qV rfl rfl) ?_
 refine jw (zf (zP ?_))
 exact ⟨.inr rfl, AVle.of (by unfold zvW; rw [getD_at hpt])⟩
end Go.Av
end
section
namespace Go.Av
open Go.Proofs
set_option maxRecDepth 100000
set_option maxHeartbeats 1000000
variable {G:Glob}
def zR1 (w p:Int) (c:Bool) (q:Nat):Bool:=(dist w p (q:Int) == 1) || (((c && (dist w p (q:Int) == 2)) && (p / w != (q:Int) / w)) && (p % w != (q:Int) % w))
def nbs (w r p:Int) (c:Bool):List Nat:=(List.range (w * r).toNat).filter (zR1 w p c)
def nbQ (w r p:Int) (c:Bool):List (List AV):=(nbs w r p c).map fun (q:Nat)=>[ei (q:Int)]
def zfo (f:Nat -> Bool) (k:Nat):Nat:=((List.range k).filter f).length
theorem zgP (f:Nat -> Bool) (k:Nat):zfo f (k + 1) = if f k then zfo f k + 1 else zfo f k:=by
 unfold zfo
 rw [List.range_succ, List.filter_append]
 cases h:f k <;> simp [h]
theorem zmZ {f:Nat -> Bool}:∀ {n k:Nat}, k < n -> f k = true -> ((List.range n).filter f)[zfo f k]? = some k:=by
 intro n
 induction n with
 | zero=>intro k h; omega
 | succ n ih=>
  intro k hk hf
  rw [List.range_succ, List.filter_append]
  by_cases h:k < n
  ·
   rw [List.getElem?_append_left]
   ·
    exact ih h hf
   ·
    have:=ih h hf
    exact (zLg this).1
  ·
   have:k = n:=by omega
   subst this
   rw [List.getElem?_append_right (by unfold zfo; omega)]
   simp [zfo, hf]
theorem zQd {w r p:Int} {c:Bool} {k:Nat} (hk:k < (w * r).toNat) (hb:zR1 w p c k = true):(nbQ w r p c)[zfo (zR1 w p c) k]? = some [ei (k:Int)]:=by
 unfold nbQ nbs
 rw [List.getElem?_map, zmZ hk hb]
 rfl
theorem zPv {w r p:Int} {c:Bool}:(nbQ w r p c).length = zfo (zR1 w p c) (w * r).toNat:=by simp [nbQ, nbs, zfo]
theorem zPD {w r p:Int} {c:Bool} {q:Nat}:q ∈ nbs w r p c ↔ q < (w * r).toNat /\ zR1 w p c q = true:=by simp [nbs]
theorem zla {P:Program} {C:Cx P G} {ph:Ph} {st st':ASt} {Q:Exit -> Ph -> ASt -> Prop} (hw:Weak st st') {c:Code} (h:vY C c ph st' Q):vY C c ph st Q:=fun w0 ok0 a w hc hs=>h w0 ok0 a w hc (hw w0 ok0 a w hs)
theorem zQN (w r p:Int) (c:Bool) (hw:1 <= w /\ w <= 6) (hr:1 <= r /\ r <= 5) (hp:0 <= p /\ p <= 30):zlr Tryz.prog G 118 [] [.ptr (zId w r), .ptr [ei p], .ptr [.v (.bool c)]] (nbQ w r p c):=by
 have har:=area hw.1 hw.2 hr.1 hr.2
 have hN:((w * r).toNat:Int) = w * r:=by omega
 obtain ⟨N, hNe⟩:∃ N, N = (w * r).toNat:=⟨_, rfl⟩
 rw [← hNe] at hN
 refine zp5 (qs:=(nbQ w r p c)) Tryz.func118 rfl (by kernel_rfl) rfl rfl (fun C hC=>?_)
 refine zcv ?_
 refine zgy ?_
 refine zh (zg rfl rfl (zu rfl rfl zIp) (zg rfl rfl (zA rfl rfl rfl ty3) (zg rfl rfl (zu rfl rfl zJ3) (zg rfl rfl (zA rfl rfl rfl ty3) (zg rfl rfl (zcY rfl rfl rfl ⟨(by omega), (by omega)⟩) (zg rfl rfl (zi rfl rfl) (zo ?_)))))))
 refine vT ?_
 refine ziI ?_
 refine zp1 (ι:={ k:Nat // k <= N }) (fun k=>⟨Tryz.f118.ntmps, frL [(0, .pub (.v (.func (.yield C.l) #[] #[]))), (1, .pub (.ptr (zId w r))), (2, .pub (.ptr [ei p])), (3, .pub (.ptr [.v (.bool c)])), (12, I (w * r)), (13, I (k.1:Int))], []⟩) (fun k=>.on (zfo (zR1 w p c) k.1)) (fun k=>N - k.1) (⟨0, by omega⟩) rfl ?_ ?_
 ·
  exact zt _ ⟨rfl, rfl, rfl, rfl, rfl, rfl, trivial⟩ (rfl)
 ·
  rintro ⟨k, hk⟩
  dsimp only
  refine zcv ?_
  refine zgy ?_
  refine zh (zg rfl rfl (zUB rfl rfl rfl) (zo ?_))
  refine vT ?_
  refine zcv ?_
  refine zes rfl (fun h0=>?_) (fun h0=>?_)
  ·
   have hlt:k < N:=by simp at h0; omega
   refine zhp ?_
   refine vT ?_
   refine zcv ?_
   refine ziI ?_
   refine zcv ?_
   refine zgy ?_
   refine zh (zg rfl rfl (zi rfl rfl) (zg rfl rfl (zn rfl rfl) (zo ?_)))
   refine vT ?_
   refine zcv ?_
   refine zgy ?_
   refine zh (zg rfl rfl (zZ rfl rfl zIO (by exact zLb rfl)) (zg rfl rfl (zA rfl rfl rfl ty3) (zg rfl rfl (zi rfl rfl) (zg rfl rfl (zy (av:=[_, _, _]) rfl ⟨rfl, rfl, rfl, trivial⟩ (f119 w r p (k:Int) (by omega) (by omega) (by omega))) (zg rfl rfl (zn rfl rfl) (zo ?_))))))
   refine vT ?_
   refine zcv ?_
   refine zgy ?_
   refine qY mixed (by kernel_rfl) rfl ?_
   refine zH rfl (zi rfl rfl) (zH rfl (qJ rfl rfl rfl) (zH rfl (zi rfl rfl) (jm rfl (fun hg=>zA rfl rfl rfl ty4) (jm rfl (fun hg=>zi rfl (if_pos hg)) (jm (jH rfl rfl rfl) (fun hg=>zi rfl rfl) (jm (jH rfl rfl rfl) (fun hg=>qJ rfl (if_pos hg) rfl) (jm rfl (fun hg=>qI rfl (if_pos hg) (zha hg) rfl) (jm rfl (fun hg=>zi rfl (if_pos hg)) (jm (jH rfl rfl rfl) (fun hg=>zZ rfl rfl zIO (by exact zLb rfl)) (jm (jH rfl rfl rfl) (fun hg=>zA rfl rfl rfl ty3) (jm (jH rfl rfl rfl) (fun hg=>zy (av:=[_, _]) rfl ⟨((if_pos hg)), ((if_pos hg)), trivial⟩ (f120 w r p (by omega) (by omega))) ?_)))))))))))
   refine jm (jH rfl rfl rfl) (fun hg=>zZ rfl rfl zIO (by exact zLb rfl)) (jm (jH rfl rfl rfl) (fun hg=>zi rfl rfl) (jm (jH rfl rfl rfl) (fun hg=>zy (av:=[_, _]) rfl ⟨((if_pos hg)), ((if_pos hg)), trivial⟩ (f120 w r (k:Int) (by omega) (by omega))) (jm (jH rfl rfl rfl) (fun hg=>vg rfl (if_pos hg) (if_pos hg)) (jm rfl (fun hg=>qI rfl (if_pos hg) (zha hg) rfl) (jm rfl (fun hg=>zi rfl (if_pos hg)) (jm (jH rfl rfl rfl) (fun hg=>zZ rfl rfl zIO (by exact zLb rfl)) (jm (jH rfl rfl rfl) (fun hg=>zA rfl rfl rfl ty3) (jm (jH rfl rfl rfl) (fun hg=>zy (av:=[_, _]) rfl ⟨((if_pos hg)), ((if_pos hg)), trivial⟩ (f121 w r p (by omega) (by omega))) (jm (jH rfl rfl rfl) (fun hg=>zZ rfl rfl zIO (by exact zLb rfl)) (jm (jH rfl rfl rfl) (fun hg=>zi rfl rfl) (jm (jH rfl rfl rfl) (fun hg=>zy (av:=[_, _]) rfl ⟨((if_pos hg)), ((if_pos hg)), trivial⟩ (f121 w r (k:Int) (by omega) (by omega))) ?_)))))))))))
   refine jm (jH rfl rfl rfl) (fun hg=>vg rfl (if_pos hg) (if_pos hg)) (jm rfl (fun hg=>qI rfl (if_pos hg) (zha hg) rfl) (zH rfl (qU rfl rfl rfl rfl) (zH rfl (zn rfl rfl) (jw ?_))))
   refine vT ?_
   refine zcv ?_
   cases hb:zR1 w p c k with
   | false=>
    refine zla (zt (mem':=[]) [(0, .pub (.v (.func (.yield C.l) #[] #[]))), (1, .pub (.ptr (zId w r))), (2, .pub (.ptr [ei p])), (3, .pub (.ptr [.v (.bool c)])), (12, I (w * r)), (5, I (k:Int)), (7, B false), (13, I (k:Int))] ⟨rfl, rfl, rfl, rfl, rfl, rfl, congrArg B hb, rfl, trivial⟩ rfl) ?_
    refine zgf ?_
    refine zjW rfl rfl (zi rfl rfl) ?_
    refine zjW rfl rfl (zi rfl rfl) ?_
    refine yR (x:=.pub .top) rfl rfl rfl (fun h=>absurd h (by decide)) ?_
    refine yR (x:=.pub .top) rfl rfl rfl (fun h=>absurd h (by decide)) ?_
    refine zi6 (q:=[]) (c:=false) rfl rfl rfl rfl (fun h=>absurd h (by decide)) (fun h=>absurd h (by decide)) (fun h=>absurd h (by decide)) rfl rfl rfl rfl rfl (fun _=>?_) (fun h=>absurd h (by decide)) (fun h=>absurd h (by decide))
    refine yR (x:=.pub .top) rfl rfl rfl (fun h=>absurd h (by decide)) ?_
    refine zjW rfl rfl (zU rfl rfl (fun h=>absurd h (by decide)) (fun _=>rfl)) ?_
    refine zkH ?_
    refine vT ?_
    refine zes (b:=false) rfl (fun h=>absurd h (by decide)) (fun _=>?_)
    refine zhp ?_
    refine zgg ?_
    refine vT ?_
    refine zgy ?_
    refine zh (zg rfl rfl (zV rfl rfl rfl ⟨(by omega), (by omega)⟩) (zg rfl rfl (zi rfl rfl) (zo ?_)))
    exact ⟨⟨k + 1, by omega⟩, by dsimp only; omega, by simp only[zgP, hb]; rfl, zt _ ⟨rfl, rfl, rfl, rfl, rfl, rfl, trivial⟩ rfl⟩
   | true=>
    refine zla (zt (mem':=[]) [(0, .pub (.v (.func (.yield C.l) #[] #[]))), (1, .pub (.ptr (zId w r))), (2, .pub (.ptr [ei p])), (3, .pub (.ptr [.v (.bool c)])), (12, I (w * r)), (5, I (k:Int)), (7, B true), (13, I (k:Int))] ⟨rfl, rfl, rfl, rfl, rfl, rfl, congrArg B hb, rfl, trivial⟩ rfl) ?_
    refine zgf ?_
    refine zjW rfl rfl (zi rfl rfl) ?_
    refine zjW rfl rfl (zi rfl rfl) ?_
    refine yR rfl rfl rfl (fun _=>zi rfl rfl) ?_
    refine yR rfl rfl rfl (fun _=>zi rfl rfl) ?_
    refine zi6 (q:=[ei (k:Int)]) (c:=true) rfl rfl rfl rfl (fun _=>rfl) (fun _=>rfl) (fun _=>by rw [hC]; exact zQd (by omega) hb) rfl rfl rfl rfl rfl (fun h=>absurd h (by decide)) (fun _=>?_) (fun _=>?_)
    ·
     refine yR rfl rfl rfl (fun _=>je rfl rfl) ?_
     refine zjW rfl rfl (zU rfl rfl (fun _=>rfl) (fun h=>absurd h (by decide))) ?_
     refine zkH ?_
     refine vT ?_
     refine zes (b:=false) rfl (fun h=>absurd h (by decide)) (fun _=>?_)
     refine zhp ?_
     refine zgg ?_
     refine vT ?_
     refine zgy ?_
     refine zh (zg rfl rfl (zV rfl rfl rfl ⟨(by omega), (by omega)⟩) (zg rfl rfl (zi rfl rfl) (zo ?_)))
     exact ⟨⟨k + 1, by omega⟩, by dsimp only; omega, by simp only[zgP, hb]; rfl, zt _ ⟨rfl, rfl, rfl, rfl, rfl, rfl, trivial⟩ rfl⟩
    ·
     refine yR rfl rfl rfl (fun _=>je rfl rfl) ?_
     refine zjW rfl rfl (zU rfl rfl (fun _=>rfl) (fun h=>absurd h (by decide))) ?_
     refine zkH ?_
     refine vT ?_
     refine zes (b:=true) rfl (fun _=>?_) (fun h=>absurd h (by decide))
     refine zrT ?_
     refine zo1 ?_
     refine zoe ?_
     refine zoe ?_
     refine zo1 ?_
     exact ⟨.inr rfl, rfl, .inr ⟨_, rfl⟩⟩
  ·
   have hge:N <= k:=by simp at h0; omega
   refine zpr ?_
   refine zlv ?_
   refine zlv ?_
   refine zqj ?_
   exact ⟨.inl rfl, rfl, .inl (by rw [zPv, ← hNe, show N = k from by omega])⟩
theorem f69 (w r p:Int) (c:Bool):ACall Tryz.prog G 69 [.agg (zId w r), .v (.int .i64 p), .v (.bool c)] (.fn 118 [] [.ptr (zId w r), .ptr [ei p], .ptr [.v (.bool c)]]):=by
 refine zS Tryz.func69 rfl (by kernel_rfl) rfl ?_
 refine zuy (zh (zg rfl rfl (jf rfl (zY rfl)) (zg rfl rfl (jf (cs:=[_]) rfl (jF rfl)) (zg rfl rfl (jf (cs:=[_]) rfl (jF rfl)) (zg rfl rfl (zn rfl rfl) (zo (zf (zuy (zh (zg rfl rfl (zcA (fs:=[]) (cs:=[_, _, _]) rfl rfl rfl) (zg rfl rfl (zW rfl rfl) ?_)))))))))))
 refine zo (zf (zP ?_))
 exact ⟨.inr rfl, AVle.refl _⟩
end Go.Av
end
section
namespace Go.Av
open Go.Proofs
set_option maxRecDepth 100000
set_option maxHeartbeats 1000000
variable {G:Glob}
def zUI (m:Mp) (f:Fld) (i q:Nat):Bool:=decide (m.slope < zSx (f.vals.getD i 0) (f.vals.getD q 0))
def zUJ (m:Mp) (f:Fld) (i:Nat):Bool:=(nbs m.wide m.rows (i:Int) false).any fun q=>zUI m f i q
def zUF (m:Mp) (f:Fld):Bool:=(rowsOf f == m.rows) && (f.wide == m.wide) && !(m.st.any (zvW f)) && !((List.range f.vals.length).any (zUJ m f))
theorem zVz {n k:Nat} {h:Nat -> Bool} (h0:∀ i < k, h i = false) (hn:n <= k):(List.range n).any h = false:=by
 rw [List.any_eq_false]
 intro x hx
 have:=h0 x (by have:=List.mem_range.1 hx; omega)
 simp [this]
theorem zVo {n k:Nat} {h:Nat -> Bool} (hk:k < n) (h0:h k = true):(List.range n).any h = true:=List.any_eq_true.2 ⟨k, List.mem_range.2 hk, h0⟩
theorem zVJ {w r p:Int} {c:Bool}:∀ q ∈ nbQ w r p c, q.length = 1:=fun q hq=>by
 obtain ⟨x, _, rfl⟩:=List.mem_map.1 hq; rfl
theorem zVB {w r p:Int} {c:Bool} {j:Nat} {q:List AV} (h:(nbQ w r p c)[j]? = some q):∃ x, (nbs w r p c)[j]? = some x /\ q = [ei (x:Int)]:=by
 unfold nbQ at h
 rw [List.getElem?_map] at h
 cases hx:(nbs w r p c)[j]? with
 | none=>rw [hx] at h; cases h
 | some x=>rw [hx] at h; injection h with h; exact ⟨x, rfl, h.symm⟩
theorem zVg {α:Type} {p:α -> Bool} {l:List α} {k:Nat} {x:α} (h:(l.take k).any p = false) (hk:l[k]? = some x) (hp:p x = false):(l.take (k + 1)).any p = false:=by
 have hlt:=(zLg hk).1
 have he:=(zLg hk).2
 rw [List.take_add_one, hk]; simp [h, hp]
theorem any_some {α:Type} {p:α -> Bool} {l:List α} {k:Nat} {x:α} (hk:l[k]? = some x) (hp:p x = true):l.any p = true:=List.any_eq_true.2 ⟨x, List.mem_of_getElem? hk, hp⟩
theorem zKT {f:Fld} (hs:zH2 f = true):1 <= f.wide /\ f.wide <= 6 /\ 1 <= rowsOf f /\ rowsOf f <= 5 /\ (f.vals.length:Int) = f.wide * rowsOf f:=by
 unfold zH2 at hs
 simp only[zLa, beq_iff_eq] at hs
 obtain ⟨h1, h2, h3⟩:=hs
 have h1:=zdh.1 h1
 have h3:=zdh.1 h3
 have:=Int.mul_ediv_add_emod (f.vals.length:Int) f.wide
 unfold rowsOf
 exact ⟨h1.1, h1.2, h3.1, h3.2, by omega⟩
theorem zVy {f:Fld} (hv:zJM f = true):∀ n ∈ f.vals, 0 <= n /\ n <= 99999:=fun n hn=>by
 unfold zJM at hv
 simp only[Bool.not_eq_true', List.any_eq_false] at hv
 exact zdh.1 (by have:=hv n hn; simpa using this)
theorem zUU {a b:Int}:zSx a b = zSx b a:=by unfold zSx; omega
theorem zVG (m:Mp) (f:Fld) (hl:f.vals.length <= 1000) (hs:zH2 f = true) (hv:zJM f = true) (hm:okM m):ACall Tryz.prog G 54 [.agg (eMp m), .agg (zHF f)] (.tup [.v (.bool (zUF m f)), ei 0]):=by
 have hsl:=zKT hs
 have hvb:=zVy hv
 have ho:=hm
 obtain ⟨m1, m2, m3, m4, m5, m6, m7, m8⟩:=ho
 have har:=area m1 m2 m3 m4
 refine zS Tryz.func54 rfl (by kernel_rfl) rfl ?_
 refine zuy (zh (zg rfl rfl (jf rfl (zY rfl)) (zg rfl rfl (jf rfl (zY rfl)) (jb rfl (wJ rfl rfl zv4 rfl rfl) (jb rfl (wJ rfl rfl zto rfl rfl) (zo (zf (zuy (zh (zg rfl rfl (zZ rfl rfl zHQ (by exact zLb rfl)) (zg rfl rfl (zy (av:=[_]) rfl ⟨rfl, trivial⟩ (zQm f hl hs)) ?_)))))))))))
 refine zg rfl rfl (zq rfl rfl) (zg rfl rfl (zN rfl rfl rfl) (zg rfl rfl (zN rfl rfl rfl) (zg rfl rfl (zn rfl rfl) (zg rfl rfl (zn rfl rfl) (zo (zf (zuy (zuy (zh (zg rfl rfl (zZ rfl rfl zMg (by exact zLb rfl)) (zg rfl rfl (zy (av:=[_]) rfl ⟨rfl, trivial⟩ (f99 m)) ?_)))))))))))
 refine zg rfl rfl (je rfl rfl) (zg rfl rfl (zi rfl rfl) (zk rfl rfl rfl (fun hg=>zi rfl rfl) (zk rfl rfl rfl (fun hg=>je rfl (if_pos hg)) (zg rfl rfl (qU rfl rfl rfl rfl) (zo (zf (zx rfl (fun h0=>?_) (fun h0=>?_))))))))
 ·
  exfalso; simp [hv, (zMw m).2 hm] at h0
 ·
  refine zC (zf (zuy (zuy (zh (zg rfl rfl (zu rfl rfl zHB) (zg rfl rfl (zA rfl rfl rfl ty3) (zg rfl rfl (zu rfl rfl zH6) (zg rfl rfl (zA rfl rfl rfl ty3) (zg rfl rfl (vg rfl rfl rfl) (zg rfl rfl (zi rfl rfl) (zk rfl rfl rfl (fun hg=>zi rfl rfl) ?_)))))))))))
  refine zk rfl rfl rfl (fun hg=>zu rfl rfl zI9) (zk rfl rfl rfl (fun hg=>zA rfl (if_pos hg) rfl ty3) (zk rfl rfl rfl (fun hg=>vg rfl (if_pos hg) (if_pos hg)) (zg rfl rfl (qU rfl rfl rfl rfl) (zo (zf (zx rfl (fun h1=>?_) (fun h1=>?_)))))))
  ·
   have hne:zUF m f = false:=by unfold zUF; simp at h0 h1; cases e1:(rowsOf f == m.rows) <;> cases e2:(f.wide == m.wide) <;> simp_all
   refine zuy (zh ?_)
   refine jb rfl (qG rfl rfl rfl rfl rfl rfl (jF rfl) ty4 (by rfl) (by exact zLb rfl)) ?_
   refine jb rfl (qG rfl rfl rfl rfl rfl rfl (jF rfl) zpZ (by rfl) (by exact zLb rfl)) ?_
   refine zo (zf (zP (zQ ?_)))
   exact ⟨.inr rfl, ⟨_, rfl, ⟨_, _, rfl, (zUC rfl rfl rfl rfl ty4 rfl (AVle.of (by rw [hne]))), ⟨_, _, rfl, (zUC rfl rfl rfl rfl zpZ rfl (AVle.refl _)), rfl⟩⟩⟩⟩
  ·
   have hsz:rowsOf f = m.rows /\ f.wide = m.wide:=by simp at h1; exact ⟨h1.2, h1.1⟩
   have hlen:(f.vals.length:Int) = m.wide * m.rows:=by rw [← hsz.1, ← hsz.2]; exact hsl.2.2.2.2
   refine zC (zf (zuy (zh (zg rfl rfl (zZ rfl rfl zMg (by exact zLb rfl)) (zg rfl rfl (zy (av:=[_]) rfl ⟨rfl, trivial⟩ (f100 m)) ?_)))))
   refine vI  rfl rfl rfl rfl rfl rfl rfl zM2 zIw rfl (by rfl) (zY rfl) rfl ?_
   refine zo (zf (zuy (zh (zg rfl rfl (zu rfl rfl zHN) (zg rfl rfl (zA rfl rfl rfl zah) (zg rfl rfl (zcA (fs:=[]) (cs:=[_]) rfl rfl rfl) ?_))))))
   refine zg rfl rfl (zy (av:=[_, _]) rfl ⟨rfl, rfl, trivial⟩ (f103 m.st (zvW f) 104 [] [.ptr (zHF f)] (by omega) (fun s hs=>f104 f s (by have:=m8 s hs; omega) (by have:=m8 s hs; omega)))) ?_
   refine zg rfl rfl (zq rfl rfl) (zg rfl rfl (zN rfl rfl rfl) (zg rfl rfl (zN rfl rfl rfl) ?_))
   refine vI  rfl rfl rfl rfl rfl rfl rfl zKF zIf rfl (by rfl) (zY rfl) rfl ?_
   refine zg rfl rfl (zn rfl rfl) (zo (zf (zuy (zuy (zh (zg rfl rfl (zi rfl rfl) (zo (zf (zx rfl (fun h2=>?_) (fun h2=>?_))))))))))
   ·
    have hne:zUF m f = false:=by unfold zUF; rw [h2]; simp
    refine zuy (zh ?_)
    refine jb rfl (qG rfl rfl rfl rfl rfl rfl (jF rfl) ty4 (by rfl) (by exact zLb rfl)) ?_
    refine jb rfl (qG rfl rfl rfl rfl rfl rfl (jF rfl) zpZ (by rfl) (by exact zLb rfl)) ?_
    refine zo (zf (zP (zQ ?_)))
    exact ⟨.inr rfl, ⟨_, rfl, ⟨_, _, rfl, (zUC rfl rfl rfl rfl ty4 rfl (AVle.of (by rw [hne]))), ⟨_, _, rfl, (zUC rfl rfl rfl rfl zpZ rfl (AVle.refl _)), rfl⟩⟩⟩⟩
   ·
    refine zC (zf (zuy (zuy (zh (zg rfl rfl (zu rfl rfl zHx) (zg rfl rfl (zA rfl rfl rfl zHR) (zg rfl rfl (qh rfl rfl rfl Tryz.underlying27) (zg rfl rfl (zi rfl rfl) (zo (zf (zB ?_)))))))))))
    refine qx zKV ?_
    refine qy (ι:={ k:Nat // k <= f.vals.length /\ ∀ i < k, zUJ m f i = false }) (fun k=>⟨(NS.of Tryz.f54.ntmps).marked, frL [(2, .pub (.ptr (eMp m))), (3, .pub (.ptr (zHF f))), (4, .pp 0 1 0 0), (5, .pp 1 1 0 0), (8, .pub (.ptr (zHt m))), (48, .pub (zO f.vals)), (49, I ((f.vals.map fun n=>[AV.v (.int .i64 n)]).length:Int)), (50, I (k.1:Int))], [.row [[B false]], .row [[I 0]]]⟩) (fun k=>f.vals.length - k.1) (⟨0, by omega, fun i h=>absurd h (by omega)⟩) ?_ ?_
    ·
     exact zt _ ⟨rfl, rfl, rfl, rfl, rfl, rfl, rfl, rfl, trivial⟩ (rfl)
    ·
     rintro ⟨k, hk⟩
     dsimp only
     refine zuy (zh (zg rfl rfl (zUB rfl rfl rfl) (zo (zf (zuy (zx rfl (fun h3=>?_) (fun h3=>?_)))))))
     ·
      have hlt:k < f.vals.length:=by simpa using h3
      have v1:=hvb _ (List.getElem_mem hlt)
      refine zC (zf (zuy (zB (zuy (zh (zg rfl rfl (zi rfl rfl) (zg rfl rfl (zG rfl rfl rfl zIz (by omega) (wu hlt) jC) (zg rfl rfl (zA rfl rfl rfl ty3) ?_))))))))
      refine zyM (cs:=[_]) rfl rfl rfl rfl rfl rfl rfl rfl (zn rfl rfl) rfl rfl rfl zv3 ty3 rfl (by rfl) (jF rfl) rfl ?_
      refine zo (zf (zuy (zh (zg rfl rfl (zu rfl rfl zKl) (zg rfl rfl (zZ rfl rfl zIO (by exact zLb rfl)) (zg rfl rfl (zi rfl rfl) (zg rfl rfl (zy (av:=[_, _, _]) rfl ⟨rfl, rfl, rfl, trivial⟩ (f69 m.wide m.rows (k:Int) false)) (zo (zf (zB ?_))))))))))
      refine zgY (qs:=nbQ m.wide m.rows (k:Int) false) [2, 3, 4, 5, 8, 48, 49, 50, 11, 12] (fun j=>((nbs m.wide m.rows (k:Int) false).take j).any (zUI m f k) = false) (fun j=>[.row [[B false]], .row [[I 0]]]) (by simp) rfl (zQN m.wide m.rows (k:Int) false (by omega) (by omega) (by omega)) rfl zVJ rfl rfl ?_ ?_
      ·
       intro j q gh lp hd1 hd2 hq hV
       obtain ⟨x, hx, rfl⟩:=zVB hq
       have hxm:=zPD.1 (List.mem_of_getElem? hx)
       have hxl:x < f.vals.length:=by omega
       have v2:=hvb _ (List.getElem_mem hxl)
       refine zh (zg rfl rfl (zn rfl rfl) (zo ?_))
       refine ⟨rfl, rfl, ?_⟩
       refine zB (zuy ?_)
       refine qY mixed (by kernel_rfl) rfl ?_
       refine zH rfl (zA rfl rfl rfl ty3) (zH rfl (zu rfl rfl zHx) (zH rfl (zA rfl rfl rfl zHR) (zH rfl (zi rfl rfl) (zH rfl (zG rfl rfl rfl zIz (by omega) (wu hxl) jC) (zH rfl (zA rfl rfl rfl ty3) (zH rfl (zy (av:=[_, _]) rfl ⟨rfl, rfl, trivial⟩ (f105 _ _ (by omega) (by omega))) (zH rfl (zu rfl rfl zI7) (zH rfl (zA rfl rfl rfl ty3) (zH rfl (qR rfl rfl rfl) (jw (zf (zx rfl (fun h4=>?_) (fun h4=>?_)))))))))))))
       ·
        have hfar:zUI m f k x = true:=by unfold zUI; rw [getD_at hlt, getD_at hxl]; simpa using h4
        have hne:zUF m f = false:=by unfold zUF; rw [zVo hlt (h:=zUJ m f) (any_some hx hfar)]; simp
        refine zuy (zh ?_)
        refine jb rfl (qG rfl rfl rfl rfl rfl rfl (jF rfl) ty4 (by rfl) (by exact zLb rfl)) ?_
        refine jb rfl (qG rfl rfl rfl rfl rfl rfl (jF rfl) zpZ (by rfl) (by exact zLb rfl)) ?_
        refine zo (zf (zP (qF ?_)))
        refine ⟨rfl, ?_⟩
        refine qF (qF (zQ (zQ (qF (zQ ?_)))))
        exact ⟨.inr rfl, ⟨_, rfl, ⟨_, _, rfl, (zUC rfl rfl rfl rfl ty4 rfl (AVle.of (by rw [hne]))), ⟨_, _, rfl, (zUC rfl rfl rfl rfl zpZ rfl (AVle.refl _)), rfl⟩⟩⟩⟩
       ·
        have hnf:zUI m f k x = false:=by unfold zUI; rw [getD_at hlt, getD_at hxl]; simpa using h4
        refine zC (zD ?_)
        exact ⟨rfl, zVg hV hx hnf, zt (mem':=[.row [[B false]], .row [[I 0]]]) [] trivial (rfl)⟩
      ·
       intro hVn
       have hnear:zUJ m f k = false:=by have h:=hVn; unfold nbQ at h; rw [List.length_map, List.take_length] at h; exact h
       refine zD (zD (zf (zh (zg rfl rfl (zV rfl rfl rfl ⟨(by omega), (by omega)⟩) (zg rfl rfl (zi rfl rfl) (zo ?_))))))
       exact ⟨⟨k + 1, by omega, fun i hi => by
               by_cases e:i = k
               ·
                subst e; exact hnear
               ·
                exact hk.2 i (by omega)⟩, by dsimp only; omega, zt _ ⟨rfl, rfl, rfl, rfl, rfl, rfl, rfl, rfl, trivial⟩ (rfl)⟩
     ·
      have hge:f.vals.length <= k:=by simpa using h3
      refine qp (zRQ (zRQ (qw (zf (zuy (zh ?_))))))
      refine jb rfl (qG rfl rfl rfl rfl rfl rfl (jF rfl) ty4 (by rfl) (by exact zLb rfl)) ?_
      refine jb rfl (qG rfl rfl rfl rfl rfl rfl (jF rfl) zpZ (by rfl) (by exact zLb rfl)) ?_
      refine zo (zf (zP ?_))
      exact ⟨.inr rfl, ⟨_, rfl, ⟨_, _, rfl, (zUC rfl rfl rfl rfl ty4 rfl (AVle.of (by rw [show zUF m f = true from by unfold zUF; rw [zVz hk.2 hge, h2]; simp [hsz]]))), ⟨_, _, rfl, (zUC rfl rfl rfl rfl zpZ rfl (AVle.refl _)), rfl⟩⟩⟩⟩
end Go.Av
end
section
namespace Go.Av
open Go.Proofs
set_option maxRecDepth 100000
set_option maxHeartbeats 1000000
variable {G:Glob}
theorem zUD (w a b:Int):dist w a b = dist w b a:=by unfold dist; rw [zUU, @zUU (a % w)]
theorem zUG (w a:Int):dist w a a = 0:=by unfold dist zSx; simp
theorem zVv {w p:Int} {q:Nat}:zR1 w p false q = (dist w p (q:Int) == 1):=by unfold zR1; simp
theorem zUY {m:Mp} {f:Fld} {i:Nat}:zUJ m f i = false ↔ ∀ q:Nat, q < (m.wide * m.rows).toNat -> dist m.wide (i:Int) (q:Int) = 1 -> zUI m f i q = false:=by
 unfold zUJ
 rw [List.any_eq_false]
 constructor
 ·
  intro h q hq hd
  have:=h q (zPD.2 ⟨hq, by rw [zVv, hd]; rfl⟩)
  simpa using this
 ·
  intro h q hq
  obtain ⟨h1, h2⟩:=zPD.1 hq
  rw [zVv, beq_iff_eq] at h2
  simpa using h q h1 h2
theorem zUQ {m:Mp} {f:Fld}:zUV m f = true ↔ ∀ i < f.vals.length, ∀ j < i, dist f.wide (i:Int) (j:Int) = 1 -> zUI m f i j = false:=by
 unfold zUV zVC zUI
 rw [List.all_eq_true]
 constructor
 ·
  intro h i hi j hj hd
  have:=List.all_eq_true.1 (h i (List.mem_range.2 hi)) j (List.mem_range.2 hj)
  simpa [hd] using this
 ·
  intro h i hi
  rw [List.all_eq_true]
  intro j hj
  have:=h i (List.mem_range.1 hi) j (List.mem_range.1 hj)
  by_cases hd:dist f.wide (i:Int) (j:Int) = 1
  ·
   have:=this hd; simpa [hd] using this
  ·
   simp [hd]
theorem zVi {m:Mp} {f:Fld} {i j:Nat}:zUI m f i j = zUI m f j i:=by unfold zUI; rw [zUU]
theorem zVs {m:Mp} {f:Fld} (hs:zH2 f = true):zUF m f = zUE m f:=by
 have hsl:=zKT hs
 have e1:(!(m.st.any (zvW f))) = zVd m f:=by
  unfold zVd zvW
  rw [Bool.eq_iff_iff]
  simp [List.any_eq_false, List.all_eq_true]
 by_cases hw:f.wide = m.wide
 ·
  by_cases hr:rowsOf f = m.rows
  ·
   have hlen:(f.vals.length:Int) = m.wide * m.rows:=by rw [← hw, ← hr]; exact hsl.2.2.2.2
   have hN:(m.wide * m.rows).toNat = f.vals.length:=by omega
   have e2:(!((List.range f.vals.length).any (zUJ m f))) = zUV m f:=by
    rw [Bool.eq_iff_iff, zUQ]
    simp only[Bool.not_eq_true', List.any_eq_false, List.mem_range]
    constructor
    ·
     intro h i hi j hj hd
     have:=zUY.1 (by have:=h i hi; simpa using this) j (by omega) (by rw [← hw]; exact hd)
     exact this
    ·
     intro h i hi
     have:zUJ m f i = false:=zUY.2 fun q hq hd=>by
      rw [hN] at hq
      rw [← hw] at hd
      rcases Nat.lt_trichotomy q i with h1 | h1 | h1
      ·
       exact h i hi q h1 hd
      ·
       subst h1; rw [zUG] at hd; omega
      ·
       rw [zVi]; exact h q hq i h1 (by rw [zUD]; exact hd)
     simpa using this
   unfold zUF zUE zUL
   rw [e1, e2, hw, hr, hlen]
   simp [Bool.and_comm]
  ·
   have:zUL m f = false:=by
    unfold zUL
    rw [hw]
    have:¬ (f.vals.length:Int) = m.wide * m.rows:=fun e=>hr (by
     rw [hsl.2.2.2.2, hw] at e
     exact Int.eq_of_mul_eq_mul_left (by omega) e)
    simp [this]
   unfold zUF zUE
   simp [this, hr]
 ·
  have:zUL m f = false:=by unfold zUL; simp [hw]
  unfold zUF zUE
  simp [this, hw]
theorem zUK (m:Mp) (f:Fld) (hl:f.vals.length <= 1000) (hm:okM m) (hf:zHz f = true):ACall Tryz.prog G 54 [.agg (eMp m), .agg (zHF f)] (.tup [.v (.bool (zUE m f)), ei 0]):=by
 unfold zHz at hf
 rw [zLa] at hf
 rw [← zVs hf.1]
 exact zVG m f hl hf.1 hf.2 hm
end Go.Av
end
