import Derived.Test.YtdjncbjfejdamaaGreatDoorChM
set_option linter.unusedVariables false
set_option linter.unusedSimpArgs false
section
namespace Go.Av
open Go.Proofs
set_option maxRecDepth 100000
set_option maxHeartbeats 1000000
variable {G:Glob}
end Go.Av
end
section
namespace Go.Av
open Go.Proofs
set_option maxRecDepth 100000
set_option maxHeartbeats 1000000
variable {G:Glob}
def zR1 (w p:Int) (c:Bool) (q:Nat):Bool:=(dist w p (q:Int) == 1) || (((c && (dist w p (q:Int) == 2)) && (p / w != (q:Int) / w)) && (p % w != (q:Int) % w))
def nbs (w r p:Int) (c:Bool):List Nat:=(List.range (w * r).toNat).filter (zR1 w p c)
def nbQ (w r p:Int) (c:Bool):List (List AV):=(nbs w r p c).map fun (q:Nat)=>[ei (q:Int)]
def zfo (f:Nat -> Bool) (k:Nat):Nat:=((List.range k).filter f).length
theorem zgP (f:Nat -> Bool) (k:Nat):zfo f (k + 1) = if f k then zfo f k + 1 else zfo f k:=by
 unfold zfo
 rw [List.range_succ, List.filter_append]
 cases h:f k <;> simp [h]
theorem zmZ {f:Nat -> Bool}:∀ {n k:Nat}, k < n -> f k = true -> ((List.range n).filter f)[zfo f k]? = some k:=by
 intro n
 induction n with
 | zero=>intro k h; omega
 | succ n ih=>
  intro k hk hf
  rw [List.range_succ, List.filter_append]
  by_cases h:k < n
  ·
   rw [List.getElem?_append_left]
   ·
    exact ih h hf
   ·
    have:=ih h hf
    exact (zLg this).1
  ·
   have:k = n:=by omega
   subst this
   rw [List.getElem?_append_right (by unfold zfo; omega)]
   simp [zfo, hf]
theorem zQd {w r p:Int} {c:Bool} {k:Nat} (hk:k < (w * r).toNat) (hb:zR1 w p c k = true):(nbQ w r p c)[zfo (zR1 w p c) k]? = some [ei (k:Int)]:=by
 unfold nbQ nbs
 rw [List.getElem?_map, zmZ hk hb]
 rfl
theorem zPv {w r p:Int} {c:Bool}:(nbQ w r p c).length = zfo (zR1 w p c) (w * r).toNat:=by simp [nbQ, nbs, zfo]
theorem zPD {w r p:Int} {c:Bool} {q:Nat}:q ∈ nbs w r p c ↔ q < (w * r).toNat /\ zR1 w p c q = true:=by simp [nbs]
theorem zla {P:Program} {C:Cx P G} {ph:Ph} {st st':ASt} {Q:Exit -> Ph -> ASt -> Prop} (hw:Weak st st') {c:Code} (h:vY C c ph st' Q):vY C c ph st Q:=fun w0 ok0 a w hc hs=>h w0 ok0 a w hc (hw w0 ok0 a w hs)
theorem zQN (w r p:Int) (c:Bool) (hw:1 <= w /\ w <= 6) (hr:1 <= r /\ r <= 5) (hp:0 <= p /\ p <= 30):zlr Tryz.prog G 118 [] [.ptr (zId w r), .ptr [ei p], .ptr [.v (.bool c)]] (nbQ w r p c):=by
 have har:=area hw.1 hw.2 hr.1 hr.2
 have hN:((w * r).toNat:Int) = w * r:=by omega
 obtain ⟨N, hNe⟩:∃ N, N = (w * r).toNat:=⟨_, rfl⟩
 rw [← hNe] at hN
 refine zp5 (qs:=(nbQ w r p c)) Tryz.func118 rfl (by kernel_rfl) rfl rfl (fun C hC=>?_)
 refine zcv ?_
 refine zgy ?_
 refine zh (zg rfl rfl (zu rfl rfl zIp) (zg rfl rfl (zA rfl rfl rfl ty3) (zg rfl rfl (zu rfl rfl zJ3) (zg rfl rfl (zA rfl rfl rfl ty3) (zg rfl rfl (zcY rfl rfl rfl ⟨(by omega), (by omega)⟩) (zg rfl rfl (zi rfl rfl) (zo ?_)))))))
 refine vT ?_
 refine ziI ?_
 refine zp1 (ι:={ k:Nat // k <= N }) (fun k=>⟨Tryz.f118.ntmps, frL [(0, .pub (.v (.func (.yield C.l) #[] #[]))), (1, .pub (.ptr (zId w r))), (2, .pub (.ptr [ei p])), (3, .pub (.ptr [.v (.bool c)])), (12, I (w * r)), (13, I (k.1:Int))], []⟩) (fun k=>.on (zfo (zR1 w p c) k.1)) (fun k=>N - k.1) (⟨0, by omega⟩) rfl ?_ ?_
 ·
  exact zt _ ⟨rfl, rfl, rfl, rfl, rfl, rfl, trivial⟩ (rfl)
 ·
  rintro ⟨k, hk⟩
  dsimp only
  refine zcv ?_
  refine zgy ?_
  refine zh (zg rfl rfl (qi rfl rfl rfl) (zo ?_))
  refine vT ?_
  refine zcv ?_
  refine zes rfl (fun h0=>?_) (fun h0=>?_)
  ·
   have hlt:k < N:=by simp at h0; omega
   refine zhp ?_
   refine vT ?_
   refine zcv ?_
   refine ziI ?_
   refine zcv ?_
   refine zgy ?_
   refine zh (zg rfl rfl (zi rfl rfl) (zg rfl rfl (zn rfl rfl) (zo ?_)))
   refine vT ?_
   refine zcv ?_
   refine zgy ?_
   refine zh (zg rfl rfl (zZ rfl rfl zIO (by exact zLb rfl)) (zg rfl rfl (zA rfl rfl rfl ty3) (zg rfl rfl (zi rfl rfl) (zg rfl rfl (zy (av:=[_, _, _]) rfl ⟨rfl, rfl, rfl, trivial⟩ (f119 w r p (k:Int) (by omega) (by omega) (by omega))) (zg rfl rfl (zn rfl rfl) (zo ?_))))))
   refine vT ?_
   refine zcv ?_
   refine zgy ?_
   refine qY mixed (by kernel_rfl) rfl ?_
   refine zH rfl (zi rfl rfl) (zH rfl (qJ rfl rfl rfl) (zH rfl (zi rfl rfl) (jm rfl (fun hg=>zA rfl rfl rfl ty4) (jm rfl (fun hg=>zi rfl (if_pos hg)) (jm (jH rfl rfl rfl) (fun hg=>zi rfl rfl) (jm (jH rfl rfl rfl) (fun hg=>qJ rfl (if_pos hg) rfl) (jm rfl (fun hg=>qI rfl (if_pos hg) (zha hg) rfl) (jm rfl (fun hg=>zi rfl (if_pos hg)) (jm (jH rfl rfl rfl) (fun hg=>zZ rfl rfl zIO (by exact zLb rfl)) (jm (jH rfl rfl rfl) (fun hg=>zA rfl rfl rfl ty3) (jm (jH rfl rfl rfl) (fun hg=>zy (av:=[_, _]) rfl ⟨((if_pos hg)), ((if_pos hg)), trivial⟩ (f120 w r p (by omega) (by omega))) ?_)))))))))))
   refine jm (jH rfl rfl rfl) (fun hg=>zZ rfl rfl zIO (by exact zLb rfl)) (jm (jH rfl rfl rfl) (fun hg=>zi rfl rfl) (jm (jH rfl rfl rfl) (fun hg=>zy (av:=[_, _]) rfl ⟨((if_pos hg)), ((if_pos hg)), trivial⟩ (f120 w r (k:Int) (by omega) (by omega))) (jm (jH rfl rfl rfl) (fun hg=>vg rfl (if_pos hg) (if_pos hg)) (jm rfl (fun hg=>qI rfl (if_pos hg) (zha hg) rfl) (jm rfl (fun hg=>zi rfl (if_pos hg)) (jm (jH rfl rfl rfl) (fun hg=>zZ rfl rfl zIO (by exact zLb rfl)) (jm (jH rfl rfl rfl) (fun hg=>zA rfl rfl rfl ty3) (jm (jH rfl rfl rfl) (fun hg=>zy (av:=[_, _]) rfl ⟨((if_pos hg)), ((if_pos hg)), trivial⟩ (f121 w r p (by omega) (by omega))) (jm (jH rfl rfl rfl) (fun hg=>zZ rfl rfl zIO (by exact zLb rfl)) (jm (jH rfl rfl rfl) (fun hg=>zi rfl rfl) (jm (jH rfl rfl rfl) (fun hg=>zy (av:=[_, _]) rfl ⟨((if_pos hg)), ((if_pos hg)), trivial⟩ (f121 w r (k:Int) (by omega) (by omega))) ?_)))))))))))
   refine jm (jH rfl rfl rfl) (fun hg=>vg rfl (if_pos hg) (if_pos hg)) (jm rfl (fun hg=>qI rfl (if_pos hg) (zha hg) rfl) (zH rfl (qU rfl rfl rfl rfl) (zH rfl (zn rfl rfl) (jw ?_))))
   refine vT ?_
   refine zcv ?_
   cases hb:zR1 w p c k with
   | false=>
    refine zla (zt (mem':=[]) [(0, .pub (.v (.func (.yield C.l) #[] #[]))), (1, .pub (.ptr (zId w r))), (2, .pub (.ptr [ei p])), (3, .pub (.ptr [.v (.bool c)])), (12, I (w * r)), (5, I (k:Int)), (7, B false), (13, I (k:Int))] ⟨rfl, rfl, rfl, rfl, rfl, rfl, congrArg B hb, rfl, trivial⟩ rfl) ?_
    refine zgf ?_
    refine zjW rfl rfl (zi rfl rfl) ?_
    refine zjW rfl rfl (zi rfl rfl) ?_
    refine yR (x:=.pub .top) rfl rfl rfl (fun h=>absurd h (by decide)) ?_
    refine yR (x:=.pub .top) rfl rfl rfl (fun h=>absurd h (by decide)) ?_
    refine zi6 (q:=[]) (c:=false) rfl rfl rfl rfl (fun h=>absurd h (by decide)) (fun h=>absurd h (by decide)) (fun h=>absurd h (by decide)) rfl rfl rfl rfl rfl (fun _=>?_) (fun h=>absurd h (by decide)) (fun h=>absurd h (by decide))
    refine yR (x:=.pub .top) rfl rfl rfl (fun h=>absurd h (by decide)) ?_
    refine zjW rfl rfl (zU rfl rfl (fun h=>absurd h (by decide)) (fun _=>rfl)) ?_
    refine zkH ?_
    refine vT ?_
    refine zes (b:=false) rfl (fun h=>absurd h (by decide)) (fun _=>?_)
    refine zhp ?_
    refine zgg ?_
    refine vT ?_
    refine zgy ?_
    refine zh (zg rfl rfl (zV rfl rfl rfl ⟨(by omega), (by omega)⟩) (zg rfl rfl (zi rfl rfl) (zo ?_)))
    exact ⟨⟨k + 1, by omega⟩, by dsimp only; omega, by simp only[zgP, hb]; rfl, zt _ ⟨rfl, rfl, rfl, rfl, rfl, rfl, trivial⟩ rfl⟩
   | true=>
    refine zla (zt (mem':=[]) [(0, .pub (.v (.func (.yield C.l) #[] #[]))), (1, .pub (.ptr (zId w r))), (2, .pub (.ptr [ei p])), (3, .pub (.ptr [.v (.bool c)])), (12, I (w * r)), (5, I (k:Int)), (7, B true), (13, I (k:Int))] ⟨rfl, rfl, rfl, rfl, rfl, rfl, congrArg B hb, rfl, trivial⟩ rfl) ?_
    refine zgf ?_
    refine zjW rfl rfl (zi rfl rfl) ?_
    refine zjW rfl rfl (zi rfl rfl) ?_
    refine yR rfl rfl rfl (fun _=>zi rfl rfl) ?_
    refine yR rfl rfl rfl (fun _=>zi rfl rfl) ?_
    refine zi6 (q:=[ei (k:Int)]) (c:=true) rfl rfl rfl rfl (fun _=>rfl) (fun _=>rfl) (fun _=>by rw [hC]; exact zQd (by omega) hb) rfl rfl rfl rfl rfl (fun h=>absurd h (by decide)) (fun _=>?_) (fun _=>?_)
    ·
     refine yR rfl rfl rfl (fun _=>je rfl rfl) ?_
     refine zjW rfl rfl (zU rfl rfl (fun _=>rfl) (fun h=>absurd h (by decide))) ?_
     refine zkH ?_
     refine vT ?_
     refine zes (b:=false) rfl (fun h=>absurd h (by decide)) (fun _=>?_)
     refine zhp ?_
     refine zgg ?_
     refine vT ?_
     refine zgy ?_
     refine zh (zg rfl rfl (zV rfl rfl rfl ⟨(by omega), (by omega)⟩) (zg rfl rfl (zi rfl rfl) (zo ?_)))
     exact ⟨⟨k + 1, by omega⟩, by dsimp only; omega, by simp only[zgP, hb]; rfl, zt _ ⟨rfl, rfl, rfl, rfl, rfl, rfl, trivial⟩ rfl⟩
    ·
     refine yR rfl rfl rfl (fun _=>je rfl rfl) ?_
     refine zjW rfl rfl (zU rfl rfl (fun _=>rfl) (fun h=>absurd h (by decide))) ?_
     refine zkH ?_
     refine vT ?_
     refine zes (b:=true) rfl (fun _=>?_) (fun h=>absurd h (by decide))
     refine zrT ?_
     refine zo1 ?_
     refine zoe ?_
     refine zoe ?_
     refine zo1 ?_
     exact ⟨.inr rfl, rfl, .inr ⟨_, rfl⟩⟩
  ·
   have hge:N <= k:=by simp at h0; omega
   refine zpr ?_
   refine zlv ?_
   refine zlv ?_
   refine zqj ?_
   exact ⟨.inl rfl, rfl, .inl (by rw [zPv, ← hNe, show N = k from by omega])⟩
theorem f69 (w r p:Int) (c:Bool):ACall Tryz.prog G 69 [.agg (zId w r), .v (.int .i64 p), .v (.bool c)] (.fn 118 [] [.ptr (zId w r), .ptr [ei p], .ptr [.v (.bool c)]]):=by
 refine zS Tryz.func69 rfl (by kernel_rfl) rfl ?_
 refine zuy (zh (zg rfl rfl (jf rfl (zY rfl)) (zg rfl rfl (jf (cs:=[_]) rfl (jF rfl)) (zg rfl rfl (jf (cs:=[_]) rfl (jF rfl)) (zg rfl rfl (zn rfl rfl) (zo (zf (zuy (zh (zg rfl rfl (zcA (fs:=[]) (cs:=[_, _, _]) rfl rfl rfl) (zg rfl rfl (zW rfl rfl) ?_)))))))))))
 refine zo (zf (zP ?_))
 exact ⟨.inr rfl, AVle.refl _⟩
end Go.Av
end
section
namespace Go.Av
open Go.Proofs
set_option maxRecDepth 100000
set_option maxHeartbeats 1000000
variable {G:Glob}
theorem zKT {f:Fld} (hs:zH2 f = true):1 <= f.wide /\ f.wide <= 6 /\ 1 <= rowsOf f /\ rowsOf f <= 5 /\ (f.vals.length:Int) = f.wide * rowsOf f:=by
 unfold zH2 at hs
 simp only[zLa, beq_iff_eq] at hs
 obtain ⟨h1, h2, h3⟩:=hs
 have h1:=zdh.1 h1
 have h3:=zdh.1 h3
 have:=Int.mul_ediv_add_emod (f.vals.length:Int) f.wide
 unfold rowsOf
 exact ⟨h1.1, h1.2, h3.1, h3.2, by omega⟩
end Go.Av
end
section
namespace Go.Av
open Go.Proofs
set_option maxRecDepth 100000
set_option maxHeartbeats 1000000
variable {G:Glob}
end Go.Av
end
