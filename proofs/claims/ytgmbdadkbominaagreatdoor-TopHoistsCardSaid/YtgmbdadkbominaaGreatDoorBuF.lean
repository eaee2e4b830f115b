import Derived.Test.YtgmbdadkbominaaGreatDoorBuE
set_option linter.unusedVariables false
set_option linter.unusedSimpArgs false
section
namespace Go.Av
namespace Hs
open Go.Proofs
set_option maxRecDepth 100000
set_option maxHeartbeats 1000000
variable {G:Glob}
def xW (s:Sut) (n:Nat):List EV:=[I s.w.n, .psl 10 n, .pub (.sl (s.w.lnks.map eLnk)), .pub (.sl (s.w.prts.map ePrt)), I s.w.fall, I s.w.win, I s.w.hold, I s.w.dawn, I s.w.dusk]
def fM (s:Sut) (nd:Nat) (p:List Rep × List (List EV)):List PO:=[.dead, .dead, .dead, .row (zzP p.1), .map [], .row [zaV s p.1.length nd p.2.length], .row (List.replicate nd (mpR s)), .row (List.replicate nd shR), .row p.2, .row [xW s p.1.length], .row (zzP p.1)]
def gM (s:Sut) (nd:Nat) (p:List Rep × List (List EV)) (ds:List Int):List PO:=[.dead, .dead, .dead, .row (zzP p.1), .map [], .row [zaV s p.1.length nd p.2.length], .row (List.replicate nd (mpR s)), .row (List.replicate nd shR), .row p.2, .row [xW s p.1.length], .row (zzP p.1), .row (ds.map fun n=>[I n])]
theorem zCb (s:Sut) (nd:Nat) (reps:List Rep):[.dead, .dead, .dead, .row (zzP s.w.reps), .map [], .row [zaV s s.w.reps.length nd 0], .row (List.replicate nd (mpR s)), .row (List.replicate nd shR), .row [], .row [xW s ((s.w.reps.map eRep).map (·.map EV.pub)).length], .row ((s.w.reps.map eRep).map (·.map EV.pub))] = fM s nd (zzT s (reps.take 0)):=by
 have e1:(s.w.reps.map eRep).map (·.map EV.pub) = zzP s.w.reps:=by rw [List.map_map]; rfl
 rw [e1, zzU]; rfl
theorem zDb {s:Sut} {nd:Nat} {reps:List Rep} {a:Nat} (h:a < reps.length) (hn:zAh s (zzT s (reps.take a)) reps[a] = false):bX s (stp s (zzT s (reps.take a)) reps[a]).1 nd (stp s (zzT s (reps.take a)) reps[a]).2 (.row (List.replicate nd (mpR s))) (.row (List.replicate nd shR)) (.row [xW s (zzT s (reps.take a)).1.length]) (.row (zzP (zzT s (reps.take a)).1)) = fM s nd (zzT s (reps.take (a + 1))):=by
 rw [zAt h, zAL hn]; rfl
theorem zBK {s:Sut} {nd:Nat} {reps:List Rep} {a:Nat} (h:a < reps.length) (hn:zAh s (zzT s (reps.take a)) reps[a] = true):[.dead, .dead, .dead, .row (zzP (stp s (zzT s (reps.take a)) reps[a]).1), .map [], .row [zaV s (stp s (zzT s (reps.take a)) reps[a]).1.length nd (stp s (zzT s (reps.take a)) reps[a]).2.length], .row (List.replicate nd (mpR s)), .row (List.replicate nd shR), .row (stp s (zzT s (reps.take a)) reps[a]).2, .row [xW s ((zzT s (reps.take a)).1.length + 1)], .row (zzP (zzT s (reps.take a)).1 ++ [(eRep reps[a]).map .pub])] = fM s nd (zzT s (reps.take (a + 1))):=by
 have e1:(zzT s (reps.take a)).1.length + 1 = (stp s (zzT s (reps.take a)) reps[a]).1.length:=by rw [zAo hn]; simp
 have e2:zzP (zzT s (reps.take a)).1 ++ [(eRep reps[a]).map .pub] = zzP (stp s (zzT s (reps.take a)) reps[a]).1:=by rw [zAo hn]; simp [zzP]
 rw [e1, e2, zAt h]; rfl
theorem zB1 {l:List Rep} {k:Nat} (h:k < l.length):(zzP l)[k]? = some ((eRep l[k]).map .pub):=by simp [zzP, h]
theorem vWK {s:Sut} {rs:List Rep} {mem:List PO} {k:Nat} (h3:mem[k]? = some (.row (zzP rs))):zg5 mem [I s.w.n, .psl k rs.length, .pub (.sl (s.w.lnks.map eLnk)), .pub (.sl (s.w.prts.map ePrt)), I s.w.fall, I s.w.win, I s.w.hold, I s.w.dawn, I s.w.dusk] (eWt (wR s rs)):=
 ⟨_, _, rfl, AVle.refl _, _, _, rfl, ⟨rs.map eRep, by rw [h3, zzP, List.map_map]; rfl, by simp, rfl⟩, _, _, rfl, AVle.refl _, _, _, rfl, AVle.refl _, _, _, rfl, AVle.refl _, _, _, rfl, AVle.refl _, _, _, rfl, AVle.refl _, _, _, rfl, AVle.refl _, _, _, rfl, AVle.refl _, rfl⟩
theorem vI {ds:List Int} {mem:List PO} {k n:Nat} (h:mem[k]? = some (.row (ds.map fun n=>[I n]))) (hn:ds.length = n):zbA mem (.psl k n) (eI ds):=⟨ds.map fun n=>[ei n], by rw [h, List.map_map]; rfl, by simpa using hn, rfl⟩
theorem zDe {ds:List Int}:∀ r ∈ (ds.map fun n=>[I n]), r.length = 1:=fun r hr=>by
 obtain ⟨x, _, rfl⟩:=List.mem_map.1 hr; rfl
theorem zCq {ds:List Int} {k:Nat}:PO.okL k (.row (ds.map fun n=>[I n])):=fun r hr x hx=>by
 obtain ⟨y, _, rfl⟩:=List.mem_map.1 hr
 rw [List.mem_singleton] at hx; subst hx; simp [EV.lt, I]
theorem okX {s:Sut} {n k:Nat} (h:10 < k):PO.okL k (.row [xW s n]):=fun r hr x hx=>by
 rw [List.mem_singleton] at hr; subst hr
 simp only[xW, List.mem_cons, List.not_mem_nil, or_false] at hx
 rcases hx with rfl | rfl | rfl | rfl | rfl | rfl | rfl | rfl | rfl <;> simp [EV.lt, I, h]
theorem zBY {parts:List Int} {c:Nat} (h:c < parts.length):I (min 100 (max 0 parts[c])) = I (ptA parts c):=by unfold ptA; rw [if_pos h]; simp [h]
theorem zCv {parts:List Int} {c:Nat} (h:¬ c < parts.length):I 0 = I (ptA parts c):=by unfold ptA; rw [if_neg h]
theorem zBj {s:Sut} {nd:Nat} {p:List Rep × List (List EV)} {parts:List Int} {c:Nat} (h:c < p.1.length) (X:PO):[.dead, .dead, .dead, .row (zzP p.1), .map [], .row [zaV s p.1.length nd p.2.length], .row (List.replicate nd (mpR s)), .row (List.replicate nd shR), .row p.2, .row [xW s p.1.length], .row (zzP p.1), .row ((dsO parts p.1 c).map (fun n=>[I n]) ++ [[I (p.1[c].dl + (p.1[c].dh - p.1[c].dl) * ptA parts c / 100)]]), X] = gM s nd p (dsO parts p.1 (c + 1)) ++ [X]:=by
 rw [← zBJ, show p.1.getD c rp0 = p.1[c] by simp [h], gM, List.map_append]; rfl
theorem f3 (hkn:ACall Tryz.prog G 8 [] (.v (.bool true))) (s:Sut) (reps:List Rep) (parts:List Int) (port order:Int):ACall Tryz.prog G 3 [.agg (eSut s), .sl (reps.map eRep), eI parts, ei port, ei order] (.v (.bool true)):=by
 have hlm:(reps.map eRep).length = reps.length:=by simp
 have hlp:(parts.map fun n=>[ei n]).length = parts.length:=by simp
 have hlq:(s.w.prts.map ePrt).length = s.w.prts.length:=by simp
 refine zO Tryz.func3 rfl (by kernel_rfl) rfl ?_
 refine zn (jy rfl rfl (ql rfl (zQ rfl)) ?_)
 first | refine jy rfl rfl (zg rfl rfl) ?_ | refine jy rfl rfl (qG rfl rfl) ?_ | refine jy rfl rfl (jm rfl rfl) ?_ | refine jy rfl rfl (zvO rfl rfl) ?_
 refine zo (zt (zn ?_))
 first | refine jy rfl rfl (zK rfl rfl zAf (by exact zLb rfl)) ?_ | refine jy rfl rfl (qV (cs:=[_, _, _, _, _, _, _, _, _, _, _, _, _, _, _, _, _, _, _, _, _, _, _, _, _]) rfl rfl rfl rfl rfl (by exact zLb rfl) rfl zAf) ?_ | refine jy rfl rfl (za9 rfl rfl rfl rfl rfl (by exact zLb rfl) rfl zAf) ?_
 refine jy rfl rfl (zB (av:=[_]) rfl ⟨rfl, trivial⟩ (f6 s)) (jy rfl rfl (qJ rfl rfl) ?_)
 first | refine jy rfl rfl (zh rfl rfl) ?_ | refine jy rfl rfl (zI rfl rfl) ?_ | refine jy rfl rfl (jq rfl rfl) ?_ | refine jy rfl rfl (zwN rfl rfl) ?_
 first | refine zjW rfl rfl rfl (fun hg=>zK rfl rfl zAf (by exact zLb rfl)) ?_ | refine zjW rfl rfl rfl (fun hg=>qV (cs:=[_, _, _, _, _, _, _, _, _, _, _, _, _, _, _, _, _, _, _, _, _, _, _, _, _]) rfl rfl rfl rfl rfl (by exact zLb rfl) rfl zAf) ?_ | refine zjW rfl rfl rfl (fun hg=>za9 rfl rfl rfl rfl rfl (by exact zLb rfl) rfl zAf) ?_
 refine zjW rfl rfl rfl (fun hg=>zB (av:=[_]) rfl ⟨(by first | exact (if_pos hg) | exact rfl), trivial⟩ (f7 s (zDl hg))) ?_
 refine zjW rfl rfl rfl (fun hg=>qJ rfl (if_pos hg)) ?_
 first | refine jy rfl rfl (jg rfl rfl rfl rfl) ?_ | refine jy rfl rfl (jf rfl rfl rfl rfl) ?_ | refine jy rfl rfl (yZ rfl rfl (fun _=>rfl) (fun _=>rfl)) ?_
 first | refine jy rfl rfl (zh rfl rfl) ?_ | refine jy rfl rfl (zI rfl rfl) ?_ | refine jy rfl rfl (jq rfl rfl) ?_ | refine jy rfl rfl (zwN rfl rfl) ?_
 first | refine zjW rfl rfl rfl (fun hg=>zh rfl rfl) ?_ | refine zjW rfl rfl rfl (fun hg=>zI rfl rfl) ?_ | refine zjW rfl rfl rfl (fun hg=>jq rfl rfl) ?_ | refine zjW rfl rfl rfl (fun hg=>zwN rfl rfl) ?_
 first | refine zjW rfl rfl rfl (fun hg=>qA rfl rfl (if_pos hg) Tryz.underlying29) ?_ | refine zjW rfl rfl rfl (fun hg=>zwU rfl (if_pos hg) rfl (by simp) Tryz.underlying29) ?_ | refine zjW rfl rfl rfl (fun hg=>zz2 rfl (if_pos hg) Tryz.underlying29) ?_
 refine zjW rfl rfl rfl (fun hg=>jB rfl (if_pos hg) rfl) ?_
 first | refine jy rfl rfl (jg rfl rfl rfl rfl) ?_ | refine jy rfl rfl (jf rfl rfl rfl rfl) ?_ | refine jy rfl rfl (yZ rfl rfl (fun _=>rfl) (fun _=>rfl)) ?_
 first | refine jy rfl rfl (zh rfl rfl) ?_ | refine jy rfl rfl (zI rfl rfl) ?_ | refine jy rfl rfl (jq rfl rfl) ?_ | refine jy rfl rfl (zwN rfl rfl) ?_
 first | refine zjW rfl rfl rfl (fun hg=>zh rfl rfl) ?_ | refine zjW rfl rfl rfl (fun hg=>zI rfl rfl) ?_ | refine zjW rfl rfl rfl (fun hg=>jq rfl rfl) ?_ | refine zjW rfl rfl rfl (fun hg=>zwN rfl rfl) ?_
 first | refine zjW rfl rfl rfl (fun hg=>qA rfl rfl (if_pos hg) Tryz.underlying24) ?_ | refine zjW rfl rfl rfl (fun hg=>zwU rfl (if_pos hg) rfl (by simp) Tryz.underlying24) ?_ | refine zjW rfl rfl rfl (fun hg=>zz2 rfl (if_pos hg) Tryz.underlying24) ?_
 refine zjW rfl rfl rfl (fun hg=>jB rfl (if_pos hg) rfl) ?_
 first | refine jy rfl rfl (jg rfl rfl rfl rfl) ?_ | refine jy rfl rfl (jf rfl rfl rfl rfl) ?_ | refine jy rfl rfl (yZ rfl rfl (fun _=>rfl) (fun _=>rfl)) ?_
 refine zo (zA rfl (fun h0=>?_) (fun h0=>?_))
 ·refine zn (jy rfl rfl (zB (av:=[]) rfl trivial hkn) ?_)
  first | refine jy rfl rfl (zg rfl rfl) ?_ | refine jy rfl rfl (qG rfl rfl) ?_ | refine jy rfl rfl (jm rfl rfl) ?_ | refine jy rfl rfl (zvO rfl rfl) ?_
  refine zo (zN (zP ?_))
  exact ⟨.inr rfl, AVle.refl _⟩
 ·have h0s:smB s = true /\ suB s = true /\ reps.length <= 12 /\ parts.length <= 30:=by
   simp at h0
   exact ⟨h0.1.1.1, h0.1.1.2, by omega, by omega⟩
  have hsm:=h0s.1
  have hS:=suP h0s.2.1
  have hn12:=h0s.2.2.1
  have hn4:s.w.reps.length <= 12:=(zBL hsm).1.2.2.2.1
  refine zH (zk (zn ?_))
  first | refine jy rfl rfl (zK rfl rfl zAf (by exact zLb rfl)) ?_ | refine jy rfl rfl (qV (cs:=[_, _, _, _, _, _, _, _, _, _, _, _, _, _, _, _, _, _, _, _, _, _, _, _, _]) rfl rfl rfl rfl rfl (by exact zLb rfl) rfl zAf) ?_ | refine jy rfl rfl (za9 rfl rfl rfl rfl rfl (by exact zLb rfl) rfl zAf) ?_
  refine qL rfl (zfW (f:=9) (fs:=[]) (cs:=[]) (av:=[.pub (.agg (eSut s))]) rfl rfl ⟨rfl, rfl, rfl⟩ ⟨rfl, trivial⟩ (m9 s hsm hS)) ?_
  first | refine jy rfl rfl (zh rfl rfl) ?_ | refine jy rfl rfl (zI rfl rfl) ?_ | refine jy rfl rfl (jq rfl rfl) ?_ | refine jy rfl rfl (zwN rfl rfl) ?_
  refine jy rfl rfl (zvs rfl rfl rfl) (jy rfl rfl (zvs rfl rfl rfl) ?_)
  first | refine jy rfl rfl (zg rfl rfl) ?_ | refine jy rfl rfl (qG rfl rfl) ?_ | refine jy rfl rfl (jm rfl rfl) ?_ | refine jy rfl rfl (zvO rfl rfl) ?_
  first | refine jy rfl rfl (zg rfl rfl) ?_ | refine jy rfl rfl (qG rfl rfl) ?_ | refine jy rfl rfl (jm rfl rfl) ?_ | refine jy rfl rfl (zvO rfl rfl) ?_
  refine zo (zt (zn ?_))
  first | refine jy rfl rfl (zh rfl rfl) ?_ | refine jy rfl rfl (zI rfl rfl) ?_ | refine jy rfl rfl (jq rfl rfl) ?_ | refine jy rfl rfl (zwN rfl rfl) ?_
  refine jy rfl rfl (wE rfl rfl rfl) ?_
  first | refine jy rfl rfl (zh rfl rfl) ?_ | refine jy rfl rfl (zI rfl rfl) ?_ | refine jy rfl rfl (jq rfl rfl) ?_ | refine jy rfl rfl (zwN rfl rfl) ?_
  first | refine zjW rfl rfl rfl (fun hg=>zh rfl rfl) ?_ | refine zjW rfl rfl rfl (fun hg=>zI rfl rfl) ?_ | refine zjW rfl rfl rfl (fun hg=>jq rfl rfl) ?_ | refine zjW rfl rfl rfl (fun hg=>zwN rfl rfl) ?_
  refine zjW rfl rfl rfl (fun hg=>zAP rfl rfl rfl rfl Tryz.underlying40) ?_
  first | refine jy rfl rfl (jg rfl rfl rfl rfl) ?_ | refine jy rfl rfl (jf rfl rfl rfl rfl) ?_ | refine jy rfl rfl (yZ rfl rfl (fun _=>rfl) (fun _=>rfl)) ?_ | refine jy rfl rfl (jg rfl rfl rfl rfl) ?_ | refine jy rfl rfl (jf rfl rfl rfl rfl) ?_ | refine jy rfl rfl (yZ rfl rfl (fun _=>rfl) (fun h=>absurd h (by decide))) ?_ | refine jy rfl rfl (yZ rfl rfl (fun h=>absurd h (by decide)) (fun _=>rfl)) ?_
  refine zo (zA rfl (fun h1=>?_) (fun h1=>?_))
  ·exfalso; simp at h1
  ·refine zH (zk (zn ?_))
   first | refine jy rfl rfl (zi rfl rfl zDs) ?_ | refine jy rfl rfl (jJ rfl rfl rfl rfl zDs) ?_
   first | refine jy rfl rfl (zK rfl rfl zz8 (by exact zLb rfl)) ?_ | refine jy rfl rfl (qV (cs:=[_, _, _, _, _, _, _, _, _]) rfl rfl rfl rfl rfl (by exact zLb rfl) rfl zz8) ?_ | refine jy rfl rfl (za9 rfl rfl rfl rfl rfl (by exact zLb rfl) rfl zz8) ?_
   refine qL rfl (jr rfl rfl zDh rfl rfl) ?_
   refine qL rfl (qw rfl rfl rfl rfl rfl rfl (by first | exact qU rfl | exact zjo rfl | exact cE_ptr rfl | exact zQ rfl | exact zc7 rfl rfl (by first | (simp; done) | (simp; omega)) | exact zkj rfl | exact zg4 rfl | exact zAv rfl | exact zoi rfl rfl | exact zAW rfl | exact zAd rfl rfl rfl | exact zkm rfl) zz8 (by rfl) (by exact zLb rfl)) ?_
   refine zo (zn ?_)
   first | refine jy rfl rfl (zi rfl rfl zDs) ?_ | refine jy rfl rfl (jJ rfl rfl rfl rfl zDs) ?_
   first | refine jy rfl rfl (zi rfl rfl zzR) ?_ | refine jy rfl rfl (jJ rfl rfl rfl rfl zzR) ?_
   first | refine jy rfl rfl (zl rfl rfl rfl zq0) ?_ | refine jy rfl rfl (zX rfl rfl rfl rfl rfl rfl zq0) ?_
   first | refine qL rfl (zvK rfl rfl rfl rfl rfl zBU (zCP (zz7 fun _=>rfl)) (by simp; omega) (by unfold maxLen; simp; omega)) ?_ | refine qL rfl (yJ rfl rfl rfl rfl (by simp) rfl zBU (by simp) (by simp) (by omega) (by unfold maxLen; omega)) ?_
   first | refine jy rfl rfl (zi rfl rfl zzR) ?_ | refine jy rfl rfl (jJ rfl rfl rfl rfl zzR) ?_
   refine qL rfl (qw rfl rfl rfl rfl rfl rfl (by first | exact qU rfl | exact zjo rfl | exact cE_ptr rfl | exact zQ rfl | exact zc7 rfl rfl (by first | (simp; done) | (simp; omega)) | exact zkj rfl | exact zg4 rfl | exact zAv rfl | exact zoi rfl rfl | exact zAW rfl | exact zAd rfl rfl rfl | exact zkm rfl) zq0 (by rfl) (by exact zLb rfl)) ?_
   refine zo (zt (zn ?_))
   first | refine jy rfl rfl (zg rfl rfl) ?_ | refine jy rfl rfl (qG rfl rfl) ?_ | refine jy rfl rfl (jm rfl rfl) ?_ | refine jy rfl rfl (zvO rfl rfl) ?_
   refine zo (zF ?_)
   refine qm (ι:={ a:Nat // a <= reps.length }) (fun a=>⟨Tryz.f3.ntmps, frL [(1, .pub (.sl (reps.map eRep))), (2, .pub (eI parts)), (3, I port), (4, I order), (5, .pub (.ptr (eSut s))), (11, .pp 5 1 0 0), (13, .pp 9 1 0 0), (14, I (a.1:Int))], fM s s.days.toNat (zzT s (reps.take a.1))⟩) (fun a=>reps.length - a.1) (⟨0, by omega⟩) ?_ ?_
   ·exact zy _ ⟨rfl, rfl, rfl, rfl, rfl, rfl, rfl, rfl, trivial⟩ ((zCb _ _ _))
   ·rintro ⟨a, ha⟩
    dsimp only
    refine zt (zn ?_)
    first | refine jy rfl rfl (zh rfl rfl) ?_ | refine jy rfl rfl (zI rfl rfl) ?_ | refine jy rfl rfl (jq rfl rfl) ?_ | refine jy rfl rfl (zwN rfl rfl) ?_
    first | refine jy rfl rfl (zh rfl rfl) ?_ | refine jy rfl rfl (zI rfl rfl) ?_ | refine jy rfl rfl (jq rfl rfl) ?_ | refine jy rfl rfl (zwN rfl rfl) ?_
    first | refine jy rfl rfl (qA rfl rfl rfl Tryz.underlying29) ?_ | refine jy rfl rfl (zwU rfl rfl rfl (by simp) Tryz.underlying29) ?_ | refine jy rfl rfl (zz2 rfl rfl Tryz.underlying29) ?_
    refine jy rfl rfl (qx rfl rfl rfl) (zo (zA rfl (fun h2=>?_) (fun h2=>?_)))
    ·have hlt:a < reps.length:=by
      have:(a:Int) < (((reps.map eRep).length:Nat):Int):=by simpa using h2
      omega
     have hR:=zBC hS.w reps a (by omega)
     have hpl:(zzT s (reps.take a)).1.length <= 9:=by
      have:=(zAc.1 hR.ok).2.1
      simp only[wR] at this
      omega
     refine zH (zk (zt (zF (zn ?_))))
     first | refine jy rfl rfl (zh rfl rfl) ?_ | refine jy rfl rfl (zI rfl rfl) ?_ | refine jy rfl rfl (jq rfl rfl) ?_ | refine jy rfl rfl (zwN rfl rfl) ?_
     first | refine jy rfl rfl (zh rfl rfl) ?_ | refine jy rfl rfl (zI rfl rfl) ?_ | refine jy rfl rfl (jq rfl rfl) ?_ | refine jy rfl rfl (zwN rfl rfl) ?_
     first | refine jy rfl rfl (zh rfl rfl) ?_ | refine jy rfl rfl (zI rfl rfl) ?_ | refine jy rfl rfl (jq rfl rfl) ?_ | refine jy rfl rfl (zwN rfl rfl) ?_
     first | refine jy rfl rfl (zD rfl rfl rfl zA1 (by omega) (by exact zBh (k:=a) hlt) (zz7 fun _=>rfl)) ?_ | refine jy rfl rfl (jw rfl rfl rfl rfl rfl zA1 (by omega) (by exact zBh (k:=a) hlt) (zz7 fun _=>rfl)) ?_
     first | refine jy rfl rfl (zK rfl rfl zAs (by exact zLb rfl)) ?_ | refine jy rfl rfl (qV (cs:=[_, _, _, _, _, _, _]) rfl rfl rfl rfl rfl (by exact zLb rfl) rfl zAs) ?_ | refine jy rfl rfl (za9 rfl rfl rfl rfl rfl (by exact zLb rfl) rfl zAs) ?_
     refine qL rfl (zfW (f:=10) (fs:=[]) (cs:=[]) (av:=[.pp 5 1 0 0, .pub (.agg (eRep reps[a]))]) rfl rfl ⟨rfl, rfl, rfl⟩ ⟨rfl, rfl, trivial⟩ (zCj s (zzT s (reps.take a)) s.days.toNat (.row (List.replicate s.days.toNat (mpR s))) (.row (List.replicate s.days.toNat shR)) (.row [xW s (zzT s (reps.take a)).1.length]) (.row (zzP (zzT s (reps.take a)).1)) reps[a] (by have:=hR.n; omega) hR.one)) ?_
     refine jy rfl rfl (qR rfl rfl rfl) (zo (zA rfl (fun h3=>?_) (fun h3=>?_)))
     ·have hacc:zAh s (zzT s (reps.take a)) reps[a] = true:=by rw [← zBl]; exact h3
      refine zfD (fun mm=>∃ r, mm[9]? = some (PO.row [r])) (fun k=>match k with | 0=>.stable | 1=>.rd [9] | 2=>.stable | 3=>.stable | 4=>.stable | 5=>.stable | 6=>.stable | 7=>.rw [] (10) | 8=>.stable | 9=>.writes | _=>.here) mixed (by kernel_rfl) rfl (by kernel_rfl) ⟨_, rfl⟩ ?_
      refine jv rfl rfl (fun m hm=>jJ (rows:=[hm.choose]) rfl rfl hm.choose_spec rfl zzR) ?_
      first | refine zsH [9] rfl rfl (fun m hm hC=>zX (rows:=[xW s (zzT s (reps.take a)).1.length]) (r:=xW s (zzT s (reps.take a)).1.length) rfl rfl (hm.one 9 rfl) rfl rfl rfl zq0) ?_
      first | refine jv rfl rfl (fun m hm=>zh rfl rfl) ?_ | refine jv rfl rfl (fun m hm=>zI rfl rfl) ?_ | refine jv rfl rfl (fun m hm=>jq rfl rfl) ?_ | refine jv rfl rfl (fun m hm=>zwN rfl rfl) ?_
      first | refine jv rfl rfl (fun m hm=>zh rfl rfl) ?_ | refine jv rfl rfl (fun m hm=>zI rfl rfl) ?_ | refine jv rfl rfl (fun m hm=>jq rfl rfl) ?_ | refine jv rfl rfl (fun m hm=>zwN rfl rfl) ?_
      first | refine jv rfl rfl (fun m hm=>zD rfl rfl rfl zA1 (by omega) (by exact zBh (k:=a) hlt) (zz7 fun _=>rfl)) ?_ | refine jv rfl rfl (fun m hm=>jw rfl rfl rfl rfl rfl zA1 (by omega) (by exact zBh (k:=a) hlt) (zz7 fun _=>rfl)) ?_
      first | refine jv rfl rfl (fun m hm=>zK rfl rfl zAs (by exact zLb rfl)) ?_ | refine jv rfl rfl (fun m hm=>qV (cs:=[_, _, _, _, _, _, _]) rfl rfl rfl rfl rfl (by exact zLb rfl) rfl zAs) ?_ | refine jv rfl rfl (fun m hm=>za9 rfl rfl rfl rfl rfl (by exact zLb rfl) rfl zAs) ?_
      refine jv rfl rfl (fun m hm=>qy (size:=7) (rows:=[[_, _, _, _, _, _, _]]) rfl Tryz.underlying29 zCy rfl (by decide) rfl (by decide) ⟨_, _, rfl, zQ rfl, rfl⟩ (by rfl) (by simp [ofV]) rfl (by simp)) ?_
      refine ztC rfl rfl (fun m hm hC=>⟨zbg rfl rfl (hm.trans rfl) zzU rfl zBU zA6 (by intro r hr; simp at hr; subst hr; rfl) (by simp; omega) (by unfold maxLen; simp; omega), hC.imp fun r hr=>(List.getElem?_set_ne (by decide)).trans hr⟩) ?_
      refine jv rfl rfl (fun m hm=>jJ (rows:=[hm.choose]) rfl rfl hm.choose_spec rfl zzR) ?_
      refine zpt rfl rfl (zd0 rfl rfl rfl rfl rfl rfl (zc7 rfl rfl (by simp [zzU])) zq0 (by rfl) (by rfl)) ⟨_, rfl⟩ ?_
      refine zfa (zJ (zk ?_))
      first | refine qY (zy (mem':=fM s s.days.toNat (zzT s (reps.take (a + 1)))) [(1, .pub (.sl (reps.map eRep))), (2, .pub (eI parts)), (3, I port), (4, I order), (5, .pub (.ptr (eSut s))), (11, .pp 5 1 0 0), (13, .pp 9 1 0 0), (14, I (a:Int))] ⟨rfl, rfl, rfl, rfl, rfl, rfl, rfl, rfl, trivial⟩ (zBK hlt hacc)) ?_ | skip
      refine zx ?_
      first | refine jy rfl rfl (zh rfl rfl) ?_ | refine jy rfl rfl (zI rfl rfl) ?_ | refine jy rfl rfl (jq rfl rfl) ?_ | refine jy rfl rfl (zwN rfl rfl) ?_
      refine jy rfl rfl (zW rfl rfl rfl ⟨by omega, by omega⟩) ?_
      first | refine jy rfl rfl (zg rfl rfl) ?_ | refine jy rfl rfl (qG rfl rfl) ?_ | refine jy rfl rfl (jm rfl rfl) ?_ | refine jy rfl rfl (zvO rfl rfl) ?_
      refine zM ?_
      exact ⟨⟨a + 1, by omega⟩, by dsimp only; omega, zy _ ⟨rfl, rfl, rfl, rfl, rfl, rfl, rfl, rfl, trivial⟩ (rfl)⟩
     ·have hnac:zAh s (zzT s (reps.take a)) reps[a] = false:=by rw [← zBl]; exact h3
      refine qY (zy (mem':=fM s s.days.toNat (zzT s (reps.take (a + 1)))) [(1, .pub (.sl (reps.map eRep))), (2, .pub (eI parts)), (3, I port), (4, I order), (5, .pub (.ptr (eSut s))), (11, .pp 5 1 0 0), (13, .pp 9 1 0 0), (14, I (a:Int))] ?_ ?_) ?_
      ·exact ⟨rfl, rfl, rfl, rfl, rfl, rfl, rfl, rfl, trivial⟩
      ·exact (zDb hlt hnac)
      refine zH (zJ (zk ?_))
      first | refine qY (zy (mem':=fM s s.days.toNat (zzT s (reps.take (a + 1)))) [(1, .pub (.sl (reps.map eRep))), (2, .pub (eI parts)), (3, I port), (4, I order), (5, .pub (.ptr (eSut s))), (11, .pp 5 1 0 0), (13, .pp 9 1 0 0), (14, I (a:Int))] ⟨rfl, rfl, rfl, rfl, rfl, rfl, rfl, rfl, trivial⟩ (zBK hlt hacc)) ?_ | skip
      refine zx ?_
      first | refine jy rfl rfl (zh rfl rfl) ?_ | refine jy rfl rfl (zI rfl rfl) ?_ | refine jy rfl rfl (jq rfl rfl) ?_ | refine jy rfl rfl (zwN rfl rfl) ?_
      refine jy rfl rfl (zW rfl rfl rfl ⟨by omega, by omega⟩) ?_
      first | refine jy rfl rfl (zg rfl rfl) ?_ | refine jy rfl rfl (qG rfl rfl) ?_ | refine jy rfl rfl (jm rfl rfl) ?_ | refine jy rfl rfl (zvO rfl rfl) ?_
      refine zM ?_
      exact ⟨⟨a + 1, by omega⟩, by dsimp only; omega, zy _ ⟨rfl, rfl, rfl, rfl, rfl, rfl, rfl, rfl, trivial⟩ (rfl)⟩
    ·have hge:a = reps.length:=by
      have:¬ (a:Int) < (((reps.map eRep).length:Nat):Int):=by simpa using h2
      omega
     refine Exists.elim (show ∃ p, p = zzT s (reps.take a) from ⟨_, rfl⟩) (fun p hp=>?_)
     have hR:RunP s p a:=hp ▸ zBC hS.w reps a (by omega)
     refine qY (zy (mem':=fM s s.days.toNat (p)) [(1, .pub (.sl (reps.map eRep))), (2, .pub (eI parts)), (3, I port), (4, I order), (5, .pub (.ptr (eSut s))), (11, .pp 5 1 0 0), (13, .pp 9 1 0 0)] ?_ ?_) ?_
     ·exact ⟨rfl, rfl, rfl, rfl, rfl, rfl, rfl, trivial⟩
     ·exact (by rw [hp])
     have hok:=hR.ok
     have hpl:p.1.length <= 9:=by
      have:=(zAc.1 hok).2.1
      simp only[wR] at this
      omega
     have sp11:ACall Tryz.prog G 11 [.agg (eWt (wR s p.1))] (ei 0):=by
      have:=f11 (G:=G) (wR s p.1)
      rw [hok] at this
      exact this
     refine Exists.elim (zAS (G:=G) hok parts) (fun qa q1=>?_)
     refine Exists.elim q1 (fun qf q2=>?_)
     refine Exists.elim q2 (fun qc q3=>?_)
     refine Exists.elim q3 (fun qh q4=>?_)
     refine Exists.elim q4 (fun qg q5=>?_)
     have e12:=q5.1
     have e13:∀ {nd na:Nat} {mem:List PO}, mem[5]? = some (.row [zaV s p.1.length nd na]) -> mem[3]? = some (.row (zzP p.1)) -> zeq Tryz.prog G 13 [.pp 5 1 0 0] mem (.ret (.pub (.tup [ei qc, ei qh, ei qg])) mem):=q5.2.1
     have hF:=q5.2.2
     refine zAj (zS (zS (zAi (zk (zt (zn ?_))))))
     first | refine jy rfl rfl (zK rfl rfl zz8 (by exact zLb rfl)) ?_ | refine jy rfl rfl (qV (cs:=[_, _, _, _, _, _, _, _, _]) rfl rfl rfl rfl rfl (by exact zLb rfl) rfl zz8) ?_ | refine jy rfl rfl (za9 rfl rfl rfl rfl rfl (by exact zLb rfl) rfl zz8) ?_
     refine jy rfl rfl (znr (av:=[.agg (eWt (wR s p.1))]) rfl ⟨zpA (vWK rfl), trivial⟩ rfl sp11) (jy rfl rfl (wE rfl rfl rfl) (zo (zA rfl (fun h4=>?_) (fun h4=>?_))))
     ·exfalso; simp at h4
     ·refine zH (zk (zn ?_))
      first | refine jy rfl rfl (zg rfl rfl) ?_ | refine jy rfl rfl (qG rfl rfl) ?_ | refine jy rfl rfl (jm rfl rfl) ?_ | refine jy rfl rfl (zvO rfl rfl) ?_
      refine zo (zt (zt ?_))
      refine qY (zaR 15 rfl) ?_
      refine zx ?_
      first | refine jy rfl rfl (zg rfl rfl) ?_ | refine jy rfl rfl (qG rfl rfl) ?_ | refine jy rfl rfl (jm rfl rfl) ?_ | refine jy rfl rfl (zvO rfl rfl) ?_
      refine zo (zF ?_)
      refine qm (ι:={ c:Nat // c <= p.1.length }) (fun c=>⟨Tryz.f3.ntmps, frL [(1, .pub (.sl (reps.map eRep))), (2, .pub (eI parts)), (3, I port), (4, I order), (5, .pub (.ptr (eSut s))), (11, .pp 5 1 0 0), (13, .pp 9 1 0 0), (15, .psl 11 c.1), (16, I (c.1:Int))], gM s s.days.toNat p (dsO parts p.1 (c.1))⟩) (fun c=>p.1.length - c.1) (⟨0, by omega⟩) ?_ ?_
      ·exact zy _ ⟨rfl, rfl, rfl, rfl, rfl, rfl, rfl, rfl, rfl, trivial⟩ (rfl)
      ·rintro ⟨c, hc⟩
       dsimp only
       refine zt (zn ?_)
       first | refine jy rfl rfl (zh rfl rfl) ?_ | refine jy rfl rfl (zI rfl rfl) ?_ | refine jy rfl rfl (jq rfl rfl) ?_ | refine jy rfl rfl (zwN rfl rfl) ?_
       first | refine jy rfl rfl (zi rfl rfl zzR) ?_ | refine jy rfl rfl (jJ rfl rfl rfl rfl zzR) ?_
       first | refine jy rfl rfl (zl rfl rfl rfl zq0) ?_ | refine jy rfl rfl (zX rfl rfl rfl rfl rfl rfl zq0) ?_
       refine jy rfl rfl (zwU rfl rfl rfl zzU Tryz.underlying29) (jy rfl rfl (qx rfl rfl rfl) (zo (zA rfl (fun h5=>?_) (fun h5=>?_))))
       ·have hlt:c < p.1.length:=by
         have:(c:Int) < (p.1.length:Int):=by simpa using h5
         omega
        have hb:=zz4 ((zAc.1 hok).2.2 p.1[c] (List.getElem_mem hlt))
        have hpt:=@zBI parts c
        have hm0:0 <= (p.1[c].dh - p.1[c].dl) * ptA parts c:=Int.mul_nonneg (by omega) hpt.1
        have hm1:(p.1[c].dh - p.1[c].dl) * ptA parts c <= 2880 * 100:=Int.mul_le_mul (by omega) hpt.2 hpt.1 (by omega)
        refine zH (zk (zt (zF (zt ?_))))
        refine qY zgO ?_
        refine zfD (fun _=>True) (fun k=>match k with | 0=>.rd [9] | 1=>.rd [9] | 2=>.stable | 3=>.rd [10] | 4=>.rd [10] | 5=>.rd [10] | 6=>.own 12 | 7=>.stable | 8=>.rw [] (12) | _=>.here) mixed (by kernel_rfl) rfl (by kernel_rfl) trivial ?_
        first | refine zsH [9] rfl rfl (fun m hm hC=>jJ rfl rfl (hm.one 9 rfl) rfl zzR) ?_
        first | refine zsH [9] rfl rfl (fun m hm hC=>zX (rows:=[xW s p.1.length]) (r:=xW s p.1.length) rfl rfl (hm.one 9 rfl) rfl rfl rfl zq0) ?_
        first | refine jv rfl rfl (fun m hm=>zh rfl rfl) ?_ | refine jv rfl rfl (fun m hm=>zI rfl rfl) ?_ | refine jv rfl rfl (fun m hm=>jq rfl rfl) ?_ | refine jv rfl rfl (fun m hm=>zwN rfl rfl) ?_
        first | refine zsH [10] rfl rfl (fun m hm hC=>jw rfl rfl rfl (hm.one 10 rfl) zzU zA1 (by omega) (by omega) zA6) ?_
        first | refine zsH [10] rfl rfl (fun m hm hC=>jJ rfl rfl (hm.one 10 rfl) zzU zB7) ?_
        first | refine zsH [10] rfl rfl (fun m hm hC=>qV (cs:=[_, _]) rfl rfl (hm.one 10 rfl) zzU (zB1 hlt) (by exact zLb rfl) rfl zuz) ?_
        refine ztC rfl rfl (zmH rfl zwq rfl rfl rfl) ?_
        first | refine jv rfl rfl (fun m hm=>zg rfl rfl) ?_ | refine jv rfl rfl (fun m hm=>qG rfl rfl) ?_ | refine jv rfl rfl (fun m hm=>jm rfl rfl) ?_ | refine jv rfl rfl (fun m hm=>zvO rfl rfl) ?_
        refine zsW [] (12) rfl rfl (fun _=>trivial) (fun m hm=>zd0 rfl rfl rfl ((hm 12 (by simp)).trans rfl) rfl rfl (zQ rfl) zuz (by rfl) (by rfl)) ?_
        refine zfa (zk (zt (zn ?_)))
        first | refine jy rfl rfl (zh rfl rfl) ?_ | refine jy rfl rfl (zI rfl rfl) ?_ | refine jy rfl rfl (jq rfl rfl) ?_ | refine jy rfl rfl (zwN rfl rfl) ?_
        first | refine jy rfl rfl (zh rfl rfl) ?_ | refine jy rfl rfl (zI rfl rfl) ?_ | refine jy rfl rfl (jq rfl rfl) ?_ | refine jy rfl rfl (zwN rfl rfl) ?_
        first | refine jy rfl rfl (qA rfl rfl rfl Tryz.underlying24) ?_ | refine jy rfl rfl (zwU rfl rfl rfl (by simp) Tryz.underlying24) ?_ | refine jy rfl rfl (zz2 rfl rfl Tryz.underlying24) ?_
        refine jy rfl rfl (qx rfl rfl rfl) (zo (zA rfl (fun h6=>?_) (fun h6=>?_)))
        ·have hlt6:c < parts.length:=by
          have:(c:Int) < (((parts.map fun n=>[ei n]).length:Nat):Int):=by simpa using h6
          omega
         refine zx ?_
         first | refine jy rfl rfl (zh rfl rfl) ?_ | refine jy rfl rfl (zI rfl rfl) ?_ | refine jy rfl rfl (jq rfl rfl) ?_ | refine jy rfl rfl (zwN rfl rfl) ?_
         first | refine jy rfl rfl (zh rfl rfl) ?_ | refine jy rfl rfl (zI rfl rfl) ?_ | refine jy rfl rfl (jq rfl rfl) ?_ | refine jy rfl rfl (zwN rfl rfl) ?_
         first | refine jy rfl rfl (zD rfl rfl rfl zjc (by omega) (by exact zBm (i:=c) hlt6) zBA) ?_ | refine jy rfl rfl (jw rfl rfl rfl rfl rfl zjc (by omega) (by exact zBm (i:=c) hlt6) zBA) ?_
         first | refine jy rfl rfl (zl rfl rfl rfl ty3) ?_ | refine jy rfl rfl (zX rfl rfl rfl rfl rfl rfl ty3) ?_
         refine jy rfl rfl (zrp rfl rfl rfl) (jy rfl rfl (zsQ rfl rfl rfl) ?_)
         first | refine jy rfl rfl (zg rfl rfl) ?_ | refine jy rfl rfl (qG rfl rfl) ?_ | refine jy rfl rfl (jm rfl rfl) ?_ | refine jy rfl rfl (zvO rfl rfl) ?_
         refine zo ?_
         refine qY (zy (mem':=gM s s.days.toNat p (dsO parts p.1 (c)) ++ [.row [[I p.1[c].dl, I p.1[c].dh]]]) [(1, .pub (.sl (reps.map eRep))), (2, .pub (eI parts)), (3, I port), (4, I order), (5, .pub (.ptr (eSut s))), (11, .pp 5 1 0 0), (13, .pp 9 1 0 0), (15, .psl 11 c), (16, I (c:Int)), (17, I (ptA parts c)), (18, .pp 12 1 0 0)] ?_ ?_) ?_
         ·exact ⟨rfl, rfl, rfl, rfl, rfl, rfl, rfl, rfl, rfl, (by first | exact zBY hlt6 | exact zCv hge6), rfl, trivial⟩
         ·exact rfl
         refine zx ?_
         first | refine jy rfl rfl (zh rfl rfl) ?_ | refine jy rfl rfl (zI rfl rfl) ?_ | refine jy rfl rfl (jq rfl rfl) ?_ | refine jy rfl rfl (zwN rfl rfl) ?_
         first | refine jy rfl rfl (zi rfl rfl zqK) ?_ | refine jy rfl rfl (jJ rfl rfl rfl rfl zqK) ?_
         first | refine jy rfl rfl (zl rfl rfl rfl ty3) ?_ | refine jy rfl rfl (zX rfl rfl rfl rfl rfl rfl ty3) ?_
         first | refine jy rfl rfl (zi rfl rfl zqc) ?_ | refine jy rfl rfl (jJ rfl rfl rfl rfl zqc) ?_
         first | refine jy rfl rfl (zl rfl rfl rfl ty3) ?_ | refine jy rfl rfl (zX rfl rfl rfl rfl rfl rfl ty3) ?_
         first | refine jy rfl rfl (zi rfl rfl zqK) ?_ | refine jy rfl rfl (jJ rfl rfl rfl rfl zqK) ?_
         first | refine jy rfl rfl (zl rfl rfl rfl ty3) ?_ | refine jy rfl rfl (zX rfl rfl rfl rfl rfl rfl ty3) ?_
         refine jy rfl rfl (vN rfl rfl rfl ⟨by omega, by omega⟩) ?_
         first | refine jy rfl rfl (zh rfl rfl) ?_ | refine jy rfl rfl (zI rfl rfl) ?_ | refine jy rfl rfl (jq rfl rfl) ?_ | refine jy rfl rfl (zwN rfl rfl) ?_
         refine jy rfl rfl (ya rfl rfl rfl ⟨by omega, by omega⟩) (jy rfl rfl (zCm rfl rfl rfl ⟨(by omega), by omega, by omega⟩) (jy rfl rfl (zW rfl rfl rfl ⟨by omega, by omega⟩) ?_))
         refine jy rfl rfl (qy (size:=1) (rows:=[[_]]) rfl Tryz.underlying24 ti3 rfl (by decide) rfl (by decide) ⟨_, _, rfl, (by first | exact qU rfl | exact zjo rfl | exact cE_ptr rfl | exact zQ rfl | exact zc7 rfl rfl (by first | (simp; done) | (simp; omega)) | exact zkj rfl | exact zg4 rfl | exact zAv rfl | exact zoi rfl rfl | exact zAW rfl | exact zAd rfl rfl rfl | exact zkm rfl), rfl⟩ (by rfl) (by simp [ofV]) rfl (by simp)) ?_
         first | refine qL rfl (zvK rfl rfl rfl rfl rfl zt2 (by simp) (by simp; omega) (by unfold maxLen; simp; omega)) ?_ | refine qL rfl (yJ rfl rfl rfl rfl (by simp [zAb]) rfl zt2 zDe (by intro r hr; simp at hr; subst hr; rfl) (by simp; omega) (by unfold maxLen; simp; omega)) ?_
         first | refine jy rfl rfl (zg rfl rfl) ?_ | refine jy rfl rfl (qG rfl rfl) ?_ | refine jy rfl rfl (jm rfl rfl) ?_ | refine jy rfl rfl (zvO rfl rfl) ?_
         refine zM (zJ (zk ?_))
         refine qY (zy (mem':=gM s s.days.toNat p (dsO parts p.1 (c + 1)) ++ [.row [[I p.1[c].dl, I p.1[c].dh]]]) [(1, .pub (.sl (reps.map eRep))), (2, .pub (eI parts)), (3, I port), (4, I order), (5, .pub (.ptr (eSut s))), (11, .pp 5 1 0 0), (13, .pp 9 1 0 0), (15, .psl 11 (c + 1)), (16, I (c:Int))] ?_ ?_) ?_
         ·exact ⟨rfl, rfl, rfl, rfl, rfl, rfl, rfl, rfl, rfl, trivial⟩
         ·exact (zBj hlt _)
         refine qY (zoR 12 ?_ ?_) ?_
         ·exact ⟨trivial, trivial, trivial, trivial, trivial, (show 5 < 12 by omega), (show 9 < 12 by omega), (show 11 < 12 by omega), trivial, trivial⟩
         ·exact ⟨trivial, trivial, trivial, zz0, (by intro p hp; cases hp), okB (by omega), zCW, zCR, hR.lt _, okX (by omega), zz0, zCq, trivial⟩
         refine zx ?_
         first | refine jy rfl rfl (zh rfl rfl) ?_ | refine jy rfl rfl (zI rfl rfl) ?_ | refine jy rfl rfl (jq rfl rfl) ?_ | refine jy rfl rfl (zwN rfl rfl) ?_
         refine jy rfl rfl (zW rfl rfl rfl ⟨by omega, by omega⟩) ?_
         first | refine jy rfl rfl (zg rfl rfl) ?_ | refine jy rfl rfl (qG rfl rfl) ?_ | refine jy rfl rfl (jm rfl rfl) ?_ | refine jy rfl rfl (zvO rfl rfl) ?_
         refine zM ?_
         exact ⟨⟨c + 1, by omega⟩, by dsimp only; omega, zy _ ⟨rfl, rfl, rfl, rfl, rfl, rfl, rfl, rfl, rfl, trivial⟩ (rfl)⟩
        ·have hge6:¬ c < parts.length:=by
          have:¬ (c:Int) < (((parts.map fun n=>[ei n]).length:Nat):Int):=by simpa using h6
          omega
         refine zH (zk ?_)
         refine qY (zy (mem':=gM s s.days.toNat p (dsO parts p.1 (c)) ++ [.row [[I p.1[c].dl, I p.1[c].dh]]]) [(1, .pub (.sl (reps.map eRep))), (2, .pub (eI parts)), (3, I port), (4, I order), (5, .pub (.ptr (eSut s))), (11, .pp 5 1 0 0), (13, .pp 9 1 0 0), (15, .psl 11 c), (16, I (c:Int)), (17, I (ptA parts c)), (18, .pp 12 1 0 0)] ?_ ?_) ?_
         ·exact ⟨rfl, rfl, rfl, rfl, rfl, rfl, rfl, rfl, rfl, (by first | exact zBY hlt6 | exact zCv hge6), rfl, trivial⟩
         ·exact rfl
         refine zx ?_
         first | refine jy rfl rfl (zh rfl rfl) ?_ | refine jy rfl rfl (zI rfl rfl) ?_ | refine jy rfl rfl (jq rfl rfl) ?_ | refine jy rfl rfl (zwN rfl rfl) ?_
         first | refine jy rfl rfl (zi rfl rfl zqK) ?_ | refine jy rfl rfl (jJ rfl rfl rfl rfl zqK) ?_
         first | refine jy rfl rfl (zl rfl rfl rfl ty3) ?_ | refine jy rfl rfl (zX rfl rfl rfl rfl rfl rfl ty3) ?_
         first | refine jy rfl rfl (zi rfl rfl zqc) ?_ | refine jy rfl rfl (jJ rfl rfl rfl rfl zqc) ?_
         first | refine jy rfl rfl (zl rfl rfl rfl ty3) ?_ | refine jy rfl rfl (zX rfl rfl rfl rfl rfl rfl ty3) ?_
         first | refine jy rfl rfl (zi rfl rfl zqK) ?_ | refine jy rfl rfl (jJ rfl rfl rfl rfl zqK) ?_
         first | refine jy rfl rfl (zl rfl rfl rfl ty3) ?_ | refine jy rfl rfl (zX rfl rfl rfl rfl rfl rfl ty3) ?_
         refine jy rfl rfl (vN rfl rfl rfl ⟨by omega, by omega⟩) ?_
         first | refine jy rfl rfl (zh rfl rfl) ?_ | refine jy rfl rfl (zI rfl rfl) ?_ | refine jy rfl rfl (jq rfl rfl) ?_ | refine jy rfl rfl (zwN rfl rfl) ?_
         refine jy rfl rfl (ya rfl rfl rfl ⟨by omega, by omega⟩) (jy rfl rfl (zCm rfl rfl rfl ⟨(by omega), by omega, by omega⟩) (jy rfl rfl (zW rfl rfl rfl ⟨by omega, by omega⟩) ?_))
         refine jy rfl rfl (qy (size:=1) (rows:=[[_]]) rfl Tryz.underlying24 ti3 rfl (by decide) rfl (by decide) ⟨_, _, rfl, (by first | exact qU rfl | exact zjo rfl | exact cE_ptr rfl | exact zQ rfl | exact zc7 rfl rfl (by first | (simp; done) | (simp; omega)) | exact zkj rfl | exact zg4 rfl | exact zAv rfl | exact zoi rfl rfl | exact zAW rfl | exact zAd rfl rfl rfl | exact zkm rfl), rfl⟩ (by rfl) (by simp [ofV]) rfl (by simp)) ?_
         first | refine qL rfl (zvK rfl rfl rfl rfl rfl zt2 (by simp) (by simp; omega) (by unfold maxLen; simp; omega)) ?_ | refine qL rfl (yJ rfl rfl rfl rfl (by simp [zAb]) rfl zt2 zDe (by intro r hr; simp at hr; subst hr; rfl) (by simp; omega) (by unfold maxLen; simp; omega)) ?_
         first | refine jy rfl rfl (zg rfl rfl) ?_ | refine jy rfl rfl (qG rfl rfl) ?_ | refine jy rfl rfl (jm rfl rfl) ?_ | refine jy rfl rfl (zvO rfl rfl) ?_
         refine zM (zJ (zk ?_))
         refine qY (zy (mem':=gM s s.days.toNat p (dsO parts p.1 (c + 1)) ++ [.row [[I p.1[c].dl, I p.1[c].dh]]]) [(1, .pub (.sl (reps.map eRep))), (2, .pub (eI parts)), (3, I port), (4, I order), (5, .pub (.ptr (eSut s))), (11, .pp 5 1 0 0), (13, .pp 9 1 0 0), (15, .psl 11 (c + 1)), (16, I (c:Int))] ?_ ?_) ?_
         ·exact ⟨rfl, rfl, rfl, rfl, rfl, rfl, rfl, rfl, rfl, trivial⟩
         ·exact (zBj hlt _)
         refine qY (zoR 12 ?_ ?_) ?_
         ·exact ⟨trivial, trivial, trivial, trivial, trivial, (show 5 < 12 by omega), (show 9 < 12 by omega), (show 11 < 12 by omega), trivial, trivial⟩
         ·exact ⟨trivial, trivial, trivial, zz0, (by intro p hp; cases hp), okB (by omega), zCW, zCR, hR.lt _, okX (by omega), zz0, zCq, trivial⟩
         refine zx ?_
         first | refine jy rfl rfl (zh rfl rfl) ?_ | refine jy rfl rfl (zI rfl rfl) ?_ | refine jy rfl rfl (jq rfl rfl) ?_ | refine jy rfl rfl (zwN rfl rfl) ?_
         refine jy rfl rfl (zW rfl rfl rfl ⟨by omega, by omega⟩) ?_
         first | refine jy rfl rfl (zg rfl rfl) ?_ | refine jy rfl rfl (qG rfl rfl) ?_ | refine jy rfl rfl (jm rfl rfl) ?_ | refine jy rfl rfl (zvO rfl rfl) ?_
         refine zM ?_
         exact ⟨⟨c + 1, by omega⟩, by dsimp only; omega, zy _ ⟨rfl, rfl, rfl, rfl, rfl, rfl, rfl, rfl, rfl, trivial⟩ (rfl)⟩
       ·have hge:c = p.1.length:=by
         have:¬ (c:Int) < (p.1.length:Int):=by simpa using h5
         omega
        refine qY (zy (mem':=gM s s.days.toNat p (dsO parts p.1 (p.1.length))) [(1, .pub (.sl (reps.map eRep))), (2, .pub (eI parts)), (3, I port), (4, I order), (5, .pub (.ptr (eSut s))), (11, .pp 5 1 0 0), (13, .pp 9 1 0 0), (15, .psl 11 p.1.length)] ?_ ?_) ?_
        ·exact ⟨rfl, rfl, rfl, rfl, rfl, rfl, rfl, (congrArg (EV.psl 11) hge), trivial⟩
        ·exact (by rw [hge])
        refine zAj (zS (zS (zAi (zk (zn ?_)))))
        first | refine jy rfl rfl (zK rfl rfl zz8 (by exact zLb rfl)) ?_ | refine jy rfl rfl (qV (cs:=[_, _, _, _, _, _, _, _, _]) rfl rfl rfl rfl rfl (by exact zLb rfl) rfl zz8) ?_ | refine jy rfl rfl (za9 rfl rfl rfl rfl rfl (by exact zLb rfl) rfl zz8) ?_
        first | refine jy rfl rfl (zh rfl rfl) ?_ | refine jy rfl rfl (zI rfl rfl) ?_ | refine jy rfl rfl (jq rfl rfl) ?_ | refine jy rfl rfl (zwN rfl rfl) ?_
        refine jy rfl rfl (znr (av:=[.agg (eWt (wR s p.1)), eI (dsO parts p.1 p.1.length)]) rfl ⟨zpA (vWK rfl), vI rfl zAb, trivial⟩ rfl e12) ?_
        first | refine jy rfl rfl (zh rfl rfl) ?_ | refine jy rfl rfl (zI rfl rfl) ?_ | refine jy rfl rfl (jq rfl rfl) ?_ | refine jy rfl rfl (zwN rfl rfl) ?_
        refine jy rfl rfl (zU rfl rfl rfl) (jy rfl rfl (zU rfl rfl rfl) ?_)
        first | refine jy rfl rfl (zg rfl rfl) ?_ | refine jy rfl rfl (qG rfl rfl) ?_ | refine jy rfl rfl (jm rfl rfl) ?_ | refine jy rfl rfl (zvO rfl rfl) ?_
        first | refine jy rfl rfl (zg rfl rfl) ?_ | refine jy rfl rfl (qG rfl rfl) ?_ | refine jy rfl rfl (jm rfl rfl) ?_ | refine jy rfl rfl (zvO rfl rfl) ?_
        refine zo (zn ?_)
        first | refine jy rfl rfl (zh rfl rfl) ?_ | refine jy rfl rfl (zI rfl rfl) ?_ | refine jy rfl rfl (jq rfl rfl) ?_ | refine jy rfl rfl (zwN rfl rfl) ?_
        refine qL rfl (zfW (f:=13) (fs:=[]) (cs:=[]) (av:=[.pp 5 1 0 0]) rfl rfl ⟨rfl, rfl, rfl⟩ ⟨rfl, trivial⟩ (e13 rfl rfl)) ?_
        first | refine jy rfl rfl (zh rfl rfl) ?_ | refine jy rfl rfl (zI rfl rfl) ?_ | refine jy rfl rfl (jq rfl rfl) ?_ | refine jy rfl rfl (zwN rfl rfl) ?_
        refine jy rfl rfl (zU rfl rfl rfl) (jy rfl rfl (zU rfl rfl rfl) (jy rfl rfl (zU rfl rfl rfl) ?_))
        first | refine jy rfl rfl (zg rfl rfl) ?_ | refine jy rfl rfl (qG rfl rfl) ?_ | refine jy rfl rfl (jm rfl rfl) ?_ | refine jy rfl rfl (zvO rfl rfl) ?_
        first | refine jy rfl rfl (zg rfl rfl) ?_ | refine jy rfl rfl (qG rfl rfl) ?_ | refine jy rfl rfl (jm rfl rfl) ?_ | refine jy rfl rfl (zvO rfl rfl) ?_
        first | refine jy rfl rfl (zg rfl rfl) ?_ | refine jy rfl rfl (qG rfl rfl) ?_ | refine jy rfl rfl (jm rfl rfl) ?_ | refine jy rfl rfl (zvO rfl rfl) ?_
        refine zo (zt (zn ?_))
        first | refine jy rfl rfl (zh rfl rfl) ?_ | refine jy rfl rfl (zI rfl rfl) ?_ | refine jy rfl rfl (jq rfl rfl) ?_ | refine jy rfl rfl (zwN rfl rfl) ?_
        refine jy rfl rfl (qR rfl rfl rfl) (zo (zA rfl (fun h7=>?_) (fun h7=>?_)))
        ·have hcase:=hF.resolve_right (fun h=>by have:=h.1; simp at h7; omega)
         refine zn ?_
         first | refine jy rfl rfl (zh rfl rfl) ?_ | refine jy rfl rfl (zI rfl rfl) ?_ | refine jy rfl rfl (jq rfl rfl) ?_ | refine jy rfl rfl (zwN rfl rfl) ?_
         refine jy rfl rfl (qR rfl rfl rfl) ?_
         first | refine jy rfl rfl (zh rfl rfl) ?_ | refine jy rfl rfl (zI rfl rfl) ?_ | refine jy rfl rfl (jq rfl rfl) ?_ | refine jy rfl rfl (zwN rfl rfl) ?_
         first | refine zjW rfl rfl rfl (fun hg=>zh rfl rfl) ?_ | refine zjW rfl rfl rfl (fun hg=>zI rfl rfl) ?_ | refine zjW rfl rfl rfl (fun hg=>jq rfl rfl) ?_ | refine zjW rfl rfl rfl (fun hg=>zwN rfl rfl) ?_
         refine zjW rfl rfl rfl (fun hg=>qR rfl (if_pos hg) rfl) ?_
         first | refine zjW rfl rfl rfl (fun hg=>zh rfl (if_pos hg)) ?_ | refine zjW rfl rfl rfl (fun hg=>zI rfl (if_pos hg)) ?_ | refine zjW rfl rfl rfl (fun hg=>jq rfl (if_pos hg)) ?_ | refine zjW rfl rfl rfl (fun hg=>zwN rfl (if_pos hg)) ?_
         first | refine zjW rfl (zT rfl rfl rfl) rfl (fun hg=>zh rfl rfl) ?_ | refine zjW rfl (zT rfl rfl rfl) rfl (fun hg=>zI rfl rfl) ?_ | refine zjW rfl (zT rfl rfl rfl) rfl (fun hg=>jq rfl rfl) ?_ | refine zjW rfl (zT rfl rfl rfl) rfl (fun hg=>zwN rfl rfl) ?_
         refine zjW rfl (zT rfl rfl rfl) rfl (fun hg=>qR rfl (if_pos hg) rfl) ?_
         first | refine zjW rfl rfl rfl (fun hg=>jg rfl (if_pos hg) (vG hg) rfl) ?_ | refine zjW rfl rfl rfl (fun hg=>jf rfl (if_pos hg) rfl (vG hg)) ?_
         first | refine jy rfl rfl (jg rfl rfl rfl rfl) ?_ | refine jy rfl rfl (jf rfl rfl rfl rfl) ?_ | refine jy rfl rfl (yZ rfl rfl (fun _=>rfl) (fun _=>rfl)) ?_
         first | refine jy rfl rfl (zh rfl rfl) ?_ | refine jy rfl rfl (zI rfl rfl) ?_ | refine jy rfl rfl (jq rfl rfl) ?_ | refine jy rfl rfl (zwN rfl rfl) ?_
         refine zjW rfl rfl rfl (fun hg=>zB (av:=[]) rfl trivial hkn) ?_
         first | refine jy rfl rfl (jg rfl rfl rfl rfl) ?_ | refine jy rfl rfl (jf rfl rfl rfl rfl) ?_ | refine jy rfl rfl (yZ rfl rfl (fun _=>rfl) (fun _=>rfl)) ?_
         first | refine jy rfl rfl (zg rfl rfl) ?_ | refine jy rfl rfl (qG rfl rfl) ?_ | refine jy rfl rfl (jm rfl rfl) ?_ | refine jy rfl rfl (zvO rfl rfl) ?_
         refine zo (zN (zP ?_))
         exact ⟨.inr rfl, AVle.of (by rcases hcase.2 with e | ⟨e1, e2⟩ <;> simp [*])⟩
        ·have hcase:=hF.resolve_left (fun h=>by have:=h.1; simp at h7; omega)
         have i1:=hcase.1
         have i2:=hcase.2.1
         have i3:=hcase.2.2.1
         have i4:=hcase.2.2.2.1
         have i5:=hcase.2.2.2.2.1
         refine zH (zk (zt (zn ?_)))
         first | refine jy rfl rfl (zh rfl rfl) ?_ | refine jy rfl rfl (zI rfl rfl) ?_ | refine jy rfl rfl (jq rfl rfl) ?_ | refine jy rfl rfl (zwN rfl rfl) ?_
         refine jy rfl rfl (wE rfl rfl rfl) ?_
         first | refine jy rfl rfl (zh rfl rfl) ?_ | refine jy rfl rfl (zI rfl rfl) ?_ | refine jy rfl rfl (jq rfl rfl) ?_ | refine jy rfl rfl (zwN rfl rfl) ?_
         first | refine zjW rfl rfl rfl (fun hg=>zh rfl rfl) ?_ | refine zjW rfl rfl rfl (fun hg=>zI rfl rfl) ?_ | refine zjW rfl rfl rfl (fun hg=>jq rfl rfl) ?_ | refine zjW rfl rfl rfl (fun hg=>zwN rfl rfl) ?_
         refine zjW rfl rfl rfl (fun hg=>wE rfl (if_pos hg) rfl) ?_
         first | refine jy rfl rfl (jg rfl rfl rfl rfl) ?_ | refine jy rfl rfl (jf rfl rfl rfl rfl) ?_ | refine jy rfl rfl (yZ rfl rfl (fun _=>rfl) (fun _=>rfl)) ?_
         first | refine jy rfl rfl (zh rfl rfl) ?_ | refine jy rfl rfl (zI rfl rfl) ?_ | refine jy rfl rfl (jq rfl rfl) ?_ | refine jy rfl rfl (zwN rfl rfl) ?_
         first | refine zjW rfl rfl rfl (fun hg=>zh rfl rfl) ?_ | refine zjW rfl rfl rfl (fun hg=>zI rfl rfl) ?_ | refine zjW rfl rfl rfl (fun hg=>jq rfl rfl) ?_ | refine zjW rfl rfl rfl (fun hg=>zwN rfl rfl) ?_
         first | refine zjW rfl rfl rfl (fun hg=>zh rfl rfl) ?_ | refine zjW rfl rfl rfl (fun hg=>zI rfl rfl) ?_ | refine zjW rfl rfl rfl (fun hg=>jq rfl rfl) ?_ | refine zjW rfl rfl rfl (fun hg=>zwN rfl rfl) ?_
         refine zjW rfl rfl rfl (fun hg=>qx rfl (if_pos hg) (if_pos hg)) ?_
         first | refine jy rfl rfl (jg rfl rfl rfl rfl) ?_ | refine jy rfl rfl (jf rfl rfl rfl rfl) ?_ | refine jy rfl rfl (yZ rfl rfl (fun _=>rfl) (fun _=>rfl)) ?_
         first | refine jy rfl rfl (zh rfl rfl) ?_ | refine jy rfl rfl (zI rfl rfl) ?_ | refine jy rfl rfl (jq rfl rfl) ?_ | refine jy rfl rfl (zwN rfl rfl) ?_
         first | refine zjW rfl rfl rfl (fun hg=>zh rfl rfl) ?_ | refine zjW rfl rfl rfl (fun hg=>zI rfl rfl) ?_ | refine zjW rfl rfl rfl (fun hg=>jq rfl rfl) ?_ | refine zjW rfl rfl rfl (fun hg=>zwN rfl rfl) ?_
         refine zjW rfl rfl rfl (fun hg=>kG rfl (if_pos hg) rfl) ?_
         first | refine zjW rfl rfl rfl (fun hg=>zh rfl (if_pos hg)) ?_ | refine zjW rfl rfl rfl (fun hg=>zI rfl (if_pos hg)) ?_ | refine zjW rfl rfl rfl (fun hg=>jq rfl (if_pos hg)) ?_ | refine zjW rfl rfl rfl (fun hg=>zwN rfl (if_pos hg)) ?_
         first | refine zjW rfl (zT rfl rfl rfl) rfl (fun hg=>zh rfl rfl) ?_ | refine zjW rfl (zT rfl rfl rfl) rfl (fun hg=>zI rfl rfl) ?_ | refine zjW rfl (zT rfl rfl rfl) rfl (fun hg=>jq rfl rfl) ?_ | refine zjW rfl (zT rfl rfl rfl) rfl (fun hg=>zwN rfl rfl) ?_
         first | refine zjW rfl (zT rfl rfl rfl) rfl (fun hg=>zh rfl rfl) ?_ | refine zjW rfl (zT rfl rfl rfl) rfl (fun hg=>zI rfl rfl) ?_ | refine zjW rfl (zT rfl rfl rfl) rfl (fun hg=>jq rfl rfl) ?_ | refine zjW rfl (zT rfl rfl rfl) rfl (fun hg=>zwN rfl rfl) ?_
         refine zjW rfl (zT rfl rfl rfl) rfl (fun hg=>jB rfl (if_pos hg) (if_pos hg)) ?_
         first | refine zjW rfl rfl rfl (fun hg=>jg rfl (if_pos hg) (vG hg) rfl) ?_ | refine zjW rfl rfl rfl (fun hg=>jf rfl (if_pos hg) rfl (vG hg)) ?_
         first | refine jy rfl rfl (jg rfl rfl rfl rfl) ?_ | refine jy rfl rfl (jf rfl rfl rfl rfl) ?_ | refine jy rfl rfl (yZ rfl rfl (fun _=>rfl) (fun _=>rfl)) ?_
         refine zo (zA rfl (fun h8=>?_) (fun h8=>?_))
         ·exfalso; simp [i1, i2] at h8; omega
         ·refine zH (zk (zt (zn ?_)))
          first | refine jy rfl rfl (zh rfl rfl) ?_ | refine jy rfl rfl (zI rfl rfl) ?_ | refine jy rfl rfl (jq rfl rfl) ?_ | refine jy rfl rfl (zwN rfl rfl) ?_
          refine jy rfl rfl (qx rfl rfl rfl) ?_
          first | refine jy rfl rfl (zh rfl rfl) ?_ | refine jy rfl rfl (zI rfl rfl) ?_ | refine jy rfl rfl (jq rfl rfl) ?_ | refine jy rfl rfl (zwN rfl rfl) ?_
          first | refine zjW rfl rfl rfl (fun hg=>zh rfl rfl) ?_ | refine zjW rfl rfl rfl (fun hg=>zI rfl rfl) ?_ | refine zjW rfl rfl rfl (fun hg=>jq rfl rfl) ?_ | refine zjW rfl rfl rfl (fun hg=>zwN rfl rfl) ?_
          first | refine zjW rfl rfl rfl (fun hg=>zi rfl rfl zDs) ?_ | refine zjW rfl rfl rfl (fun hg=>jJ rfl rfl rfl rfl zDs) ?_
          first | refine zjW rfl rfl rfl (fun hg=>zi rfl (if_pos hg) zAa) ?_ | refine zjW rfl rfl rfl (fun hg=>jJ rfl (if_pos hg) rfl rfl zAa) ?_
          first | refine zjW rfl rfl rfl (fun hg=>zl rfl (if_pos hg) rfl zBt) ?_ | refine zjW rfl rfl rfl (fun hg=>zX rfl (if_pos hg) rfl rfl rfl rfl zBt) ?_
          first | refine zjW rfl rfl rfl (fun hg=>qA rfl rfl (if_pos hg) Tryz.underlying31) ?_ | refine zjW rfl rfl rfl (fun hg=>zwU rfl (if_pos hg) rfl (by simp) Tryz.underlying31) ?_ | refine zjW rfl rfl rfl (fun hg=>zz2 rfl (if_pos hg) Tryz.underlying31) ?_
          refine zjW rfl rfl rfl (fun hg=>kG rfl (if_pos hg) (if_pos hg)) ?_
          first | refine jy rfl rfl (jg rfl rfl rfl rfl) ?_ | refine jy rfl rfl (jf rfl rfl rfl rfl) ?_ | refine jy rfl rfl (yZ rfl rfl (fun _=>rfl) (fun _=>rfl)) ?_
          refine zo (zA rfl (fun h9=>?_) (fun h9=>?_))
          ·refine zn (jy rfl rfl (zB (av:=[]) rfl trivial hkn) ?_)
           first | refine jy rfl rfl (zg rfl rfl) ?_ | refine jy rfl rfl (qG rfl rfl) ?_ | refine jy rfl rfl (jm rfl rfl) ?_ | refine jy rfl rfl (zvO rfl rfl) ?_
           refine zo (zN (zP ?_))
           exact ⟨.inr rfl, AVle.refl _⟩
          ·have hp9:0 <= port /\ port < s.w.prts.length:=by simp at h9; omega
           have hptb:=zCt (wtP hok) (i:=port) hp9
           have z1:(ptW (wR s p.1) port).ol = (ptW s.w port).ol:=rfl
           have z2:(ptW (wR s p.1) port).oh = (ptW s.w port).oh:=rfl
           refine zH (zk (zn ?_))
           first | refine jy rfl rfl (zi rfl rfl zDs) ?_ | refine jy rfl rfl (jJ rfl rfl rfl rfl zDs) ?_
           first | refine jy rfl rfl (zi rfl rfl zAa) ?_ | refine jy rfl rfl (jJ rfl rfl rfl rfl zAa) ?_
           first | refine jy rfl rfl (zl rfl rfl rfl zBt) ?_ | refine jy rfl rfl (zX rfl rfl rfl rfl rfl rfl zBt) ?_
           first | refine jy rfl rfl (zh rfl rfl) ?_ | refine jy rfl rfl (zI rfl rfl) ?_ | refine jy rfl rfl (jq rfl rfl) ?_ | refine jy rfl rfl (zwN rfl rfl) ?_
           first | refine jy rfl rfl (zD rfl rfl rfl zCn (by omega) (by exact zCo (by omega)) zBB) ?_ | refine jy rfl rfl (jw rfl rfl rfl rfl rfl zCn (by omega) (by exact zCo (by omega)) zBB) ?_
           first | refine jy rfl rfl (zi rfl rfl zBf) ?_ | refine jy rfl rfl (jJ rfl rfl rfl rfl zBf) ?_
           first | refine jy rfl rfl (zK rfl rfl zuz (by exact zLb rfl)) ?_ | refine jy rfl rfl (qV (cs:=[_, _]) rfl rfl rfl rfl rfl (by exact zLb rfl) rfl zuz) ?_ | refine jy rfl rfl (za9 rfl rfl rfl rfl rfl (by exact zLb rfl) rfl zuz) ?_
           refine qP  rfl rfl rfl rfl rfl rfl rfl zwq zuz rfl (by rfl) (zQ rfl) rfl ?_
           refine zo (zt (zn ?_))
           first | refine jy rfl rfl (zh rfl rfl) ?_ | refine jy rfl rfl (zI rfl rfl) ?_ | refine jy rfl rfl (jq rfl rfl) ?_ | refine jy rfl rfl (zwN rfl rfl) ?_
           first | refine jy rfl rfl (zi rfl rfl zqK) ?_ | refine jy rfl rfl (jJ rfl rfl rfl rfl zqK) ?_
           first | refine jy rfl rfl (zl rfl rfl rfl ty3) ?_ | refine jy rfl rfl (zX rfl rfl rfl rfl rfl rfl ty3) ?_
           refine jy rfl rfl (qx rfl rfl rfl) ?_
           first | refine jy rfl rfl (zh rfl rfl) ?_ | refine jy rfl rfl (zI rfl rfl) ?_ | refine jy rfl rfl (jq rfl rfl) ?_ | refine jy rfl rfl (zwN rfl rfl) ?_
           first | refine zjW rfl rfl rfl (fun hg=>zh rfl rfl) ?_ | refine zjW rfl rfl rfl (fun hg=>zI rfl rfl) ?_ | refine zjW rfl rfl rfl (fun hg=>jq rfl rfl) ?_ | refine zjW rfl rfl rfl (fun hg=>zwN rfl rfl) ?_
           first | refine zjW rfl rfl rfl (fun hg=>zi rfl rfl zqc) ?_ | refine zjW rfl rfl rfl (fun hg=>jJ rfl rfl rfl rfl zqc) ?_
           first | refine zjW rfl rfl rfl (fun hg=>zl rfl (if_pos hg) rfl ty3) ?_ | refine zjW rfl rfl rfl (fun hg=>zX rfl (if_pos hg) rfl rfl rfl rfl ty3) ?_
           refine zjW rfl rfl rfl (fun hg=>jB rfl (if_pos hg) (if_pos hg)) ?_
           first | refine jy rfl rfl (jg rfl rfl rfl rfl) ?_ | refine jy rfl rfl (jf rfl rfl rfl rfl) ?_ | refine jy rfl rfl (yZ rfl rfl (fun _=>rfl) (fun _=>rfl)) ?_
           first | refine jy rfl rfl (zh rfl rfl) ?_ | refine jy rfl rfl (zI rfl rfl) ?_ | refine jy rfl rfl (jq rfl rfl) ?_ | refine jy rfl rfl (zwN rfl rfl) ?_
           first | refine zjW rfl rfl rfl (fun hg=>zh rfl rfl) ?_ | refine zjW rfl rfl rfl (fun hg=>zI rfl rfl) ?_ | refine zjW rfl rfl rfl (fun hg=>jq rfl rfl) ?_ | refine zjW rfl rfl rfl (fun hg=>zwN rfl rfl) ?_
           refine zjW rfl rfl rfl (fun hg=>qx rfl (if_pos hg) rfl) ?_
           first | refine jy rfl rfl (jg rfl rfl rfl rfl) ?_ | refine jy rfl rfl (jf rfl rfl rfl rfl) ?_ | refine jy rfl rfl (yZ rfl rfl (fun _=>rfl) (fun _=>rfl)) ?_
           first | refine jy rfl rfl (zh rfl rfl) ?_ | refine jy rfl rfl (zI rfl rfl) ?_ | refine jy rfl rfl (jq rfl rfl) ?_ | refine jy rfl rfl (zwN rfl rfl) ?_
           first | refine zjW rfl rfl rfl (fun hg=>zh rfl rfl) ?_ | refine zjW rfl rfl rfl (fun hg=>zI rfl rfl) ?_ | refine zjW rfl rfl rfl (fun hg=>jq rfl rfl) ?_ | refine zjW rfl rfl rfl (fun hg=>zwN rfl rfl) ?_
           first | refine zjW rfl rfl rfl (fun hg=>zh rfl rfl) ?_ | refine zjW rfl rfl rfl (fun hg=>zI rfl rfl) ?_ | refine zjW rfl rfl rfl (fun hg=>jq rfl rfl) ?_ | refine zjW rfl rfl rfl (fun hg=>zwN rfl rfl) ?_
           refine zjW rfl rfl rfl (fun hg=>vN rfl rfl (if_pos hg) ⟨(by first | omega | (simp at hg; omega)), (by first | omega | (simp at hg; omega))⟩) ?_
           refine zjW rfl rfl rfl (fun hg=>jB rfl (if_pos hg) (if_pos hg)) ?_
           first | refine jy rfl rfl (jg rfl rfl rfl rfl) ?_ | refine jy rfl rfl (jf rfl rfl rfl rfl) ?_ | refine jy rfl rfl (yZ rfl rfl (fun _=>rfl) (fun _=>rfl)) ?_
           refine zo (zA rfl (fun h10=>?_) (fun h10=>?_))
           ·refine zn (jy rfl rfl (zB (av:=[]) rfl trivial hkn) ?_)
            first | refine jy rfl rfl (zg rfl rfl) ?_ | refine jy rfl rfl (qG rfl rfl) ?_ | refine jy rfl rfl (jm rfl rfl) ?_ | refine jy rfl rfl (zvO rfl rfl) ?_
            refine zo (zN (zP ?_))
            exact ⟨.inr rfl, AVle.refl _⟩
           ·have h10b:(ptW s.w port).ol <= order /\ order <= (ptW s.w port).oh /\ qa <= 20000 - order:=by simp at h10; omega
            have hU:=hcase.2.2.2.2.2 port order hp9.1 hp9.2 h10b.1 h10b.2.1 h10b.2.2
            have e14:=hU.1
            refine Exists.elim hU.2 (fun qk hk=>?_)
            refine zH (zk (zn ?_))
            first | refine jy rfl rfl (zK rfl rfl zz8 (by exact zLb rfl)) ?_ | refine jy rfl rfl (qV (cs:=[_, _, _, _, _, _, _, _, _]) rfl rfl rfl rfl rfl (by exact zLb rfl) rfl zz8) ?_ | refine jy rfl rfl (za9 rfl rfl rfl rfl rfl (by exact zLb rfl) rfl zz8) ?_
            first | refine jy rfl rfl (zh rfl rfl) ?_ | refine jy rfl rfl (zI rfl rfl) ?_ | refine jy rfl rfl (jq rfl rfl) ?_ | refine jy rfl rfl (zwN rfl rfl) ?_
            first | refine jy rfl rfl (zh rfl rfl) ?_ | refine jy rfl rfl (zI rfl rfl) ?_ | refine jy rfl rfl (jq rfl rfl) ?_ | refine jy rfl rfl (zwN rfl rfl) ?_
            first | refine jy rfl rfl (zh rfl rfl) ?_ | refine jy rfl rfl (zI rfl rfl) ?_ | refine jy rfl rfl (jq rfl rfl) ?_ | refine jy rfl rfl (zwN rfl rfl) ?_
            first | refine jy rfl rfl (zh rfl rfl) ?_ | refine jy rfl rfl (zI rfl rfl) ?_ | refine jy rfl rfl (jq rfl rfl) ?_ | refine jy rfl rfl (zwN rfl rfl) ?_
            first | refine jy rfl rfl (zh rfl rfl) ?_ | refine jy rfl rfl (zI rfl rfl) ?_ | refine jy rfl rfl (jq rfl rfl) ?_ | refine jy rfl rfl (zwN rfl rfl) ?_
            refine jy rfl rfl (zW rfl rfl rfl ⟨by omega, by omega⟩) (jy rfl rfl (znr (av:=[.agg (eWt (wR s p.1)), eI (dsO parts p.1 p.1.length), ei port, ei order, ei (qa + order)]) rfl ⟨zpA (vWK rfl), vI rfl zAb, AVle.refl _, AVle.refl _, AVle.refl _, trivial⟩ rfl e14) ?_)
            first | refine jy rfl rfl (zh rfl rfl) ?_ | refine jy rfl rfl (zI rfl rfl) ?_ | refine jy rfl rfl (jq rfl rfl) ?_ | refine jy rfl rfl (zwN rfl rfl) ?_
            refine jy rfl rfl (zU rfl rfl rfl) (jy rfl rfl (zU rfl rfl rfl) ?_)
            first | refine jy rfl rfl (zg rfl rfl) ?_ | refine jy rfl rfl (qG rfl rfl) ?_ | refine jy rfl rfl (jm rfl rfl) ?_ | refine jy rfl rfl (zvO rfl rfl) ?_
            first | refine jy rfl rfl (zg rfl rfl) ?_ | refine jy rfl rfl (qG rfl rfl) ?_ | refine jy rfl rfl (jm rfl rfl) ?_ | refine jy rfl rfl (zvO rfl rfl) ?_
            refine zo (zn ?_)
            first | refine jy rfl rfl (zh rfl rfl) ?_ | refine jy rfl rfl (zI rfl rfl) ?_ | refine jy rfl rfl (jq rfl rfl) ?_ | refine jy rfl rfl (zwN rfl rfl) ?_
            first | refine jy rfl rfl (zh rfl rfl) ?_ | refine jy rfl rfl (zI rfl rfl) ?_ | refine jy rfl rfl (jq rfl rfl) ?_ | refine jy rfl rfl (zwN rfl rfl) ?_
            first | refine jy rfl rfl (zh rfl rfl) ?_ | refine jy rfl rfl (zI rfl rfl) ?_ | refine jy rfl rfl (jq rfl rfl) ?_ | refine jy rfl rfl (zwN rfl rfl) ?_
            first | refine jy rfl rfl (zh rfl rfl) ?_ | refine jy rfl rfl (zI rfl rfl) ?_ | refine jy rfl rfl (jq rfl rfl) ?_ | refine jy rfl rfl (zwN rfl rfl) ?_
            refine jy rfl rfl (zW rfl rfl rfl ⟨by omega, by omega⟩) (qL rfl (zfW (f:=15) (fs:=[]) (cs:=[]) (av:=[.pp 5 1 0 0, I port, I (qa + order)]) rfl rfl ⟨rfl, rfl, rfl⟩ ⟨rfl, rfl, rfl, trivial⟩ (hk.2 rfl rfl)) ?_)
            first | refine jy rfl rfl (zh rfl rfl) ?_ | refine jy rfl rfl (zI rfl rfl) ?_ | refine jy rfl rfl (jq rfl rfl) ?_ | refine jy rfl rfl (zwN rfl rfl) ?_
            refine jy rfl rfl (zU rfl rfl rfl) (jy rfl rfl (zU rfl rfl rfl) ?_)
            first | refine jy rfl rfl (zg rfl rfl) ?_ | refine jy rfl rfl (qG rfl rfl) ?_ | refine jy rfl rfl (jm rfl rfl) ?_ | refine jy rfl rfl (zvO rfl rfl) ?_
            first | refine jy rfl rfl (zg rfl rfl) ?_ | refine jy rfl rfl (qG rfl rfl) ?_ | refine jy rfl rfl (jm rfl rfl) ?_ | refine jy rfl rfl (zvO rfl rfl) ?_
            refine zo (zn ?_)
            first | refine jy rfl rfl (zh rfl rfl) ?_ | refine jy rfl rfl (zI rfl rfl) ?_ | refine jy rfl rfl (jq rfl rfl) ?_ | refine jy rfl rfl (zwN rfl rfl) ?_
            refine jy rfl rfl (qR rfl rfl rfl) ?_
            first | refine jy rfl rfl (zh rfl rfl) ?_ | refine jy rfl rfl (zI rfl rfl) ?_ | refine jy rfl rfl (jq rfl rfl) ?_ | refine jy rfl rfl (zwN rfl rfl) ?_
            first | refine zjW rfl rfl rfl (fun hg=>zh rfl rfl) ?_ | refine zjW rfl rfl rfl (fun hg=>zI rfl rfl) ?_ | refine zjW rfl rfl rfl (fun hg=>jq rfl rfl) ?_ | refine zjW rfl rfl rfl (fun hg=>zwN rfl rfl) ?_
            first | refine jy rfl rfl (jg rfl rfl rfl rfl) ?_ | refine jy rfl rfl (jf rfl rfl rfl rfl) ?_ | refine jy rfl rfl (yZ rfl rfl (fun _=>rfl) (fun _=>rfl)) ?_ | refine jy rfl rfl (jg rfl rfl rfl rfl) ?_ | refine jy rfl rfl (jf rfl rfl rfl rfl) ?_ | refine jy rfl rfl (yZ rfl rfl (fun _=>rfl) (fun h=>absurd h (by decide))) ?_ | refine jy rfl rfl (yZ rfl rfl (fun h=>absurd h (by decide)) (fun _=>rfl)) ?_
            first | refine jy rfl rfl (zh rfl rfl) ?_ | refine jy rfl rfl (zI rfl rfl) ?_ | refine jy rfl rfl (jq rfl rfl) ?_ | refine jy rfl rfl (zwN rfl rfl) ?_
            first | refine zjW rfl rfl rfl (fun hg=>zh rfl rfl) ?_ | refine zjW rfl rfl rfl (fun hg=>zI rfl rfl) ?_ | refine zjW rfl rfl rfl (fun hg=>jq rfl rfl) ?_ | refine zjW rfl rfl rfl (fun hg=>zwN rfl rfl) ?_
            refine zjW rfl rfl rfl (fun hg=>qR rfl (by first | exact rfl | exact (if_pos hg)) rfl) ?_
            first | refine jy rfl rfl (jg rfl rfl rfl rfl) ?_ | refine jy rfl rfl (jf rfl rfl rfl rfl) ?_ | refine jy rfl rfl (yZ rfl rfl (fun _=>rfl) (fun _=>rfl)) ?_ | refine jy rfl rfl (jg rfl rfl rfl rfl) ?_ | refine jy rfl rfl (jf rfl rfl rfl rfl) ?_ | refine jy rfl rfl (yZ rfl rfl (fun _=>rfl) (fun h=>absurd h (by decide))) ?_ | refine jy rfl rfl (yZ rfl rfl (fun h=>absurd h (by decide)) (fun _=>rfl)) ?_
            first | refine jy rfl rfl (zh rfl rfl) ?_ | refine jy rfl rfl (zI rfl rfl) ?_ | refine jy rfl rfl (jq rfl rfl) ?_ | refine jy rfl rfl (zwN rfl rfl) ?_
            first | refine zjW rfl rfl rfl (fun hg=>zh rfl rfl) ?_ | refine zjW rfl rfl rfl (fun hg=>zI rfl rfl) ?_ | refine zjW rfl rfl rfl (fun hg=>jq rfl rfl) ?_ | refine zjW rfl rfl rfl (fun hg=>zwN rfl rfl) ?_
            refine zjW rfl rfl rfl (fun hg=>wE rfl (by first | exact rfl | exact (if_pos hg)) rfl) ?_
            first | refine jy rfl rfl (jg rfl rfl rfl rfl) ?_ | refine jy rfl rfl (jf rfl rfl rfl rfl) ?_ | refine jy rfl rfl (yZ rfl rfl (fun _=>rfl) (fun _=>rfl)) ?_ | refine jy rfl rfl (jg rfl rfl rfl rfl) ?_ | refine jy rfl rfl (jf rfl rfl rfl rfl) ?_ | refine jy rfl rfl (yZ rfl rfl (fun _=>rfl) (fun h=>absurd h (by decide))) ?_ | refine jy rfl rfl (yZ rfl rfl (fun h=>absurd h (by decide)) (fun _=>rfl)) ?_
            first | refine jy rfl rfl (zh rfl rfl) ?_ | refine jy rfl rfl (zI rfl rfl) ?_ | refine jy rfl rfl (jq rfl rfl) ?_ | refine jy rfl rfl (zwN rfl rfl) ?_
            refine zjW rfl rfl rfl (fun hg=>zB (av:=[]) rfl trivial hkn) ?_
            first | refine jy rfl rfl (jg rfl rfl rfl rfl) ?_ | refine jy rfl rfl (jf rfl rfl rfl rfl) ?_ | refine jy rfl rfl (yZ rfl rfl (fun _=>rfl) (fun _=>rfl)) ?_ | refine jy rfl rfl (jg rfl rfl rfl rfl) ?_ | refine jy rfl rfl (jf rfl rfl rfl rfl) ?_ | refine jy rfl rfl (yZ rfl rfl (fun _=>rfl) (fun h=>absurd h (by decide))) ?_ | refine jy rfl rfl (yZ rfl rfl (fun h=>absurd h (by decide)) (fun _=>rfl)) ?_
            first | refine jy rfl rfl (zg rfl rfl) ?_ | refine jy rfl rfl (qG rfl rfl) ?_ | refine jy rfl rfl (jm rfl rfl) ?_ | refine jy rfl rfl (zvO rfl rfl) ?_
            refine zo (zN ?_)
            exact ⟨.inr rfl, AVle.of (by simp [hk.1])⟩
end Hs
end Go.Av
end
