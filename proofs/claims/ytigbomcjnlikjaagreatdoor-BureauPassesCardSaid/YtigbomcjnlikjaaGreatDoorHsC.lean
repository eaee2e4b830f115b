import Derived.Test.YtigbomcjnlikjaaGreatDoorHsA
set_option linter.unusedVariables false
set_option linter.unusedSimpArgs false
set_option maxRecDepth 100000
set_option maxHeartbeats 9000000
section
namespace Go.Av
namespace Hs
def tk0(w:Wt):Prop:=∀i,i<w.reps.length->0<=(rpW w i).tk
variable{w:Wt}{ds:List Int}
theorem tk_ok(hP:WtP w):tk0 w:=fun i h=>(okRep_bd (rp_ok hP h)).1.1
structure Srt(w:Wt)(ds es:List Int):Prop where
 le:∀i,i<w.reps.length->ds.getD i 0<=es.getD i 0
 nn:∀i,i<w.reps.length->0<=ds.getD i 0
theorem cO(hn:∀p∈pairsA w,0<=seN w ds p):∀(l:List (Nat × Nat))(b:Int),(∀p∈l,p∈pairsA w)->
  (l.foldl (bsN w ds) b=b∨∃p∈l,seN w ds p<enN w p/\l.foldl (bsN w ds) b=seN w ds p)/\(0<=b->l.foldl (bsN w ds) b<=b/\0<=l.foldl (bsN w ds) b)/\
  (∀p∈l,seN w ds p<enN w p->0<=l.foldl (bsN w ds) b/\l.foldl (bsN w ds) b<=seN w ds p)
 |[],b,_=>⟨.inl rfl,fun h=>⟨Int.le_refl _,h⟩,fun p hp=>by cases hp⟩
 |q::l,b,hl=>by
  have hq:=hn q (hl q (zL1 ..));obtain⟨h1,h2,h3⟩:=cO hn l (bsN w ds b q) (fun p hp=>hl p (zL3 _ hp));simp only[List.foldl_cons];cases hb:bsB w ds b q with
  |true=>
   have e:bsN w ds b q=seN w ds q:=by rw[bsN,hb];rfl
   simp only[bsB,zLa,Bool.or_eq_true,zLd]at hb;rw[e]at h1 h2 h3⊢;have h4:=h2 hq;refine⟨.inr ?_,fun h=>⟨oM,h4.2⟩,fun p hp hs=>?_⟩
   ·rcases h1 with h1|⟨p,hp,hs,h1⟩
    ·exact⟨q,zL1 ..,hb.1,h1⟩
    ·exact⟨p,zL3 _ hp,hs,h1⟩
   ·rcases List.mem_cons.1 hp with hp|hp
    ·subst hp;exact⟨h4.2,h4.1⟩
    ·exact h3 p hp hs
  |false=>
   have e:bsN w ds b q=b:=by rw[bsN,hb];rfl
   rw[e]at h1 h2 h3⊢;refine⟨?_,h2,fun p hp hs=>?_⟩
   ·rcases h1 with h1|⟨p,hp,hs,h1⟩
    ·exact .inl h1
    ·exact .inr ⟨p,zL3 _ hp,hs,h1⟩
   ·rcases List.mem_cons.1 hp with hp|hp
    ·subst hp;simp only[bsB,Bool.and_eq_false_iff,Bool.or_eq_false_iff,decide_eq_false_iff_not]at hb;have h5:¬b<0/\¬seN w ds p<b:=hb.resolve_left (fun h=>h hs);have:=h2 oM;omega
    ·exact h3 p hp hs
theorem seN_nn(ht:tk0 w)(hd:∀i,i<w.reps.length->0<=ds.getD i 0):∀p∈pairsA w,0<=seN w ds p:=fun p hp=>by
 have h1:=pairs_mem.1 hp;have:=ht p.1 h1.1;have:=hd p.1 h1.1;unfold seN;omega
theorem fir_some{x:Int}(hn:∀p∈pairsA w,0<=seN w ds p)(h:firO w ds=some x):0<=x/\∃p∈pairsA w,seN w ds p<enN w p/\seN w ds p=x:=by
 obtain⟨h1,_,_⟩:=cO hn (pairsA w) (-1) (fun _ h=>h);unfold firO yT at h;split at h
 ·cases h
 ·rename_i h0
  injection h with h
  rcases h1 with h1|⟨p,hp,hs,h1⟩
  ·omega
  ·exact⟨oM,p,hp,hs,oM⟩
theorem fir_le(hn:∀p∈pairsA w,0<=seN w ds p){p:Nat × Nat}(hp:p∈pairsA w)(hs:seN w ds p<enN w p):∃x,firO w ds=some x/\x<=seN w ds p:=by
 obtain⟨_,_,h3⟩:=cO hn (pairsA w) (-1) (fun _ h=>h);have:=h3 p hp hs;exact⟨_,lM (by unfold yT;omega),this.2⟩
theorem low_get{i:Nat}(h:i<w.reps.length):(lowsW w).getD i 0=(rpW w i).dl:=by rw[zLv,HK h];rfl
theorem high_get{i:Nat}(h:i<w.reps.length):(highsW w).getD i 0=(rpW w i).dh:=by rw[zLv,uW h];rfl
end Hs
end Go.Av
end
