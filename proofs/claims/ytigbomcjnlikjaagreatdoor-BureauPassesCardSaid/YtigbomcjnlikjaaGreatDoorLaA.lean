import Derived.Test.YtigbomcjnlikjaaGreatDoorExA
import Derived.Test.YtigbomcjnlikjaaGreatDoorBuH
import Derived.Test.YtigbomcjnlikjaaGreatDoorHsC
set_option linter.unusedVariables false
set_option linter.unusedSimpArgs false
set_option maxRecDepth 100000
set_option maxHeartbeats 9000000
section
namespace Go.Av
namespace Bu
open Go.Proofs
variable{G:Glob}{s:Hs.Sut}{b:BS}
variable{rs:List Hs.Rep}{r:Hs.Rep}{i:Nat}{p:Nat × Nat}{w:Hs.Wt}{l:List Ac}
theorem yz(h:i<rs.length):Hs.rpW (wR s (rs++[r])) i=Hs.rpW (wR s rs) i:=by
 simp[Hs.rpW,wR,zLf h]
theorem IN(h1:p.1<rs.length)(h2:p.2<rs.length):Hs.alP (wR s (rs++[r])) p=Hs.alP (wR s rs) p:=by
 unfold Hs.alP;rw[yz h1,yz h2];rfl
theorem Cj(h:p∈Hs.pairsA (wR s rs)):p∈Hs.pairsA (wR s (rs++[r])):=by
 obtain⟨h1,h2,h3⟩:=Hs.pairs_mem.1 h;have h1':p.1<rs.length:=h1;have h2':p.2<rs.length:=h2;refine Hs.pairs_mem.2 ⟨?_,?_,?_⟩
 ·show p.1<(rs++[r]).length;simp;omega
 ·show p.2<(rs++[r]).length;simp;omega
 ·rw[IN h1' h2'];exact h3
theorem o7{ds es:List Int}(hw:Hs.okWtB (wR s rs)=true)(hw':Hs.okWtB (wR s (rs++[r]))=true)(h0:∀i,i<rs.length->0<=ds.getD i 0)(h1:∀i,i<(rs++[r]).length->0<=es.getD i 0)(he:∀i,i<rs.length->es.getD i 0=ds.getD i 0){x:Int}(hx:Hs.firO (wR s rs) ds=some x):
  0<=x/\∃y,Hs.firO (wR s (rs++[r])) es=some y/\0<=y/\y<=x:=by
 have t0:=Hs.tk_ok (Hs.wtP hw);have t1:=Hs.tk_ok (Hs.wtP hw');have n0:=Hs.seN_nn t0 (ds:=ds) h0;have n1:=Hs.seN_nn t1 (ds:=es) h1;obtain⟨hx0,p,hp,hs,rfl⟩:=Hs.fir_some n0 hx;have hp':=Cj (r:=r) hp;obtain⟨q1,q2,_⟩:=Hs.pairs_mem.1 hp;have q1':p.1<rs.length:=q1;have q2':p.2<rs.length:=q2;have e1:Hs.seN (wR s (rs++[r])) es p=Hs.seN (wR s rs) ds p:=by unfold Hs.seN;rw[yz q1',yz q2',he _ q1',he _ q2']
 have e2:Hs.enN (wR s (rs++[r])) p=Hs.enN (wR s rs) p:=by unfold Hs.enN;rw[yz q1',yz q2'];rfl
 obtain⟨y,hy,hyl⟩:=Hs.fir_le n1 hp' (by rw[e1,e2];exact hs);exact⟨hx0,y,hy,(Hs.fir_some n1 hy).1,by rw[e1]at hyl;exact hyl⟩
theorem Ed(h:i<rs.length):(Hs.lowsW (wR s (rs++[r]))).getD i 0=(Hs.lowsW (wR s rs)).getD i 0:=by
 rw[Hs.low_get (show i<(rs++[r]).length by simp;omega),Hs.low_get h,yz h]
theorem Dj(h:i<rs.length):(Hs.highsW (wR s (rs++[r]))).getD i 0=(Hs.highsW (wR s rs)).getD i 0:=by
 rw[Hs.high_get (show i<(rs++[r]).length by simp;omega),Hs.high_get h,yz h]
theorem GZ(hw:Hs.okWtB w=true):∀i,i<w.reps.length->0<=(Hs.lowsW w).getD i 0:=fun i hi=>by
 have:=Hs.okRep_bd (Hs.rp_ok (Hs.wtP hw) hi);rw[Hs.low_get hi];omega
theorem AE(hw:Hs.okWtB w=true):∀i,i<w.reps.length->0<=(Hs.highsW w).getD i 0:=fun i hi=>by
 have:=Hs.okRep_bd (Hs.rp_ok (Hs.wtP hw) hi);rw[Hs.high_get hi];omega
theorem FI(hw:Hs.okWtB (wR s rs)=true)(hw':Hs.okWtB (wR s (rs++[r]))=true):
  (seE (wR s (rs++[r]))=0∨seE (wR s (rs++[r]))=5)/\(seE (wR s rs)=0->seE (wR s (rs++[r]))=0/\seA (wR s (rs++[r]))<=seA (wR s rs)/\(0<=seZ (wR s rs)->0<=seZ (wR s (rs++[r]))/\seZ (wR s (rs++[r]))<=seZ (wR s rs))):=by
 refine⟨?_,fun h=>?_⟩
 ·unfold seE;rw[zLc hw'];split<;>simp
 ·unfold seE at h;rw[zLc hw]at h;cases hl:Hs.firO (wR s rs) (Hs.lowsW (wR s rs))with
  |none=>rw[hl]at h;simp at h
  |some x=>
   obtain⟨hx0,y,hy,hy0,hyx⟩:=o7 (r:=r) hw hw' (GZ hw) (GZ hw') (fun i hi=>Ed hi) hl;unfold seE seA seZ;rw[zLc hw',zLc hw',zLc hw',zLc hw,zLc hw,hl,hy];refine⟨Y,hyx,fun hz=>?_⟩;simp only[Option.isSome_some,if_true]at hz⊢;cases hh:Hs.firO (wR s rs) (Hs.highsW (wR s rs))with
   |none=>rw[hh]at hz;simp at hz
   |some z=>
    obtain⟨_,y2,hy2,h20,h2x⟩:=o7 (r:=r) hw hw' (AE hw) (AE hw') (fun i hi=>Dj hi) hh;rw[hy2];exact⟨h20,h2x⟩
def ra(n:List Int):Hs.Rep:=⟨n.getD 0 0,n.getD 1 0,n.getD 2 0,n.getD 3 0,n.getD 4 0,n.getD 5 0,n.getD 6 0⟩
def jL(l:List Ac):List Hs.Rep:=(l.filter fun a=>a.w==4).map fun a=>ra a.n
theorem gb{a:Ac}:jL (l++[a])=jL l++(if a.w=4 then[ra a.n]else[]):=by
 unfold jL;rw[List.filter_append,List.map_append]
 by_cases h:a.w=4<;>simp[h]
theorem KE(h:Hs.okWtB (wR s rs)=true)(h1:Hs.okWtB (wR s [r])=true)(hl:decide (((rs++[r]).length:Int)<=9)=true):Hs.okWtB (wR s (rs++[r]))=true:=by
 simp only[Hs.okWtB,wR,zLa,zLd,Bool.not_eq_true',List.any_append,Bool.or_eq_false_iff]at h h1⊢;obtain⟨⟨⟨⟨⟨⟨⟨⟨⟨⟨⟨⟨a1,a2⟩,a3⟩,a4⟩,a5⟩,a6⟩,a7⟩,a8⟩,a9⟩,a10⟩,a11⟩,a12⟩,a13⟩:=h;exact⟨⟨⟨⟨⟨⟨⟨⟨⟨⟨⟨⟨a1,hl⟩,a3⟩,a4⟩,a5⟩,a6⟩,a7⟩,a8⟩,a9⟩,a10⟩,a11,h1.1.1.2⟩,a12⟩,a13⟩
theorem EW(hr:Hs.okWtB (wR s b.reps)=true):Hs.okWtB (wR s (wW s b r).reps)=true:=by
 unfold wW;split
 ·rename_i e
  obtain⟨e1,e2,e3,_⟩:=jA e;simp only[zLd]at e3;exact KE hr e1 (by show decide (((b.reps++[r]).length:Int)<=9)=true;simp;omega)
 ·exact hr
theorem K4{a:Ac}(hf:foB a=true):(doS s b a).2.reps=(if(doS s b a).1=0 then b.reps++(if a.w=4 then[ra a.n]else[])else b.reps)/\(Hs.okWtB (wR s b.reps)=true->Hs.okWtB (wR s (doS s b a).2.reps)=true):=by
 obtain⟨hw,⟨hc,hg⟩,hn⟩:=vm hf;obtain⟨w,n,c⟩:=a;simp only at hw hc hg hn;have hw2:w=1∨w=2∨w=3∨w=4∨w=5∨w=6:=oM;rcases hw2 with rfl|rfl|rfl|rfl|rfl|rfl
 ·match n,hn with
  |[x0,x1,x2,x3,x4,x5,x6,x7,x8,x9,x10],_=>
   simp only[doS,rdS]
   by_cases e:rdE s b x0 ⟨x1,x2,x3,x4,x5,x6,x7,x8,x9,x10⟩=0<;>simp[e,BS.put,BS.act]
 ·match n,hn with
  |[x0,x1],_=>
   simp only[doS,wrS]
   by_cases e:wrE s b x0 x1 c=0<;>simp[e,BS.put,BS.act,BS.pay]
 ·match n,hn with
  |[x0,x1,x2,x3,x4],_=>
   simp only[doS,aw]
   by_cases e:iz s b x0 x1 x2 x3 x4=0<;>simp[e,BS.put,BS.act,BS.ship]
 ·match n,hn with
  |[x0,x1,x2,x3,x4,x5,x6],_=>
   refine⟨?_,fun h=>EW h⟩;simp only[doS,wW]
   by_cases e:ee s b ⟨x0,x1,x2,x3,x4,x5,x6⟩=0<;>simp[e,BS.act,BS.rep,ra]
 ·match n,hn with
  |x0::x1::l,hn=>
   simp only[doS,stB]
   by_cases e:stE s b x0 x1 l=0<;>simp[e,BS.act,BS.state]
 ·match n,hn with
  |[x0,x1,x2],_=>
   simp only[doS,cmB]
   by_cases e:cmE s b x0 x1 x2=0<;>simp[e,BS.act,BS.came]
theorem sx(hf:∀a∈l,foB a=true)(h0:Hs.okWtB (wR s b.reps)=true):∀k,k<=l.length->(yg s b l k).reps=b.reps++jL (ja s b l k)/\Hs.okWtB (wR s (yg s b l k).reps)=true
 |0,_=>by simp[yg,ja,jL,h0]
 |k+1,hk=>by
  obtain⟨h1,h2⟩:=sx hf h0 k oM;have ha:foB (l.getD k ac0)=true:=hf _ (by simp[show k<l.length by omega]);obtain⟨h3,h4⟩:=K4 (s:=s) (b:=yg s b l k) ha;refine⟨?_,h4 h2⟩;show(doS s (yg s b l k) (l.getD k ac0)).2.reps=_;rw[h3];simp only[ja];split
  ·rw[gb,h1,List.append_assoc]
  ·exact h1
theorem tA(hf:∀a∈l,foB a=true):∀k,k<=l.length->∀a∈ja s b l k,foB a=true
 |0,_=>by simp[ja]
 |k+1,hk=>by
  have h1:=tA hf k oM;have ha:foB (l.getD k ac0)=true:=hf _ (by simp[show k<l.length by omega]);simp only[ja];split
  ·intro a h;rcases List.mem_append.1 h with h|h
   ·exact h1 a h
   ·rw[zLh]at h;subst h;exact ha
  ·exact h1
end Bu
end Go.Av
end
