import Derived.Test.YtigbomcjnlikjaaGreatDoorExG
import Derived.Test.YtigbomcjnlikjaaGreatDoorLaA
set_option linter.unusedVariables false
set_option linter.unusedSimpArgs false
set_option maxRecDepth 100000
set_option maxHeartbeats 9000000
section
namespace Go.Av
namespace Bu
open Go.Proofs
variable{G:Glob}{s:Hs.Sut}{b:BS}
structure SI(s:Hs.Sut)(b:BS):Prop where
 k:∀e∈b.said,SdK s e
 l:b.said.length<=b.acts.length
theorem pj{c:Int}(k:Nat)(hk:k=2∨k=3)(h1:1<=c)(h2:c<=xc (k:Int)-1):∃i,i<k/\yj c i=true:=by
 rcases hk with rfl|rfl
 ·have:c<=3:=by simpa[xc]using h2
  have hc:c=1∨c=2∨c=3:=oM;rcases hc with rfl|rfl|rfl
  ·exact⟨0,dE,dE⟩
  ·exact⟨1,dE,dE⟩
  ·exact⟨0,dE,dE⟩
 ·have:c<=7:=by simpa[xc]using h2
  have hc:c=1∨c=2∨c=3∨c=4∨c=5∨c=6∨c=7:=oM;rcases hc with rfl|rfl|rfl|rfl|rfl|rfl|rfl
  ·exact⟨0,dE,dE⟩
  ·exact⟨1,dE,dE⟩
  ·exact⟨0,dE,dE⟩
  ·exact⟨2,dE,dE⟩
  ·exact⟨0,dE,dE⟩
  ·exact⟨1,dE,dE⟩
  ·exact⟨0,dE,dE⟩
theorem ft(hS:Hs.SuP s):s.cls=2∨s.cls=3:=by
 have:=hS.s6;simp[Hs.s6B,Hs.inB]at this;omega
theorem uR(hS:Hs.SuP s):(s.cls.toNat=2∨s.cls.toNat=3)/\((s.cls.toNat:Nat):Int)=s.cls:=by
 have:=ft hS;omega
theorem Vn(hS:Hs.SuP s){e:(Int × Int) × Std}(h1:1<=e.2.came)(h2:e.2.came<=xc s.cls-1):ptL s e s.cls.toNat≠[]:=by
 obtain⟨h3,h4⟩:=uR hS;obtain⟨i,hi,hb⟩:=pj (c:=e.2.came) s.cls.toNat h3 h1 (by rw[h4];exact h2);have:pt1 s e i∈ptL s e s.cls.toNat:=zLj.2 ⟨i,List.mem_filter.2 ⟨List.mem_range.2 hi,hb⟩,rfl⟩;exact List.ne_nil_of_mem this
theorem Ny(hS:Hs.SuP s):xc s.cls<=8:=by rcases ft hS with h|h<;>rw[h]<;>decide
theorem SI.state(hS:Hs.SuP s)(h:SI s b)(d n:Int)(l:List Int):SI s (stB s b d n l):=by
 unfold stB;split
 ·rename_i e
  obtain⟨e1,_,_,_⟩:=jA e;simp only[stR,zLa,zLd,Hs.inB_iff]at e1;refine⟨fun x hx=>?_,by simp[BS.state,BS.act];exact h.l⟩;simp only[BS.state,BS.act,List.mem_append,zLh]at hx;rcases hx with hx|rfl
  ·exact h.k x hx
  ·exact⟨e1.2,e1.1.2,⟨e1.1.1.2.1,by have:=e1.1.1.2.2;show n<_;omega⟩,.inl Y,⟨Int.le_refl _,by show(0:Int)<=1000;omega⟩⟩
 ·exact h
theorem SI.came(hS:Hs.SuP s)(h:SI s b)(d n c:Int):SI s (cmB s b d n c):=by
 unfold cmB;split
 ·rename_i e
  obtain⟨e1,_,_,_⟩:=jA e;simp only[cmR,zLa,Hs.inB_iff]at e1;refine⟨fun x hx=>?_,by simp[BS.came,BS.act,kV];have:=h.l;omega⟩;simp only[BS.came,BS.act,kV,zLj]at hx;obtain⟨y,hy,rfl⟩:=hx;have hk:=h.k y hy;split
  ·have h8:=Ny hS;exact⟨hk.p,hk.l,hk.w,.inr (Vn hS (e:=(y.1,⟨y.2.parts,c⟩)) e1.2.1 e1.2.2),⟨by have:=e1.2.1;show 0<=c;omega,by have:=e1.2.2;show c<=1000;omega⟩⟩
  ·exact hk
 ·exact h
theorem SI.do(hS:Hs.SuP s)(h:SI s b){a:Ac}(hf:foB a=true):SI s (doS s b a).2:=by
 obtain⟨hw,⟨hc,hg⟩,hn⟩:=vm hf;obtain⟨w,n,c⟩:=a;simp only at hw hc hg hn;have hl:=h.l;have hw2:w=1∨w=2∨w=3∨w=4∨w=5∨w=6:=oM;rcases hw2 with rfl|rfl|rfl|rfl|rfl|rfl
 ·match n,hn with
  |[x0,x1,x2,x3,x4,x5,x6,x7,x8,x9,x10],_=>
   simp only[doS,rdS]
   by_cases e:rdE s b x0 ⟨x1,x2,x3,x4,x5,x6,x7,x8,x9,x10⟩=0
   ·rw[zLc e];exact⟨h.k,by simp[BS.put,BS.act];omega⟩
   ·rw[zLy e];exact h
 ·match n,hn with
  |[x0,x1],_=>
   simp only[doS,wrS]
   by_cases e:wrE s b x0 x1 c=0
   ·rw[zLc e];exact⟨h.k,by simp[BS.put,BS.act,BS.pay];omega⟩
   ·rw[zLy e];exact h
 ·match n,hn with
  |[x0,x1,x2,x3,x4],_=>
   simp only[doS,aw]
   by_cases e:iz s b x0 x1 x2 x3 x4=0
   ·rw[zLc e];exact⟨h.k,by simp[BS.put,BS.act,BS.ship];omega⟩
   ·rw[zLy e];exact h
 ·match n,hn with
  |[x0,x1,x2,x3,x4,x5,x6],_=>
   simp only[doS,wW]
   by_cases e:ee s b ⟨x0,x1,x2,x3,x4,x5,x6⟩=0
   ·rw[zLc e];exact⟨h.k,by simp[BS.act,BS.rep];omega⟩
   ·rw[zLy e];exact h
 ·match n,hn with
  |x0::x1::l,hn=>exact h.state hS x0 x1 l
 ·match n,hn with
  |[x0,x1,x2],_=>exact h.came hS x0 x1 x2
theorem SI.run(hS:Hs.SuP s)(h:SI s b){l:List Ac}(hf:∀a∈l,foB a=true):∀k,k<=l.length->SI s (yg s b l k)
 |0,_=>h
 |k+1,hk=>(SI.run hS h hf k oM).do hS (hf _ (by simp[show k<l.length by omega]))
theorem U0{d:Nat}:SI s (b0 s d):=⟨fun e he=>by simp[b0]at he,by simp[b0]⟩
theorem AD(hS:Hs.SuP s):∀x∈s.wts,0<=x/\x<=100:=by
 have:=hS.s6;simp only[Hs.s6B,zLa,zLu,Hs.inB_iff]at this;exact this.1
theorem SI.tot(hS:Hs.SuP s)(hI:BI s b)(h:SI s b):(-100000000<=cI s b/\cI s b<=100000000)/\(-100000000<=cU s b/\cU s b<=100000000):=by
 have h1:=tq (f:=loE s) (l:=b.said) fun e he=>F5 (AD hS) (h.k e he).p;have h2:=tq (f:=hiE s) (l:=b.said) fun e he=>H4 (AD hS) (h.k e he).p;have h3:=h.l;have h4:=hI.a60;unfold cI cU;omega
end Bu
end Go.Av
namespace Go.Av
namespace Bu
open Go.Proofs
variable{G:Glob}{s:Hs.Sut}{b:BS}{pick:Int}{D:List Ac}{e:(Int × Int) × Std}
def clG(cls set:Int):Nat->Int->Int
 |0,p=>p
 |k+1,p=>if yj set p.toNat then p else clG cls set k ((p+1) % cls)
def clP(cls set pick:Int):Int:=clG cls set cls.toNat (pick % cls)
theorem Hk{cls set p:Int}(hc:cls=2∨cls=3)(hp:0<=p/\p<cls)(hs:∃i,i<cls.toNat/\yj set i=true):(0<=clG cls set cls.toNat p/\clG cls set cls.toNat p<cls)/\yj set (clG cls set cls.toNat p).toNat=true:=by
 obtain⟨i,hi,hb⟩:=hs;rcases hc with rfl|rfl
 ·have hi2:i=0∨i=1:=by simp at hi;omega
  have hp2:p=0∨p=1:=oM;rcases hp2 with rfl|rfl<;>rcases hi2 with rfl|rfl<;>cases h0:yj set 0<;>cases h1:yj set 1<;>simp_all[clG]
 ·have hi2:i=0∨i=1∨i=2:=by simp at hi;omega
  have hp2:p=0∨p=1∨p=2:=oM;rcases hp2 with rfl|rfl|rfl<;>rcases hi2 with rfl|rfl|rfl<;>cases h0:yj set 0<;>cases h1:yj set 1<;>cases h2:yj set 2<;>simp_all[clG]
theorem ti(hS:Hs.SuP s)(hp:0<=pick){c:Int}(h1:1<=c)(h2:c<=xc s.cls-1):(0<=clP s.cls c pick/\clP s.cls c pick<s.cls)/\yj c (clP s.cls c pick).toNat=true:=by
 obtain⟨h3,h4⟩:=uR hS;have h5:=ft hS;refine Hk h5 ⟨Int.emod_nonneg _ oM,Int.emod_lt_of_pos _ oM⟩ (pj _ h3 h1 (by rw[h4];exact h2))
def dn(a:Ac):Int × Int:=(a.n.getD 0 0,a.n.getD 1 0)
def trm(s:Hs.Sut)(pick:Int)(a m:Ac):Int:=if m.w=5/\dn m=dn a then s.wts.getD (a.n.getD 1 0).toNat 0*gnL (m.n.drop 2) (clP s.cls (a.n.getD 2 0) pick).toNat else 0
def ar(s:Hs.Sut)(pick:Int)(a:Ac)(l:List Ac):Int:=sumF (trm s pick a) l
def i7(s:Hs.Sut)(pick:Int)(a:Ac)(l:List Ac):Int:=if a.w=6 then ar s pick a l else 0
def ye(s:Hs.Sut)(pick:Int)(D:List Ac):Nat->Int
 |0=>0
 |k+1=>ye s pick D k+i7 s pick (D.getD k ac0) (D.take k)
theorem mA{α:Type}{f:α->Int}{l:List α}{x:α}:sumF f l+f x=sumF f (l++[x]):=by simp[sumF,List.foldl_append]
theorem ia{α:Type}{f:α->Int}:∀(l:List α)(a:Int),l.foldl (fun a e=>a+f e) a=a+sumF f l
 |[],a=>by simp[sumF]
 |x::l,a=>by
  unfold sumF;rw[List.foldl_cons,List.foldl_cons,ia l (a+f x),ia l (0+f x)];omega
theorem js{α:Type}{f:α->Int}{l:List α}{x:α}:sumF f (x::l)=f x+sumF f l:=by
 show l.foldl (fun a e=>a+f e) (0+f x)=_;rw[ia];omega
theorem cv{α β:Type}{f:β->Int}{g:α->β}:∀{l:List α},sumF f (l.map g)=sumF (fun x=>f (g x)) l
 |[]=>rfl
 |x::l=>by rw[List.map_cons,js,js,cv]
theorem dV{α:Type}{f:α->Int}{p:α->Bool}:∀{l:List α},(∀x∈l,p x=false->f x=0)->sumF f (l.filter p)=sumF f l
 |[],_=>rfl
 |x::l,h=>by
  have ih:=dV (l:=l) (f:=f) (p:=p) fun y hy=>h y (by simp[hy]);rw[List.filter_cons];split
  ·rw[js,js,ih]
  ·rename_i hp
   rw[js,ih,h x sI (by simpa using hp)];omega
theorem sj{α:Type}{f g h:α->Int}:∀{l:List α},(∀x∈l,f x=g x+h x)->sumF f l=sumF g l+sumF h l
 |[],_=>rfl
 |x::l,e=>by
  rw[js,js,js,e x sI,sj fun y hy=>e y (by simp[hy])];omega
theorem tg{α:Type}{f g:α->Int}{l:List α}(e:∀x∈l,f x=g x):sumF f l=sumF g l:=by
 induction l with
 |nil=>rfl
 |cons x l ih=>rw[js,js,e x sI,ih fun y hy=>e y (by simp[hy])]
theorem A2{α:Type}{f g:α->Int}{l:List α}(e:∀x∈l,f x<=g x):sumF f l<=sumF g l:=by
 induction l with
 |nil=>exact Int.le_refl _
 |cons x l ih=>
  have h1:=e x sI;have h2:=ih fun y hy=>e y (by simp[hy]);rw[js,js];omega
variable{a:Ac}{l:List Ac}
theorem pR:∀k,k<=D.length->ye s pick (D++[a]) k=ye s pick D k
 |0,_=>rfl
 |k+1,hk=>by
  have hk':k<D.length:=hk;simp only[ye];rw[pR k oM,List.take_append_of_le_length oM];congr 2;simp[zLf hk']
theorem mg:ye s pick (D++[a]) (D++[a]).length=ye s pick D D.length+i7 s pick a D:=by
 rw[List.length_append,List.length_singleton];simp only[ye];rw[pR _ (zLl _),List.take_append_of_le_length (zLl _),List.take_length];congr 2;simp
def stA(D:List Ac):List ((Int × Int) × List Int):=(D.filter fun a=>a.w==5).map fun a=>(dn a,a.n.drop 2)
theorem tI:stA (D++[a])=stA D++(if a.w=5 then[(dn a,a.n.drop 2)]else[]):=by
 unfold stA;rw[List.filter_append,List.map_append]
 by_cases h:a.w=5<;>simp[h]
def vE(s:Hs.Sut)(pick:Int)(e:(Int × Int) × Std):Int:=if e.2.came=0 then 0 else pt1 s e (clP s.cls e.2.came pick).toNat
structure RunI(s:Hs.Sut)(pick:Int)(b:BS)(D:List Ac):Prop where
 st:stA D=b.said.map fun e=>(e.1,e.2.parts)
 va:ye s pick D D.length=sumF (vE s pick) b.said
 cm:∀a∈D,a.w=6->(0<=a.n.getD 1 0/\a.n.getD 1 0<(s.wts.length:Int))/\1<=a.n.getD 2 0/\a.n.getD 2 0<=xc s.cls-1
theorem G4(h:stA D=b.said.map fun e=>(e.1,e.2.parts)):ar s pick a D=sumF (fun e=>if e.1=dn a then s.wts.getD (a.n.getD 1 0).toNat 0*gnL e.2.parts (clP s.cls (a.n.getD 2 0) pick).toNat else 0) b.said:=by
 have h1:ar s pick a D=sumF (fun q:(Int × Int) × List Int=>if q.1=dn a then s.wts.getD (a.n.getD 1 0).toNat 0*gnL q.2 (clP s.cls (a.n.getD 2 0) pick).toNat else 0) (stA D):=by
  unfold stA ar;rw[cv,←dV (p:=fun a=>a.w==5) (f:=trm s pick a)]
  ·refine tg fun m hm=>?_;have hw:m.w=5:=by simpa using(List.mem_filter.1 hm).2
   unfold trm
   by_cases hd:dn m=dn a<;>simp[hw,hd]
  ·intro m _ hp;have hw:¬m.w=5:=by simpa using hp
   unfold trm;rw[zLy fun h=>hw h.1]
 rw[h1,h,cv]
theorem Dq(hu:SdU b)(he:e∈b.said):jf b e.1=some e.2:=by
 unfold jf;unfold SdU at hu
 have key:∀l:List ((Int × Int) × Std),(l.map (·.1)).Nodup->e∈l->(l.find? fun x=>decide (x.1=e.1))=some e:=by
  intro l
  induction l with
  |nil=>intro _ h;cases h
  |cons x l ih=>
   intro hn hm;rw[List.map_cons,List.nodup_cons]at hn;rcases List.mem_cons.1 hm with rfl|hm
   ·simp
   ·have hx:¬x.1=e.1:=fun h=>hn.1 (h▸zLj.2 ⟨e,hm,rfl⟩);rw[List.find?_cons_of_neg (by simp[hx])];exact ih hn.2 hm
 rw[key _ hu he];rfl
theorem QW(hk:SdK s e){k:Nat}(hc:(k:Int)<s.cls):pt1 s e k=s.wts.getD e.1.2.toNat 0*gnL e.2.parts k:=by
 have hg:gB e.2.parts (k:Int)=true:=by
  unfold gB;rw[hk.p,Bool.true_and,Hs.inB_iff];have:=hk.l;omega
 unfold pt1;rw[zLc hg,Int.mul_comm]
theorem RunI.state(h:RunI s pick b D)(d n:Int)(l:List Int)(e:stE s b d n l=0)(hw:a.w=5)(hn:a.n=d::n::l):RunI s pick (stB s b d n l) (D++[a]):=by
 unfold stB;rw[zLc e];refine⟨?_,?_,fun x hx hx6=>?_⟩
 ·rw[tI,zLc hw,h.st];simp[BS.state,BS.act,dn,hn]
 ·rw[mg,h.va];unfold i7;rw[zLy oM];simp only[BS.state,BS.act];rw[←mA];rfl
 ·rcases List.mem_append.1 hx with hx|hx
  ·exact h.cm x hx hx6
  ·rw[zLh]at hx;subst hx;omega
theorem RunI.came(hS:Hs.SuP s)(hI:BI s b)(hK:SI s b)(hp:0<=pick)(h:RunI s pick b D)(d n c:Int)(e:cmE s b d n c=0)(hw:a.w=6)(hn:a.n=[d,n,c]):RunI s pick (cmB s b d n c) (D++[a]):=by
 unfold cmB;rw[zLc e];obtain⟨e1,_,e3,e4⟩:=jA e;simp only[cmR,zLa,Hs.inB_iff]at e1;have hdn:dn a=(d,n):=by simp[dn,hn]
 have h1:a.n.getD 1 0=n:=by simp[hn]
 have h2:a.n.getD 2 0=c:=by simp[hn]
 obtain⟨hcl,hbit⟩:=ti (s:=s) (pick:=pick) hS hp e1.2.1 e1.2.2;refine⟨?_,?_,fun x hx hx6=>?_⟩
 ·rw[tI,zLy oM,List.append_nil,h.st];simp only[BS.came,BS.act,kV,List.map_map];exact List.map_congr_left fun x _=>by simp only[Function.comp];split<;>rfl
 ·rw[mg,h.va];unfold i7;rw[zLc hw,G4 h.st];simp only[BS.came,BS.act,kV];rw[cv];refine(sj fun x hx=>?_).symm;rw[hdn,h1,h2]
  by_cases hx1:x.1=(d,n)
  ·have hz:x.2.came=0:=by
    have:=Dq hI.un hx;rw[hx1]at this;unfold cmN at e3;rw[this]at e3;simpa using e3
   rw[zLc hx1,zLc hx1];have hk:=hK.k x hx;have hc0:¬c=0:=oM;have:vE s pick (x.1,⟨x.2.parts,c⟩)=pt1 s x (clP s.cls c pick).toNat:=by unfold vE;rw[zLy hc0];rfl
   rw[this,QW hk oM,hx1];unfold vE;rw[zLc hz];dsimp only;omega
  ·rw[zLy hx1,zLy hx1];omega
 ·rcases List.mem_append.1 hx with hx|hx
  ·exact h.cm x hx hx6
  ·rw[zLh]at hx;subst hx;rw[h1,h2];exact⟨⟨e1.1.2.1,by have:=e1.1.2.2;omega⟩,e1.2⟩
theorem RunI.other(h:RunI s pick b D)(h5:¬a.w=5)(h6:¬a.w=6){b':BS}(hb:b'.said=b.said):RunI s pick b' (D++[a]):=by
 refine⟨?_,?_,fun x hx hx6=>?_⟩
 ·rw[tI,zLy h5,List.append_nil,h.st,hb]
 ·rw[mg,h.va,hb];unfold i7;rw[zLy h6];omega
 ·rcases List.mem_append.1 hx with hx|hx
  ·exact h.cm x hx hx6
  ·rw[zLh]at hx;subst hx;exact absurd hx6 h6
theorem RunI.do(hS:Hs.SuP s)(hI:BI s b)(hK:SI s b)(hp:0<=pick)(h:RunI s pick b D)(hf:foB a=true)(h0:(doS s b a).1=0):RunI s pick (doS s b a).2 (D++[a]):=by
 obtain⟨hw,⟨hc,hg⟩,hn⟩:=vm hf;obtain⟨w,n,c⟩:=a;simp only at hw hc hg hn;have hw2:w=1∨w=2∨w=3∨w=4∨w=5∨w=6:=oM;rcases hw2 with rfl|rfl|rfl|rfl|rfl|rfl
 ·match n,hn with
  |[x0,x1,x2,x3,x4,x5,x6,x7,x8,x9,x10],_=>
   refine h.other sI sI ?_;show(rdS s b x0 ⟨x1,x2,x3,x4,x5,x6,x7,x8,x9,x10⟩).said=b.said;unfold rdS;split<;>rfl
 ·match n,hn with
  |[x0,x1],_=>
   refine h.other sI sI ?_;show(wrS s b x0 x1 c).said=b.said;unfold wrS;split<;>rfl
 ·match n,hn with
  |[x0,x1,x2,x3,x4],_=>
   refine h.other sI sI ?_;show(aw s b x0 x1 x2 x3 x4).said=b.said;unfold aw;split<;>rfl
 ·match n,hn with
  |[x0,x1,x2,x3,x4,x5,x6],_=>
   refine h.other sI sI ?_;show(wW s b ⟨x0,x1,x2,x3,x4,x5,x6⟩).said=b.said;unfold wW;split<;>rfl
 ·match n,hn with
  |x0::x1::l,hn=>exact h.state x0 x1 l h0 rfl rfl
 ·match n,hn with
  |[x0,x1,x2],_=>exact h.came hS hI hK hp x0 x1 x2 h0 rfl rfl
theorem AU(hf:foB a=true)(h0:¬(doS s b a).1=0):(doS s b a).2=b:=by
 obtain⟨hw,⟨hc,hg⟩,hn⟩:=vm hf;obtain⟨w,n,c⟩:=a;simp only at hw hc hg hn;have hw2:w=1∨w=2∨w=3∨w=4∨w=5∨w=6:=oM;rcases hw2 with rfl|rfl|rfl|rfl|rfl|rfl
 ·match n,hn with
  |[x0,x1,x2,x3,x4,x5,x6,x7,x8,x9,x10],_=>exact zLy h0
 ·match n,hn with
  |[x0,x1],_=>exact zLy h0
 ·match n,hn with
  |[x0,x1,x2,x3,x4],_=>exact zLy h0
 ·match n,hn with
  |[x0,x1,x2,x3,x4,x5,x6],_=>exact zLy h0
 ·match n,hn with
  |x0::x1::l,hn=>exact zLy h0
 ·match n,hn with
  |[x0,x1,x2],_=>exact zLy h0
theorem NY(hS:Hs.SuP s)(hI:BI s b)(hK:SI s b)(hp:0<=pick)(h0:RunI s pick b [])(hf:∀a∈l,foB a=true):∀k,k<=l.length->RunI s pick (yg s b l k) (ja s b l k)
 |0,_=>h0
 |k+1,hk=>by
  have h1:=NY hS hI hK hp h0 hf k oM;have ha:foB (l.getD k ac0)=true:=hf _ (by simp[show k<l.length by omega]);show RunI s pick (doS s (yg s b l k) (l.getD k ac0)).2 _;simp only[ja];split
  ·rename_i e;exact h1.do hS (aM hS hI l k) (SI.run hS hK hf k oM) hp ha e
  ·rename_i e;rw[AU ha e];exact h1
theorem VS{l:List Int}{x:Int}(h:x∈l):mnL l<=x/\x<=mxL l:=by
 have key:∀(l:List Int)(a:Int),l.foldl min a<=a/\(∀y∈l,l.foldl min a<=y)/\a<=l.foldl max a/\∀y∈l,y<=l.foldl max a:=by
  intro l
  induction l with
  |nil=>intro a;exact⟨Int.le_refl _,sI,Int.le_refl _,sI⟩
  |cons z l ih=>
   intro a;obtain⟨h1,h2,_,_⟩:=ih (min a z);obtain⟨_,_,h3,h4⟩:=ih (max a z);simp only[List.foldl_cons];refine⟨oM,fun y hy=>?_,oM,fun y hy=>?_⟩
   ·rcases List.mem_cons.1 hy with rfl|hy
    ·omega
    ·exact h2 y hy
   ·rcases List.mem_cons.1 hy with rfl|hy
    ·omega
    ·exact h4 y hy
 cases l with
 |nil=>cases h
 |cons z l=>
  obtain⟨h1,h2,h3,h4⟩:=key l z;rcases List.mem_cons.1 h with rfl|h
  ·exact⟨h1,h3⟩
  ·exact⟨h2 x h,h4 x h⟩
theorem RunI.part(hK:SI s b)(h:RunI s pick b D){m:Ac}(hm:m∈D)(hw:m.w=5):yi (m.n.drop 2)=true/\((m.n.drop 2).length:Int)=s.cls:=by
 have:(dn m,m.n.drop 2)∈stA D:=zLj.2 ⟨m,List.mem_filter.2 ⟨hm,by simp[hw]⟩,rfl⟩;rw[h.st]at this;obtain⟨e,he,h1⟩:=zLj.1 this;have hk:=hK.k e he;have h2:e.2.parts=m.n.drop 2:=zLz Prod.snd h1;rw[←h2];exact⟨hk.p,hk.l⟩
theorem Ep(hS:Hs.SuP s)(hp:0<=pick)(hk:SdK s e):loE s e<=vE s pick e/\vE s pick e<=hiE s e:=by
 unfold loE vE hiE
 by_cases h:e.2.came=0
 ·rw[zLc h,zLc h,zLc h];omega
 ·rw[zLy h,zLy h,zLy h];obtain⟨x,hx⟩:=List.exists_mem_of_ne_nil _ (hk.c.resolve_left h);obtain⟨i,hi,_⟩:=zLj.1 hx;obtain⟨hi1,hi2⟩:=List.mem_filter.1 hi;have h5:=ft hS;obtain⟨h3,h4⟩:=Hk (cls:=s.cls) (set:=e.2.came) (p:=pick % s.cls) h5 ⟨Int.emod_nonneg _ oM,Int.emod_lt_of_pos _ oM⟩ ⟨i,List.mem_range.1 hi1,hi2⟩;exact VS (zLj.2 ⟨_,List.mem_filter.2 ⟨List.mem_range.2 (show(clP s.cls e.2.came pick).toNat<_ by unfold clP;omega),h4⟩,Y⟩)
theorem OZ(hS:Hs.SuP s)(hp:0<=pick)(hK:SI s b)(h:RunI s pick b D):cI s b<=ye s pick D D.length/\ye s pick D D.length<=cU s b:=by
 rw[h.va];exact⟨A2 fun e he=>(Ep hS hp (hK.k e he)).1,A2 fun e he=>(Ep hS hp (hK.k e he)).2⟩
theorem Nh(hS:Hs.SuP s)(hp:0<=pick)(hK:SI s b)(h:RunI s pick b D){m:Ac}(ha:a∈D)(h6:a.w=6)(hm:m∈D):-1000000<=trm s pick a m/\trm s pick a m<=1000000:=by
 unfold trm;split
 ·rename_i hh
  obtain⟨h1,h2⟩:=h.part hK hm hh.1;obtain⟨_,h3,h4⟩:=h.cm a ha h6;obtain⟨h5,_⟩:=ti (s:=s) (pick:=pick) hS hp h3 h4;rw[Int.mul_comm];exact DZ (Rb h1 oM) (Oo (AD hS) _)
 ·omega
theorem NM(hS:Hs.SuP s)(hp:0<=pick)(hK:SI s b)(h:RunI s pick b D)(ha:a∈D)(h6:a.w=6)(hl:∀m∈l,m∈D):-1000000*(l.length:Int)<=ar s pick a l/\ar s pick a l<=1000000*(l.length:Int):=
 tq fun m hm=>Nh hS hp hK h ha h6 (hl m hm)
theorem F4(hS:Hs.SuP s)(hp:0<=pick)(hK:SI s b)(h:RunI s pick b D)(h66:D.length<=66):∀k,k<=D.length->-66000000*(k:Int)<=ye s pick D k/\ye s pick D k<=66000000*(k:Int)
 |0,_=>by simp[ye]
 |k+1,hk=>by
  have h1:=F4 hS hp hK h h66 k oM;have hg:D.getD k ac0=D[k]:=by simp[show k<D.length by omega]
  have hl:(D.take k).length=k:=by simp;omega
  have h2:-66000000<=i7 s pick (D.getD k ac0) (D.take k)/\i7 s pick (D.getD k ac0) (D.take k)<=66000000:=by
   unfold i7;rw[hg];split
   ·rename_i h6
    have:=NM hS hp hK h (zLm oM) h6 (l:=D.take k) fun m hm=>List.mem_of_mem_take hm;rw[hl]at this;omega
   ·omega
  simp only[ye];omega
end Bu
end Go.Av
end
