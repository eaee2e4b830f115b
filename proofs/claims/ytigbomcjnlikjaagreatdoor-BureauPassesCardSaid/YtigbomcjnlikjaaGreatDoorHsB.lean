import Derived.Test.YtigbomcjnlikjaaGreatDoorTbA
set_option linter.unusedVariables false
set_option linter.unusedSimpArgs false
set_option maxRecDepth 100000
set_option maxHeartbeats 9000000
section
namespace Go.Av
namespace Hs
open Go.Proofs Tryz
variable{G:Glob}
def bdQ(g:Gls)(d:Int)(c:Chk):TA:=[.agg [ei (c.lo-g.dr*far d c.t),ei (c.hi+g.dr*far d c.t)]]
def E5(g:Gls)(d:Int):List (TA):=g.ck.map (bdQ g d)
theorem SU{g:Gls}{d:Int}{k:Nat}(h:k<g.ck.length):(E5 g d)[k]?=some (bdQ g d (ckG g k)):=by simp[E5,ckG,h]
theorem it318{g:Gls}(hs:stGB g=true)(d:Int)(hd:0<=d/\d<=400):gp tP G 319 [] [.ptr (eGs g),.ptr [ei d]] (E5 g d):=by
 have hg1:=gls_ok hs;have hcl:(g.ck.map eChk).length=g.ck.length:=sI;refine fc (qs:=E5 g d) func319 Y nR Y Y (fun C hC=>?_);refine qH ?_;refine jK ?_;refine Z7 ?_;refine zV ?_;refine wo ?_;refine cn (ι:={k:Nat//k<=g.ck.length}) (fun k=>⟨Tryz.f319.ntmps,frL [(0,.pub (.v (.func (.yield C.l) #[] #[]))),(1,.pub (.ptr (eGs g))),(2,.pub (.ptr [ei d])),(9,.pub (.sl (g.ck.map eChk))),(10,I (((g.ck.map eChk).length:Nat):Int)),(11,I (k.1:Int))],[]⟩) (fun k=>.on k.1) (fun k=>g.ck.length-k.1) (⟨0,oM⟩) Y ?_ ?_
 ·exact zd _ rL Y
 ·rintro⟨k,hk⟩;dsimp only;refine qH ?_;refine jK ?_;refine Z3 ?_;refine zV ?_;refine qH ?_;refine jM Y (fun h0=>?_) (fun h0=>?_)
  ·have hlt:k<g.ck.length:=by simpa using h0
   have h1:=gz hs hlt;have hmb:=c7 hg1.1 (sQ hd h1.1);refine wQ ?_;refine zV ?_;refine qH ?_;refine wo ?_;refine qH ?_;refine jK ?_;refine Z ?_;refine zb (zc Y Y Y xj oM (by exact f8 hlt) xm) (Z ?_);refine zI Y Y Y Y Y Y Y pQ rb Y rF (zF Y) Y (Z ?_);refine zV ?_;refine xX (zd (mem':=[]) [(0,.pub (.v (.func (.yield C.l) #[] #[]))),(1,.pub (.ptr (eGs g))),(2,.pub (.ptr [ei d])),(9,.pub (.sl (g.ck.map eChk))),(10,I (((g.ck.map eChk).length:Nat):Int)),(5,.pub (.ptr (eChk (ckG g k)))),(11,I (k:Int))] ⟨Y,Y,Y,Y,Y,Y,Y,trivial⟩ Y) ?_;refine qH ?_;refine jK ?_;refine zN mixed nR Y ?_;refine Z6 ?_;refine zH Y (zi (av:=[_,_]) Y rL (f319 d (ckG g k).t ⟨oM,oM⟩)) (Z3 ?_);refine zV ?_;refine qH ?_;refine vT ?_;refine jO Y Y (zX Y Y) ?_;refine jO Y Y (zf Y Y rq) ?_;refine jO Y Y (zf Y Y ag) ?_;refine jO Y Y (zl Y Y Y ki) ?_;refine jO Y Y (zX Y Y) ?_;refine jO Y Y (j4 Y Y Y ⟨oM,oM⟩) ?_;refine jO Y Y (zf Y Y rq) ?_
   refine jO Y Y (zf Y Y xE) ?_;refine jO Y Y (zl Y Y Y ki) ?_;refine jO Y Y (zX Y Y) ?_;refine jO Y Y (vA Y Y Y ⟨oM,oM⟩) ?_;refine jO Y Y (zu (cs:=[_,_]) Y iV Y ⟨_,_,Y,jT Y,⟨_,_,Y,jT Y,Y⟩⟩ rF (by simp[ofV])) ?_;refine kn (q:=bdQ g d (ckG g k)) (c:=true) Y Y Y Y (fun _=>rfl) (fun _=>rfl) (fun _=>by rw[hC];exact SU hlt) Y Y Y Y Y (fun h=>absurd h dE) (fun _=>?_) (fun _=>?_)
   ·refine jO Y Y (q0 Y Y) ?_;refine yS ?_;refine zV ?_;refine jM (b:=false) Y (fun h=>absurd h dE) (fun _=>?_);refine wQ ?_;refine vO ?_;refine zV ?_;refine jK ?_;refine Z4 ?_;exact⟨⟨k+1,oM⟩,by dsimp only;omega,Y,zd _ rL Y⟩
   ·refine jO Y Y (q0 Y Y) ?_;refine yS ?_;refine zV ?_;refine jM (b:=true) Y (fun _=>?_) (fun h=>absurd h dE);refine mq ?_;refine yR ?_;refine yK ?_;refine yK ?_;refine yR ?_;exact⟨.inr Y,Y,.inr ⟨_,Y⟩⟩
  ·have hge:k=g.ck.length:=by simp at h0;omega
   subst hge;refine bI ?_;refine vj ?_;refine vj ?_;refine cw ?_;exact⟨.inl Y,Y,.inl (by simp[E5])⟩
end Hs
end Go.Av
end
