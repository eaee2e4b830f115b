import Derived.Test.YtigbomcjnlikjaaGreatDoorChC
import Derived.Laws.StructEq
import Derived.Tactics2
import Derived.StillTactics
set_option linter.unusedVariables false
set_option linter.unusedSimpArgs false
set_option maxRecDepth 100000
set_option maxHeartbeats 9000000
section
namespace Go.Av
namespace Ct
open Go.Proofs
variable{G:Glob}
theorem getD_at{l:List Int}{k:Nat}(h:k<l.length):l.getD k 0=l[k]:=by simp[List.getD,h]
end Ct
end Go.Av
namespace Go.Av.Pn
namespace Ct
open Go.Av.Ct
open Go.Av Go.Proofs Go.RowKit
variable{G:Glob}
end Ct
end Go.Av.Pn
namespace Go.Av
namespace Ct
open Go.Proofs
variable{G:Glob}
theorem Ba{a b:Int}:eC a b=eC b a:=by unfold eC;omega
theorem BU(w a b:Int):jC w a b=jC w b a:=by unfold jC;rw[Ba,@Ba (a % w)]
end Ct
end Go.Av
namespace Go.Av
namespace Ct
open Go.Proofs
def dN(W i j:Nat):Nat:=((i/W-j/W)+(j/W-i/W))+((i % W-j % W)+(j % W-i % W))
theorem pF(W i j:Nat):jC (W:Int) (i:Int) (j:Int)=(dN W i j:Int):=by
 unfold jC dN eC;rw[←Int.natCast_ediv,←Int.natCast_ediv,←Int.natCast_emod,←Int.natCast_emod];generalize i/W=a;generalize j/W=b;generalize i % W=c;generalize j % W=d;omega
variable{i j:Nat}{m:Mp}{f:Fld}
theorem IE{W:Nat}(h:dN W i j=0):i=j:=by
 unfold dN at h
 have h1:i/W=j/W:=by
  generalize i/W=a at*;generalize j/W=b at*;generalize i % W=c at*;generalize j % W=d at*;omega
 have h2:i % W=j % W:=by
  generalize i/W=a at*;generalize j/W=b at*;generalize i % W=c at*;generalize j % W=d at*;omega
 rw[←Nat.div_add_mod i W,←Nat.div_add_mod j W,h1,h2]
theorem K1{W R:Nat}(hW:0<W)(hi:i<W*R)(hj:j<W*R)(h:dN W i j≠0):∃k,k<W*R/\dN W i k=1/\dN W k j+1=dN W i j:=by
 have hqi:i/W<R:=Nat.div_lt_of_lt_mul hi;have hqj:j/W<R:=Nat.div_lt_of_lt_mul hj;have hri:=Nat.mod_lt i hW;have hrj:=Nat.mod_lt j hW
 have mk:∀q r,q<R->r<W->W*q+r<W*R/\(W*q+r)/W=q/\(W*q+r) % W=r:=fun q r hq hr=>by
  refine⟨?_,?_,?_⟩
  ·have:W*(q+1)<=W*R:=Nat.mul_le_mul_left _ hq;rw[Nat.mul_succ]at this;omega
  ·rw[Nat.mul_add_div hW,Nat.div_eq_of_lt hr];omega
  ·rw[Nat.mul_add_mod,Nat.mod_eq_of_lt hr]
 unfold dN at h⊢;generalize i/W=qi at*;generalize j/W=qj at*;generalize i % W=ri at*;generalize j % W=rj at*
 by_cases h1:qi<qj
 ·obtain⟨a1,a2,a3⟩:=mk (qi+1) ri oM hri;exact⟨_,a1,by rw[a2,a3];omega,by rw[a2,a3];omega⟩
 ·by_cases h2:qj<qi
  ·obtain⟨a1,a2,a3⟩:=mk (qi-1) ri oM hri;exact⟨_,a1,by rw[a2,a3];omega,by rw[a2,a3];omega⟩
  ·by_cases h3:ri<rj
   ·obtain⟨a1,a2,a3⟩:=mk qi (ri+1) hqi oM;exact⟨_,a1,by rw[a2,a3];omega,by rw[a2,a3];omega⟩
   ·obtain⟨a1,a2,a3⟩:=mk qi (ri-1) hqi oM;exact⟨_,a1,by rw[a2,a3];omega,by rw[a2,a3];omega⟩
theorem lip{V:Nat->Int}{s:Int}{W R:Nat}(hW:0<W)(h:∀i j,i<W*R->j<W*R->dN W i j=1->V i-V j<=s):
  ∀(d i j:Nat),dN W i j=d->i<W*R->j<W*R->V i-V j<=s*(d:Int)
 |0,i,j,hd,_,_=>by rw[IE hd];simp
 |d+1,i,j,hd,hi,hj=>by
  obtain⟨k,k1,k2,k3⟩:=K1 hW hi hj oM;have h1:=h i k hi k1 k2;have h2:=lip hW h d k j oM k1 hj;have:s*((d+1:Nat):Int)=s*(d:Int)+s:=by push_cast;rw[Int.mul_add];omega
  omega
def vAt(f:Fld)(i:Nat):Int:=f.vals.getD i 0
structure FitsM(m:Mp)(f:Fld):Prop where
 wide:f.wide=m.wide
 len:(f.vals.length:Int)=m.wide*m.rows
 near:∀i j,i<f.vals.length->j<f.vals.length->jC m.wide (i:Int) (j:Int)=1->vAt f i-vAt f j<=m.slope
 st:∀s∈m.st,s.lo<=vAt f s.pt.toNat/\vAt f s.pt.toNat<=s.hi
theorem okM.W(hm:okM m):∃W R:Nat,m.wide=(W:Int)/\m.rows=(R:Int)/\0<W/\0<R/\W<=6/\R<=5:=by
 obtain⟨m1,m2,m3,m4,_⟩:=hm;exact⟨m.wide.toNat,m.rows.toNat,oM,oM,oM,oM,oM,oM⟩
theorem FitsM.lip(h:FitsM m f)(hm:okM m)(hi:i<f.vals.length)(hj:j<f.vals.length):vAt f i-vAt f j<=m.slope*jC m.wide (i:Int) (j:Int):=by
 obtain⟨W,R,eW,eR,hW,_⟩:=hm.W;have hlen:f.vals.length=W*R:=by have:=h.len;rw[eW,eR]at this;exact_mod_cast this
 have hn:=h.near;rw[eW]at hn⊢;rw[pF];rw[hlen]at hi hj hn;exact Go.Av.Ct.lip hW (fun i j hi hj hd=>hn i j hi hj (by rw[pF,hd];rfl)) _ i j Y hi hj
theorem FitsM.pt(h:FitsM m f)(hm:okM m){s:Stn}(hs:s∈m.st):∃p:Nat,s.pt=(p:Int)/\p<f.vals.length:=by
 have:=hm.2.2.2.2.2.2.2 s hs;exact⟨s.pt.toNat,oM,by have:=h.len;omega⟩
theorem FitsM.lo(h:FitsM m f)(hm:okM m)(hi:i<f.vals.length)(hv:0<=vAt f i):kE m.wide m.slope (i:Int) m.st<=vAt f i:=
 w9 _ (fun b=>b<=vAt f i) m.st 0 hv fun b s hs hb=>by
  obtain⟨p,ep,hp⟩:=h.pt hm hs;have h1:=h.st _ hs;have l1:=h.lip hm hp hi;rw[BU]at l1;rw[ep]at*;simp only[Int.toNat_natCast]at h1;omega
theorem FitsM.hi(h:FitsM m f)(hm:okM m)(hi:i<f.vals.length)(hv:vAt f i<=99999):vAt f i<=kF m.wide m.slope (i:Int) m.st:=
 w9 _ (fun b=>vAt f i<=b) m.st 99999 hv fun b s hs hb=>by
  obtain⟨p,ep,hp⟩:=h.pt hm hs;have h1:=h.st _ hs;have l1:=h.lip hm hi hp;rw[ep]at*;simp only[Int.toNat_natCast]at h1;omega
end Ct
end Go.Av
end
