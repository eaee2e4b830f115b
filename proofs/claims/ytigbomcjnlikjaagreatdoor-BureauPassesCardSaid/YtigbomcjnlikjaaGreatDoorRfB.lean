import Derived.Test.YtigbomcjnlikjaaGreatDoorRfA
import Derived.Test.YtigbomcjnlikjaaGreatDoorChA
import Derived.Test.YtigbomcjnlikjaaGreatDoorWiA
set_option linter.unusedVariables false
set_option linter.unusedSimpArgs false
set_option maxRecDepth 100000
set_option maxHeartbeats 9000000
section
namespace Go.Av
namespace Hs
open Go.Proofs Tryz
variable{G:Glob}
theorem sV:zS tP 22 false 1=true:=nR
theorem wu:qV tP 22 10=true:=nR
theorem lb:zS tP 23 false 1=true:=nR
theorem U1:zU tP 126 [(0,1),(1,1),(2,1),(3,1)] [nZ,nZ,nZ,.slice none 0 0]:=⟨_,underlying126,nR,nR⟩
structure BSt where
 g:Gls
 pt:Int
structure Sut where
 st:List BSt
 code:Wr.Cod
 op:Int
 fr:Int
 mo:Int
 wide:Int
 rows:Int
 slope:Int
 w:Wt
 cls:Int
 wts:List Int
 pb:Int
 pr:Int
 pl:Int
 days:Int
def eBSt(s:BSt):TA:=[ei s.g.hl,ei s.g.hh,ei s.g.gl,ei s.g.gh,ei s.g.dr,ei s.g.rd,ei s.g.ea,ei s.g.sl,.sl (s.g.ck.map eChk),ei s.pt]
def eSut(s:Sut):TA:=[.sl (s.st.map eBSt),.sl (s.code.fields.map Wr.eSpn),eI s.code.turns,ei s.code.most,ei s.op,ei s.fr,ei s.mo,ei s.wide,ei s.rows,ei s.slope,
 ei s.w.n,.sl (s.w.reps.map eRep),.sl (s.w.lnks.map eLnk),.sl (s.w.prts.map ePrt),ei s.w.fall,ei s.w.win,ei s.w.hold,ei s.w.dawn,ei s.w.dusk,ei s.cls,eI s.wts,ei s.pb,ei s.pr,ei s.pl,ei s.days]
def mpS(s:Sut):Ct.Mp:=⟨s.wide,s.rows,s.slope,[]⟩
def smB(s:Sut):Bool:=(s.st.take 6).all (fun x=>decide ((x.g.ck.length:Int)<=15))&&(decide ((s.st.length:Int)<=5)&&decide ((s.code.fields.length:Int)<=5)&&decide ((s.code.turns.length:Int)<=14)&&decide ((s.w.reps.length:Int)<=12)&&decide ((s.w.lnks.length:Int)<=12)&&decide ((s.w.prts.length:Int)<=6)&&decide ((s.wts.length:Int)<=5))
def dI(s:Sut)(x:BSt):Bool:=Ct.inB x.pt 0 (s.wide*s.rows-1)&&stGB x.g&& !clB x.g
def suB(s:Sut):Bool:=(inB (s.st.length:Int) 1 3&&inB s.days 1 4&&Ct.mapB (mpS s))&&(s.st.all (dI s)&&(Wr.codB s.code&&tarB s.op s.fr s.mo&&dW s.w&&s6B s.cls s.wts&&papB s.pb s.pr s.pl))
theorem sm_all{s:Sut}(h:smB s=true):(s.st.length<=5/\s.code.fields.length<=5/\s.code.turns.length<=14/\s.w.reps.length<=12/\s.w.lnks.length<=12/\s.w.prts.length<=6/\s.wts.length<=5)/\∀x∈s.st,x.g.ck.length<=15:=by
 simp only[smB,zLa,zLd]at h;refine⟨oM,fun x hx=>?_⟩;have h1:=h.1;rw[zLk oM,zLu]at h1;have:=h1 x hx;simp only[zLd]at this;omega
variable{k:Nat}
theorem take6{α:Type}{p:α->Bool}{l:List α}(h6:k<=6)(h:(l.take k).all p=true)(he:¬(k<l.length/\k<6)):(l.take 6).all p=true:=by
 by_cases hk:k<6
 ·have hl:l.length<=k:=oM;rw[zLk hl]at h;rw[zLk oM];exact h
 ·rw[show(6:Nat)=k by omega];exact h
theorem bad6{α:Type}{p:α->Bool}{l:List α}(h6:k<6)(hk:k<l.length)(h:p l[k]=false):(l.take 6).all p=false:=by
 rw[List.all_eq_false];exact⟨l[k],List.mem_iff_getElem.2 ⟨k,by simp;omega,sI⟩,by simp[h]⟩
theorem f45(c:Int)(l:List Int)(hl:l.length<=1000):ACall tP G 62 [.agg [ei c,eI l,.v (.slice none 0 0)]] (.v (.bool (s6B c l))):=by
 have hm:(l.map fun n=>[ei n]).length=l.length:=sI;obtain⟨z,hz⟩:∃z:Int,z=0:=⟨0,rfl⟩;refine aC func62 ?_;refine Z13 ?_;refine zD (ι:={a:Nat//(l.take a).all (fun x:Int=>inB x 0 100)=true}) (fun a=>⟨Tryz.f62.ntmps,frL [(1,.pub (.ptr [ei c,eI l,.v (.slice none 0 0)])),(3,I (a.1:Int))],[]⟩) (fun a=>l.length-a.1) (⟨0,sI⟩) ?_ ?_
 ·exact zd _ rL (Y)
 ·rintro⟨a,ha⟩;dsimp only;refine Z6 ?_;refine zb (zM Y Y Y underlying24) (Z3 ?_);refine nC ?_ ?_<;>intro h0
  ·skip;have hlt:a<l.length:=by simpa using h0
   refine Z9 ?_;refine zb (zc Y Y Y zY oM (by exact Jp (i:=a) hlt) t8) (Z ?_);refine yc (f119 _ _ _) ?_;refine Z3 ?_;refine nC ?_ ?_<;>intro h1
   ·skip;have hbad:(fun x:Int=>inB x 0 100) l[a]=false:=by simpa using h1
    refine Z11 ?_;exact⟨.inr Y,AVle.of (by rw[s6B,ko hlt hbad];rfl)⟩
   ·skip;have hok:(fun x:Int=>inB x 0 100) l[a]=true:=by simpa using h1
    refine Z8 ?_;exact⟨⟨a+1,all_next hlt ha hok⟩,by dsimp only;omega,zd _ rL (Y)⟩
  ·skip;have hall:=kC (p:=fun x:Int=>inB x 0 100) (by simpa using h0) ha;refine Z10 ?_;refine yc (f119 _ _ _) ?_;refine Z4 ?_;refine zh Y (fun hg=>zM Y Y (zLc hg) underlying24) ?_;refine yd Y (fun hg=>(f119 _ _ _)) ?_;refine Z5 ?_;refine zh Y (fun hg=>y5 Y (zLc hg) underlying77) (Z4 ?_);refine nC ?_ ?_<;>intro h2
   ·skip
    have hno:s6B c l=false:=by
     rw[s6B,hall,Bool.true_and];cases hv1:inB c 2 3<;>cases hv2:inB (l.length:Int) 1 3<;>simp_all
    refine Z7 ?_;exact⟨.inr Y,AVle.of (by rw[hno])⟩
   ·skip
    have hyes:s6B c l=true:=by
     rw[s6B,hall,Bool.true_and];cases hv1:inB c 2 3<;>cases hv2:inB (l.length:Int) 1 3<;>simp_all
    refine Z9 ?_;refine zD (ι:={k:Nat//k<1}) (fun k=>match k.1 with|_=>⟨Tryz.f62.ntmps,frL [(1,.pub (.ptr [ei c,eI l,.v (.slice none 0 0)])),(4,I 0)],[]⟩) (fun k=>1-k.1) (⟨0,oM⟩) ?_ ?_
    ·exact zd _ rL (Y)
    ·rintro⟨k,hk⟩;have hk3:k=0:=oM;rcases hk3 with rfl
     ·dsimp only;refine Z6 ?_;refine zb (y5 Y Y underlying77) (Z3 ?_);refine nC ?_ ?_<;>intro h3
      ·skip;exfalso;simp at h3
      ·skip;refine Z11 ?_;exact⟨.inr Y,AVle.of (by rw[hyes])⟩
theorem f40(s:Sut):ACall tP G 55 [.agg (eSut s),.v (.slice none 0 0)] (.agg (Ct.eMp (mpS s))):=by
 refine aC func55 ?_;refine Z3 ?_;refine zm Y (zE Y Y uM Y Y) (Z11 ?_);refine zb (zu (cs:=[_,_,_,_]) Y U1 Y (zk (zk (zk (zk Y)))) rF (by simp[ofV])) ?_;refine zm Y (zp Y Y Y Y Y Y cEx fL rF bL) (Z3 ?_);exact⟨.inr Y,jb Y (zQ Y Y Y Y fL Y (vwR (vwR (vwR ⟨_,_,Y,AVle.nil,Y⟩))))⟩
theorem Oe:zU tP 142 [(0,1),(1,1),(2,1)] [nZ,.slice none 0 0,.slice none 0 0]:=⟨_,underlying142,nR,nR⟩
theorem kT:zS tP 68 true 10=true:=nR
theorem Ni:(tP.info? 68).bind (·.zero)=some (.agg #[nZ,nZ,nZ,nZ,nZ,nZ,nZ,nZ,.slice none 0 0,nZ]):=nR
theorem Vp{a b:Bool}(h:(!(a|| !b))=true):b=true:=by cases a<;>cases b<;>simp_all
theorem HS{s:Sut}(h:k<s.st.length):(s.st.map eBSt)[k]?=some (eBSt s.st[k]):=mp_at h
theorem f7(s:Sut)(hsm:smB s=true):ACall tP G 12 [.agg (eSut s)] (.v (.bool (suB s))):=by
 have hm:(s.st.map eBSt).length=s.st.length:=sI;obtain⟨⟨hn1,hn2,hn3,hn4,hn5,hn6,hn7⟩,hck⟩:=sm_all hsm;refine aC func12 ?_;refine Z11 ?_;refine zb (zM Y Y Y underlying22) ?_;refine yc (f39 _ _ _) ?_;refine Z4 ?_;refine yd Y (fun hg=>(f39 _ _ _)) ?_;refine Z4 ?_;refine yd Y (fun hg=>(f40 s)) ?_;refine yd Y (fun hg=>(Ct.f40 (mpS s))) ?_;refine Z4 ?_;refine nC ?_ ?_<;>intro h0
 ·skip
  have hno:(inB (s.st.length:Int) 1 3&&inB s.days 1 4&&Ct.mapB (mpS s))=false:=by
   cases hv1:inB (s.st.length:Int) 1 3<;>cases hv2:inB s.days 1 4<;>cases hv3:Ct.mapB (mpS s)<;>simp_all
  refine Z7 ?_;exact⟨.inr Y,AVle.of (by rw[suB,hno];rfl)⟩
 ·skip
  have hyes:(inB (s.st.length:Int) 1 3&&inB s.days 1 4&&Ct.mapB (mpS s))=true:=by
   cases hv1:inB (s.st.length:Int) 1 3<;>cases hv2:inB s.days 1 4<;>cases hv3:Ct.mapB (mpS s)<;>simp_all
  have hmap:=(Ct.okM_iff (mpS s)).1 (VY hyes);obtain⟨m1,m2,m3,m4,_⟩:=hmap;have hw1:1<=(mpS s).wide/\(mpS s).wide<=6:=⟨m1,m2⟩;have hw2:1<=(mpS s).rows/\(mpS s).rows<=5:=⟨m3,m4⟩;refine Z9 ?_;refine zD (ι:={a:Nat//(s.st.take a).all (dI s)=true}) (fun a=>⟨Tryz.f12.ntmps,frL [(1,.pub (.ptr (eSut s))),(3,I (a.1:Int))],[]⟩) (fun a=>s.st.length-a.1) (⟨0,sI⟩) ?_ ?_
  ·exact zd _ rL (Y)
  ·rintro⟨a,ha⟩;dsimp only;refine Z6 ?_;refine zb (zM Y Y Y underlying22) (Z3 ?_);refine nC ?_ ?_<;>intro h1
   ·skip;have hlt:a<s.st.length:=by simpa using h1
    refine Z9 ?_;refine zb (zc Y Y Y wu oM (by exact HS (k:=a) hlt) (mp_len fun _=>rfl)) ?_;refine Z ?_;refine zI Y Y Y Y Y Y Y Ni kT Y rF (zF Y) Y (Z3 ?_);refine zN mixed nR Y ?_;refine Z ?_;refine zH Y (zi (av:=[_,_]) Y rL (f40 s)) (Z2 ?_);refine zH Y (zi (av:=[_,_]) Y rL (Ct.f41 (mpS s) _ hw1 hw2)) ?_;refine Z4 ?_;refine zq Y (fun hg=>zi (av:=[_]) Y ⟨((zLc hg)),trivial⟩ (f41 (s.st[a]).g (by have:=hck _ (zLm hlt);omega))) ?_;refine Z5 ?_;refine zq Y (fun hg=>zi (av:=[_]) Y ⟨((zLc hg)),trivial⟩ (f42 (g:=(s.st[a]).g) (Vp hg))) (Z4 ?_);refine nC ?_ ?_<;>intro h2
    ·skip
     have hbad:dI s s.st[a]=false:=by
      simp only[dI];have h2b:=h2;simp only[mpS]at h2b;cases hv1:Ct.inB (s.st[a]).pt 0 (s.wide*s.rows-1)<;>cases hv2:stGB (s.st[a]).g<;>cases hv3:clB (s.st[a]).g<;>simp_all
     refine Z11 ?_;exact⟨.inr Y,AVle.of (by rw[suB,hyes,ko hlt hbad];rfl)⟩
    ·skip
     have hok:dI s s.st[a]=true:=by
      simp only[dI];have h2b:=h2;simp only[mpS]at h2b;cases hv1:Ct.inB (s.st[a]).pt 0 (s.wide*s.rows-1)<;>cases hv2:stGB (s.st[a]).g<;>cases hv3:clB (s.st[a]).g<;>simp_all
     refine Z8 ?_;exact⟨⟨a+1,all_next hlt ha hok⟩,by dsimp only;omega,zd _ rL (Y)⟩
   ·skip;have hall:=kC (p:=dI s) (by simpa using h1) ha;refine Z9 ?_;refine yc (Wr.f31 s.code oM) ?_;refine Z3 ?_;refine yd Y (fun hg=>(f43 _ _ _)) ?_;refine Z4 ?_;refine yd Y (fun hg=>(f44 s.w oM)) ?_;refine Z6 ?_;refine zh Y (fun hg=>zu (cs:=[_,_,_]) Y Oe Y ⟨_,_,Y,jT (zLc hg),⟨_,_,Y,lL (zLc hg),Y⟩⟩ rF (by simp[ofV])) ?_;refine zh Y (fun hg=>zi (av:=[_]) Y ⟨((zLc hg)),trivial⟩ (f45 _ _ oM)) ?_;refine Z4 ?_;refine yd Y (fun hg=>(f46 _ _ _)) ?_;refine Z5 ?_;exact⟨.inr Y,AVle.of (by rw[suB,hyes,hall];simp[Bool.and_assoc])⟩
end Hs
end Go.Av
end
