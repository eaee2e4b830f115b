import Derived.Test.YtigbomcjnlikjaaGreatDoorRfB
import Derived.Test.YtigbomcjnlikjaaGreatDoorChB
set_option linter.unusedVariables false
set_option linter.unusedSimpArgs false
set_option maxRecDepth 100000
set_option maxHeartbeats 9000000
section
namespace Go.Av
namespace Hs
open Go.Proofs Tryz
variable{G:Glob}
theorem f209(a l h:Int):ACall tP G 105 [ei a,ei l,ei h] (.v (.bool (inB a l h))):=by
 refine aC func105 ?_;refine Z19 ?_;exact⟨.inr Y,AVle.of (by simp[inB])⟩
theorem f215(a l h:Int):ACall tP G 176 [ei a,ei l,ei h] (.v (.bool (inB a l h))):=by
 refine aC func176 ?_;refine Z19 ?_;exact⟨.inr Y,AVle.of (by simp[inB])⟩
theorem f208(a b c:Int):ACall tP G 107 [.agg [ei a,ei b,ei c]] (.v (.bool (papB a b c))):=by
 refine aC func107 ?_;refine Z10 ?_;refine yc (f209 _ _ _) ?_;refine Z3 ?_;refine yd Y (fun hg=>(f209 _ _ _)) ?_;refine Z4 ?_;refine yd Y (fun hg=>(f209 _ _ _)) ?_;refine Z5 ?_;exact⟨.inr Y,AVle.of (by simp[papB,Bool.and_assoc])⟩
theorem f210(a b c:Int)(hp:papB a b c=true):ACall tP G 108 [.agg [ei a,ei b,ei c],ei 0] (.top):=by
 simp only[papB,zLa,inB_iff]at hp;refine aC func108 ?_;refine Z18 ?_;refine zb (dH Y Y Y ⟨oM,oM,oM⟩) (Z7 ?_);refine zb (fW Y Y Y ⟨oM,oM⟩) (Z3 ?_);refine nC ?_ ?_<;>intro h0
 ·skip;exfalso;simp at h0
 ·skip;refine Z15 ?_;exact⟨.inr Y,AVle.top _⟩
theorem f129(a b c:Int)(hp:papB a b c=true):ACall tP G 37 [.agg [ei a,ei b,ei c],ei 0] (.tup [.top,ei 0]):=by
 refine aC func37 ?_;refine Z11 ?_;refine yc (f208 a b c) ?_;refine Z3 ?_;refine yd Y (fun hg=>(f209 _ _ _)) ?_;refine Z4 ?_;refine nC ?_ ?_<;>intro h0
 ·skip;exfalso;simp[hp,inB]at h0
 ·skip;refine Z6 ?_;refine yc (f210 a b c hp) ?_;refine Z5 ?_;exact⟨.inr Y,⟨_,Y,⟨_,_,Y,AVle.top _,⟨_,_,Y,AVle.refl _,Y⟩⟩⟩⟩
theorem f211(x lo hi:Int):ACall tP G 109 [ei x,ei lo,ei hi] (.v (.bool (Wr.inB x lo hi))):=Wr.f107 x lo hi
theorem f130(a b c:Int)(hp:tarB a b c=true):ACall tP G 40 [.agg [ei a,ei b,ei c],ei 0,ei 1] (.tup [.top,ei 0]):=by
 simp only[tarB,zLa,inB_iff]at hp;refine aC func40 ?_;refine Z12 ?_;refine yc (f211 _ _ _) ?_;refine Z4 ?_;refine yd Y (fun hg=>(f211 _ _ _)) ?_;refine Z5 ?_;refine yd Y (fun hg=>(f211 _ _ _)) ?_;refine Z4 ?_;refine yd Y (fun hg=>(f211 _ _ _)) ?_;refine Z4 ?_;refine yd Y (fun hg=>(f211 _ _ _)) ?_;refine Z4 ?_;refine nC ?_ ?_<;>intro h0
 ·skip;exfalso;simp[Wr.inB]at h0;omega
 ·skip;refine Z13 ?_;refine zb (y7 Y Y Y ⟨by rw[show max (0:Int) (0-b)=0 by omega];omega,by rw[show max (0:Int) (0-b)=0 by omega];omega⟩) ?_;refine zb (vA Y Y Y ⟨by rw[show max (0:Int) (0-b)=0 by omega];omega,by rw[show max (0:Int) (0-b)=0 by omega];omega⟩) (Z9 ?_);refine zb (vA Y Y Y ⟨by rw[show max (0:Int) (0-b)=0 by omega];omega,by rw[show max (0:Int) (0-b)=0 by omega];omega⟩) ?_;refine zb (dH Y Y Y ⟨by rw[show max (0:Int) (0-b)=0 by omega];omega,by rw[show max (0:Int) (0-b)=0 by omega];omega,oM⟩) ?_;refine zb (y7 Y Y Y ⟨by rw[show((1:Int)-1)=0 by omega,Int.zero_mul];omega,by rw[show((1:Int)-1)=0 by omega,Int.zero_mul];omega⟩) ?_;refine zb (vA Y Y Y ⟨by rw[show max (0:Int) (0-b)=0 by omega,show((1:Int)-1)=0 by omega,Int.zero_mul];omega,by rw[show max (0:Int) (0-b)=0 by omega,show((1:Int)-1)=0 by omega,Int.zero_mul];omega⟩) (Z5 ?_);exact⟨.inr Y,⟨_,Y,⟨_,_,Y,AVle.top _,⟨_,_,Y,AVle.refl _,Y⟩⟩⟩⟩
theorem f131(c:Wr.Cod)(hc:c.fields.length<=1000/\c.turns.length<=1000)(hk:Wr.codB c=true):ACall tP G 211 [.agg (Wr.eCod c)] (ei 0):=by
 refine aC func211 ?_;refine Z10 ?_;refine yc (Wr.f116 c hc) ?_;refine Z3 ?_;refine nC ?_ ?_<;>intro h0
 ·skip;exfalso;simp[hk]at h0
 ·skip;refine Z8 ?_;exact aR
theorem f132(m:Ct.Mp)(hk:Ct.mapB m=true):ACall tP G 212 [.agg (Ct.eMp m)] (ei 0):=by
 refine aC func212 ?_;refine Z10 ?_;refine yc (Ct.f99 m) ?_;refine Z3 ?_;refine nC ?_ ?_<;>intro h0
 ·skip;exfalso;simp[hk]at h0
 ·skip;refine Z8 ?_;exact aR
theorem f53(s:Sut):ACall tP G 112 [.agg (eSut s)] (.agg (Ct.eMp (mpS s))):=by
 refine aC func112 ?_;refine Z3 ?_;refine zm Y (zE Y Y uM Y Y) (Z10 ?_);refine zb (zu (cs:=[_,_,_,_]) Y U1 Y (zk (zk (zk Y))) rF (by simp[ofV])) ?_;refine zm Y (zp Y Y Y Y Y Y cEx fL rF bL) (Z3 ?_);exact⟨.inr Y,jb Y (zQ Y Y Y Y fL Y (vwR (vwR (vwR ⟨_,_,Y,AVle.nil,Y⟩))))⟩
theorem f263(x:Int):ACall tP G 335 [ei x] (.v (.bool (!inB x 0 100))):=by
 refine aC func335 ?_;refine Z8 ?_;refine yc (f209 _ _ _) ?_;refine Z5 ?_;exact aR
variable{p:Int->Bool}
theorem f313(c:FuncId)(cs:TA)(xs:List Int)(hx:xs.length<=1000000)(hp:∀x∈xs,ACall tP G c ([ei x]++cs) (.v (.bool (p x)))):ACall tP G 275 [.sl (xs.map (fun x=>[ei x])),.fn c [] cs] (ei (ixF p xs)):=by
 have hlm:(xs.map (fun x=>[ei x])).length=xs.length:=sI;refine aC func275 ?_;refine Z9 ?_;refine zb (zM Y Y Y underlying24) (Z4 ?_);refine zD (ι:={k:Nat//k<=xs.length/\∀j(hj:j<xs.length),j<k->p xs[j]=false}) (fun k=>⟨Tryz.f275.ntmps,frL [(0,.pub (.sl (xs.map (fun x=>[ei x])))),(1,.pub (.fn c [] cs)),(7,I (((xs.map (fun x=>[ei x])).length:Nat):Int)),(8,I (k.1:Int))],[]⟩) (fun k=>xs.length-k.1) (⟨0,oM,fun j _ h=>absurd h oM⟩) ?_ ?_
 ·exact zd _ rL (Y)
 ·rintro⟨k,hk⟩;dsimp only;refine Z6 ?_;refine nC ?_ ?_<;>intro h0
  ·skip;have hlt:k<xs.length:=by simpa using h0
   refine Z15 ?_;refine zb (zc Y Y Y zY oM (by exact mp_at hlt) (mp_len fun _=>rfl)) ?_;refine Z ?_;refine zb (qD (av:=[_]) Y Y rL (hp xs[k] (zLm hlt))) (Z2 ?_);refine nC ?_ ?_<;>intro h1
   ·skip;refine Z12 ?_;exact⟨.inr Y,AVle.of (by rw[AB hlt h1 hk.2])⟩
   ·skip;refine Z7 ?_;exact⟨⟨k+1,oM,fun j hj h=>(Nat.lt_succ_iff_lt_or_eq.1 h).elim (hk.2 j hj) (fun e=>by subst e;exact h1)⟩,by dsimp only;omega,zd _ rL (Y)⟩
  ·skip;have hge:k=xs.length:=by simp at h0;omega
   refine Z11 ?_;exact⟨.inr Y,AVle.of (by rw[uS (fun j hj=>hk.2 j hj oM)])⟩
theorem f261(c:FuncId)(cs:TA)(xs:List Int)(hx:xs.length<=1000000)(hp:∀x∈xs,ACall tP G c ([ei x]++cs) (.v (.bool (p x)))):ACall tP G 208 [.sl (xs.map (fun x=>[ei x])),.fn c [] cs] (.v (.bool (xs.any p))):=by
 refine aC func208 ?_;refine Z9 ?_;refine yc (f313 c cs xs hx hp) ?_;refine Z5 ?_;exact⟨.inr Y,AVle.of (by rw[nN])⟩
theorem Un(c:FuncId)(cs:TA):ACall tP G 370 [.v (.slice none 0 0),.fn c [] cs] (ei (-1)):=by
 refine aC func370 ?_;refine Z9 ?_;refine zb (y5 Y Y underlying77) (Z4 ?_);refine zD (ι:={k:Nat//k<1}) (fun k=>match k.1 with|_=>⟨Tryz.f370.ntmps,frL [(0,.pub (.v (.slice none 0 0))),(1,.pub (.fn c [] cs)),(7,I 0),(8,I 0)],[]⟩) (fun k=>1-k.1) (⟨0,oM⟩) ?_ ?_
 ·exact zd _ rL (Y)
 ·rintro⟨k,hk⟩;have hk3:k=0:=oM;rcases hk3 with rfl
  ·dsimp only;refine Z6 ?_;refine nC ?_ ?_<;>intro h0
   ·skip;exfalso;simp at h0
   ·skip;refine Z11 ?_;exact aR
theorem Xv(c:FuncId)(cs:TA):ACall tP G 336 [.v (.slice none 0 0),.fn c [] cs] (.v (.bool false)):=by
 refine aC func336 ?_;refine Z9 ?_;refine yc (Un c cs) ?_;refine Z5 ?_;exact⟨.inr Y,AVle.of Y⟩
theorem f213(c:Int)(l:List Int)(hl:l.length<=1000):ACall tP G 276 [.agg [ei c,eI l,.v (.slice none 0 0)]] (.v (.bool (s6B c l))):=by
 have hm:(l.map fun n=>[ei n]).length=l.length:=sI;have hany:(!(l.any fun x=>!inB x 0 100))=l.all fun x=>inB x 0 100:=by rw[List.not_any_eq_all_not];simp
 refine aC func276 ?_;refine Z10 ?_;refine yc (f209 _ _ _) ?_;refine Z3 ?_;refine zh Y (fun hg=>zM Y Y (zLc hg) underlying24) ?_;refine yd Y (fun hg=>(f209 _ _ _)) ?_;refine Z4 ?_;refine zh Y (fun hg=>y5 Y (zLc hg) underlying77) (Z5 ?_);refine yd Y (fun hg=>(f261 335 [] l oM (fun x _=>f263 x))) ?_;refine Z6 ?_;refine yd Y (fun hg=>(Xv 337 _)) ?_;refine Z6 ?_;exact⟨.inr rfl,AVle.of (by rw[s6B,←hany,hm];cases hv1:inB c 2 3<;>cases hv2:inB (l.length:Int) 1 3<;>cases hv3:(l.any fun x=>!inB x 0 100)<;>simp)⟩
theorem f133(c:Int)(l:List Int)(hl:l.length<=1000)(hk:s6B c l=true):ACall tP G 213 [.agg [ei c,eI l,.v (.slice none 0 0)]] (ei 0):=by
 refine aC func213 ?_;refine Z10 ?_;refine yc (f213 c l hl) ?_;refine Z3 ?_;refine nC ?_ ?_<;>intro h0
 ·skip;exfalso;simp[hk]at h0
 ·skip;refine Z8 ?_;exact aR
def eGs(g:Gls):TA:=[ei g.hl,ei g.hh,ei g.gl,ei g.gh,ei g.dr,ei g.rd,ei g.ea,ei g.sl,.sl (g.ck.map eChk),.top]
theorem ao{a b:Int}{k:Nat}(h:k<2):([[ei a],[ei b]]:List (TA))[k]?=some [ei (if k=0 then a else b)]:=by
 have:k=0∨k=1:=oM;rcases this with rfl|rfl<;>rfl
theorem xJ{a b:Int}:∀q∈([[ei a],[ei b]]:List (TA)),q.length=1:=fun q hq=>by
 simp only[List.mem_cons,List.not_mem_nil,or_false]at hq;rcases hq with rfl|rfl<;>rfl
theorem f316(a b l h:Int):ACall tP G 177 [.agg [ei a,ei b],ei l,ei h] (.v (.bool (spn3 a b l h))):=by
 refine aC func177 ?_;refine Z29 ?_;exact⟨.inr Y,AVle.of (by simp[spn3,Bool.and_assoc])⟩
theorem f315(c:Chk):ACall tP G 245 [.agg (eChk c)] (.v (.bool (okChkB c))):=by
 refine aC func245 ?_;refine Z10 ?_;refine yc (f215 _ _ _) ?_;refine Z3 ?_;refine yd Y (fun hg=>(f316 _ _ _ _)) ?_;refine Z5 ?_;exact⟨.inr Y,AVle.of (by simp[okChkB])⟩
theorem f267(g:Gls)(hl:g.ck.length<=1000):ACall tP G 173 [.agg (eGls g)] (.v (.bool (stGB g))):=by
 have hcl:(g.ck.map eChk).length=g.ck.length:=sI;refine aC func173 ?_;refine Z11 ?_;refine zb (zM Y Y Y underlying64) (Z4 ?_);refine zD (ι:={a:Nat//(g.ck.take a).all okChkB=true}) (fun a=>⟨Tryz.f173.ntmps,frL [(1,.pub (.ptr (eGls g))),(6,.pub (.sl (g.ck.map eChk))),(7,I (((g.ck.map eChk).length:Nat):Int)),(8,I (a.1:Int))],[]⟩) (fun a=>g.ck.length-a.1) (⟨0,sI⟩) ?_ ?_
 ·exact zd _ rL (Y)
 ·rintro⟨a,ha⟩;dsimp only;refine Z6 ?_;refine nC ?_ ?_<;>intro h0
  ·skip;have hlt:a<g.ck.length:=by simpa using h0
   refine Z6 ?_;refine zb (zc Y Y Y xj oM (by exact mp_at (k:=a) hlt) xm) (Z ?_);refine zI Y Y Y Y Y Y Y pQ rb Y rF (zF Y) Y (Z5 ?_);refine yc (f315 _) ?_;refine Z3 ?_;refine nC ?_ ?_<;>intro h1
   ·skip;have hbad:okChkB g.ck[a]=false:=by simpa using h1
    refine Z11 ?_;exact⟨.inr Y,AVle.of (by rw[stGB,ko hlt hbad];rfl)⟩
   ·skip;have hok:okChkB g.ck[a]=true:=by simpa using h1
    refine Z7 ?_;exact⟨⟨a+1,all_next hlt ha hok⟩,by dsimp only;omega,zd _ rL (Y)⟩
  ·skip;have hall:=kC (p:=okChkB) (by simpa using h0) ha;refine Z9 ?_;refine yc (f316 _ _ _ _) ?_;refine Z3 ?_;refine yd Y (fun hg=>(f316 _ _ _ _)) ?_;refine Z4 ?_;refine yd Y (fun hg=>(f215 _ _ _)) ?_;refine Z4 ?_;refine yd Y (fun hg=>(f215 _ _ _)) ?_;refine Z4 ?_;refine yd Y (fun hg=>(f215 _ _ _)) ?_;refine Z4 ?_;refine yd Y (fun hg=>(f215 _ _ _)) ?_;refine Z4 ?_;refine zh Y (fun hg=>zM Y Y (zLc hg) underlying64) (Z6 ?_);exact⟨.inr Y,AVle.of (by rw[stGB,hall];simp[Bool.and_assoc])⟩
theorem f271(a b:Int):ACall tP G 252 [.sl [[ei a],[ei b]]] (ei (max a b)):=by
 refine aC func252 ?_;refine Z8 ?_;refine zb (zc Y Y Y zY oM (by exact ao (k:=0) oM) xJ) (Z8 ?_);refine zb (zM Y Y Y underlying24) (Z4 ?_);refine zD (ι:={k:Nat//k<3}) (fun k=>match k.1 with|0=>⟨Tryz.f252.ntmps,frL [(3,I a),(9,.pub (.sl [[ei a],[ei b]])),(10,I 2),(11,I 0)],[]⟩|1=>⟨Tryz.f252.ntmps,frL [(3,I a),(9,.pub (.sl [[ei a],[ei b]])),(10,I 2),(11,I 1)],[]⟩|_=>⟨Tryz.f252.ntmps,frL [(3,I (max a b)),(9,.pub (.sl [[ei a],[ei b]])),(10,I 2),(11,I 2)],[]⟩) (fun k=>3-k.1) (⟨0,oM⟩) ?_ ?_
 ·exact zd _ rL (Y)
 ·rintro⟨k,hk⟩;have hk3:k=0∨k=1∨k=2:=oM;rcases hk3 with rfl|rfl|rfl
  ·dsimp only;refine Z6 ?_;refine nC ?_ ?_<;>intro h0
   ·skip;refine Z6 ?_;refine zb (zc Y Y Y zY oM (by exact ao oM) xJ) (Z16 ?_);exact⟨⟨1,oM⟩,by dsimp only;omega,(by refine zd (mem':=[]) [(3,I a),(9,.pub (.sl [[ei a],[ei b]])),(10,I 2),(11,I 1)] ?_ ?_;exact⟨(zLz I (Int.max_self a)),Y,Y,Y,trivial⟩;exact(Y))⟩
   ·skip;exfalso;simp at h0
  ·dsimp only;refine Z6 ?_;refine nC ?_ ?_<;>intro h0
   ·skip;refine Z6 ?_;refine zb (zc Y Y Y zY oM (by exact ao oM) xJ) (Z16 ?_);exact⟨⟨2,oM⟩,by dsimp only;omega,(by refine zd (mem':=[]) [(3,I (max a b)),(9,.pub (.sl [[ei a],[ei b]])),(10,I 2),(11,I 2)] ?_ ?_;exact rL;exact(Y))⟩
   ·skip;exfalso;simp at h0
  ·dsimp only;refine Z6 ?_;refine nC ?_ ?_<;>intro h0
   ·skip;exfalso;simp at h0
   ·skip;refine Z12 ?_;exact aR
theorem f272(a b:Int):ACall tP G 251 [.sl [[ei a],[ei b]]] (ei (min a b)):=by
 refine aC func251 ?_;refine Z8 ?_;refine zb (zc Y Y Y zY oM (by exact ao (k:=0) oM) xJ) (Z8 ?_);refine zb (zM Y Y Y underlying24) (Z4 ?_);refine zD (ι:={k:Nat//k<3}) (fun k=>match k.1 with|0=>⟨Tryz.f251.ntmps,frL [(3,I a),(9,.pub (.sl [[ei a],[ei b]])),(10,I 2),(11,I 0)],[]⟩|1=>⟨Tryz.f251.ntmps,frL [(3,I a),(9,.pub (.sl [[ei a],[ei b]])),(10,I 2),(11,I 1)],[]⟩|_=>⟨Tryz.f251.ntmps,frL [(3,I (min a b)),(9,.pub (.sl [[ei a],[ei b]])),(10,I 2),(11,I 2)],[]⟩) (fun k=>3-k.1) (⟨0,oM⟩) ?_ ?_
 ·exact zd _ rL (Y)
 ·rintro⟨k,hk⟩;have hk3:k=0∨k=1∨k=2:=oM;rcases hk3 with rfl|rfl|rfl
  ·dsimp only;refine Z6 ?_;refine nC ?_ ?_<;>intro h0
   ·skip;refine Z6 ?_;refine zb (zc Y Y Y zY oM (by exact ao oM) xJ) (Z16 ?_);exact⟨⟨1,oM⟩,by dsimp only;omega,(by refine zd (mem':=[]) [(3,I a),(9,.pub (.sl [[ei a],[ei b]])),(10,I 2),(11,I 1)] ?_ ?_;exact⟨(zLz I (Int.min_self a)),Y,Y,Y,trivial⟩;exact(Y))⟩
   ·skip;exfalso;simp at h0
  ·dsimp only;refine Z6 ?_;refine nC ?_ ?_<;>intro h0
   ·skip;refine Z6 ?_;refine zb (zc Y Y Y zY oM (by exact ao oM) xJ) (Z16 ?_);exact⟨⟨2,oM⟩,by dsimp only;omega,(by refine zd (mem':=[]) [(3,I (min a b)),(9,.pub (.sl [[ei a],[ei b]])),(10,I 2),(11,I 2)] ?_ ?_;exact rL;exact(Y))⟩
   ·skip;exfalso;simp at h0
  ·dsimp only;refine Z6 ?_;refine nC ?_ ?_<;>intro h0
   ·skip;exfalso;simp at h0
   ·skip;refine Z12 ?_;exact aR
theorem f319(a b:Int)(h:(0<=a/\a<=100000)/\(0<=b/\b<=100000)):ACall tP G 317 [ei a,ei b] (ei (far a b)):=by
 refine aC func317 ?_;refine Z13 ?_;refine zb (zw (size:=1) (rows:=[[_],[_]]) Y underlying24 Xs Y dE Y dE (zk (zk Y)) rF (by simp[ofV]) Y sI) ?_;refine yc (f271 _ _) ?_;refine Z4 ?_;exact aR
theorem f317{g:Gls}(hs:stGB g=true)(i j:Nat)(hi:i<g.ck.length)(hj:j<g.ck.length):ACall tP G 246 [.agg (eGs g),.agg (eChk (ckG g i)),.agg (eChk (ckG g j))] (.v (.bool (ctB g i j))):=by
 have h1:=gz hs hi;have h2:=gz hs hj;have hg1:=gls_ok hs;have hmb:=c7 hg1.1 (sQ h1.1 h2.1);refine aC func246 ?_;refine Z9 ?_;refine zN mixed nR Y ?_;refine Z7 ?_;refine zH Y (zi (av:=[_,_]) Y rL (f319 _ _ ⟨oM,oM⟩)) ?_;refine Z30 ?_;exact⟨.inr Y,AVle.of (by unfold ctB;congr 2;rw[Bool.eq_iff_iff];simp only[Bool.or_eq_true,zLd];omega)⟩
end Hs
end Go.Av
end
