import Derived.Test.YtigbomcjnlikjaaGreatDoorHsA
set_option linter.unusedVariables false
set_option linter.unusedSimpArgs false
set_option maxRecDepth 100000
set_option maxHeartbeats 9000000
section
namespace Go.Av
namespace Hs
open Go.Proofs Tryz
variable{G:Glob}
theorem VO:(tP.info? 208).bind (·.zero)=some (.agg #[nZ,nZ,nZ]):=nR
theorem zav:(tP.info? 210).bind (·.zero)=some (.agg #[nZ,nZ,nZ,nZ]):=nR
variable{i k:Nat}
theorem all_next{α:Type}{p:α->Bool}{xs:List α}(hk:k<xs.length)(h:(xs.take k).all p=true)(hp:p xs[k]=true):(xs.take (k+1)).all p=true:=by
 rw[zLt hk,List.all_append,h];simp[hp]
theorem ko{α:Type}{p:α->Bool}{xs:List α}(hk:k<xs.length)(hp:p xs[k]=false):xs.all p=false:=by
 rw[List.all_eq_false];exact⟨xs[k],zLm hk,by simp[hp]⟩
theorem kC{α:Type}{p:α->Bool}{xs:List α}(hk:xs.length<=k)(h:(xs.take k).all p=true):xs.all p=true:=by
 rwa[zLk hk]at h
def dW(w:Wt):Bool:=w.reps.all (jh w.n)&&w.lnks.all (vv w.n)&&w.prts.all wT&&(inB w.n 1 6&&decide ((w.reps.length:Int)<=9)&&decide ((w.lnks.length:Int)<=8)&&decide ((w.prts.length:Int)<=4)&&inB w.fall 1 99999&&inB w.win 1 2880&&inB w.hold 1 2880&&decide (w.dawn≥0)&&decide (w.dawn<=w.dusk)&&decide (w.dusk<=1440))
theorem Jd{w:Wt}:dW w=okWtB w:=by
 have e:∀{α:Type}(p:α->Bool)(l:List α),(!(l.any fun x=>!p x))=l.all p:=fun p l=>by rw[List.not_any_eq_all_not];simp
 unfold dW okWtB;rw[e,e,e];cases w.reps.all (jh w.n)<;>cases w.lnks.all (vv w.n)<;>cases w.prts.all wT<;>simp[Bool.and_assoc]
theorem f39(a l h:Int):ACall tP G 53 [ei a,ei l,ei h] (.v (.bool (inB a l h))):=by
 refine aC func53 ?_;refine Z19 ?_;exact⟨.inr Y,AVle.of (by simp[inB])⟩
theorem f134(a l h:Int):ACall tP G 159 [ei a,ei l,ei h] (.v (.bool (inB a l h))):=by
 refine aC func159 ?_;refine Z19 ?_;exact⟨.inr Y,AVle.of (by simp[inB])⟩
theorem f116(w:Wt)(x:Int):ACall tP G 139 [.agg (eWt w),ei x] (.v (.bool (inB x 0 (m1 w.n)))):=by
 refine aC func139 ?_;refine Z11 ?_;refine zb (nS Y Y) ?_;refine yc (f117 _ _ _) ?_;refine Z4 ?_;exact aR
theorem f44(w:Wt)(hl:w.reps.length<=1000/\w.lnks.length<=1000/\w.prts.length<=1000):ACall tP G 61 [.agg (eWt w)] (.v (.bool (dW w))):=by
 have hm1:(w.reps.map eRep).length=w.reps.length:=sI;have hm2:(w.lnks.map eLnk).length=w.lnks.length:=sI;have hm3:(w.prts.map ePrt).length=w.prts.length:=sI;refine aC func61 ?_;refine Z13 ?_;refine zD (ι:={a:Nat//(w.reps.take a).all (jh w.n)=true}) (fun a=>⟨Tryz.f61.ntmps,frL [(1,.pub (.ptr (eWt w))),(3,I (a.1:Int))],[]⟩) (fun a=>w.reps.length-a.1) (⟨0,sI⟩) ?_ ?_
 ·exact zd _ rL (Y)
 ·rintro⟨a,ha⟩;dsimp only;refine Z6 ?_;refine zb (zM Y Y Y underlying29) (Z3 ?_);refine nC ?_ ?_<;>intro h0
  ·skip;have hlt_a:a<w.reps.length:=by simpa using h0
   refine Z9 ?_;refine zb (zc Y Y Y d6 oM (by exact mp_at (k:=a) hlt_a) (mp_len fun _=>rfl)) ?_;refine Z ?_;refine zI Y Y Y Y Y Y Y I1 si Y rF (zF Y) Y (Z7 ?_);refine yc (f116 w _) ?_;refine Z4 ?_;refine yd Y (fun hg=>(f117 _ _ _)) ?_;refine Z5 ?_;refine yd Y (fun hg=>(f117 _ _ _)) ?_;refine Z5 ?_;refine yd Y (fun hg=>(f118 _ _ _)) ?_;refine Z5 ?_;refine yd Y (fun hg=>(f117 _ _ _)) ?_;refine Z5 ?_;refine yd Y (fun hg=>(f117 _ _ _)) ?_;refine Z4 ?_;refine nC ?_ ?_<;>intro h1
   ·skip
    have hbad:(jh w.n) w.reps[a]=false:=by
     cases hv:(jh w.n) w.reps[a]with
     |false=>rfl
     |true=>exfalso;simp only[jh,zLa,zLd]at hv;simp only[Bool.or_eq_true,Bool.not_eq_true',zLd]at h1;simp_all;try omega
    refine Z11 ?_;exact⟨.inr Y,AVle.of (by rw[dW,ko hlt_a hbad];rfl)⟩
   ·skip;have hok_a:(jh w.n) w.reps[a]=true:=by simp only[jh];simpa[and_assoc]using h1
    refine Z8 ?_;exact⟨⟨a+1,all_next hlt_a ha hok_a⟩,by dsimp only;omega,zd _ rL (Y)⟩
  ·skip;have hall_a:=kC (p:=(jh w.n)) (by simpa using h0) ha;refine Z12 ?_;refine zD (ι:={b:Nat//(w.lnks.take b).all (vv w.n)=true}) (fun b=>⟨Tryz.f61.ntmps,frL [(1,.pub (.ptr (eWt w))),(5,I (b.1:Int))],[]⟩) (fun b=>w.lnks.length-b.1) (⟨0,sI⟩) ?_ ?_
   ·exact zd _ rL (Y)
   ·rintro⟨b,hb⟩;dsimp only;refine Z6 ?_;refine zb (zM Y Y Y underlying30) (Z3 ?_);refine nC ?_ ?_<;>intro h2
    ·skip;have hlt_b:b<w.lnks.length:=by simpa using h2
     refine Z9 ?_;refine zb (zc Y Y Y Nq oM (by exact mp_at (k:=b) hlt_b) (mp_len fun _=>rfl)) ?_;refine Z ?_;refine zI Y Y Y Y Y Y Y VO Uu Y rF (zF Y) Y (Z7 ?_);refine yc (f116 w _) ?_;refine Z5 ?_;refine yd Y (fun hg=>(f116 w _)) ?_;refine Z12 ?_;refine yd Y (fun hg=>(f117 _ _ _)) ?_;refine Z4 ?_;refine nC ?_ ?_<;>intro h3
     ·skip
      have hbad:(vv w.n) w.lnks[b]=false:=by
       cases hv:(vv w.n) w.lnks[b]with
       |false=>rfl
       |true=>exfalso;simp only[vv,zLa,zLd]at hv;simp only[Bool.or_eq_true,Bool.not_eq_true',zLd]at h3;simp_all;try omega
      refine Z11 ?_;exact⟨.inr Y,AVle.of (by rw[dW,ko hlt_b hbad];simp)⟩
     ·skip;have hok_b:(vv w.n) w.lnks[b]=true:=by simp only[vv];simpa[and_assoc]using h3
      refine Z8 ?_;exact⟨⟨b+1,all_next hlt_b hb hok_b⟩,by dsimp only;omega,zd _ rL (Y)⟩
    ·skip;have hall_b:=kC (p:=(vv w.n)) (by simpa using h2) hb;refine Z12 ?_;refine zD (ι:={c:Nat//(w.prts.take c).all wT=true}) (fun c=>⟨Tryz.f61.ntmps,frL [(1,.pub (.ptr (eWt w))),(7,I (c.1:Int))],[]⟩) (fun c=>w.prts.length-c.1) (⟨0,sI⟩) ?_ ?_
     ·exact zd _ rL (Y)
     ·rintro⟨c,hc⟩;dsimp only;refine Z6 ?_;refine zb (zM Y Y Y underlying31) (Z3 ?_);refine nC ?_ ?_<;>intro h4
      ·skip;have hlt_c:c<w.prts.length:=by simpa using h4
       refine Z9 ?_;refine zb (zc Y Y Y F3 oM (by exact mp_at (k:=c) hlt_c) (mp_len fun _=>rfl)) ?_;refine Z ?_;refine zI Y Y Y Y Y Y Y zav zah Y rF (zF Y) Y (Z6 ?_);refine yc (f118 _ _ _) ?_;refine Z8 ?_;refine zh Y (fun hg=>j4 Y (zLc hg) (zLc hg) ⟨by simp[eo]at hg;omega,by simp[eo]at hg;omega⟩) (Z5 ?_);refine yd Y (fun hg=>(f117 _ _ _)) ?_;refine Z5 ?_;refine yd Y (fun hg=>(f117 _ _ _)) ?_;refine Z4 ?_;refine nC ?_ ?_<;>intro h5
       ·skip
        have hbad:wT w.prts[c]=false:=by
         cases hv:wT w.prts[c]with
         |false=>rfl
         |true=>exfalso;simp only[wT,zLa,zLd]at hv;simp only[Bool.or_eq_true,Bool.not_eq_true',zLd]at h5;simp_all;try omega
        refine Z11 ?_;exact⟨.inr Y,AVle.of (by rw[dW,ko hlt_c hbad];simp)⟩
       ·skip;have hok_c:wT w.prts[c]=true:=by simp only[wT];simpa[and_assoc]using h5
        refine Z8 ?_;exact⟨⟨c+1,all_next hlt_c hc hok_c⟩,by dsimp only;omega,zd _ rL (Y)⟩
      ·skip;have hall_c:=kC (p:=wT) (by simpa using h4) hc;refine Z9 ?_;refine yc (f117 _ _ _) ?_;refine Z3 ?_;refine zh Y (fun hg=>zM Y Y (zLc hg) underlying29) (Z5 ?_);refine zh Y (fun hg=>zM Y Y (zLc hg) underlying30) (Z5 ?_);refine zh Y (fun hg=>zM Y Y (zLc hg) underlying31) (Z5 ?_);refine yd Y (fun hg=>(f117 _ _ _)) ?_;refine Z4 ?_;refine yd Y (fun hg=>(f117 _ _ _)) ?_;refine Z4 ?_;refine yd Y (fun hg=>(f117 _ _ _)) ?_;refine Z22 ?_;exact⟨.inr Y,AVle.of (by rw[dW,hall_a,hall_b,hall_c];simp[Bool.and_assoc])⟩
theorem bV:zO tP 66 6 8=true:=nR
theorem N2:zS tP 64 false 1=true:=nR
theorem xj:qV tP 64 3=true:=nR
theorem rb:zS tP 206 true 3=true:=nR
theorem pQ:(tP.info? 206).bind (·.zero)=some (.agg #[nZ,nZ,nZ]):=nR
theorem rq:zO tP 206 1 1=true:=nR
structure Chk where
 t:Int
 lo:Int
 hi:Int
structure Gls where
 hl:Int
 hh:Int
 gl:Int
 gh:Int
 dr:Int
 rd:Int
 ea:Int
 sl:Int
 ck:List Chk
def eChk(c:Chk):TA:=[ei c.t,ei c.lo,ei c.hi]
def eGls(g:Gls):TA:=[ei g.hl,ei g.hh,ei g.gl,ei g.gh,ei g.dr,ei g.rd,ei g.ea,ei g.sl,.sl (g.ck.map eChk)]
def spn3(a b l h:Int):Bool:=decide (a≥l)&&decide (a<=b)&&decide (b<=h)
def okChkB(c:Chk):Bool:=inB c.t 0 400&&spn3 c.lo c.hi (-2000) 2000
def stGB(g:Gls):Bool:=g.ck.all okChkB&&(spn3 g.hl g.hh 0 3000&&spn3 g.gl g.gh (-3000) 3000&&inB g.dr 0 100&&inB g.rd 0 200&&inB g.ea (-720) 720&&inB g.sl 0 60&&decide ((g.ck.length:Int)<=12))
def ck0:Chk:=⟨0,0,0⟩
def ckG(g:Gls)(i:Nat):Chk:=g.ck.getD i ck0
variable{g:Gls}
theorem f8(h:i<g.ck.length):(g.ck.map eChk)[i]?=some (eChk (ckG g i)):=by simp[ckG,h]
theorem xm:∀q∈g.ck.map eChk,q.length=3:=mp_len fun _=>rfl
def ctB(g:Gls)(i j:Nat):Bool:=decide (max ((ckG g i).lo-(ckG g j).hi) ((ckG g j).lo-(ckG g i).hi)>g.dr*far (ckG g i).t (ckG g j).t)
def clB(g:Gls):Bool:=(List.range g.ck.length).any fun i=>(List.range g.ck.length).any fun j=>decide (i<j)&&ctB g i j
theorem gz(h:stGB g=true)(hi:i<g.ck.length):(0<=(ckG g i).t/\(ckG g i).t<=400)/\-2000<=(ckG g i).lo/\(ckG g i).lo<=(ckG g i).hi/\(ckG g i).hi<=2000:=by
 simp only[stGB,zLa,zLu]at h;have:=h.1 _ (zLm hi);rw[show ckG g i=g.ck[i] by simp[ckG,hi]];simp only[okChkB,inB_iff,spn3,zLa,zLd]at this;omega
theorem gls_ok(h:stGB g=true):(0<=g.dr/\g.dr<=100)/\g.ck.length<=12:=by
 simp only[stGB,zLa,inB_iff,zLd]at h;omega
theorem c7{a b:Int}(h:0<=a/\a<=100)(h2:0<=b/\b<=400):0<=a*b/\a*b<=40000:=by
 refine⟨Int.mul_nonneg h.1 h2.1,?_⟩;have h3:a*b<=100*b:=Int.mul_le_mul_of_nonneg_right h.2 h2.1;omega
theorem sQ{a b:Int}(h:0<=a/\a<=400)(h2:0<=b/\b<=400):0<=far a b/\far a b<=400:=by unfold far;omega
theorem Gv{j:Nat}(hi:i<g.ck.length)(hj:j<g.ck.length)(hij:i<j)(h:ctB g i j=true):clB g=true:=
 List.any_eq_true.2 ⟨i,List.mem_range.2 hi,List.any_eq_true.2 ⟨j,List.mem_range.2 hj,by simp[hij,h]⟩⟩
theorem RI{a:Nat}(ha:g.ck.length<=a)(h:∀i,i<a->∀j,i<j->j<g.ck.length->ctB g i j=false):clB g=false:=by
 unfold clB;rw[List.any_eq_false];intro i hi;rw[List.mem_range]at hi;rw[Bool.not_eq_true,List.any_eq_false];intro j hj;rw[List.mem_range]at hj
 by_cases hij:i<j
 ·simp[hij,h i oM j hij hj]
 ·simp[hij]
theorem f114(a l h:Int):ACall tP G 136 [ei a,ei l,ei h] (.v (.bool (inB a l h))):=by
 refine aC func136 ?_;refine Z19 ?_;exact⟨.inr Y,AVle.of (by simp[inB])⟩
theorem f119(a l h:Int):ACall tP G 103 [ei a,ei l,ei h] (.v (.bool (inB a l h))):=by
 refine aC func103 ?_;refine Z19 ?_;exact⟨.inr Y,AVle.of (by simp[inB])⟩
theorem f67(a l h:Int):ACall tP G 138 [ei a,ei l,ei h] (.v (.bool (inB a l h))):=by
 refine aC func138 ?_;refine Z19 ?_;exact⟨.inr Y,AVle.of (by simp[inB])⟩
theorem f112(a:Int):ACall tP G 134 [ei a] (.v (.bool (inB a 0 400))):=by
 refine aC func134 ?_;refine Z8 ?_;refine yc (f114 _ _ _) ?_;refine Z4 ?_;exact aR
theorem f113(a b l h:Int):ACall tP G 135 [.agg [ei a,ei b],ei l,ei h] (.v (.bool (spn3 a b l h))):=by
 refine aC func135 ?_;refine Z29 ?_;exact⟨.inr Y,AVle.of (by simp[spn3,Bool.and_assoc])⟩
theorem f250(a b:Int)(h:(0<=a/\a<=100000)/\(0<=b/\b<=100000)):ACall tP G 310 [ei a,ei b] (ei (far a b)):=by
 refine aC func310 ?_;refine Z18 ?_;exact aR
theorem f201(hs:stGB g=true)(i j:Nat)(hi:i<g.ck.length)(hj:j<g.ck.length):ACall tP G 237 [.agg (eGls g),ei (i:Int),ei (j:Int)] (.v (.bool (ctB g i j))):=by
 have h1:=gz hs hi;have h2:=gz hs hj;have hg:=gls_ok hs;have hmb:=c7 hg.1 (sQ h1.1 h2.1);have hcl:(g.ck.map eChk).length=g.ck.length:=sI;refine aC func237 ?_;refine Z7 ?_;refine zt qE ?_;refine zt qE ?_;refine qd (fun _=>True) (fun k=>match k with|0=>.stable|1=>.stable|2=>.stable|3=>.stable|4=>.stable|5=>.stable|6=>.stable|7=>.stable|8=>.stable|9=>.stable|10=>.own 0|11=>.own 1|12=>.writes|13=>.writes|_=>.here) mixed nR rfl nR trivial ?_;refine zC Y Y (fun m hm=>zf Y Y bV) (Z2 ?_);refine zC Y Y (fun m hm=>zc Y Y Y xj oM (by exact f8 (i:=i) hi) xm) (Z ?_);refine zC Y Y (fun m hm=>zf Y Y bV) (Z2 ?_);refine zC Y Y (fun m hm=>zc Y Y Y xj oM (by exact f8 (i:=j) hj) xm) (Z ?_);refine ku Y Y (qX Y pQ Y Y Y) ?_;refine ku Y Y (qX Y pQ Y Y Y) ?_;refine qw Y Y (zz Y Y Y Y Y Y cEx rb rF rF) trivial ?_;refine qw Y Y (zz Y Y Y Y Y Y cEx rb rF rF) trivial (Z3 ?_);refine zN mixed nR Y ?_;refine Z21 ?_;refine zH Y (zi (av:=[_,_]) Y rL (f250 _ _ ⟨oM,oM⟩)) ?_
 refine Z6 ?_;exact aR
theorem f115(hs:stGB g=true):ACall tP G 137 [.agg (eGls g)] (.tup [.top,.top,.v (.bool (clB g))]):=by
 have hg:=gls_ok hs;have hcl:(g.ck.map eChk).length=g.ck.length:=sI;refine aC func137 ?_;refine Z15 ?_;refine zD (ι:={a:Nat//a<=g.ck.length/\∀i,i<a->∀j,i<j->j<g.ck.length->ctB g i j=false}) (fun a=>⟨Tryz.f137.ntmps,frL [(1,.pub (.ptr (eGls g))),(5,I (a.1:Int))],[]⟩) (fun a=>g.ck.length-a.1) (⟨0,oM,fun i h=>absurd h oM⟩) ?_ ?_
 ·exact zd _ rL (Y)
 ·rintro⟨a,ha⟩;dsimp only;refine Z6 ?_;refine zb (zM Y Y Y underlying64) (Z3 ?_);refine nC ?_ ?_<;>intro h0
  ·skip;have hlt:a<g.ck.length:=by simpa using h0
   refine Z12 ?_;refine zD (ι:={b:Nat//a+1<=b/\b<=g.ck.length/\∀j,a<j->j<b->ctB g a j=false}) (fun b=>⟨Tryz.f137.ntmps,frL [(1,.pub (.ptr (eGls g))),(5,I (a:Int)),(6,I (b.1:Int))],[]⟩) (fun b=>g.ck.length-b.1) (⟨a+1,oM,oM,fun j h1 h2=>absurd h2 oM⟩) ?_ ?_
   ·exact zd _ rL (Y)
   ·rintro⟨b,hb⟩;dsimp only;refine Z6 ?_;refine zb (zM Y Y Y underlying64) (Z3 ?_);refine nC ?_ ?_<;>intro h1
    ·skip;have hbl:b<g.ck.length:=by simpa using h1
     refine Z9 ?_;refine yc (f201 hs a b hlt hbl) ?_;refine Z2 ?_;refine nC ?_ ?_<;>intro h2
     ·skip;have hyes:=Gv hlt hbl oM h2;refine Z19 ?_;exact⟨.inr Y,⟨_,Y,⟨_,_,Y,AVle.top _,⟨_,_,Y,AVle.top _,⟨_,_,Y,AVle.of (by rw[hyes]),Y⟩⟩⟩⟩⟩
     ·skip;refine Z8 ?_;exact⟨⟨b+1,oM,oM,fun j h1 hj=>(Nat.lt_succ_iff_lt_or_eq.1 hj).elim (hb.2.2 j h1) (fun e=>by subst e;exact h2)⟩,by dsimp only;omega,zd _ rL (Y)⟩
    ·skip;have hbe:g.ck.length<=b:=by simpa using h1
     refine Z11 ?_;exact⟨⟨a+1,oM,fun i hi j hij hj=>(Nat.lt_succ_iff_lt_or_eq.1 hi).elim (fun h=>ha.2 i h j hij hj) (fun e=>by subst e;exact hb.2.2 j hij oM)⟩,by dsimp only;omega,zd _ rL (Y)⟩
  ·skip;have hno:=RI (by simpa using h0) ha.2;refine Z13 ?_;exact⟨.inr Y,⟨_,Y,⟨_,_,Y,AVle.top _,⟨_,_,Y,AVle.top _,⟨_,_,Y,AVle.of (by rw[hno]),Y⟩⟩⟩⟩⟩
theorem f42(hs:stGB g=true):ACall tP G 58 [.agg (eGls g)] (.v (.bool (!clB g))):=by
 refine aC func58 ?_;refine Z9 ?_;refine yc (f115 hs) ?_;refine Z17 ?_;exact aR
theorem f41(g:Gls)(hl:g.ck.length<=1000):ACall tP G 57 [.agg (eGls g)] (.v (.bool (stGB g))):=by
 have hcl:(g.ck.map eChk).length=g.ck.length:=sI;refine aC func57 ?_;refine Z13 ?_;refine zD (ι:={a:Nat//(g.ck.take a).all okChkB=true}) (fun a=>⟨Tryz.f57.ntmps,frL [(1,.pub (.ptr (eGls g))),(3,I (a.1:Int))],[]⟩) (fun a=>g.ck.length-a.1) (⟨0,sI⟩) ?_ ?_
 ·exact zd _ rL (Y)
 ·rintro⟨a,ha⟩;dsimp only;refine Z6 ?_;refine zb (zM Y Y Y underlying64) (Z3 ?_);refine nC ?_ ?_<;>intro h0
  ·skip;have hlt:a<g.ck.length:=by simpa using h0
   refine Z9 ?_;refine zb (zc Y Y Y xj oM (by exact mp_at (k:=a) hlt) xm) (Z2 ?_);refine yc (f112 _) ?_;refine Z5 ?_;refine zh Y (fun hg=>zc Y (zLc hg) (zLc hg) xj oM (by exact mp_at (k:=a) hlt) xm) (Z2 ?_);refine yd Y (fun hg=>(f113 _ _ _ _)) ?_;refine Z4 ?_;refine nC ?_ ?_<;>intro h1
   ·skip;have hbad:okChkB g.ck[a]=false:=by simp only[okChkB];cases hv:inB g.ck[a].t 0 400<;>simp_all
    refine Z11 ?_;exact⟨.inr Y,AVle.of (by rw[stGB,ko hlt hbad];rfl)⟩
   ·skip;have hok:okChkB g.ck[a]=true:=by simp only[okChkB];simpa using h1
    refine Z8 ?_;exact⟨⟨a+1,all_next hlt ha hok⟩,by dsimp only;omega,zd _ rL (Y)⟩
  ·skip;have hall:=kC (p:=okChkB) (by simpa using h0) ha;refine Z9 ?_;refine yc (f113 _ _ _ _) ?_;refine Z3 ?_;refine yd Y (fun hg=>(f113 _ _ _ _)) ?_;refine Z4 ?_;refine yd Y (fun hg=>(f114 _ _ _)) ?_;refine Z4 ?_;refine yd Y (fun hg=>(f114 _ _ _)) ?_;refine Z4 ?_;refine yd Y (fun hg=>(f114 _ _ _)) ?_;refine Z4 ?_;refine yd Y (fun hg=>(f114 _ _ _)) ?_;refine Z4 ?_;refine zh Y (fun hg=>zM Y Y (zLc hg) underlying64) (Z6 ?_);exact⟨.inr Y,AVle.of (by rw[stGB,hall];simp[Bool.and_assoc])⟩
def papB(a b c:Int):Bool:=inB a 0 100000&&inB c 0 100000&&inB b 0 1000
def tarB(a b c:Int):Bool:=inB a 0 10000&&inB c 0 10000&&inB b 0 100
def s6B(k:Int)(l:List Int):Bool:=l.all (fun x=>inB x 0 100)&&(inB k 2 3&&inB (l.length:Int) 1 3)
theorem f46(a b c:Int):ACall tP G 63 [.agg [ei a,ei b,ei c]] (.v (.bool (papB a b c))):=by
 refine aC func63 ?_;refine Z10 ?_;refine yc (f119 _ _ _) ?_;refine Z3 ?_;refine yd Y (fun hg=>(f119 _ _ _)) ?_;refine Z4 ?_;refine yd Y (fun hg=>(f119 _ _ _)) ?_;refine Z5 ?_;exact⟨.inr Y,AVle.of (by simp[papB,Bool.and_assoc])⟩
theorem f43(a b c:Int):ACall tP G 60 [.agg [ei a,ei b,ei c]] (.v (.bool (tarB a b c))):=by
 refine aC func60 ?_;refine Z10 ?_;refine yc (f67 _ _ _) ?_;refine Z3 ?_;refine yd Y (fun hg=>(f67 _ _ _)) ?_;refine Z4 ?_;refine yd Y (fun hg=>(f67 _ _ _)) ?_;refine Z5 ?_;exact⟨.inr Y,AVle.of (by simp[tarB,Bool.and_assoc])⟩
end Hs
end Go.Av
end
