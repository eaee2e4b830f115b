import Derived.Test.YtigbomcjnlikjaaGreatDoorFc
import Derived.Test.YtigbomcjnlikjaaGreatDoorInsA
import Derived.ChangeKeysEq
import Derived.Laws.StructEq
set_option linter.unusedVariables false
set_option linter.unusedSimpArgs false
set_option maxRecDepth 100000
set_option maxHeartbeats 9000000
section
namespace Go.Av
namespace Hs
open Go.Proofs Tryz
variable{G:Glob}
theorem d6:qV tP 29 7=true:=nR
theorem Nq:qV tP 30 3=true:=nR
theorem Uu:zS tP 208 true 3=true:=nR
theorem F3:qV tP 31 4=true:=nR
theorem zah:zS tP 210 true 4=true:=nR
theorem J0:zO tP 82 0 0=true:=nR
theorem dw:zS tP 63 true 2=true:=nR
theorem E3:zO tP 208 1 1=true:=nR
theorem IG:zO tP 210 0 0=true:=nR
theorem bY:zS tP 29 false 1=true:=nR
theorem A0:zO tP 33 2 2=true:=nR
theorem EQ:zS tP 30 false 1=true:=nR
theorem mY:zO tP 33 3 3=true:=nR
theorem Vb:zS tP 31 false 1=true:=nR
structure Rep where
 st:Int
 tk:Int
 pr:Int
 dl:Int
 dh:Int
 ug:Int
 co:Int
structure Lnk where
 a:Int
 b:Int
 df:Int
structure Prt where
 ol:Int
 oh:Int
 dy:Int
 nt:Int
structure Wt where
 n:Int
 reps:List Rep
 lnks:List Lnk
 prts:List Prt
 fall:Int
 win:Int
 hold:Int
 dawn:Int
 dusk:Int
abbrev ei(x:Int):AV:=.v (.int .i64 x)
def eRep(r:Rep):TA:=[ei r.st,ei r.tk,ei r.pr,ei r.dl,ei r.dh,ei r.ug,ei r.co]
def eLnk(l:Lnk):TA:=[ei l.a,ei l.b,ei l.df]
def ePrt(p:Prt):TA:=[ei p.ol,ei p.oh,ei p.dy,ei p.nt]
def eWt(w:Wt):TA:=[ei w.n,.sl (w.reps.map eRep),.sl (w.lnks.map eLnk),.sl (w.prts.map ePrt),ei w.fall,ei w.win,ei w.hold,ei w.dawn,ei w.dusk]
def inB(a l h:Int):Bool:=decide (l<=a)&&decide (a<=h)
theorem inB_iff{a l h:Int}:inB a l h=true↔l<=a/\a<=h:=by simp[inB]
def m1(n:Int):Int:=IntKind.i64.wrap (n-1)
theorem nS{P:Program}{fr:Nat->EV}{mem:TP}{o:Oper}{T U:TypeId}{x:Operand}{p:Int}(ho:o.op=.binOp .sub T x (.const (.int .i64 1)) U)(hx:evO fr x=I p):OpY P G fr mem o (I (m1 p)):=
 jP ho hx rfl (fun w=>by simp[binOp,Op.intArith,m1]) rfl
def eo(a b m:Int):Bool:=decide (a≥0)&&decide (a<=b)&&decide (b<=m)
def jh(n:Int)(r:Rep):Bool:=inB r.st 0 (m1 n)&&inB r.tk 0 10080&&inB r.pr 0 99999&&eo r.dl r.dh 2880&&inB r.ug 0 2880&&inB r.co 0 10000
def vv(n:Int)(l:Lnk):Bool:=inB l.a 0 (m1 n)&&inB l.b 0 (m1 n)&&(l.a !=l.b)&&inB l.df 1 99999
def wT(p:Prt):Bool:=eo p.ol p.oh 2880&&decide (p.oh-p.ol<=300)&&inB p.dy 0 50000&&inB p.nt 0 50000
def okWtB(w:Wt):Bool:=inB w.n 1 6&&decide ((w.reps.length:Int)<=9)&&decide ((w.lnks.length:Int)<=8)&&decide ((w.prts.length:Int)<=4)&&inB w.fall 1 99999&&inB w.win 1 2880&&inB w.hold 1 2880&&decide (w.dawn≥0)&&decide (w.dawn<=w.dusk)&&decide (w.dusk<=1440)&& !(w.reps.any fun r=>!jh w.n r)&& !(w.lnks.any fun l=>!vv w.n l)&& !(w.prts.any fun p=>!wT p)
def ixF{α:Type}(p:α->Bool)(xs:List α):Int:=if xs.findIdx p<xs.length then(xs.findIdx p:Int)else -1
theorem AB{α:Type}{p:α->Bool}{xs:List α}{k:Nat}(hk:k<xs.length)(h:p xs[k]=true)(hn:∀j(hj:j<xs.length),j<k->p xs[j]=false):ixF p xs=(k:Int):=by
 have e:xs.findIdx p=k:=(List.findIdx_eq hk).2 ⟨h,fun j hj=>hn j oM hj⟩;unfold ixF;rw[e,zLc hk]
theorem uS{α:Type}{p:α->Bool}{xs:List α}(hn:∀j(hj:j<xs.length),p xs[j]=false):ixF p xs=-1:=by
 unfold ixF;rw[zLy];intro h;have:=List.findIdx_getElem (w:=h);rw[hn _ h]at this;cases this
theorem nN{α:Type}{p:α->Bool}{xs:List α}:decide (ixF p xs≥0)=xs.any p:=by
 unfold ixF;rw[Bool.eq_iff_iff,zLd,List.any_eq_true];split
 ·rename_i h
  exact⟨fun _=>List.findIdx_lt_length.1 h,fun _=>oM⟩
 ·rename_i h
  exact⟨fun h2=>oM,fun h2=>absurd (List.findIdx_lt_length.2 h2) h⟩
theorem mp_at{α:Type}{e:α->TA}{xs:List α}{k:Nat}(h:k<xs.length):(xs.map e)[k]?=some (e xs[k]):=by simp[h]
theorem mp_len{α:Type}{e:α->TA}{xs:List α}{n:Nat}(h:∀x,(e x).length=n):∀q∈xs.map e,q.length=n:=fun q hq=>by
 obtain⟨t,_,rfl⟩:=zLj.1 hq;exact h t
theorem f148(a l h:Int):ACall tP G 93 [ei a,ei l,ei h] (.v (.bool (inB a l h))):=by
 refine aC func93 ?_;refine Z19 ?_;exact⟨.inr Y,AVle.of (by simp[inB])⟩
theorem f117(a l h:Int):ACall tP G 140 [ei a,ei l,ei h] (.v (.bool (inB a l h))):=by
 refine aC func140 ?_;refine Z19 ?_;exact⟨.inr Y,AVle.of (by simp[inB])⟩
theorem f218(a b m:Int):ACall tP G 267 [.agg [ei a,ei b],ei m] (.v (.bool (eo a b m))):=by
 refine aC func267 ?_;refine Z28 ?_;exact⟨.inr Y,AVle.of (by simp[eo,Bool.and_assoc])⟩
theorem f118(a b m:Int):ACall tP G 141 [.agg [ei a,ei b],ei m] (.v (.bool (eo a b m))):=by
 refine aC func141 ?_;refine Z28 ?_;exact⟨.inr Y,AVle.of (by simp[eo,Bool.and_assoc])⟩
variable{p:Rep->Bool}{w:Wt}
theorem f217(c:FuncId)(cs:TA)(xs:List Rep)(hx:xs.length<=1000000)(hp:∀x∈xs,ACall tP G c ([.agg (eRep x)]++cs) (.v (.bool (p x)))):ACall tP G 266 [.sl (xs.map eRep),.fn c [] cs] (ei (ixF p xs)):=by
 have hlm:(xs.map eRep).length=xs.length:=sI;refine aC func266 ?_;refine Z9 ?_;refine zb (zM Y Y Y underlying29) (Z4 ?_);refine zD (ι:={k:Nat//k<=xs.length/\∀j(hj:j<xs.length),j<k->p xs[j]=false}) (fun k=>⟨Tryz.f266.ntmps,frL [(0,.pub (.sl (xs.map eRep))),(1,.pub (.fn c [] cs)),(7,I (((xs.map eRep).length:Nat):Int)),(8,I (k.1:Int))],[]⟩) (fun k=>xs.length-k.1) (⟨0,oM,fun j _ h=>absurd h oM⟩) ?_ ?_
 ·exact zd _ rL (Y)
 ·rintro⟨k,hk⟩;dsimp only;refine Z6 ?_;refine nC ?_ ?_<;>intro h0
  ·skip;have hlt:k<xs.length:=by simpa using h0
   refine Z15 ?_;refine zb (zc Y Y Y d6 oM (by exact mp_at hlt) (mp_len fun _=>rfl)) ?_;refine Z ?_;refine zb (qD (av:=[_]) Y Y rL (hp xs[k] (zLm hlt))) (Z2 ?_);refine nC ?_ ?_<;>intro h1
   ·skip;refine Z12 ?_;exact⟨.inr Y,AVle.of (by rw[AB hlt h1 hk.2])⟩
   ·skip;refine Z7 ?_;exact⟨⟨k+1,oM,fun j hj h=>(Nat.lt_succ_iff_lt_or_eq.1 h).elim (hk.2 j hj) (fun e=>by subst e;exact h1)⟩,by dsimp only;omega,zd _ rL (Y)⟩
  ·skip;have hge:k=xs.length:=by simp at h0;omega
   refine Z11 ?_;exact⟨.inr Y,AVle.of (by rw[uS (fun j hj=>hk.2 j hj oM)])⟩
theorem f149(c:FuncId)(cs:TA)(xs:List Rep)(hx:xs.length<=1000000)(hp:∀x∈xs,ACall tP G c ([.agg (eRep x)]++cs) (.v (.bool (p x)))):ACall tP G 185 [.sl (xs.map eRep),.fn c [] cs] (.v (.bool (xs.any p))):=by
 refine aC func185 ?_;refine Z9 ?_;refine yc (f217 c cs xs hx hp) ?_;refine Z5 ?_;exact⟨.inr Y,AVle.of (by rw[nN])⟩
theorem f219{p:Lnk->Bool}(c:FuncId)(cs:TA)(xs:List Lnk)(hx:xs.length<=1000000)(hp:∀x∈xs,ACall tP G c ([.agg (eLnk x)]++cs) (.v (.bool (p x)))):ACall tP G 268 [.sl (xs.map eLnk),.fn c [] cs] (ei (ixF p xs)):=by
 have hlm:(xs.map eLnk).length=xs.length:=sI;refine aC func268 ?_;refine Z9 ?_;refine zb (zM Y Y Y underlying30) (Z4 ?_);refine zD (ι:={k:Nat//k<=xs.length/\∀j(hj:j<xs.length),j<k->p xs[j]=false}) (fun k=>⟨Tryz.f268.ntmps,frL [(0,.pub (.sl (xs.map eLnk))),(1,.pub (.fn c [] cs)),(7,I (((xs.map eLnk).length:Nat):Int)),(8,I (k.1:Int))],[]⟩) (fun k=>xs.length-k.1) (⟨0,oM,fun j _ h=>absurd h oM⟩) ?_ ?_
 ·exact zd _ rL (Y)
 ·rintro⟨k,hk⟩;dsimp only;refine Z6 ?_;refine nC ?_ ?_<;>intro h0
  ·skip;have hlt:k<xs.length:=by simpa using h0
   refine Z15 ?_;refine zb (zc Y Y Y Nq oM (by exact mp_at hlt) (mp_len fun _=>rfl)) ?_;refine Z ?_;refine zb (qD (av:=[_]) Y Y rL (hp xs[k] (zLm hlt))) (Z2 ?_);refine nC ?_ ?_<;>intro h1
   ·skip;refine Z12 ?_;exact⟨.inr Y,AVle.of (by rw[AB hlt h1 hk.2])⟩
   ·skip;refine Z7 ?_;exact⟨⟨k+1,oM,fun j hj h=>(Nat.lt_succ_iff_lt_or_eq.1 h).elim (hk.2 j hj) (fun e=>by subst e;exact h1)⟩,by dsimp only;omega,zd _ rL (Y)⟩
  ·skip;have hge:k=xs.length:=by simp at h0;omega
   refine Z11 ?_;exact⟨.inr Y,AVle.of (by rw[uS (fun j hj=>hk.2 j hj oM)])⟩
theorem f152{p:Lnk->Bool}(c:FuncId)(cs:TA)(xs:List Lnk)(hx:xs.length<=1000000)(hp:∀x∈xs,ACall tP G c ([.agg (eLnk x)]++cs) (.v (.bool (p x)))):ACall tP G 188 [.sl (xs.map eLnk),.fn c [] cs] (.v (.bool (xs.any p))):=by
 refine aC func188 ?_;refine Z9 ?_;refine yc (f219 c cs xs hx hp) ?_;refine Z5 ?_;exact⟨.inr Y,AVle.of (by rw[nN])⟩
theorem f220{p:Prt->Bool}(c:FuncId)(cs:TA)(xs:List Prt)(hx:xs.length<=1000000)(hp:∀x∈xs,ACall tP G c ([.agg (ePrt x)]++cs) (.v (.bool (p x)))):ACall tP G 269 [.sl (xs.map ePrt),.fn c [] cs] (ei (ixF p xs)):=by
 have hlm:(xs.map ePrt).length=xs.length:=sI;refine aC func269 ?_;refine Z9 ?_;refine zb (zM Y Y Y underlying31) (Z4 ?_);refine zD (ι:={k:Nat//k<=xs.length/\∀j(hj:j<xs.length),j<k->p xs[j]=false}) (fun k=>⟨Tryz.f269.ntmps,frL [(0,.pub (.sl (xs.map ePrt))),(1,.pub (.fn c [] cs)),(7,I (((xs.map ePrt).length:Nat):Int)),(8,I (k.1:Int))],[]⟩) (fun k=>xs.length-k.1) (⟨0,oM,fun j _ h=>absurd h oM⟩) ?_ ?_
 ·exact zd _ rL (Y)
 ·rintro⟨k,hk⟩;dsimp only;refine Z6 ?_;refine nC ?_ ?_<;>intro h0
  ·skip;have hlt:k<xs.length:=by simpa using h0
   refine Z15 ?_;refine zb (zc Y Y Y F3 oM (by exact mp_at hlt) (mp_len fun _=>rfl)) ?_;refine Z ?_;refine zb (qD (av:=[_]) Y Y rL (hp xs[k] (zLm hlt))) (Z2 ?_);refine nC ?_ ?_<;>intro h1
   ·skip;refine Z12 ?_;exact⟨.inr Y,AVle.of (by rw[AB hlt h1 hk.2])⟩
   ·skip;refine Z7 ?_;exact⟨⟨k+1,oM,fun j hj h=>(Nat.lt_succ_iff_lt_or_eq.1 h).elim (hk.2 j hj) (fun e=>by subst e;exact h1)⟩,by dsimp only;omega,zd _ rL (Y)⟩
  ·skip;have hge:k=xs.length:=by simp at h0;omega
   refine Z11 ?_;exact⟨.inr Y,AVle.of (by rw[uS (fun j hj=>hk.2 j hj oM)])⟩
theorem f155{p:Prt->Bool}(c:FuncId)(cs:TA)(xs:List Prt)(hx:xs.length<=1000000)(hp:∀x∈xs,ACall tP G c ([.agg (ePrt x)]++cs) (.v (.bool (p x)))):ACall tP G 191 [.sl (xs.map ePrt),.fn c [] cs] (.v (.bool (xs.any p))):=by
 refine aC func191 ?_;refine Z9 ?_;refine yc (f220 c cs xs hx hp) ?_;refine Z5 ?_;exact⟨.inr Y,AVle.of (by rw[nN])⟩
theorem f151(w:Wt)(r:Rep):ACall tP G 187 [.agg (eWt w),.agg (eRep r)] (.v (.bool (jh w.n r))):=by
 refine aC func187 ?_;refine Z13 ?_;refine zb (nS Y Y) ?_;refine yc (f148 _ _ _) ?_;refine Z3 ?_;refine yd Y (fun hg=>(f148 _ _ _)) ?_;refine Z4 ?_;refine yd Y (fun hg=>(f148 _ _ _)) ?_;refine Z4 ?_;refine yd Y (fun hg=>(f218 _ _ _)) ?_;refine Z4 ?_;refine yd Y (fun hg=>(f148 _ _ _)) ?_;refine Z4 ?_;refine yd Y (fun hg=>(f148 _ _ _)) ?_;refine Z5 ?_;exact aR
theorem f154(w:Wt)(r:Lnk):ACall tP G 190 [.agg (eWt w),.agg (eLnk r)] (.v (.bool (vv w.n r))):=by
 refine aC func190 ?_;refine Z13 ?_;refine zb (nS Y Y) ?_;refine yc (f148 _ _ _) ?_;refine Z5 ?_;refine zh Y (fun hg=>nS Y (zLc hg)) ?_;refine yd Y (fun hg=>(f148 _ _ _)) ?_;refine Z11 ?_;refine yd Y (fun hg=>(f148 _ _ _)) ?_;refine Z5 ?_;exact aR
theorem f157(r:Prt):ACall tP G 193 [.agg (ePrt r)] (.v (.bool (wT r))):=by
 refine aC func193 ?_;refine Z10 ?_;refine yc (f218 _ _ _) ?_;refine Z7 ?_;refine zh Y (fun hg=>j4 Y (zLc hg) (zLc hg) ⟨by simp[eo]at hg;omega,by simp[eo]at hg;omega⟩) (Z5 ?_);refine yd Y (fun hg=>(f148 _ _ _)) ?_;refine Z4 ?_;refine yd Y (fun hg=>(f148 _ _ _)) ?_;refine Z5 ?_;exact aR
theorem f150(w:Wt)(r:Rep):ACall tP G 186 [.agg (eRep r),.ptr (eWt w)] (.v (.bool (!jh w.n r))):=by
 refine aC func186 ?_;refine Z10 ?_;refine yc (f151 w r) ?_;refine Z5 ?_;exact aR
theorem f153(w:Wt)(r:Lnk):ACall tP G 189 [.agg (eLnk r),.ptr (eWt w)] (.v (.bool (!vv w.n r))):=by
 refine aC func189 ?_;refine Z10 ?_;refine yc (f154 w r) ?_;refine Z5 ?_;exact aR
theorem f156(r:Prt):ACall tP G 192 [.agg (ePrt r)] (.v (.bool (!wT r))):=by
 refine aC func192 ?_;refine Z9 ?_;refine yc (f157 r) ?_;refine Z5 ?_;exact aR
theorem f58(w:Wt):ACall tP G 89 [.agg (eWt w)] (.v (.bool (okWtB w))):=by
 refine aC func89 ?_;refine Z10 ?_;refine yc (f148 _ _ _) ?_;refine Z3 ?_;refine zh Y (fun hg=>zM Y Y (zLc hg) underlying29) (Z5 ?_);refine zh Y (fun hg=>zM Y Y (zLc hg) underlying30) (Z5 ?_);refine zh Y (fun hg=>zM Y Y (zLc hg) underlying31) (Z5 ?_);refine yd Y (fun hg=>(f148 _ _ _)) ?_;refine Z4 ?_;refine yd Y (fun hg=>(f148 _ _ _)) ?_;refine Z4 ?_;refine yd Y (fun hg=>(f148 _ _ _)) ?_;refine Z22 ?_;refine yd Y (fun hg=>(f149 186 [.ptr (eWt w)] w.reps (by simp at hg;omega) (fun x _=>f150 w x))) ?_;refine Z6 ?_;refine yd Y (fun hg=>(f152 189 [.ptr (eWt w)] w.lnks (by simp at hg;omega) (fun x _=>f153 w x))) ?_;refine Z5 ?_;refine yd Y (fun hg=>(f155 192 [] w.prts (by simp at hg;omega) (fun x _=>f156 x))) ?_;refine Z6 ?_;exact⟨.inr Y,AVle.of (by simp[okWtB])⟩
theorem f11(w:Wt):ACall tP G 98 [.agg (eWt w)] (ei (if okWtB w then 0 else 2)):=by
 refine aC func98 ?_;refine Z10 ?_;refine yc (f58 w) ?_;refine Z3 ?_;refine nC ?_ ?_<;>intro h0
 ·skip;refine Z7 ?_;exact⟨.inr Y,AVle.of (by simp at h0;rw[h0];rfl)⟩
 ·skip;refine Z8 ?_;exact⟨.inr Y,AVle.of (by simp at h0;rw[h0];rfl)⟩
theorem okRep_bd{n:Int}{r:Rep}(h:jh n r=true):(0<=r.tk/\r.tk<=10080)/\(0<=r.pr/\r.pr<=99999)/\(0<=r.dl/\r.dl<=r.dh/\r.dh<=2880)/\(0<=r.ug/\r.ug<=2880)/\(0<=r.co/\r.co<=10000):=by
 simp only[jh,zLa,inB_iff,eo,zLd]at h;omega
theorem VX(a b:Int):(a==b)=decide (a=b):=by rw[Bool.eq_iff_iff];simp
def far(a b:Int):Int:=max (a-b) (b-a)
def flB(w:Wt)(r s:Rep):Bool:=r.st==s.st&&decide (r.tk<s.tk)&&decide (r.pr-s.pr≥w.fall)
def lkB(r s:Rep)(l:Lnk):Bool:=((l.a==r.st&&l.b==s.st)||(l.a==s.st&&l.b==r.st))&&decide (far r.pr s.pr≥l.df)
def dfB(w:Wt)(r s:Rep):Bool:=w.lnks.any (lkB r s)
def alB(w:Wt)(r s:Rep):Bool:=decide (far r.tk s.tk<=w.win)&&(flB w r s||flB w s r||dfB w r s)
structure WtP(w:Wt):Prop where
 reps:∀r∈w.reps,jh w.n r=true
 lr:w.reps.length<=9
 ll:w.lnks.length<=8
 lp:w.prts.length<=4
 pts:∀p∈w.prts,wT p=true
 hold:1<=w.hold/\w.hold<=2880
 win:1<=w.win/\w.win<=2880
theorem wtP(h:okWtB w=true):WtP w:=by
 simp only[okWtB,zLa,zLd,inB_iff,Bool.not_eq_true']at h;refine⟨fun r hr=>?_,oM,oM,oM,fun p hp=>?_,oM,oM⟩
 ·have:=h.1.1.2;rw[List.any_eq_false]at this;simpa using this r hr
 ·have:=h.2;rw[List.any_eq_false]at this;simpa using this p hp
theorem f221(a b:Int)(h:(0<=a/\a<=100000)/\(0<=b/\b<=100000)):ACall tP G 270 [ei a,ei b] (ei (far a b)):=by
 refine aC func270 ?_;refine Z18 ?_;exact aR
theorem f222(w:Wt)(r s:Rep)(hr:jh w.n r=true)(hs:jh w.n s=true):ACall tP G 271 [.agg (eWt w),.agg (eRep r),.agg (eRep s)] (.v (.bool (flB w r s))):=by
 have hr1:=okRep_bd hr;have hs1:=okRep_bd hs;refine aC func271 ?_;refine Z36 ?_;exact⟨.inr Y,AVle.of (by simp[flB,Bool.and_assoc,VX])⟩
theorem f273(n:Int)(r s:Rep)(hr:jh n r=true)(hs:jh n s=true)(l:Lnk):ACall tP G 334 [.agg (eLnk l),.ptr (eRep r),.ptr (eRep s)] (.v (.bool (lkB r s l))):=by
 have hr1:=okRep_bd hr;have hs1:=okRep_bd hs;refine aC func334 ?_;refine Z26 ?_;refine zh Y (fun hg=>zX Y (zLc hg)) (zh (zx Y Y Y) (fun hg=>zf Y Y E3) (zh (zx Y Y Y) (fun hg=>zl Y (zLc hg) Y ki) (zh (zx Y Y Y) (fun hg=>zf Y Y J0) (zh (zx Y Y Y) (fun hg=>zl Y (zLc hg) Y ki) (zh (zx Y Y Y) (fun hg=>vr Y (zLc hg) (zLc hg)) (zh Y (fun hg=>vB Y (zLc hg) (jY hg) Y) ?_))))));refine Z5 ?_;refine zN mixed nR Y ?_;refine Z6 ?_;refine zq Y (fun hg=>zi (av:=[_,_]) Y ⟨((zLc hg)),((zLc hg)),trivial⟩ (f221 _ _ ⟨oM,oM⟩)) ?_;refine Z8 ?_;exact⟨.inr Y,AVle.of (by simp[lkB,VX])⟩
theorem f223(hP:WtP w)(r s:Rep)(hr:jh w.n r=true)(hs:jh w.n s=true):ACall tP G 272 [.agg (eWt w),.agg (eRep r),.agg (eRep s)] (.v (.bool (dfB w r s))):=by
 refine aC func272 ?_;refine Z13 ?_;refine yc (f152 334 [.ptr (eRep r),.ptr (eRep s)] w.lnks (by have:=hP.ll;omega) (fun x _=>f273 w.n r s hr hs x)) ?_;refine Z4 ?_;exact aR
theorem f160(hP:WtP w)(r s:Rep)(hr:jh w.n r=true)(hs:jh w.n s=true):ACall tP G 194 [.agg (eWt w),.agg (eRep r),.agg (eRep s)] (.v (.bool (alB w r s))):=by
 have hr1:=okRep_bd hr;have hs1:=okRep_bd hs;refine aC func194 ?_;refine Z9 ?_;refine zN mixed nR Y ?_;refine Z4 ?_;refine zH Y (zi (av:=[_,_]) Y rL (f221 _ _ ⟨oM,oM⟩)) ?_;refine Z7 ?_;refine zq Y (fun hg=>zi (av:=[_,_,_]) Y ⟨((zLc hg)),((zLc hg)),((zLc hg)),trivial⟩ (f222 w r s hr hs)) (zq Y (fun hg=>zX Y (zLc hg)) (zq (zx Y Y Y) (fun hg=>qk Y Y IU bL) (zq (zx Y Y Y) (fun hg=>qk Y Y si bL) (zq (zx Y Y Y) (fun hg=>qk Y Y si bL) (zq (zx Y Y Y) (fun hg=>zi (av:=[_,_,_]) Y ⟨((zLc hg)),((zLc hg)),((zLc hg)),trivial⟩ (f222 w s r hs hr)) (zq Y (fun hg=>ju Y (zLc hg) Y (jY hg)) (zq Y (fun hg=>zX Y (zLc hg)) (zq (zx Y Y Y) (fun hg=>qk Y Y IU bL) (zq (zx Y Y Y) (fun hg=>qk Y Y si bL) (zq (zx Y Y Y) (fun hg=>qk Y Y si bL) (zq (zx Y Y Y) (fun hg=>zi (av:=[_,_,_]) Y ⟨((zLc hg)),((zLc hg)),((zLc hg)),trivial⟩ (f223 hP r s hr hs)) ?_)))))))))));refine zq Y (fun hg=>ju Y (zLc hg) Y (jY hg)) (Z5 ?_);exact⟨.inr Y,AVle.of (by simp[alB,Bool.or_assoc])⟩
end Hs
end Go.Av
namespace Go.Av
namespace Hs
open Go.Proofs Tryz
def kQ(a:Nat × Nat):Value:=.agg #[.int .i64 (a.1:Int),.int .i64 (a.2:Int)]
theorem db:tP.underlying 294=some (.struct (tP.fieldsOf 294)):=nR
theorem JX:tP.stoodInHeld 294=false:=nR
def fO:Field:=⟨"One",3,0,false,"","",0⟩
def fT:Field:=⟨"Other",3,1,false,"","",8⟩
theorem gY:(tP.fieldsOf 294).toList=[fO,fT]:=nR
theorem pk3:tP.plainKey 3=true:=nR
theorem pt3{xs:Array Value}{off:Nat}{v:Value}(w:World)(hx:xs[off]?=some v):(part 3 xs off).run tP w=.ok v w:=run_part_plain w pk3 hx
theorem eqA(a b:Nat × Nat)(w:World):(Op.equal 294 (kQ a) (kQ b)).run tP w=.ok (decide (b=a)) w:=by
 show(Op.equalIn 10000 294 (kQ a) (kQ b)).run tP w=_;unfold kQ;rw[run_equalIn_struct w 9999 294 _ _ db JX,gY];have h1:∀p q:Int,(Op.equalIn 9999 3 (.int .i64 p) (.int .i64 q)).run tP w=.ok (p==q) w:=fun p q=>run_equalIn_int w 9998 3 .i64 .i64 p q underlying3;have p0:∀x y:Value,(part 3 #[x,y] 0).run tP w=.ok x w:=fun x y=>pt3 w rfl;have p1:∀x y:Value,(part 3 #[x,y] 1).run tP w=.ok y w:=fun x y=>pt3 w rfl
 have key:decide (b=a)=(((a.1:Int)==(b.1:Int))&&((a.2:Int)==(b.2:Int))):=by
  rw[Bool.eq_iff_iff];simp only[beq_iff_eq,zLa,zLd,Prod.ext_iff];omega
 rw[key];simp only[Op.eqFields,fO,fT,ne_eq,String.reduceEq,not_false_eq_true,if_true,Sem.run_bind,p0,p1,h1,Result.andThen_ok];cases((a.1:Int)==(b.1:Int))with
 |false=>rfl
 |true=>
  simp only[Bool.not_true,Bool.false_eq_true,if_false,Sem.run_bind,p1,h1,Result.andThen_ok];cases((a.2:Int)==(b.2:Int))<;>rfl
theorem ckI(b:Bool)(d:Nat)(x:Int)(w:World):(Instr.checkKey b (d+1) 3 (.int .i64 x)).run tP w=.ok () w:=by
 simp only[Instr.checkKey,Sem.run_bind,run_underlying underlying3,Result.andThen_ok,Sem.run_pure]
theorem ckA(b:Bool)(c:Nat × Nat)(w:World):(Instr.checkKey b 10000 294 (kQ c)).run tP w=.ok () w:=by
 have p0:∀(x y:Value)(w:World),(part 3 #[x,y] 0).run tP w=.ok x w:=fun x y w=>pt3 w rfl;have p1:∀(x y:Value)(w:World),(part 3 #[x,y] 1).run tP w=.ok y w:=fun x y w=>pt3 w rfl;unfold kQ;rw[show(10000:Nat)=9998+2 from rfl,Instr.checkKey];simp only[Sem.run_bind,run_underlying db,Result.andThen_ok];rw[←Array.forIn_toList,gY];simp only[List.forIn_cons,List.forIn_nil,fO,fT,ne_eq,String.reduceEq,not_false_eq_true,if_true,Sem.run_bind,p0,p1,ckI,Result.andThen_ok,Sem.run_pure]
theorem V8:KeyT tP 294 kQ:=rB db (fun _ _=>rfl) eqA ckA (fun a=>by simp[kQ,Instr.sameBits])
theorem ME(a b:Nat):mS (.agg [.v (.int .i64 (a:Int)),.v (.int .i64 (b:Int))]) (kQ (a,b)):=cu (l:=[.int .i64 (a:Int),.int .i64 (b:Int)]) rfl
def rp0:Rep:=⟨0,0,0,0,0,0,0⟩
def rpW(w:Wt)(i:Nat):Rep:=w.reps.getD i rp0
def alP(w:Wt)(p:Nat × Nat):Bool:=decide (p.1<p.2)&&alB w (rpW w p.1) (rpW w p.2)
def rowA(w:Wt)(i m:Nat):List (Nat × Nat):=((List.range m).map fun j=>(i,j)).filter (alP w)
def vI(w:Wt)(k:Nat):List (Nat × Nat):=(List.range k).flatMap fun i=>rowA w i w.reps.length
def pairsA(w:Wt):List (Nat × Nat):=vI w w.reps.length
def esB(l:List (Nat × Nat)):List ((Nat × Nat) × EV):=l.map fun p=>(p,B true)
def esA(l:List (Nat × Nat)):List ((Nat × Nat) × AV):=l.map fun p=>(p,.v (.bool true))
variable{l:List (Nat × Nat)}{a p:Nat × Nat}{w:Wt}{k m:Nat}
theorem J4(h:a∉l):xu a (B true) (esB l)=esB (l++[a]):=by
 induction l with
 |nil=>rfl
 |cons b l ih=>
  rw[List.mem_cons,not_or]at h;show(if b=a then _ else _)=_;rw[zLy fun e=>h.1 e.symm];show _::xu a (B true) (esB l)=_;rw[ih h.2];rfl
theorem KA:wY a (ofV (.bool false)) (esA l)=.v (.bool (decide (a∈l))):=by
 induction l with
 |nil=>simp[esA,wY,ofV]
 |cons b l ih=>
  show(if b=a then _ else _)=_
  by_cases h:b=a
  ·subst h;simp
  ·rw[zLy h];show wY a (ofV (.bool false)) (esA l)=_;rw[ih];congr 2;rw[decide_eq_decide];exact⟨fun h'=>zL3 _ h',fun h'=>(List.mem_cons.1 h').resolve_left fun e=>h e.symm⟩
theorem gR{i:Nat}:p∈rowA w i m↔p.1=i/\p.2<m/\alP w p=true:=by
 obtain⟨a,b⟩:=p;simp only[rowA,List.mem_filter,zLj,List.mem_range,zLp];constructor
 ·rintro⟨⟨j,h1,h2,h3⟩,h4⟩;exact⟨h2.symm,oM,h4⟩
 ·rintro⟨h1,h2,h3⟩;exact⟨⟨b,h2,h1.symm,rfl⟩,h3⟩
theorem pJ:p∈vI w k↔p.1<k/\p.2<w.reps.length/\alP w p=true:=by
 simp only[vI,List.mem_flatMap,List.mem_range,gR];constructor
 ·rintro⟨i,h1,h2,h3,h4⟩;exact⟨oM,h3,h4⟩
 ·rintro⟨h1,h2,h3⟩;exact⟨p.1,h1,rfl,h2,h3⟩
theorem ga{i:Nat}:rowA w i (m+1)=rowA w i m++bif alP w (i,m)then[(i,m)]else[]:=by
 simp only[rowA,List.range_succ,List.map_append,List.filter_append,List.map_singleton];cases h:alP w (i,m)<;>simp[h]
theorem nQ:vI w (k+1)=vI w k++rowA w k w.reps.length:=by
 simp[vI,List.range_succ,List.flatMap_append]
theorem yC:(k,m)∉vI w k++rowA w k m:=by
 simp[pJ,gR]
theorem Rf(h:alP w (k,m)=true):xu (k,m) (B true) (esB (vI w k++rowA w k m))=esB (vI w k++rowA w k (m+1)):=by
 rw[J4 yC,ga,h,cond_true,List.append_assoc]
theorem Aw(h:alP w (k,m)=false):vI w k++rowA w k (m+1)=vI w k++rowA w k m:=by
 rw[ga,h,cond_false,List.append_nil]
theorem mE(h:k<w.reps.length):w.reps[k]=rpW w k:=by simp[rpW,h]
def eLk(w:Wt):TA:=eWt w++[yo kQ (esA (pairsA w))]
theorem cM(h:k<w.reps.length):(w.reps.map eRep)[k]?=some (eRep (rpW w k)):=by rw[←mE h];exact mp_at h
theorem xO:∀q∈w.reps.map eRep,q.length=7:=mp_len fun _=>rfl
theorem rp_ok(hP:WtP w)(h:k<w.reps.length):jh w.n (rpW w k)=true:=by rw[←mE h];exact hP.reps _ (zLm h)
theorem row0:rowA w k 0=rowA w k (k+1):=by
 rw[show rowA w k 0=[] from rfl];symm;rw[List.eq_nil_iff_forall_not_mem];intro p hp;rw[gR]at hp;obtain⟨h1,h2,h3⟩:=hp;simp only[alP,zLa,zLd]at h3;omega
theorem Ee{j:Nat}{b:Bool}(h:k<j)(hb:alB w (rpW w k) (rpW w j)=b):alP w (k,j)=b:=by simp[alP,h,hb]
theorem QJ:vI w k++rowA w k w.reps.length=vI w (k+1)++rowA w (k+1) 0:=by rw[nQ];simp[rowA]
theorem Qx:vI w w.reps.length++rowA w w.reps.length 0=pairsA w:=by simp[rowA,pairsA]
theorem Kw(l:List (Nat × Nat)):esB l=(esA l).map fun p=>(p.1,EV.pub p.2):=by simp[esA,esB,Function.comp_def]
abbrev jU:EV:=.pub (.v (.slice none 0 0))
def zQk:TE:=[I 0,jU,jU,jU,I 0,I 0,I 0,I 0,I 0,.pub (.v (.map none))]
end Hs
end Go.Av
namespace Go.Av
namespace Hs
open Go.Proofs Tryz
variable{G:Glob}
theorem Na:(tP.info? 181).bind (·.zero)=some (.agg #[nZ,.slice none 0 0,.slice none 0 0,.slice none 0 0,nZ,nZ,nZ,nZ,nZ,.map none]):=nR
theorem N3:zU tP 294 [(0,1),(1,1)] [nZ,nZ]:=⟨_,underlying294,nR,nR⟩
theorem Xh:zU tP 181 [(0,9),(9,1)] [nZ,.slice none 0 0,.slice none 0 0,.slice none 0 0,nZ,nZ,nZ,nZ,nZ,.map none]:=⟨_,underlying181,nR,nR⟩
theorem E9:zS tP 181 true 10=true:=nR
variable{w:Wt}{p:Int->Bool}{i j k:Nat}{x:Nat × Nat}{ds:List Int}{l:List (Nat × Nat)}{A:List (TE)}
theorem f60(hP:WtP w):ACall tP G 90 [.agg (eWt w)] (.agg (eLk w)):=by
 have hlr:=hP.lr;have hlm:(w.reps.map eRep).length=w.reps.length:=sI;refine aC func90 ?_;refine Z3 ?_;refine zm Y (zE Y Y Na Y Y) (Z4 ?_);refine zm Y (vR Y Y) (Z8 ?_);refine zb (zM Y Y Y underlying29) (Z4 ?_);refine zD (ι:={k:Nat//k<=w.reps.length}) (fun k=>⟨Tryz.f90.ntmps,frL [(1,.pub (.ptr (eWt w))),(2,.pp 0 1 0 0),(3,.mpv 1),(9,.pub (.sl (w.reps.map eRep))),(10,I (((w.reps.map eRep).length:Nat):Int)),(11,I (k.1:Int))],[.row [zQk],wM kQ (esB (vI w k.1++rowA w k.1 0))]⟩) (fun k=>w.reps.length-k.1) (⟨0,oM⟩) ?_ ?_
 ·exact zd _ rL (Y)
 ·rintro⟨k,hk⟩;dsimp only;refine Z6 ?_;refine nC ?_ ?_<;>intro h0
  ·skip;have hlt:k<w.reps.length:=by simpa using h0
   refine Z7 ?_;refine zb (zc Y Y Y d6 oM (by exact cM hlt) xO) (Z ?_);refine fJ Y Y Y Y Y Y Y Y (xP Y Y) Y Y Y I1 si Y rF (zF Y) Y ?_;refine Z10 ?_;refine zD (ι:={j:Nat//k+1<=j/\j<=w.reps.length}) (fun j=>⟨Tryz.f90.ntmps,frL [(1,.pub (.ptr (eWt w))),(2,.pp 0 1 0 0),(3,.mpv 1),(9,.pub (.sl (w.reps.map eRep))),(10,I (((w.reps.map eRep).length:Nat):Int)),(11,I (k:Int)),(4,I (k:Int)),(5,.pub (.ptr (eRep (rpW w k)))),(6,I (j.1:Int))],[.row [zQk],wM kQ (esB (vI w k++rowA w k j.1))]⟩) (fun j=>w.reps.length-j.1) (⟨k+1,oM⟩) ?_ ?_
   ·exact zd _ rL ((by rw[row0]))
   ·rintro⟨j,hj⟩;dsimp only;refine Z6 ?_;refine zb (zM Y Y Y underlying29) (Z3 ?_);refine nC ?_ ?_<;>intro h1
    ·skip;have hjl:j<w.reps.length:=by simpa using h1
     refine Z5 ?_;refine zN mixed nR Y ?_;refine Z5 ?_;refine zH Y (zc Y Y Y d6 oM (by exact cM hjl) xO) (Z ?_);refine zH Y (zi (av:=[_,_,_]) Y rL (f160 hP _ _ (rp_ok hP hlt) (rp_ok hP hjl))) ?_;refine Z2 ?_;refine nC ?_ ?_<;>intro h2
     ·skip;refine Z4 ?_;refine zb (zu (cs:=[_,_]) Y N3 Y (zk (zk Y)) rF (by simp[ofV])) ?_;refine zm Y (qt (enc:=kQ) (es:=esB (vI w k++rowA w k j)) (a:=(k,j)) (v:=B true) (.inl Y) Y Y Y Y (ME k j) underlying179 V8 Y) (Z8 ?_);exact⟨⟨j+1,oM⟩,by dsimp only;omega,zd _ rL ((zLz (fun z=>[PO.row [zQk],wM kQ z]) (Rf (Ee oM h2))))⟩
     ·skip;refine Z8 ?_;exact⟨⟨j+1,oM⟩,by dsimp only;omega,zd _ rL ((zLz (fun z=>[PO.row [zQk],wM kQ (esB z)]) (Aw (Ee oM h2)).symm))⟩
    ·skip;have hje:j=w.reps.length:=by simp at h1;omega
     subst hje;refine Z10 ?_;exact⟨⟨k+1,oM⟩,by dsimp only;omega,zd _ rL ((by rw[QJ]))⟩
  ·skip;have hge:k=w.reps.length:=by simp at h0;omega
   subst hge;refine Z6 ?_;refine zt (dX (enc:=kQ) (k:=1) (es:=esA (pairsA w)) [3] (by rw[←Kw,Qx];rfl) (fun d hd=>by rw[zLh]at hd;subst hd;rfl)) ?_;refine Z3 ?_;refine zb (zu (cs:=[_,_,_,_,_,_,_,_,_,_]) Y Xh Y (zk (zk Y)) rF (by simp[ofV])) ?_;refine zm Y (zp Y Y Y Y Y Y cEx E9 rF bL) (Z3 ?_);exact⟨.inr Y,jb Y (zQ Y Y Y Y E9 Y (vwR (vwR (vwR (vwR (vwR (vwR (vwR (vwR (vwR (vwR Y)))))))))))⟩
theorem fE:zO tP 181 0 0=true:=nR
theorem rN:zO tP 181 1 9=true:=nR
theorem NW:zS tP 179 false 1=true:=nR
theorem lw:zS tP 294 true 2=true:=nR
theorem Ib:(tP.info? 294).bind (·.zero)=some (.agg #[nZ,nZ]):=nR
theorem Ry(b:Bool):b=false∨b=true:=by cases b<;>simp
theorem pairs_mem{p:Nat × Nat}:p∈pairsA w↔p.1<w.reps.length/\p.2<w.reps.length/\alP w p=true:=pJ
theorem Su(hk:k<w.reps.length)(hj:j<w.reps.length)(hb:decide ((k,j)∈pairsA w)=false):alP w (k,j)=false:=by
 rw[decide_eq_false_iff_not,pairs_mem]at hb;cases h:alP w (k,j)with
 |false=>rfl
 |true=>exact absurd ⟨hk,hj,h⟩ hb
theorem HW(hk:k<w.reps.length)(hj:j<w.reps.length)(hb:decide ((k,j)∈pairsA w)=true):alP w (k,j)=true:=by
 rw[zLd,pairs_mem]at hb;exact hb.2.2
theorem pi:∀d,vI w k<+:vI w (k+d)
 |0=>List.prefix_refl _
 |d+1=>by rw[show k+(d+1)=(k+d)+1 by omega,nQ];exact(pi d).trans (List.prefix_append ..)
theorem rf{m:Nat}:∀d,rowA w i m<+:rowA w i (m+d)
 |0=>List.prefix_refl _
 |d+1=>by rw[show m+(d+1)=(m+d)+1 by omega,ga];exact(rf d).trans (List.prefix_append ..)
def qsA(w:Wt):List (TA):=(pairsA w).map fun p=>[.agg [ei (p.1:Int),ei (p.2:Int)]]
theorem zaU(hk:k<w.reps.length)(hj:j<w.reps.length)(hb:decide ((k,j)∈pairsA w)=true):(qsA w)[(vI w k++rowA w k j).length]?=some [.agg [ei (k:Int),ei (j:Int)]]:=by
 have h1:vI w (k+1)<+:pairsA w:=by
  have:=pi (w:=w) (k:=k+1) (w.reps.length-(k+1));rwa[show k+1+(w.reps.length-(k+1))=w.reps.length by omega]at this
 have h2:rowA w k (j+1)<+:rowA w k w.reps.length:=by
  have:=rf (w:=w) (i:=k) (m:=j+1) (w.reps.length-(j+1));rwa[show j+1+(w.reps.length-(j+1))=w.reps.length by omega]at this
 rw[ga,HW hk hj hb,cond_true]at h2;rw[nQ]at h1
 have h3:vI w k++rowA w k j++[(k,j)]<+:pairsA w:=by
  rw[List.append_assoc];exact((List.prefix_append_right_inj _).2 h2).trans h1
 obtain⟨t,ht⟩:=h3;unfold qsA;rw[zLq,←ht];simp
theorem lookA{fr:Nat->EV}{mem:TP}{o:Oper}{x i:Operand}{b:Bool}(hb:decide ((k,j)∈pairsA w)=b)(ho:o.op=.lookup 179 x i false)(hx:evO fr x=.pub (yo kQ (esA (pairsA w))))(hi:evO fr i=.pub (.agg [ei (k:Int),ei (j:Int)])):OpY tP G fr mem o (B b):=by
 have:=c9 (P:=tP) (G:=G) (fr:=fr) (mem:=mem) (enc:=kQ) ho hx hi (ME k j) underlying179 V8 zB;rw[KA,hb]at this;exact this
theorem M9(hP:WtP w):gp tP G 273 [.agg (eLk w)] [] (qsA w):=by
 have hlr:=hP.lr;have hlm:(w.reps.map eRep).length=w.reps.length:=sI;refine fc (qs:=qsA w) func273 Y nR Y Y (fun C hC=>?_);refine qH ?_;refine jK ?_;refine Z3 ?_;refine zV ?_;refine qH ?_;refine jK ?_;refine Z7 ?_;refine zV ?_;refine wo ?_;refine cn (ι:={k:Nat//k<=w.reps.length}) (fun k=>⟨Tryz.f273.ntmps,frL [(1,.pub (.v (.func (.yield C.l) #[] #[]))),(2,.pub (.ptr (eLk w))),(10,I (((w.reps.map eRep).length:Nat):Int)),(11,I (k.1:Int))],[]⟩) (fun k=>.on (vI w k.1).length) (fun k=>w.reps.length-k.1) (⟨0,oM⟩) Y ?_ ?_
 ·exact zd _ rL Y
 ·rintro⟨k,hk⟩;dsimp only;refine qH ?_;refine jK ?_;refine Z3 ?_;refine zV ?_;refine qH ?_;refine jM Y (fun h0=>?_) (fun h0=>?_)
  ·have hlt:k<w.reps.length:=by simpa using h0
   refine wQ ?_;refine zV ?_;refine qH ?_;refine wo ?_;refine qH ?_;refine jK ?_;refine Z4 ?_;refine zV ?_;refine qH ?_;refine jK ?_;refine Z7 ?_;refine zV ?_;refine wo ?_;refine cn (ι:={j:Nat//j<=w.reps.length}) (fun j=>⟨Tryz.f273.ntmps,frL [(1,.pub (.v (.func (.yield C.l) #[] #[]))),(2,.pub (.ptr (eLk w))),(10,I (((w.reps.map eRep).length:Nat):Int)),(4,I (k:Int)),(17,I (((w.reps.map eRep).length:Nat):Int)),(11,I (k:Int)),(18,I (j.1:Int))],[]⟩) (fun j=>.on (vI w k++rowA w k j.1).length) (fun j=>w.reps.length-j.1) (⟨0,oM⟩) (by simp[rowA]) ?_ ?_
   ·exact zd _ rL Y
   ·rintro⟨j,hj⟩;dsimp only;refine qH ?_;refine jK ?_;refine Z3 ?_;refine zV ?_;refine qH ?_;refine jM Y (fun h1=>?_) (fun h1=>?_)
    ·have hjl:j<w.reps.length:=by simpa using h1
     refine wQ ?_;refine zV ?_;refine qH ?_;refine wo ?_;refine qH ?_;refine jK ?_;refine Z4 ?_;refine zV ?_;refine qH ?_;refine jK ?_;refine Z3 ?_;refine zb (zu (cs:=[_,_]) Y N3 Y ⟨_,_,Y,jT Y,⟨_,_,Y,jT Y,Y⟩⟩ rF (by simp[ofV])) ?_;refine zI Y Y Y Y Y Y Y Ib lw Y rF (zF Y) Y (Z ?_);refine zV ?_;refine qH ?_;refine Or.elim (Ry (decide ((k,j)∈pairsA w))) (fun hb=>?_) (fun hb=>?_)
     ·refine xX (zd (mem':=[]) [(1,.pub (.v (.func (.yield C.l) #[] #[]))),(2,.pub (.ptr (eLk w))),(10,I (((w.reps.map eRep).length:Nat):Int)),(4,I (k:Int)),(17,I (((w.reps.map eRep).length:Nat):Int)),(6,.pub (.ptr [ei (k:Int),ei (j:Int)])),(11,I (k:Int)),(18,I (j:Int))] ⟨Y,Y,Y,Y,Y,Y,Y,Y,trivial⟩ Y) ?_;refine vT ?_;refine jO Y Y (zf Y Y rN) ?_;refine jO Y Y (zl Y Y Y NW) ?_;refine jO Y Y (qk Y Y lw bL) ?_;refine jO Y Y (lookA hb Y Y Y) ?_;refine jO Y Y (zX Y Y) ?_;refine je (x:=.pub .top) Y Y Y (fun h=>absurd h dE) ?_;refine je (x:=.pub .top) Y Y Y (fun h=>absurd h dE) ?_;refine kn (q:=[]) (c:=false) Y Y Y Y (fun h=>absurd h dE) (fun h=>absurd h dE) (fun h=>absurd h dE) Y Y Y Y Y (fun _=>?_) (fun h=>absurd h dE) (fun h=>absurd h dE);refine je (x:=.pub .top) Y Y Y (fun h=>absurd h dE) ?_;refine jO Y Y (wm Y Y (fun h=>absurd h dE) (fun _=>rfl)) ?_;refine yS ?_;refine zV ?_;refine jM (b:=false) Y (fun h=>absurd h dE) (fun _=>?_)
      refine wQ ?_;refine vO ?_;refine zV ?_;refine jK ?_;refine Z4 ?_;exact⟨⟨j+1,oM⟩,by dsimp only;omega,(by rw[Aw (Su hlt hjl hb)]),zd _ rL Y⟩
     ·refine xX (zd (mem':=[]) [(1,.pub (.v (.func (.yield C.l) #[] #[]))),(2,.pub (.ptr (eLk w))),(10,I (((w.reps.map eRep).length:Nat):Int)),(4,I (k:Int)),(17,I (((w.reps.map eRep).length:Nat):Int)),(6,.pub (.ptr [ei (k:Int),ei (j:Int)])),(11,I (k:Int)),(18,I (j:Int))] ⟨Y,Y,Y,Y,Y,Y,Y,Y,trivial⟩ Y) ?_;refine vT ?_;refine jO Y Y (zf Y Y rN) ?_;refine jO Y Y (zl Y Y Y NW) ?_;refine jO Y Y (qk Y Y lw bL) ?_;refine jO Y Y (lookA hb Y Y Y) ?_;refine jO Y Y (zX Y Y) ?_;refine je Y Y Y (fun _=>zX Y Y) ?_;refine je Y Y Y (fun _=>qk Y Y lw bL) ?_;refine kn (q:=[.agg [ei (k:Int),ei (j:Int)]]) (c:=true) Y Y Y Y (fun _=>rfl) (fun _=>rfl) (fun _=>by rw[hC];exact zaU hlt hjl hb) Y Y Y Y Y (fun h=>absurd h dE) (fun _=>?_) (fun _=>?_)
      ·refine je Y Y Y (fun _=>q0 Y Y) ?_;refine jO Y Y (wm Y Y (fun _=>rfl) (fun h=>absurd h dE)) ?_;refine yS ?_;refine zV ?_;refine jM (b:=false) Y (fun h=>absurd h dE) (fun _=>?_);refine wQ ?_;refine vO ?_;refine zV ?_;refine jK ?_;refine Z4 ?_;exact⟨⟨j+1,oM⟩,by dsimp only;omega,(by rw[ga,HW hlt hjl hb];simp[Nat.add_assoc]),zd _ rL Y⟩
      ·refine je Y Y Y (fun _=>q0 Y Y) ?_;refine jO Y Y (wm Y Y (fun _=>rfl) (fun h=>absurd h dE)) ?_;refine yS ?_;refine zV ?_;refine jM (b:=true) Y (fun _=>?_) (fun h=>absurd h dE);refine mq ?_;refine yR ?_;refine yK ?_;refine yK ?_;refine yR ?_;refine yR ?_;refine yK ?_;refine yK ?_;refine yR ?_;exact⟨.inr Y,Y,.inr ⟨_,Y⟩⟩
    ·have hje:j=w.reps.length:=by simp at h1;omega
     subst hje;refine bI ?_;refine vj ?_;refine vj ?_;refine cw ?_;refine vO ?_;refine zV ?_;refine jK ?_;refine Z4 ?_;exact⟨⟨k+1,oM⟩,by dsimp only;omega,(by rw[nQ]),zd _ rL Y⟩
  ·have hge:k=w.reps.length:=by simp at h0;omega
   subst hge;refine bI ?_;refine vj ?_;refine vj ?_;refine cw ?_;exact⟨.inl Y,Y,.inl (by simp[qsA,pairsA])⟩
theorem HD:zO tP 294 0 0=true:=nR
theorem Fb:zO tP 294 1 1=true:=nR
abbrev eI(ds:List Int):AV:=.sl (ds.map fun n=>[ei n])
structure DlP(w:Wt)(ds:List Int):Prop where
 len:ds.length=w.reps.length
 bd:∀d∈ds,0<=d/\d<=2880
theorem ND(h:i<ds.length):(ds.map fun n=>[ei n])[i]?=some [ei (ds.getD i 0)]:=by simp[h]
theorem t8:∀q∈ds.map fun n=>[ei n],q.length=1:=mp_len fun _=>rfl
theorem MW(hd:DlP w ds)(h:i<w.reps.length):0<=ds.getD i 0/\ds.getD i 0<=2880:=by
 have h2:i<ds.length:=by rw[hd.len];exact h
 rw[zLv,zLe h2];exact hd.bd _ (zLm h2)
def seN(w:Wt)(ds:List Int)(p:Nat × Nat):Int:=max ((rpW w p.1).tk+ds.getD p.1 0) ((rpW w p.2).tk+ds.getD p.2 0)
def enN(w:Wt)(p:Nat × Nat):Int:=max (rpW w p.1).tk (rpW w p.2).tk+w.hold
def gq(w:Wt)(ds:List Int)(at':Int):Bool:=(pairsA w).any fun p=>decide (seN w ds p<=at')&&decide (at'<enN w p)
theorem GN{α:Type}{f:α->Bool}{l:List α}{x:α}(h:(l.take j).any f=false)(hx:l[j]?=some x)(hf:f x=false):(l.take (j+1)).any f=false:=by
 have hl:j<l.length:=(zLg hx).1;have he:l[j]=x:=(zLg hx).2;rw[zLt hl,List.any_append,h,he];simp[hf]
def qfA(p:Nat × Nat):TA:=[.agg [ei (p.1:Int),ei (p.2:Int)]]
theorem AH(hx:(pairsA w)[j]?=some x):x.1<w.reps.length/\x.2<w.reps.length:=by
 have:=pairs_mem.1 (zLo hx);exact⟨this.1,this.2.1⟩
theorem f165(hP:WtP w)(hd:DlP w ds)(p:Nat × Nat)(hi:p.1<w.reps.length)(hj:p.2<w.reps.length):ACall tP G 274 [.agg (eLk w),.agg [ei (p.1:Int),ei (p.2:Int)],eI ds] (.tup [ei (seN w ds p),ei (enN w p)]):=by
 have hlr:=hP.lr;have hho:=hP.hold;have hr1:=okRep_bd (rp_ok hP hi);have hr2:=okRep_bd (rp_ok hP hj);have hd1:=MW hd hi;have hd2:=MW hd hj;refine aC func274 ?_;refine Z9 ?_;refine zt qE ?_;refine zt qE ?_;refine qd (fun _=>True) (fun k=>match k with|0=>.stable|1=>.stable|2=>.stable|3=>.stable|4=>.stable|5=>.stable|6=>.stable|7=>.stable|8=>.stable|9=>.stable|10=>.stable|11=>.stable|12=>.stable|13=>.stable|14=>.own 0|15=>.own 1|16=>.writes|17=>.writes|_=>.here) mixed nR rfl nR trivial ?_;refine zC Y Y (fun m hm=>zf Y Y fE) (zC Y Y (fun m hm=>zf Y Y kD) ?_);refine Z ?_;refine zC Y Y (fun m hm=>zf Y Y HD) (Z ?_);refine zC Y Y (fun m hm=>zc Y Y Y d6 oM (by exact cM (k:=p.1) hi) xO) (Z ?_);refine zC Y Y (fun m hm=>zf Y Y fE) (zC Y Y (fun m hm=>zf Y Y kD) ?_);refine Z ?_;refine zC Y Y (fun m hm=>zf Y Y Fb) (Z ?_);refine zC Y Y (fun m hm=>zc Y Y Y d6 oM (by exact cM (k:=p.2) hj) xO) (Z ?_);refine ku Y Y (qX Y I1 Y Y Y) ?_
 refine ku Y Y (qX Y I1 Y Y Y) ?_;refine qw Y Y (zz Y Y Y Y Y Y cEx si rF rF) trivial ?_;refine qw Y Y (zz Y Y Y Y Y Y cEx si rF rF) trivial (Z3 ?_);refine zN mixed nR Y ?_;refine Z5 ?_;refine zH Y (zc Y Y Y zY oM (by exact ND (i:=p.1) (by rw[hd.len];exact hi)) t8) (Z7 ?_);refine zH Y (zc Y Y Y zY oM (by exact ND (i:=p.2) (by rw[hd.len];exact hj)) t8) (Z17 ?_);exact⟨.inr Y,⟨_,Y,⟨_,_,Y,AVle.refl _,⟨_,_,Y,AVle.refl _,Y⟩⟩⟩⟩
theorem f65(hP:WtP w)(hd:DlP w ds)(t:Int):ACall tP G 201 [.agg (eLk w),eI ds,ei t] (.v (.bool (gq w ds t))):=by
 have hlr:=hP.lr;have hho:=hP.hold;refine aC func201 ?_;refine Z5 ?_;refine zm Y (zE Y Y zB Y Y) (Z10 ?_);refine jS (pairsA w) (qfA) [3,4,5,6] (fun j=>((pairsA w).take j).any (fun p=>decide (seN w ds p<=t)&&decide (t<enN w p))=false) (fun j=>[.row [[B false]]]) sI Y (M9 hP) Y (fun _=>rfl) Y Y ?_ ?_
 ·intro j x gh lp hd1 hd2 hq hV;have hxi:=AH hq;refine Z ?_;refine zI Y Y Y Y Y Y Y Ib lw Y rF (zF Y) Y (Z ?_);refine⟨Y,Y,?_⟩;refine Z6 ?_;refine yc (f165 hP hd x hxi.1 hxi.2) ?_;refine Z19 ?_;refine nC ?_ ?_<;>intro h0
  ·skip;have hye:gq w ds t=true:=List.any_eq_true.2 ⟨x,zLo hq,by simpa using h0⟩;refine Z2 ?_;refine zm Y (zp Y Y Y Y Y Y cEx ty4 rF bL) (Z4 ?_);refine⟨Y,?_⟩;refine Z2 ?_;exact⟨.inr Y,jb Y (jI Y Y Y Y ty4 Y (AVle.of (by rw[hye])))⟩
  ·skip;refine Z2 ?_;exact⟨Y,GN hV hq (by simpa using h0),zd (mem':=[.row [[B false]]]) [] trivial (Y)⟩
 ·intro hVn;have hno:gq w ds t=false:=by have h:=hVn;rwa[List.take_length]at h
  refine Z4 ?_;refine zm Y (zp Y Y Y Y Y Y cEx ty4 rF bL) (Z3 ?_);exact⟨.inr Y,jb Y (jI Y Y Y Y ty4 Y (AVle.of (by rw[hno])))⟩
theorem Sr:zU tP 297 [(0,1)] [nZ]:=⟨_,underlying297,nR,nR⟩
theorem Uc:(tP.info? 297).bind (·.zero)=some (.agg #[nZ]):=nR
theorem Vs:zS tP 297 true 1=true:=nR
def bsB(w:Wt)(ds:List Int)(b:Int)(p:Nat × Nat):Bool:=decide (seN w ds p<enN w p)&&(decide (b<0)||decide (seN w ds p<b))
def bsN(w:Wt)(ds:List Int)(b:Int)(p:Nat × Nat):Int:=bif bsB w ds b p then seN w ds p else b
def yT(w:Wt)(ds:List Int)(l:List (Nat × Nat)):Int:=l.foldl (bsN w ds) (-1)
def firO(w:Wt)(ds:List Int):Option Int:=if yT w ds (pairsA w)<0 then none else some (yT w ds (pairsA w))
theorem pZ(h:l[j]?=some x):yT w ds (l.take (j+1))=bsN w ds (yT w ds (l.take j)) x:=by
 have hl:j<l.length:=(zLg h).1;have he:l[j]=x:=(zLg h).2;unfold yT;rw[zLt hl,List.foldl_append,he];rfl
theorem zai(hb:bsB w ds (yT w ds (l.take j)) x=true)(h:l[j]?=some x):[PO.row [[I (seN w ds x)]]]=[PO.row [[I (yT w ds (l.take (j+1)))]]]:=by rw[pZ h,bsN,hb];rfl
theorem zao(hb:bsB w ds (yT w ds (l.take j)) x=false)(h:l[j]?=some x):[PO.row [[I (yT w ds (l.take j))]]]=[PO.row [[I (yT w ds (l.take (j+1)))]]]:=by rw[pZ h,bsN,hb];rfl
def pvS:AV:=.ifc 297 (.agg [.top])
theorem DN(h:yT w ds (pairsA w)<0):firO w ds=none:=zLc h
theorem lM(h:¬yT w ds (pairsA w)<0):firO w ds=some (yT w ds (pairsA w)):=zLy h
theorem f162(hP:WtP w)(hd:DlP w ds):XCall tP G 198 [.agg (eLk w),eI ds] (tQ pvS (fun x=>ei x) (firO w ds)):=by
 have hlr:=hP.lr;have hho:=hP.hold;refine oO func198 Y nR Y ?_;refine Z9 ?_;refine zm Y (zE Y Y zv3 Y Y) ?_;refine zm Y (zp Y Y Y Y Y Y cEx ki rF bL) (Z10 ?_);refine jS (pairsA w) (qfA) [2,3,5] (fun j=>True) (fun j=>[.row [[I (yT w ds ((pairsA w).take j))]]]) (trivial) Y (M9 hP) Y (fun _=>rfl) Y Y ?_ ?_
 ·intro j x gh lp hd1 hd2 hq hV;have hxi:=AH hq;refine Z ?_;refine zI Y Y Y Y Y Y Y Ib lw Y rF (zF Y) Y (Z ?_);refine⟨Y,Y,?_⟩;refine Z6 ?_;refine yc (f165 hP hd x hxi.1 hxi.2) ?_;refine Z15 ?_;refine zh Y (fun hg=>zX Y (zLc hg)) (zh (zx Y Y Y) (fun hg=>zX Y Y) (zh (zx Y Y Y) (fun hg=>zg Y Y Y Y Y Y ki) (zh (zx Y Y Y) (fun hg=>y6 Y (zLc hg) (zLc hg)) (zh Y (fun hg=>ju Y (zLc hg) Y (jY hg)) ?_))));refine Z3 ?_;refine nC ?_ ?_<;>intro h0
  ·have hb:bsB w ds (yT w ds ((pairsA w).take j)) x=true:=by simpa[bsB]using h0
   refine Z2 ?_;refine zm Y (zp Y Y Y Y Y Y cEx ki rF bL) (Z2 ?_);exact⟨Y,trivial,zd (mem':=[.row [[I (yT w ds ((pairsA w).take (j+1)))]]]) [] trivial ((zai hb hq))⟩
  ·have hb:bsB w ds (yT w ds ((pairsA w).take j)) x=false:=by simpa[bsB]using h0
   refine Z2 ?_;exact⟨Y,trivial,zd (mem':=[.row [[I (yT w ds ((pairsA w).take (j+1)))]]]) [] trivial ((zao hb hq))⟩
 ·intro hVn;rw[List.take_length];refine Z9 ?_;refine nC ?_ ?_<;>intro h1
  ·have hnone:=DN (w:=w) (ds:=ds) (by simpa using h1);refine Z2 ?_;refine zb (zM Y Y Y underlying24) ?_;refine zb (zu (cs:=[_]) Y Sr Y (zk Y) rF (by simp[ofV])) ?_;refine zb (zZ Y Y underlying297 Y) ?_;refine vY Y Y Y (fun u=>?_);refine qW ?_;exact cj hnone AVle.ifc1
  ·have hsome:=lM (w:=w) (ds:=ds) (by simpa using h1);refine Z9 ?_;exact iy hsome (.inr Y) (AVle.refl _)
theorem B7(mem:TP):nH tP G 197 [.pp 0 1 0 0,.pp 1 1 0 0] none mem mem:=by
 refine bX func197 Y nR Y Y Y Y Y Y (fun gh=>?_);refine Z3 ?_;refine zb (Hf Y Y underlying20) (Z2 ?_);refine nC ?_ ?_<;>intro h0
 ·refine Z4 ?_;exact⟨.inl Y,Y,Y⟩
 ·exfalso;simp at h0
theorem CZ:nH tP G 197 [.pp 0 1 0 0,.pp 1 1 0 0] (some pvS) [.row [[I 0]],.row [[B false]]] [.row [[I 0]],.row [[B false]]]:=by
 refine bX func197 Y nR Y Y Y Y Y Y (fun gh=>?_);refine Z3 ?_;refine zb (tr Y Y underlying20) (Z2 ?_);refine nC ?_ ?_<;>intro h0
 ·exfalso;simp at h0
 ·refine Z2 ?_;refine zb (cS Y Y underlying297 Y) (Z4 ?_);refine nC ?_ ?_<;>intro h1
  ·refine Z2 ?_;refine zI Y Y Y Y Y Y Y Uc Vs Y rF (zF Y) Y (Z3 ?_);refine zm Y (zp Y Y Y Y Y Y cEx ki rF bL) ?_;refine zm Y (zp Y Y Y Y Y Y cEx ty4 rF bL) (Z2 ?_);exact⟨.inl Y,Y,Y⟩
  ·exfalso;simp at h1
theorem Gi(hP:WtP w)(hd:DlP w ds)(hr:firO w ds=none):ACall tP G 92 [.agg (eLk w),eI ds] (.tup [ei 0,.v (.bool false)]):=by
 refine xU func92 Y nR Y ?_;refine Z3 ?_;refine zm Y (zE Y Y zv3 Y Y) (zm Y (zE Y Y zB Y Y) ?_);refine Z5 ?_;refine bF Y Y Y Y ?_;refine Z6 ?_;refine Oh (av:=[_,_]) Y Y Y rL (f162 hP hd) (fun hx0 u=>?_) (fun y0 hx0=>?_)
 ·refine qW ?_;exact .inr ⟨6,197,_,_,_,Y,Y,⟨_,Y,⟨_,_,Y,(jI Y Y Y Y ki Y (by exact AVle.refl _)),⟨_,_,Y,(jI Y Y Y Y ty4 Y (by exact AVle.refl _)),Y⟩⟩⟩,.inr ⟨u,_,Y,zL1 ..,CZ⟩⟩
 exfalso;rw[hr]at hx0;cases hx0
theorem Gw(hP:WtP w)(hd:DlP w ds){x:Int}(hr:firO w ds=some x):ACall tP G 92 [.agg (eLk w),eI ds] (.tup [ei x,.v (.bool true)]):=by
 refine xU func92 Y nR Y ?_;refine Z3 ?_;refine zm Y (zE Y Y zv3 Y Y) (zm Y (zE Y Y zB Y Y) ?_);refine Z5 ?_;refine bF Y Y Y Y ?_;refine Z6 ?_;refine Oh (av:=[_,_]) Y Y Y rL (f162 hP hd) (fun hx0 u=>?_) (fun y0 hx0=>?_)
 ·exfalso;rw[hr]at hx0;cases hx0
 have hye:y0=x:=by rw[hr]at hx0;injection hx0 with hx0;exact hx0.symm
 refine zm Y (zp Y Y Y Y Y Y cEx ki rF bL) ?_;refine zm Y (zp Y Y Y Y Y Y cEx ty4 rF bL) (Z3 ?_);exact .inr ⟨6,197,_,_,_,Y,Y,⟨_,Y,⟨_,_,Y,(jI Y Y Y Y ki Y (by rw[hye];exact AVle.refl _)),⟨_,_,Y,(jI Y Y Y Y ty4 Y (by exact AVle.refl _)),Y⟩⟩⟩,.inl ⟨.inr Y,B7 _⟩⟩
def lowsW(w:Wt):List Int:=w.reps.map (·.dl)
def highsW(w:Wt):List Int:=w.reps.map (·.dh)
abbrev kY(l:List Int):List (TE):=l.map fun n=>[I n]
theorem A5{l:List Int}{x:Int}(h:l[j]?=some x):kY (l.take j)++[[I x]]=kY (l.take (j+1)):=by
 have hl:j<l.length:=(zLg h).1;have he:l[j]=x:=(zLg h).2;rw[zLt hl,he];simp[kY]
theorem HK(h:j<w.reps.length):(lowsW w)[j]?=some (rpW w j).dl:=by rw[←mE h];simp[lowsW,h]
theorem uW(h:j<w.reps.length):(highsW w)[j]?=some (rpW w j).dh:=by rw[←mE h];simp[highsW,h]
theorem D7:(lowsW w).length=w.reps.length:=by simp[lowsW]
theorem ub:(highsW w).length=w.reps.length:=by simp[highsW]
theorem EH:(lowsW w).take w.reps.length=lowsW w:=by rw[←D7,List.take_length]
theorem Cm:(highsW w).take w.reps.length=highsW w:=by rw[←ub,List.take_length]
theorem Ew:∀{l:List Int},∀r∈kY l,r.length=1:=fun r hr=>by
 obtain⟨x,_,rfl⟩:=zLj.1 hr;rfl
theorem rE{l:List Int}:kY l=(l.map fun n=>[ei n]).map (·.map .pub):=by simp[kY,I]
theorem Bh(hP:WtP w):DlP w (lowsW w):=⟨D7,fun d hd=>by
 obtain⟨r,hr,rfl⟩:=zLj.1 hd;have:=okRep_bd (hP.reps r hr);omega⟩
theorem rk(hP:WtP w):DlP w (highsW w):=⟨ub,fun d hd=>by
 obtain⟨r,hr,rfl⟩:=zLj.1 hd;have:=okRep_bd (hP.reps r hr);omega⟩
theorem mc1{m:Nat}{a b:EV}{B:List (TE)}{X:TP}(h:A=B)(hn:a=b):[PO.row [[jU,jU]],.row [[a,jU]],.row A]=[PO.row [[jU,jU]],.row [[b,jU]],.row B]:=by subst h;subst hn;rfl
theorem mc2{a b c:EV}{B C:List (TE)}(h:A=B)(hn:a=b):[PO.row [[jU,jU]],.row [[c,a]],.row C,.row A]=[PO.row [[jU,jU]],.row [[c,b]],.row C,.row B]:=by subst h;subst hn;rfl
theorem f224(hP:WtP w)(i:Nat)(hi:i<w.reps.length):ACall tP G 195 [.agg (eLk w),ei (i:Int)] (ei (rpW w i).dl):=by
 refine aC func195 ?_;refine Z12 ?_;refine zb (zc Y Y Y d6 oM (by exact cM (k:=i) hi) xO) (Z7 ?_);exact aR
theorem f225(hP:WtP w)(i:Nat)(hi:i<w.reps.length):ACall tP G 196 [.agg (eLk w),ei (i:Int)] (ei (rpW w i).dh):=by
 refine aC func196 ?_;refine Z12 ?_;refine zb (zc Y Y Y d6 oM (by exact cM (k:=i) hi) xO) (Z7 ?_);exact aR
theorem f163(hP:WtP w):ACall tP G 91 [.agg (eLk w)] (.agg [eI (lowsW w),eI (highsW w)]):=by
 have hlr:=hP.lr;have hlm:(w.reps.map eRep).length=w.reps.length:=sI;have hl2:=D7 (w:=w);have hl3:=ub (w:=w);refine aC func91 ?_;refine Z3 ?_;refine zm Y (zE Y Y sB Y Y) (Z4 ?_);refine zm Y (zE Y Y sB Y Y) (Z9 ?_);refine zb (v8 (cs:=[_,_]) Y Rz Y (zk (zk Y)) rF (by simp[ofV])) ?_;refine Z4 ?_;refine zD (ι:={k:Nat//k<3}) (fun k=>match k.1 with|0=>⟨Tryz.f91.ntmps,frL [(1,.pub (.ptr (eLk w))),(2,.pp 0 1 0 0),(3,.pp 1 1 0 0),(12,.pub (.agg [.fn 195 [.agg (eLk w)] [],.fn 196 [.agg (eLk w)] []])),(13,I 0)],[.row [[jU,jU]],.row [[jU,jU]]]⟩|1=>⟨Tryz.f91.ntmps,frL [(1,.pub (.ptr (eLk w))),(2,.pp 0 1 0 0),(3,.pp 1 1 0 0),(12,.pub (.agg [.fn 195 [.agg (eLk w)] [],.fn 196 [.agg (eLk w)] []])),(13,I 1)],[.row [[jU,jU]],.row [[.psl 2 w.reps.length,jU]],.row (kY (lowsW w))]⟩|_=>⟨Tryz.f91.ntmps,frL [(1,.pub (.ptr (eLk w))),(2,.pp 0 1 0 0),(3,.pp 1 1 0 0),(12,.pub (.agg [.fn 195 [.agg (eLk w)] [],.fn 196 [.agg (eLk w)] []])),(13,I 2)],[.row [[jU,jU]],.row [[.psl 2 w.reps.length,.psl 3 w.reps.length]],.row (kY (lowsW w)),.row (kY (highsW w))]⟩) (fun k=>3-k.1) (⟨0,oM⟩) ?_ ?_
 ·exact zd _ rL (Y)
 ·rintro⟨k,hk⟩;have hk3:k=0∨k=1∨k=2:=oM;rcases hk3 with rfl|rfl|rfl
  ·dsimp only;refine Z6 ?_;refine nC ?_ ?_<;>intro h0
   ·skip;refine Z7 ?_;refine zb (qJ rfl rfl rfl It (fun e he=>by rw[underlying295]at he;cases he;exact F7) oM oM rfl) (Z9 ?_);refine zb (zM Y Y Y underlying29) (Z4 ?_);refine zt (vL (k:=1) (i:=0) (j:=0) Y Y Y) ?_;refine zD (ι:={j:Nat//j<=w.reps.length}) (fun j=>⟨Tryz.f91.ntmps,frL [(1,.pub (.ptr (eLk w))),(2,.pp 0 1 0 0),(3,.pp 1 1 0 0),(12,.pub (.agg [.fn 195 [.agg (eLk w)] [],.fn 196 [.agg (eLk w)] []])),(13,I 0),(4,I 0),(5,.pub (.fn 195 [.agg (eLk w)] [])),(20,I (((w.reps.map eRep).length:Nat):Int)),(21,I (j.1:Int))],[.row [[jU,jU]],.row [[.psl 2 j.1,jU]],.row (kY ((lowsW w).take j.1))]⟩) (fun j=>w.reps.length-j.1) (⟨0,oM⟩) ?_ ?_
    ·exact zd _ rL (Y)
    ·rintro⟨j,hj⟩;dsimp only;refine Z6 ?_;refine nC ?_ ?_<;>intro h1
     ·skip;have hjl:j<w.reps.length:=by simpa using h1
      refine Z14 ?_;refine zb (qD (av:=[_]) Y Y rL (f224 hP j hjl)) (Z6 ?_);refine zb (zy Y Y Y Y Y yu oM oM) (Z2 ?_);refine zb (zw (size:=1) (rows:=[[_]]) Y underlying24 Xs Y dE Y dE (zk Y) rF (by simp[ofV]) Y sI) ?_;refine zm Y (wn Y Y Y Y (by simp only[zL8,List.length_take];omega) Y Eb Ew sI (by simp<;>omega) (by unfold maxLen;simp<;>omega)) ?_;refine zb (zy Y Y Y Y Y yu oM oM) ?_;refine zm Y (zp Y Y Y Y Y Y cEx hU rF bL) (Z7 ?_);exact⟨⟨j+1,by omega⟩,by dsimp only;omega,zd _ rL ((mc1 (m:=0) (X:=[]) (A5 (HK hjl)) (by first|(simp;done)|(simp;omega))))⟩
     ·skip;have hje:j=w.reps.length:=by simp at h1;omega
      subst hje;refine Z10 ?_;exact⟨⟨1,oM⟩,by dsimp only;omega,(by refine zd (mem':=[.row [[jU,jU]],.row [[.psl 2 w.reps.length,jU]],.row (kY (lowsW w))]) [(1,.pub (.ptr (eLk w))),(2,.pp 0 1 0 0),(3,.pp 1 1 0 0),(12,.pub (.agg [.fn 195 [.agg (eLk w)] [],.fn 196 [.agg (eLk w)] []])),(13,I 1)] ?_ ?_;exact rL;exact((zLz (fun z=>[PO.row [[jU,jU]],.row [[.psl 2 w.reps.length,jU]],.row (kY z)]) EH)))⟩
   ·skip;exfalso;simp at h0
  ·dsimp only;refine Z6 ?_;refine nC ?_ ?_<;>intro h0
   ·skip;refine Z7 ?_;refine zb (qJ rfl rfl rfl It (fun e he=>by rw[underlying295]at he;cases he;exact F7) oM oM rfl) (Z9 ?_);refine zb (zM Y Y Y underlying29) (Z4 ?_);refine zt (vL (k:=1) (i:=0) (j:=1) Y Y Y) ?_;refine zD (ι:={j:Nat//j<=w.reps.length}) (fun j=>⟨Tryz.f91.ntmps,frL [(1,.pub (.ptr (eLk w))),(2,.pp 0 1 0 0),(3,.pp 1 1 0 0),(12,.pub (.agg [.fn 195 [.agg (eLk w)] [],.fn 196 [.agg (eLk w)] []])),(13,I 1),(4,I 1),(5,.pub (.fn 196 [.agg (eLk w)] [])),(20,I (((w.reps.map eRep).length:Nat):Int)),(21,I (j.1:Int))],[.row [[jU,jU]],.row [[.psl 2 w.reps.length,.psl 3 j.1]],.row (kY (lowsW w)),.row (kY ((highsW w).take j.1))]⟩) (fun j=>w.reps.length-j.1) (⟨0,oM⟩) ?_ ?_
    ·exact zd _ rL (Y)
    ·rintro⟨j,hj⟩;dsimp only;refine Z6 ?_;refine nC ?_ ?_<;>intro h1
     ·skip;have hjl:j<w.reps.length:=by simpa using h1
      refine Z14 ?_;refine zb (qD (av:=[_]) Y Y rL (f225 hP j hjl)) (Z6 ?_);refine zb (zy Y Y Y Y Y yu oM oM) (Z2 ?_);refine zb (zw (size:=1) (rows:=[[_]]) Y underlying24 Xs Y dE Y dE (zk Y) rF (by simp[ofV]) Y sI) ?_;refine zm Y (wn Y Y Y Y (by simp only[zL8,List.length_take];omega) Y Eb Ew sI (by simp<;>omega) (by unfold maxLen;simp<;>omega)) ?_;refine zb (zy Y Y Y Y Y yu oM oM) ?_;refine zm Y (zp Y Y Y Y Y Y cEx hU rF bL) (Z7 ?_);exact⟨⟨j+1,by omega⟩,by dsimp only;omega,zd _ rL ((mc2 (A5 (uW hjl)) (by first|(simp;done)|(simp;omega))))⟩
     ·skip;have hje:j=w.reps.length:=by simp at h1;omega
      subst hje;refine Z10 ?_;exact⟨⟨2,oM⟩,by dsimp only;omega,(by refine zd (mem':=[.row [[jU,jU]],.row [[.psl 2 w.reps.length,.psl 3 w.reps.length]],.row (kY (lowsW w)),.row (kY (highsW w))]) [(1,.pub (.ptr (eLk w))),(2,.pp 0 1 0 0),(3,.pp 1 1 0 0),(12,.pub (.agg [.fn 195 [.agg (eLk w)] [],.fn 196 [.agg (eLk w)] []])),(13,I 2)] ?_ ?_;exact rL;exact((zLz (fun z=>[PO.row [[jU,jU]],.row [[.psl 2 w.reps.length,.psl 3 w.reps.length]],.row (kY (lowsW w)),.row (kY z)]) Cm)))⟩
   ·skip;exfalso;simp at h0
  ·dsimp only;refine Z6 ?_;refine nC ?_ ?_<;>intro h0
   ·skip;exfalso;simp at h0
   ·skip;refine Z6 ?_;refine zt (kg (k:=2) (c:=1) (i:=0) (j:=0) (rows:=(lowsW w).map fun n=>[ei n]) (by rw[←rE];rfl) (by simp[lowsW]) Y Y Y Y) ?_;refine zt (kg (k:=3) (c:=1) (i:=0) (j:=1) (rows:=(highsW w).map fun n=>[ei n]) (by rw[←rE];rfl) (by simp[highsW]) Y Y Y Y) ?_;refine Z2 ?_;refine zm Y (zp Y Y Y Y Y Y cEx pq rF bL) (Z3 ?_);exact⟨.inr Y,jb Y (zQ Y Y Y Y pq Y (vwR (vwR Y)))⟩
theorem uh:(tP.info? 63).bind (·.zero)=some (.agg #[nZ,nZ]):=nR
def Dw(lo hi:Int)(p:Int->Bool):Bool:=(List.range (hi-lo+1).toNat).any fun i=>p (lo+(i:Int))
theorem GG{lo hi:Int}(hk:(k:Int)<hi-lo+1)(h:p (lo+(k:Int))=true):Dw lo hi p=true:=List.any_eq_true.2 ⟨k,List.mem_range.2 oM,h⟩
theorem KU{lo hi:Int}(hk:hi-lo+1<=(k:Int))(h:∀j,j<k->p (lo+(j:Int))=false):Dw lo hi p=false:=by
 unfold Dw;rw[List.any_eq_false];intro i hi';rw[List.mem_range]at hi';rw[h i oM];simp
def pt0:Prt:=⟨0,0,0,0⟩
def ptW(w:Wt)(i:Int):Prt:=w.prts.getD i.toNat pt0
theorem XC{i:Int}(h:0<=i/\i<w.prts.length):(w.prts.map ePrt)[i.toNat]?=some (ePrt (ptW w i)):=by
 have h2:i.toNat<w.prts.length:=oM;rw[zLq,zLe h2,ptW,zLv,zLe h2];rfl
theorem Py:∀q∈w.prts.map ePrt,q.length=4:=mp_len fun _=>rfl
theorem RH(hP:WtP w){i:Int}(h:0<=i/\i<w.prts.length):0<=(ptW w i).ol/\(ptW w i).ol<=(ptW w i).oh/\(ptW w i).oh<=2880:=by
 have h2:i.toNat<w.prts.length:=oM;have:=hP.pts _ (zLm h2);have e:ptW w i=w.prts[i.toNat]:=by rw[ptW,zLv,zLe h2];rfl
 rw[e];simp only[wT,zLa,eo,zLd]at this;omega
def upA(w:Wt)(i t:Int):Bool:=Dw (ptW w i).ol (ptW w i).oh fun n=>gq w (lowsW w) (t-n)
def upB(w:Wt)(i t:Int):Bool:=Dw (ptW w i).ol (ptW w i).oh fun n=>!gq w (highsW w) (t-n)
def upV(w:Wt)(i t:Int):Int:=if upA w i t then(if upB w i t then 2 else 3)else 1
theorem Jp(h:i<ds.length):(ds.map fun n=>[ei n])[i]?=some [ei ds[i]]:=by simp[h]
theorem f226(c:FuncId)(cs:TA)(lo hi:Int)(hb:0<=lo/\lo<=hi/\hi<=3000)(hp:∀x,lo<=x->x<=hi->ACall tP G c ([ei x]++cs) (.v (.bool (p x)))):ACall tP G 199 [ei lo,ei hi,.fn c [] cs] (.tup [.top,.v (.bool (Dw lo hi p))]):=by
 refine aC func199 ?_;refine Z17 ?_;refine zD (ι:={k:Nat//(k:Int)<=hi-lo+1/\∀j,j<k->p (lo+(j:Int))=false}) (fun k=>⟨Tryz.f199.ntmps,frL [(0,.pub (ei lo)),(1,.pub (ei hi)),(2,.pub (.fn c [] cs)),(12,I (hi-lo+1)),(13,I (k.1:Int))],[]⟩) (fun k=>(hi-lo+1).toNat-k.1) (⟨0,oM,fun j h=>absurd h oM⟩) ?_ ?_
 ·exact zd _ rL (Y)
 ·rintro⟨k,hk⟩;dsimp only;refine Z6 ?_;refine nC ?_ ?_<;>intro h0
  ·skip;have hlt:(k:Int)<hi-lo+1:=by simpa using h0
   refine Z16 ?_;refine zb (qD (av:=[_]) Y Y rL (hp (lo+(k:Int)) oM oM)) (Z2 ?_);refine nC ?_ ?_<;>intro h1
   ·skip;refine Z15 ?_;exact⟨.inr Y,⟨_,Y,⟨_,_,Y,AVle.top _,⟨_,_,Y,AVle.of (by rw[GG hlt h1]),Y⟩⟩⟩⟩
   ·skip;have hno:p (lo+(k:Int))=false:=by simpa using h1
    refine Z7 ?_;exact⟨⟨k+1,oM,fun j hj=>(Nat.lt_succ_iff_lt_or_eq.1 hj).elim (hk.2 j) (fun e=>by subst e;exact hno)⟩,by dsimp only;omega,zd _ rL (Y)⟩
  ·skip;have hge:hi-lo+1<=(k:Int):=by simpa using h0
   refine Z12 ?_;exact⟨.inr Y,⟨_,Y,⟨_,_,Y,AVle.top _,⟨_,_,Y,AVle.of (by rw[KU hge hk.2]),Y⟩⟩⟩⟩
theorem f227(hP:WtP w)(t:Int)(ht:0<=t/\t<=20000)(n:Int)(hn:0<=n/\n<=2880):ACall tP G 200 [ei n,.ptr (eLk w),.ptr [eI (lowsW w),eI (highsW w)],.ptr [ei t]] (.v (.bool (gq w (lowsW w) (t-n)))):=by
 refine aC func200 ?_;refine Z8 ?_;refine zb (qm Y Y Y yu oM oM) (Z4 ?_);refine yc (f65 hP (Bh hP) _) ?_;refine Z4 ?_;exact aR
theorem f228(hP:WtP w)(t:Int)(ht:0<=t/\t<=20000)(n:Int)(hn:0<=n/\n<=2880):ACall tP G 202 [ei n,.ptr (eLk w),.ptr [eI (lowsW w),eI (highsW w)],.ptr [ei t]] (.v (.bool (!gq w (highsW w) (t-n)))):=by
 refine aC func202 ?_;refine Z8 ?_;refine zb (qm Y Y Y yu oM oM) (Z4 ?_);refine yc (f65 hP (rk hP) _) ?_;refine Z5 ?_;exact aR
theorem f167(hP:WtP w)(i:Int)(hi:0<=i/\i<w.prts.length)(t:Int)(ht:0<=t/\t<=20000):ACall tP G 95 [.agg (eLk w),ei i,ei t] (.tup [.v (.bool (upA w i t)),.v (.bool (upA w i t&& !upB w i t))]):=by
 have hlp:=hP.lp;have hpb:=RH hP hi;have hlm:(w.prts.map ePrt).length=w.prts.length:=sI;refine aC func95 ?_;refine Z9 ?_;refine zt qE ?_;refine zt qE ?_;refine qd (fun _=>True) (fun k=>match k with|0=>.stable|1=>.stable|2=>.stable|3=>.stable|4=>.stable|5=>.stable|6=>.stable|7=>.stable|8=>.stable|9=>.own 0|10=>.own 1|11=>.writes|12=>.writes|_=>.here) mixed nR rfl nR trivial ?_;refine Z ?_;refine zC Y Y (fun m hm=>zi (av:=[_]) Y rL (f163 hP)) (zC Y Y (fun m hm=>zf Y Y fE) (zC Y Y (fun m hm=>zf Y Y mY) ?_));refine Z2 ?_;refine zC Y Y (fun m hm=>zc Y Y Y F3 oM (by exact XC hi) Py) ?_;refine zC Y Y (fun m hm=>zf Y Y IG) (Z ?_);refine ku Y Y (qX Y sB Y Y Y) ?_;refine ku Y Y (qX Y uh Y Y Y) ?_;refine qw Y Y (zz Y Y Y Y Y Y cEx pq rF rF) trivial ?_;refine qw Y Y (zz Y Y Y Y Y Y cEx dw rF rF) trivial (Z3 ?_);refine zt (ab (k:=0) (cs:=[eI (lowsW w),eI (highsW w)]) 8 Y Y) ?_;refine zt (ab (k:=1) (cs:=[ei (ptW w i).ol,ei (ptW w i).oh]) 9 Y Y) ?_
 refine Z6 ?_;refine yc (f226 200 [.ptr (eLk w),.ptr [eI (lowsW w),eI (highsW w)],.ptr [ei t]] (ptW w i).ol (ptW w i).oh oM (fun x h1 h2=>f227 hP t ht x oM)) ?_;refine Z13 ?_;refine nC ?_ ?_<;>intro h0
 ·skip;have ha:upA w i t=false:=by simpa[upA]using h0
  refine Z8 ?_;exact⟨.inr Y,⟨_,Y,⟨_,_,Y,AVle.of (by rw[ha]),⟨_,_,Y,AVle.of (by rw[ha];rfl),Y⟩⟩⟩⟩
 ·skip;have ha:upA w i t=true:=by simpa[upA]using h0
  refine Z9 ?_;refine yc (f226 202 [.ptr (eLk w),.ptr [eI (lowsW w),eI (highsW w)],.ptr [ei t]] (ptW w i).ol (ptW w i).oh oM (fun x h1 h2=>f228 hP t ht x oM)) ?_;refine Z16 ?_;exact⟨.inr Y,⟨_,Y,⟨_,_,Y,AVle.of (by rw[ha]),⟨_,_,Y,AVle.of (by rw[ha];rfl),Y⟩⟩⟩⟩
theorem f166(a b:Bool):ACall tP G 94 [.v (.bool a),.v (.bool b)] (ei (if b then 3 else if a then 2 else 1)):=by
 refine aC func94 ?_;refine Z16 ?_;refine nC ?_ ?_<;>intro h0
 ·skip;refine Z10 ?_;refine nC ?_ ?_<;>intro h1
  ·skip;refine Z12 ?_;exact⟨.inr Y,AVle.of (by simp[h0,h1])⟩
  ·skip;refine Z10 ?_;exact⟨.inr Y,AVle.of (by simp[h0,h1])⟩
 ·skip;refine Z8 ?_;refine nC ?_ ?_<;>intro h1
  ·skip;refine Z12 ?_;exact⟨.inr Y,AVle.of (by simp[h0,h1])⟩
  ·skip;refine Z10 ?_;exact⟨.inr Y,AVle.of (by simp[h0,h1])⟩
theorem VY{a b:Bool}(h:(a&&b)=true):b=true:=by cases b<;>simp_all
theorem f63(w:Wt):ACall tP G 28 [.agg (eWt w)] (.tup [ei (if okWtB w then(firO w (lowsW w)).getD 0 else 0),ei (if okWtB w then(if(firO w (lowsW w)).isSome then(firO w (highsW w)).getD (-1)else 0)else 0),ei (if okWtB w then(if(firO w (lowsW w)).isSome then 0 else 5)else 2)]):=by
  refine aC func28 ?_;refine Z12 ?_;refine yc (f58 w) ?_;refine Z3 ?_;refine nC ?_ ?_<;>intro h0
  · skip
    have hno:okWtB w=false:=by simpa using h0
    refine Z9 ?_;exact⟨.inr Y,⟨_,Y,⟨_,_,Y,AVle.of (by rw[hno];rfl),⟨_,_,Y,AVle.of (by rw[hno];rfl),⟨_,_,Y,AVle.of (by rw[hno];rfl),Y⟩⟩⟩⟩⟩
  · skip
    have hok:okWtB w=true:=by simpa using h0
    have sp61 : ∀ {ds : List Int}, DlP w ds -> ACall tP G 92 [.agg (eLk w), eI ds] (.tup [ei ((firO w ds).getD 0), .v (.bool (firO w ds).isSome)]) := fun {ds} hd => by
          cases hr:firO w ds with
          |none=>exact Gi (wtP hok) hd hr
          |some x=>exact Gw (wtP hok) hd hr
    refine Z5 ?_;refine yc (f60 (wtP hok)) ?_;refine zI Y Y Y Y Y Y Y Na E9 Y rF (zF Y) Y (Z5 ?_);refine yc (f163 (wtP hok)) ?_;refine zI Y Y Y Y Y Y Y sB pq Y rF (zF Y) Y (Z5 ?_);refine zb (qm Y Y Y yu oM oM) (Z ?_);refine yc (sp61 (Bh (wtP hok))) ?_;refine Z14 ?_;refine nC ?_ ?_<;>intro h1
    · skip
      have hs:(firO w (lowsW w)).isSome=false:=by simpa using h1
      have hg0 : (firO w (lowsW w)).getD 0 = 0 := by cases hr : firO w (lowsW w) with
            |none=>rfl
            |some x=>rw[hr]at hs;cases hs
      refine Z9 ?_;exact⟨.inr Y,⟨_,Y,⟨_,_,Y,AVle.of (by rw[zLc hok,hg0]),⟨_,_,Y,AVle.of (by rw[zLc hok,hs];rfl),⟨_,_,Y,AVle.of (by rw[zLc hok,hs];rfl),Y⟩⟩⟩⟩⟩
    · skip
      have hs:(firO w (lowsW w)).isSome=true:=by simpa using h1
      refine Z5 ?_;refine zb (qm Y Y Y yu oM oM) (Z ?_);refine yc (sp61 (rk (wtP hok))) ?_;refine Z14 ?_;refine nC ?_ ?_<;>intro h2
      · skip
        have hs2 : (firO w (highsW w)).getD (-1) = -1 := by cases hr : firO w (highsW w) with
              |none=>rfl
              |some x=>simp[hr]at h2
        refine Z14 ?_;exact⟨.inr Y,⟨_,Y,⟨_,_,Y,AVle.of (by rw[zLc hok]),⟨_,_,Y,AVle.of (by rw[zLc hok,zLc hs,hs2]),⟨_,_,Y,AVle.of (by rw[zLc hok,zLc hs]),Y⟩⟩⟩⟩⟩
      · skip
        have hs2 : (firO w (highsW w)).getD (-1) = (firO w (highsW w)).getD 0 := by cases hr : firO w (highsW w) with
              |none=>simp[hr]at h2
              |some x=>rfl
        refine Z12 ?_;exact⟨.inr Y,⟨_,Y,⟨_,_,Y,AVle.of (by rw[zLc hok]),⟨_,_,Y,AVle.of (by rw[zLc hok,zLc hs,hs2]),⟨_,_,Y,AVle.of (by rw[zLc hok,zLc hs]),Y⟩⟩⟩⟩⟩
theorem UN{a:Bool}(h:(!!a)=true):a=true:=by cases a<;>simp_all
def upOk(w:Wt)(i t:Int):Bool:=okWtB w&&inB i 0 (w.prts.length-1)&&inB t 0 20000
theorem Ic{i t:Int}(h:upOk w i t=true):okWtB w=true/\(0<=i/\i<w.prts.length)/\(0<=t/\t<=20000):=by
 simp only[upOk,zLa,inB_iff]at h;exact⟨h.1.1,oM,oM⟩
theorem f66(w:Wt)(i t:Int):ACall tP G 30 [.agg (eWt w),ei i,ei t] (.tup [ei (if upOk w i t then upV w i t else 0),ei (if upOk w i t then 0 else 2)]):=by
 have hlm:(w.prts.map ePrt).length=w.prts.length:=sI;refine aC func30 ?_;refine Z11 ?_;refine yc (f58 w) ?_;refine Z5 ?_;refine zh Y (fun hg=>zM Y Y (zLc hg) underlying31) ?_;refine zh Y (fun hg=>j4 Y (zLc hg) Y ⟨by have:=(wtP (UN hg)).lp;omega,by have:=(wtP (UN hg)).lp;omega⟩) ?_;refine yd Y (fun hg=>(f148 _ _ _)) ?_;refine Z4 ?_;refine yd Y (fun hg=>(f148 _ _ _)) ?_;refine Z4 ?_;refine nC ?_ ?_<;>intro h0
 ·skip;have hno:upOk w i t=false:=by simp[upOk]at h0⊢;intro a b;simp_all
  refine Z8 ?_;exact⟨.inr Y,⟨_,Y,⟨_,_,Y,AVle.of (by rw[hno];rfl),⟨_,_,Y,AVle.of (by rw[hno];rfl),Y⟩⟩⟩⟩
 ·skip;have hyes:upOk w i t=true:=by simp[upOk]at h0⊢;simp_all
  have hok:=Ic hyes;refine Z5 ?_;refine yc (f60 (wtP hok.1)) ?_;refine Z2 ?_;refine yc (f167 (wtP hok.1) i hok.2.1 t hok.2.2) ?_;refine Z2 ?_;refine yc (f166 _ _) ?_;refine Z5 ?_;exact⟨.inr rfl,⟨_,rfl,⟨_,_,rfl,AVle.of (by rw[zLc hyes];unfold upV;cases upA w i t<;>cases upB w i t<;>rfl),⟨_,_,rfl,AVle.of (by rw[zLc hyes]),rfl⟩⟩⟩⟩
end Hs
end Go.Av
end
