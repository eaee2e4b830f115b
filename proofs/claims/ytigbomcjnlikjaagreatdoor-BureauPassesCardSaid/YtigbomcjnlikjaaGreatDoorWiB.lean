import Derived.Test.YtigbomcjnlikjaaGreatDoorWiA
set_option linter.unusedVariables false
set_option linter.unusedSimpArgs false
set_option maxRecDepth 100000
set_option maxHeartbeats 9000000
section
namespace Go.Av
namespace Wr
open Go.Proofs Tryz
variable{G:Glob}
abbrev wZ:EV:=.pub (.v (.slice none 0 0))
def dv(n:Int):Nat->Int
 |0=>n
 |k+1=>dv n k/10
def dig(n:Int)(p:Nat):Int:=dv n (4-p) % 10
structure G5 where
 a:Int
 b:Int
 c:Int
 d:Int
 e:Int
def jn(n:Int):G5:=⟨n/10/10/10/10 % 10,n/10/10/10 % 10,n/10/10 % 10,n/10 % 10,n % 10⟩
def G5.ok(g:G5):Prop:=(0<=g.a/\g.a<=9)/\(0<=g.b/\g.b<=9)/\(0<=g.c/\g.c<=9)/\(0<=g.d/\g.d<=9)/\(0<=g.e/\g.e<=9)
theorem Qy{n:Int}(p:Nat):0<=dig n p/\dig n p<=9:=by unfold dig;omega
def chk(m:List Int):G5:=m.foldl (fun s n=>⟨(s.a+(jn n).a) % 10,(s.b+(jn n).b) % 10,(s.c+(jn n).c) % 10,(s.d+(jn n).d) % 10,(s.e+(jn n).e) % 10⟩) ⟨0,0,0,0,0⟩
def aQ(m:List Int):List G5:=m.map jn++[chk m]
def iP(m:List Int)(j:Nat):Int:=m.foldl (fun s n=>s+dig n j) 0
def ckN(m:List Int):Nat->Int
 |0=>0
 |j+1=>10*ckN m j+iP m j % 10
theorem MF:∀(m:List Int)(s:G5)(t:Int),s.a=t % 10->(m.foldl (fun s n=>(⟨(s.a+(jn n).a) % 10,(s.b+(jn n).b) % 10,(s.c+(jn n).c) % 10,(s.d+(jn n).d) % 10,(s.e+(jn n).e) % 10⟩:G5)) s).a=(m.foldl (fun s n=>s+dig n 0) t) % 10
 |[],_,_,h=>h
 |n::m,s,t,h=>MF m _ _ (by show(s.a+(jn n).a) % 10=(t+(jn n).a) % 10;rw[h];omega)
theorem M3:∀(m:List Int)(s:G5)(t:Int),s.b=t % 10->(m.foldl (fun s n=>(⟨(s.a+(jn n).a) % 10,(s.b+(jn n).b) % 10,(s.c+(jn n).c) % 10,(s.d+(jn n).d) % 10,(s.e+(jn n).e) % 10⟩:G5)) s).b=(m.foldl (fun s n=>s+dig n 1) t) % 10
 |[],_,_,h=>h
 |n::m,s,t,h=>M3 m _ _ (by show(s.b+(jn n).b) % 10=(t+(jn n).b) % 10;rw[h];omega)
theorem Og:∀(m:List Int)(s:G5)(t:Int),s.c=t % 10->(m.foldl (fun s n=>(⟨(s.a+(jn n).a) % 10,(s.b+(jn n).b) % 10,(s.c+(jn n).c) % 10,(s.d+(jn n).d) % 10,(s.e+(jn n).e) % 10⟩:G5)) s).c=(m.foldl (fun s n=>s+dig n 2) t) % 10
 |[],_,_,h=>h
 |n::m,s,t,h=>Og m _ _ (by show(s.c+(jn n).c) % 10=(t+(jn n).c) % 10;rw[h];omega)
theorem MU:∀(m:List Int)(s:G5)(t:Int),s.d=t % 10->(m.foldl (fun s n=>(⟨(s.a+(jn n).a) % 10,(s.b+(jn n).b) % 10,(s.c+(jn n).c) % 10,(s.d+(jn n).d) % 10,(s.e+(jn n).e) % 10⟩:G5)) s).d=(m.foldl (fun s n=>s+dig n 3) t) % 10
 |[],_,_,h=>h
 |n::m,s,t,h=>MU m _ _ (by show(s.d+(jn n).d) % 10=(t+(jn n).d) % 10;rw[h];omega)
theorem MP:∀(m:List Int)(s:G5)(t:Int),s.e=t % 10->(m.foldl (fun s n=>(⟨(s.a+(jn n).a) % 10,(s.b+(jn n).b) % 10,(s.c+(jn n).c) % 10,(s.d+(jn n).d) % 10,(s.e+(jn n).e) % 10⟩:G5)) s).e=(m.foldl (fun s n=>s+dig n 4) t) % 10
 |[],_,_,h=>h
 |n::m,s,t,h=>MP m _ _ (by show(s.e+(jn n).e) % 10=(t+(jn n).e) % 10;rw[h];omega)
theorem JY(m:List Int):jn (ckN m 5)=chk m:=by
 have e:jn (ckN m 5)=⟨iP m 0 % 10,iP m 1 % 10,iP m 2 % 10,iP m 3 % 10,iP m 4 % 10⟩:=by
  simp only[jn,ckN];congr 1<;>omega
 have ha:=MF m ⟨0,0,0,0,0⟩ 0 rfl;have hb:=M3 m ⟨0,0,0,0,0⟩ 0 rfl;have hc:=Og m ⟨0,0,0,0,0⟩ 0 rfl;have hd:=MU m ⟨0,0,0,0,0⟩ 0 rfl;have he:=MP m ⟨0,0,0,0,0⟩ 0 rfl;rw[e];cases hk:chk m;simp only[chk]at hk;rw[hk]at ha hb hc hd he;simp only at ha hb hc hd he;subst ha;subst hb;subst hc;subst hd;subst he;rfl
variable{n:Int × Int × Int}{l:TC}{at' i k:Nat}{c:Cod}{m:List Int}{s:ByteArray}{w:List UInt8}{h:Int->Bool}{f:Int}
theorem aL{l:TB}(h:k<l.length):(l.map fun s=>[eS s])[k]?=some [eS l[k]]:=by simp[h]
theorem kp{l:TB}:∀q∈l.map (fun s=>[eS s]),q.length=1:=sI
theorem Re(h1:codB c=true)(h2:kW c m=true):∀n∈m,0<=n/\n<=99999:=fun n hn=>by
 simp only[codB,zLa,Bool.not_eq_true']at h1;simp only[kW,eqF,zLa,zLd,zLu]at h2;obtain⟨k,hk,rfl⟩:=List.getElem_of_mem hn;have hkf:k<c.fields.length:=oM;have h3:=h2.2 (m[k],c.fields[k]) (by rw[List.mem_iff_getElem];exact⟨k,by simp;omega,sI⟩);have h4:=h1.1.2;rw[List.any_eq_false]at h4;have h5:=h4 c.fields[k] (zLm _);simp only[nf,Bool.or_eq_true,zLd,not_or,Int.not_lt]at h5;simp only[inB_iff]at h3;omega
theorem yW(h:(s.get! k).toNat<128):Utf8.decode s k=((s.get! k).toNat,1):=by
 unfold Utf8.decode;simp only[Nat.add_zero];rw[zLc h]
theorem mF(h:¬(s.get! k).toNat<128):128<=(Utf8.decode s k).1:=by
 unfold Utf8.decode;simp only[Nat.add_zero];rw[zLy h];split
 ·split
  ·assumption
  ·decide
 ·split
  ·split
   ·rename_i hh;simp only[zLa,zLd]at hh;omega
   ·decide
  ·split
   ·split
    ·rename_i hh;simp only[zLa,zLd]at hh;omega
    ·decide
   ·decide
theorem get_at(h:k<w.length):(⟨w.toArray⟩:ByteArray).get! k=w[k]:=by
 show(w.toArray)[k]! =w[k];simp[h]
theorem Cd{a:Nat}{b:List Tmp}{c:List (EV × Value)}{d:Bool}{p:Nat × Obj}{hs:List (Nat × Obj)}{fr:Nat->EV}{mem:TP}:Weak ⟨⟨a,b,c,d,p::hs⟩,fr,mem⟩ ⟨⟨a,b,c,d,hs⟩,fr,mem⟩:=by
 intro w0 ok0 a w ⟨h0,h1,h2,ok,bs,h3,h4,h5,h6⟩;exact⟨h0,⟨h1.1,fun p hp=>h1.2 p (zL3 _ hp)⟩,h2,ok,bs,h3,h4,h5,h6⟩
theorem Hr(hb:∀r:Int,128<=r->h r=false)(hk:k<w.length):h ((Utf8.decode ⟨w.toArray⟩ k).1:Int)=h (w[k].toNat:Int):=by
 by_cases hs:w[k].toNat<128
 ·rw[yW (by rw[get_at hk];exact hs),get_at hk]
 ·have:=mF (s:=⟨w.toArray⟩) (k:=k) (by rw[get_at hk];exact hs);rw[hb _ oM,hb _ oM]
theorem Bg(hk:k<w.length)(h:w[k].toNat<128):Utf8.decode ⟨w.toArray⟩ k=(w[k].toNat,1):=by
 rw[yW (by rw[get_at hk];exact h),get_at hk]
theorem Br(hk:k<w.length)(h:w[k].toNat<128):nxK ⟨w.toArray⟩ k=k+1:=by
 unfold nxK;rw[zLc (by simpa[ByteArray.size]using hk),Bg hk h]
theorem pV(hb:∀r:Int,128<=r->h r=false){b:UInt8}(hh:h (b.toNat:Int)=true):b.toNat<128:=by
 by_cases hs:b.toNat<128
 ·exact hs
 ·rw[hb _ oM]at hh;cases hh
def ofB(h:Int->Bool)(w:List UInt8):Bool:=(w.all fun b=>h (b.toNat:Int))&&decide (w.length=5)
def Gn(r:Int):Bool:=decide (48<=r)&&decide (r<=57)
def sy(r:Int):Bool:=decide (r=63)
def ew(r:Int):Bool:=Gn r||sy r
theorem I2:∀r:Int,128<=r->Gn r=false:=fun r h=>by simp[Gn];omega
theorem IW:∀r:Int,128<=r->sy r=false:=fun r h=>by simp[sy];omega
theorem A6:∀r:Int,128<=r->ew r=false:=fun r h=>by simp[ew,I2 r h,IW r h]
theorem CE{p:UInt8->Bool}(h:(w.take k).all p=true)(hk:k<w.length)(hp:p w[k]=true):(w.take (k+1)).all p=true:=wN h hk hp
theorem f124(r:Int):ACall tP G 326 [.v (.int .i32 r)] (.v (.bool (Gn r))):=by
 refine aC func326 ?_;refine Z10 ?_;refine zh Y (fun hg=>zX Y Y) (zh Y (fun hg=>bE Y (zLc hg) Y) (zb (vB Y Y Y Y) ?_));refine Z4 ?_;exact aR
theorem f106(r:Int):ACall tP G 327 [.v (.int .i32 r)] (.v (.bool (sy r))):=by
 refine aC func327 ?_;refine Z13 ?_;exact⟨.inr Y,AVle.of (by simp[sy];rfl)⟩
theorem f151(r:Int):ACall tP G 325 [.v (.int .i32 r)] (.v (.bool (ew r))):=by
 refine aC func325 ?_;refine Z8 ?_;refine yc (f124 r) ?_;refine Z ?_;refine zh Y (fun hg=>zX Y Y) (zh Y (fun hg=>zi (av:=[_]) Y ⟨((zLc hg)),trivial⟩ (f106 r)) (zb (ju Y Y Y Y) ?_));refine Z4 ?_;exact aR
theorem f103(w:List UInt8)(h:Int->Bool)(f:FuncId)(fs cs:TA)(hb:∀r:Int,128<=r->h r=false)(hf:∀r:Int,ACall tP G f (fs++[.v (.int .i32 r)]++cs) (.v (.bool (h r)))):ACall tP G 324 [eS w,.fn f fs cs] (.v (.bool (ofB h w))):=by
 have hF:=Lib.hid hf;clear hf;refine aC func324 ?_;refine Z9 ?_;refine fj Y Y Y Y underlying9 (fun itb=>?_);refine Z3 ?_;refine zD (ι:={k:Nat//k<=w.length/\(w.take k).all (fun b=>h (b.toNat:Int))=true}) (fun k=>⟨⟨Tryz.f324.ntmps,[],[],false,[(itb,.stringIter ⟨w.toArray⟩ k.1)]⟩,frL [(0,SL w),(1,.pub (.fn f fs cs)),(8,itP itb)],[]⟩) (fun k=>w.length-k.1) (⟨0,sI⟩) ?_ ?_
 ·exact zd _ rL (Y)
 ·rintro⟨k,hk⟩;dsimp only;refine Z2 ?_;refine ot Y Y Y Y Y Y ?_;refine zb (jD Y Y (Qp _ _)) ?_;refine Z3 ?_;refine nC ?_ ?_<;>intro h0
  ·skip;have hlt0:k<(⟨w.toArray⟩:ByteArray).size:=by simpa using h0
   have hlt:k<w.length:=by simpa[ByteArray.size]using hlt0
   have hdk:=Hr hb hlt;refine Z5 ?_;refine zb (jD Y Y (Q8 hlt0)) (Z7 ?_);refine zb (qD (av:=[_]) Y Y rL (hF.out _)) ?_;refine Z3 ?_;refine nC ?_ ?_<;>intro h1
   ·skip;have hno:h (w[k].toNat:Int)=false:=by rw[←hdk];simpa using h1
    refine Z10 ?_;exact⟨.inr Y,AVle.of (by rw[ofB,yM (p:=fun b:UInt8=>h (b.toNat:Int)) hlt hno];rfl)⟩
   ·skip;have hyes:h (w[k].toNat:Int)=true:=by rw[←hdk];simpa using h1
    have hlow:=pV hb hyes;have hnx:=Br hlt hlow;refine Z2 ?_;exact⟨⟨k+1,oM,CE hk.2 hlt hyes⟩,by dsimp only;omega,ce (zLz (fun z=>(⟨Tryz.f324.ntmps,[],[],false,[(itb,Obj.stringIter ⟨w.toArray⟩ z)]⟩:NS)) hnx) _ rL Y⟩
  ·skip;have hge:w.length<=k:=by simpa[ByteArray.size]using h0
   refine Z8 ?_;refine zb (vt Y Y underlying9) (Z5 ?_);exact⟨.inr Y,AVle.of (by rw[zLk hge]at hk;rw[ofB,hk.2,Bool.true_and];exact zLz (fun x:Bool=>AV.v (Value.bool x)) (by rw[Bool.eq_iff_iff];simp;omega))⟩
def hl1(w:List UInt8):Int:=w.foldl (fun s b=>s+if b.toNat=63 then 1 else 0) 0
def hlN(l:TB):Int:=l.foldl (fun s w=>s+hl1 w) 0
theorem oU(h:k<w.length):hl1 (w.take (k+1))=hl1 (w.take k)+if w[k].toNat=63 then 1 else 0:=by
 unfold hl1;rw[zLt h,List.foldl_append];rfl
theorem pg{l:TB}(h:k<l.length):hlN (l.take (k+1))=hlN (l.take k)+hl1 l[k]:=by
 unfold hlN;rw[zLt h,List.foldl_append];rfl
theorem Eg(w:List UInt8):0<=hl1 w/\hl1 w<=w.length:=by
 have key:∀(w:List UInt8)(t:Int),t<=w.foldl (fun s b=>s+if b.toNat=63 then 1 else 0) t/\w.foldl (fun s b=>s+if b.toNat=63 then 1 else 0) t<=t+w.length:=by
  intro w
  induction w with
  |nil=>intro t;simp
  |cons b w ih=>
   intro t;have h1:=ih (t+if b.toNat=63 then 1 else 0);simp only[List.foldl_cons,List.length_cons];obtain⟨x,hx⟩:∃x:Int,(if b.toNat=63 then(1:Int)else 0)=x:=⟨_,rfl⟩;have h2:0<=x/\x<=1:=by rw[←hx];split<;>omega
   rw[hx]at h1⊢;omega
 have:=key w 0;unfold hl1;omega
theorem HJ(l:TB)(h:∀w∈l,w.length<=5):0<=hlN l/\hlN l<=5*l.length:=by
 have key:∀(l:TB),(∀w∈l,w.length<=5)->∀t:Int,t<=l.foldl (fun s w=>s+hl1 w) t/\l.foldl (fun s w=>s+hl1 w) t<=t+5*l.length:=by
  intro l
  induction l with
  |nil=>intro _ t;simp
  |cons w l ih=>
   intro hl t;have h1:=ih (fun v hv=>hl v (zL3 _ hv)) (t+hl1 w);have h2:=Eg w;have h3:=hl w (zL1 ..);simp only[List.foldl_cons,List.length_cons];omega
 have:=key l h 0;unfold hlN;omega
def vu(c:Cod)(l:TB):Bool:=(l.all fun w=>ofB ew w)&&(((l.length:Int)==(c.fields.length:Int)+1)&&decide (hlN l<=2))
theorem ca(hh:ofB h w=true):w.length=5:=by simp[ofB]at hh;exact hh.2
theorem Hw(hh:ofB h w=true)(hk:k<w.length):h (w[k].toNat:Int)=true:=by
 simp only[ofB,zLa,zLu]at hh;exact hh.1 _ (zLm hk)
theorem l4{l:TB}{q:Nat}(h:(l.take q).all (fun w=>ofB ew w)=true):∀w∈l.take q,w.length<=5:=fun w hw=>by
 rw[zLu]at h;have:=ca (h w hw);omega
theorem f118(c:Cod)(l:TB)(hl:l.length<=1000)(hc:c.fields.length<=1000):ACall tP G 258 [.agg (eCod c),eStrs l] (.v (.bool (vu c l))):=by
 have hcl:(c.fields.map eSpn).length<=1000:=by simpa using hc
 refine aC func258 ?_;refine Z15 ?_;refine zb (zM Y Y Y underlying108) (Z4 ?_);refine zD (ι:={q:Nat//q<=l.length/\(l.take q).all (fun w=>ofB ew w)=true}) (fun q=>⟨Tryz.f258.ntmps,frL [(2,.pub (.ptr (eCod c))),(1,.pub (eStrs l)),(5,I (hlN (l.take q.1))),(10,.pub (eStrs l)),(11,I (l.length:Int)),(12,I (q.1:Int))],[]⟩) (fun q=>l.length-q.1) (⟨0,sI⟩) ?_ ?_
 ·exact zd _ ⟨Y,Y,Y,Y,(zLz (fun x:Nat=>I (x:Int)) (zL8 _)),Y,trivial⟩ (Y)
 ·rintro⟨q,hq⟩;dsimp only;refine Z6 ?_;refine nC ?_ ?_<;>intro h0
  ·skip;have hlt:q<l.length:=by simpa using h0
   have hln:=HJ _ (l4 hq.2);have htl:(l.take q).length=q:=by simp;omega
   refine Z6 ?_;refine zb (zc Y Y Y ib oM (aL hlt) kp) (Z8 ?_);refine yc (f103 l[q] ew 325 [] [] A6 (fun r=>f151 r)) ?_;refine Z3 ?_;refine nC ?_ ?_<;>intro h1
   ·skip;have hno:ofB ew l[q]=false:=by simpa using h1
    refine Z12 ?_;exact⟨.inr Y,AVle.of (by rw[vu,yM (p:=fun w=>ofB ew w) hlt hno];rfl)⟩
   ·skip;have hyes:ofB ew l[q]=true:=by simpa using h1
    have hw5:=ca hyes;refine Z5 ?_;refine fj Y Y Y Y underlying9 (fun itb=>?_);refine Z3 ?_;refine zD (ι:={k:Nat//k<=l[q].length}) (fun k=>⟨⟨Tryz.f258.ntmps,[],[],false,[(itb,.stringIter ⟨l[q].toArray⟩ k.1)]⟩,frL [(2,.pub (.ptr (eCod c))),(1,.pub (eStrs l)),(5,I (hlN (l.take q)+hl1 (l[q].take k.1))),(10,.pub (eStrs l)),(11,I (l.length:Int)),(12,I (q:Int)),(20,itP itb)],[]⟩) (fun k=>l[q].length-k.1) (⟨0,oM⟩) ?_ ?_
    ·exact zd _ ⟨Y,Y,(zLz (fun x:Int=>I x) (by simp[hl1])),Y,Y,Y,Y,trivial⟩ (Y)
    ·rintro⟨k,hk⟩;dsimp only;refine Z2 ?_;refine ot Y Y Y Y Y Y ?_;refine zb (jD Y Y (Qp _ _)) ?_;refine Z3 ?_;refine nC ?_ ?_<;>intro h2
     ·skip;have hlt0:k<(⟨l[q].toArray⟩:ByteArray).size:=by simpa using h2
      have hkl:k<l[q].length:=by simpa[ByteArray.size]using hlt0
      have hat:=Hw hyes hkl;have hlow:=pV A6 hat;have hnx:=Br hkl hlow;have hdec:=Bg hkl hlow;have hst:=oU hkl;have hb1:=Eg (l[q].take k);have hb2:(l[q].take k).length<=5:=by simp;omega
      refine Z5 ?_;refine zb (jD Y Y (Q8 hlt0)) (Z6 ?_);refine yc (f106 _) ?_;refine Z2 ?_;refine nC ?_ ?_<;>intro h3
      ·skip;have h63:l[q][k].toNat=63:=by have h:=h3;simp only[hdec,sy]at h;simp at h;omega
       rw[zLc h63]at hst;refine Z6 ?_;exact⟨⟨k+1,oM⟩,by dsimp only;omega,ce (zLz (fun z=>(⟨Tryz.f258.ntmps,[],[],false,[(itb,Obj.stringIter ⟨l[q].toArray⟩ z)]⟩:NS)) hnx) _ ⟨Y,Y,(zLz (fun x:Int=>I x) (by dsimp only;omega)),Y,Y,Y,Y,trivial⟩ Y⟩
      ·skip;have h63:¬l[q][k].toNat=63:=by have h:=h3;simp only[hdec,sy]at h;simp at h;omega
       rw[zLy h63]at hst;refine Z2 ?_;exact⟨⟨k+1,oM⟩,by dsimp only;omega,ce (zLz (fun z=>(⟨Tryz.f258.ntmps,[],[],false,[(itb,Obj.stringIter ⟨l[q].toArray⟩ z)]⟩:NS)) hnx) _ ⟨Y,Y,(zLz (fun x:Int=>I x) (by dsimp only;omega)),Y,Y,Y,Y,trivial⟩ Y⟩
     ·skip;have hge:l[q].length<=k:=by simpa[ByteArray.size]using h2
      have hkk:l[q].take k=l[q]:=zLk hge;refine Z6 ?_;refine zt Cd ?_;refine Z4 ?_;exact⟨⟨q+1,oM,wN hq.2 hlt hyes⟩,by dsimp only;omega,(by refine zd (mem':=[]) _ ?_ ?_;exact⟨Y,Y,(zLz (fun x:Int=>I x) (by rw[hkk,pg hlt])),Y,Y,Y,trivial⟩;exact Y)⟩
  ·skip;have hge:l.length<=q:=by simpa using h0
   have hq2:=hq.2;have hk2:q=l.length:=oM;subst hk2;have hln:=HJ _ (l4 hq2);rw[List.take_length]at hq2 hln;refine Z8 ?_;refine zb (zM Y Y Y underlying108) (Z2 ?_);refine zb (zM Y Y Y underlying23) (Z3 ?_);refine zh Y (fun hg=>zX Y Y) (zh Y (fun hg=>bE Y (zLc hg) Y) (zb (vB Y Y Y Y) ?_));refine Z4 ?_;exact⟨.inr Y,AVle.of (by rw[vu,hq2,Bool.true_and];simp[eStrs])⟩
def dv2(n:Int):Nat->Int
 |0=>n
 |k+1=>dv2 n k/2
theorem mP(n:Int):∀k:Nat,dv2 n k=n/2^k
 |0=>by simp[dv2]
 |k+1=>by
  show dv2 n k/2=_;rw[mP n k,Int.ediv_ediv_of_nonneg (by exact Int.le_of_lt (Int.pow_pos dE)),Int.pow_succ]
def Q7(t:Int)(k:Nat):Bool:=dv2 t k % 2==1
def cL(c:Cod)(f:Int):Int:=c.turns.getD f.toNat 0
def rgt(ch f:Int):Bool:=decide (ch=63)||(ch-48==f)
def wrg(c:Cod)(ch f:Int):Bool:=Q7 (cL c f) (ch-48).toNat
def kZ(c:Cod)(ch f:Int):Int:=if rgt ch f then 1 else if wrg c ch f then 2 else 0
theorem Do(h:codB c=true):c.turns.length=10/\∀t∈c.turns,0<=t/\t<=1023:=by
 simp only[codB,zLa,Bool.not_eq_true',beq_iff_eq]at h;refine⟨oM,fun t ht=>?_⟩;have h4:=h.2;rw[List.any_eq_false]at h4;have h5:=h4 t ht;simp only[nc,Bool.not_eq_true,Bool.not_eq_false',inB_iff]at h5;exact h5
theorem KO(h:codB c=true)(hf:0<=f/\f<=9):∃h':f.toNat<c.turns.length,c.turns[f.toNat]=cL c f/\0<=cL c f/\cL c f<=1023:=by
 obtain⟨h1,h2⟩:=Do h;have hl:f.toNat<c.turns.length:=oM;have e:c.turns[f.toNat]=cL c f:=by simp[cL,zLv,zLe hl]
 have:=h2 _ (zLm hl);rw[e]at this;exact⟨hl,e,this⟩
theorem f119(c:Cod)(ch f:Int)(hk:codB c=true)(hch:48<=ch/\ch<=63)(hf:0<=f/\f<=9):ACall tP G 330 [.agg (eCod c),.v (.int .u8 ch),.v (.int .i64 f)] (.v (.int .i64 (kZ c ch f))):=by
 obtain⟨htl,hte,htb⟩:=KO hk hf;refine aC func330 ?_;refine Z9 ?_;refine zb (D8 Y Y Y (wrap_u8 oM)) (zb (Ag Y Y underlying5 underlying3 (A8 oM)) ?_);refine Z10 ?_;refine zh Y (fun hg=>zX Y Y) (zh Y (fun hg=>zX Y Y) (zh Y (fun hg=>vr Y (zLc hg) (zLc hg)) (zb (ju Y Y Y Y) ?_)));refine Z3 ?_;refine nC ?_ ?_<;>intro h0
 ·skip;have hr:rgt ch f=true:=by simpa[rgt]using h0
  refine Z8 ?_;exact⟨.inr Y,AVle.of (by simp[kZ,hr])⟩
 ·skip;have hr:rgt ch f=false:=by simpa[rgt]using h0
  have hne:ch≠63:=by simp[rgt]at hr;exact hr.1
  refine Z5 ?_;refine zb (zc Y Y Y zY oM (by rw[zLq,zLe htl,hte];rfl) zn) (Z2 ?_);refine zb (MD Y Y Y oM oM) (zb (Gs Y Y Y) ?_);refine Z4 ?_;refine nC ?_ ?_<;>intro h1
  ·skip;have hw:wrg c ch f=true:=by simpa[wrg,Q7,mP]using h1
   refine Z8 ?_;exact⟨.inr Y,AVle.of (by simp[kZ,hr,hw])⟩
  ·skip;have hw:wrg c ch f=false:=by simpa[wrg,Q7,mP]using h1
   refine Z9 ?_;exact⟨.inr Y,AVle.of (by simp[kZ,hr,hw])⟩
def CY(g:G5):List Int:=[g.a,g.b,g.c,g.d,g.e]
def K5(g:G5)(k:Nat):Int:=(CY g).getD k 0
def five(g:G5)(w:List UInt8):List (Int × Int):=(w.map fun b=>(b.toNat:Int)).zip (CY g)
theorem fK{g:G5}(h:w.length=5):(five g w).length=5:=by simp[five,CY,h]
theorem KV{g:G5}(h:w.length=5)(hk:k<5):(five g w)[k]'(by rw[fK h];exact hk)=((w[k].toNat:Int),K5 g k):=by
 have e:(CY g)[k]'(by simp[CY];omega)=K5 g k:=by
  unfold K5;rw[zLv,zLe (by simp[CY];omega)];rfl
 simp[five,e]
def okP(c:Cod)(x:Int × Int):Bool:=rgt x.1 x.2||wrg c x.1 x.2
def wrN(x:Int × Int):Int:=if rgt x.1 x.2 then 0 else 1
def pz(xs:List (Int × Int)):Int:=xs.foldl (fun s x=>s+wrN x) 0
def uo(l:List (List (Int × Int))):Int:=l.foldl (fun s xs=>s+pz xs) 0
theorem Cb{xs:List (Int × Int)}(h:k<xs.length):pz (xs.take (k+1))=pz (xs.take k)+wrN xs[k]:=by
 unfold pz;rw[zLt h,List.foldl_append];rfl
theorem DC{l:List (List (Int × Int))}(h:k<l.length):uo (l.take (k+1))=uo (l.take k)+pz l[k]:=by
 unfold uo;rw[zLt h,List.foldl_append];rfl
def prs(m:List Int)(l:TB):List (List (Int × Int)):=((aQ m).zip l).map fun p=>five p.1 p.2
def JC(c:Cod)(m:List Int)(l:TB):Bool:=((prs m l).all fun xs=>xs.all (okP c))&&decide (uo (prs m l)<=c.most)
theorem Ox{l:TB}{q:Nat}(h1:q<(aQ m).length)(h2:q<l.length):(prs m l)[q]'(by simp[prs];omega)=five (aQ m)[q] l[q]:=by simp[prs]
theorem DX{l:TB}(h:vu c l=true):(l.length:Int)=(c.fields.length:Int)+1/\∀w∈l,ofB ew w=true:=by
 simp only[vu,zLa,zLu,beq_iff_eq]at h;exact⟨h.2.1,h.1⟩
theorem msg_len(h:kW c m=true):m.length=c.fields.length:=by simp[kW,eqF]at h;exact h.1
theorem OP(x:Int × Int):0<=wrN x/\wrN x<=1:=by unfold wrN;split<;>omega
theorem rO:(tP.info? 354).bind (·.zero)=some (.agg #[nZ,nZ,nZ]):=nR
theorem jg:vy tP 354 3 1=true:=nR
theorem jo:zS tP 354 true 3=true:=nR
def jZ(c:Cod)(l:TC):TA:=[.sl (c.fields.map eSpn),eInts c.turns,.v (.int .i64 c.most),eCps l]
def chF(g:TB)(at' pz:Nat):Int:=(((g.getD at' []).getD pz 0).toNat:Int)
theorem aJ(h:k<l.length):(l.map fun g=>[eStrs g])[k]?=some [eStrs l[k]]:=by simp[h]
theorem kM:∀q∈l.map (fun g=>[eStrs g]),q.length=1:=sI
theorem ae{g:TB}{pz:Nat}(h:vu c g=true)(h1:at'<=c.fields.length)(h2:pz<5):∃(x:at'<g.length)(y:pz<g[at'].length),chF g at' pz=(g[at'][pz].toNat:Int)/\48<=chF g at' pz/\chF g at' pz<=63:=by
 simp only[vu,zLa,zLu,beq_iff_eq]at h;have x:at'<g.length:=oM;have h3:=h.1 _ (zLm x);have h5:=ca h3;have y:pz<g[at'].length:=oM
 have e:chF g at' pz=(g[at'][pz].toNat:Int):=by
  unfold chF;have e1:g.getD at' []=g[at']:=by rw[zLv,zLe x,Option.getD_some]
  rw[e1,zLv,zLe y,Option.getD_some]
 have h6:=Hw h3 y;refine⟨x,y,e,?_⟩;rw[e];simp only[ew,Gn,sy,Bool.or_eq_true,zLa,zLd]at h6;omega
def wP(l:TC)(at' pz:Nat)(f:Int)(i:Nat):Int:=if h:i<l.length then wrN (chF l[i] at' pz,f)else 0
def okQ(c:Cod)(l:TC)(at' pz:Nat)(f:Int)(i:Nat)(n:Int):Bool:=if h:i<l.length then okP c (chF l[i] at' pz,f)&&decide (n+wrN (chF l[i] at' pz,f)<=c.most)else true
def jQ(c:Cod)(l:TC)(at' pz:Nat)(f:Int)(n:Int × Int × Int):Bool:=okQ c l at' pz f 0 n.1&&(okQ c l at' pz f 1 n.2.1&&okQ c l at' pz f 2 n.2.2)
def plN(l:TC)(at' pz:Nat)(f:Int)(n:Int × Int × Int):Int × Int × Int:=(n.1+wP l at' pz f 0,n.2.1+wP l at' pz f 1,n.2.2+wP l at' pz f 2)
def eCn(n:Int × Int × Int):TA:=[ei n.1,ei n.2.1,ei n.2.2]
theorem dL(l:TC)(at' pz:Nat)(f:Int)(i:Nat):0<=wP l at' pz f i/\wP l at' pz f i<=1:=by
 unfold wP wrN;split
 ·split<;>omega
 ·omega
theorem bc{pz:Nat}(h:l.length<=i):wP l at' pz f i=0:=by unfold wP;rw[dif_neg oM]
theorem kw{pz:Nat}{n:Int}(h:l.length<=i):okQ c l at' pz f i n=true:=by unfold okQ;rw[dif_neg oM]
theorem dx(c:Cod)(ch f:Int):(kZ c ch f=1/\rgt ch f=true)∨(kZ c ch f=2/\rgt ch f=false/\wrg c ch f=true)∨(kZ c ch f=0/\rgt ch f=false/\wrg c ch f=false):=by
 unfold kZ;cases h1:rgt ch f with
 |true=>simp
 |false=>cases h2:wrg c ch f<;>simp
theorem dt{pz:Nat}{n:Int}(h:i<l.length)(hh:kZ c (chF l[i] at' pz) f=0):okQ c l at' pz f i n=false:=by
 rcases dx c (chF l[i] at' pz) f with⟨h1,_⟩|⟨h1,_⟩|⟨_,h1,h2⟩
 ·omega
 ·omega
 ·unfold okQ;rw[dif_pos h];simp[okP,h1,h2]
theorem vN{pz:Nat}{n:Int}(h:i<l.length)(hh:kZ c (chF l[i] at' pz) f=2):wP l at' pz f i=1/\okQ c l at' pz f i n=decide (n+1<=c.most):=by
 rcases dx c (chF l[i] at' pz) f with⟨h1,_⟩|⟨_,h1,h2⟩|⟨h1,_⟩
 ·omega
 ·unfold wP okQ;rw[dif_pos h,dif_pos h];simp[okP,wrN,h1,h2]
 ·omega
theorem vM{pz:Nat}{n:Int}(h:i<l.length)(h0:kZ c (chF l[i] at' pz) f≠0)(h2:kZ c (chF l[i] at' pz) f≠2):wP l at' pz f i=0/\okQ c l at' pz f i n=decide (n<=c.most):=by
 rcases dx c (chF l[i] at' pz) f with⟨_,h1⟩|⟨h1,_⟩|⟨h1,_⟩
 ·unfold wP okQ;rw[dif_pos h,dif_pos h];simp[okP,wrN,h1]
 ·omega
 ·omega
def bK(n:Int × Int × Int)(c:Cod)(l:TC)(at' pz:Nat)(f:Int):Nat->Bool
 |0=>okQ c l at' pz f 0 n.1
 |1=>okQ c l at' pz f 1 n.2.1
 |_=>okQ c l at' pz f 2 n.2.2
theorem Ia{pz:Nat}(h:jQ c l at' pz f n=true):∀i,i<3->bK n c l at' pz f i=true:=fun i hi=>by
 simp only[jQ,zLa]at h
 match i,hi with
 |0,_=>exact h.1
 |1,_=>exact h.2.1
 |2,_=>exact h.2.2
theorem SY{pz:Nat}(_h:l.length<=0)(_:0<=1):ei (n.1)=ei ((plN l at' pz f n).1):=by
 unfold plN;simp only;rw[bc oM,Int.add_zero]
theorem Vz{pz:Nat}(_h:l.length<=0)(_:0<=1):ei (n.2.1)=ei ((plN l at' pz f n).2.1):=by
 unfold plN;simp only;rw[bc oM,Int.add_zero]
theorem SJ{pz:Nat}(_h:l.length<=0)(_:0<=1):ei (n.2.2)=ei ((plN l at' pz f n).2.2):=by
 unfold plN;simp only;rw[bc oM,Int.add_zero]
theorem RY{pz:Nat}(_h:l.length<=1)(_:0<=1):ei (n.1+wP l at' pz f 0)=ei ((plN l at' pz f n).1):=by
 rfl
theorem Xm{pz:Nat}(_h:l.length<=1)(_:0<=1):ei (n.2.1)=ei ((plN l at' pz f n).2.1):=by
 unfold plN;simp only;rw[bc oM,Int.add_zero]
theorem UM{pz:Nat}(_h:l.length<=1)(_:0<=1):ei (n.2.2)=ei ((plN l at' pz f n).2.2):=by
 unfold plN;simp only;rw[bc oM,Int.add_zero]
theorem U4{pz:Nat}(_h:l.length<=2)(_:0<=1):ei (n.1+wP l at' pz f 0)=ei ((plN l at' pz f n).1):=by
 rfl
theorem VP{pz:Nat}(_h:l.length<=2)(_:0<=1):ei (n.2.1+wP l at' pz f 1)=ei ((plN l at' pz f n).2.1):=by
 rfl
theorem US{pz:Nat}(_h:l.length<=2)(_:0<=1):ei (n.2.2)=ei ((plN l at' pz f n).2.2):=by
 unfold plN;simp only;rw[bc oM,Int.add_zero]
theorem VH{pz:Nat}(_h:l.length<=3)(_:0<=1):ei (n.1+wP l at' pz f 0)=ei ((plN l at' pz f n).1):=by
 rfl
theorem R2{pz:Nat}(_h:l.length<=3)(_:0<=1):ei (n.2.1+wP l at' pz f 1)=ei ((plN l at' pz f n).2.1):=by
 rfl
theorem RU{pz:Nat}(_h:l.length<=3)(_:0<=1):ei (n.2.2+wP l at' pz f 2)=ei ((plN l at' pz f n).2.2):=by
 rfl
theorem IF(c:Cod)(l:TC)(n:Int × Int × Int)(at' pz:Nat)(f:Int)(hc:codB c=true)(hl:l.length<=3)(hcp:∀g∈l,vu c g=true)(hat:at'<=c.fields.length)(hpl:pz<5)(hf:0<=f/\f<=9)(hn:0<=n.1/\n.1<=1000/\0<=n.2.1/\n.2.1<=1000/\0<=n.2.2/\n.2.2<=1000)(hyes:jQ c l at' pz f n=true):ACall tP G 262 [.agg (jZ c l),.agg (eCn n),ei (at':Int),ei (pz:Int),ei f] (.tup [.agg (eCn (plN l at' pz f n)),.v (.bool true)]):=by
 have hb0:=dL l at' pz f 0;have hb1:=dL l at' pz f 1;have hb2:=dL l at' pz f 2;have hall:=Ia hyes;refine aC func262 ?_;refine Z3 ?_;refine zm Y (qI Y Y cEx) (zm Y (zE Y Y rO Y Y) ?_);refine Z8 ?_;refine zb (zM Y Y Y underlying46) (Z4 ?_);refine zD (ι:={k:Nat//k<4}) (fun k=>match k.1 with|0=>⟨Tryz.f262.ntmps,frL [(2,I (at':Int)),(3,I (pz:Int)),(4,I f),(5,.pub (.ptr (jZ c l))),(6,.pp 0 1 0 0),(10,.pp 1 1 0 0),(15,.pub (eCps l)),(16,I (l.length:Int)),(17,I 0)],[.row [[I n.1,I n.2.1,I n.2.2]],.row [[I 0,I 0,I 0]]]⟩|1=>⟨Tryz.f262.ntmps,frL [(2,I (at':Int)),(3,I (pz:Int)),(4,I f),(5,.pub (.ptr (jZ c l))),(6,.pp 0 1 0 0),(10,.pp 1 1 0 0),(15,.pub (eCps l)),(16,I (l.length:Int)),(17,I 1)],[.row [[I (n.1+wP l at' pz f 0),I n.2.1,I n.2.2]],.row [[I 0,I 0,I 0]]]⟩|2=>⟨Tryz.f262.ntmps,frL [(2,I (at':Int)),(3,I (pz:Int)),(4,I f),(5,.pub (.ptr (jZ c l))),(6,.pp 0 1 0 0),(10,.pp 1 1 0 0),(15,.pub (eCps l)),(16,I (l.length:Int)),(17,I 2)],[.row [[I (n.1+wP l at' pz f 0),I (n.2.1+wP l at' pz f 1),I n.2.2]],.row [[I 0,I 0,I 0]]]⟩|_=>⟨Tryz.f262.ntmps,frL [(2,I (at':Int)),(3,I (pz:Int)),(4,I f),(5,.pub (.ptr (jZ c l))),(6,.pp 0 1 0 0),(10,.pp 1 1 0 0),(15,.pub (eCps l)),(16,I (l.length:Int)),(17,I 3)],[.row [[I (n.1+wP l at' pz f 0),I (n.2.1+wP l at' pz f 1),I (n.2.2+wP l at' pz f 2)]],.row [[I 0,I 0,I 0]]]⟩) (fun k=>4-k.1) (⟨0,oM⟩) ?_ ?_
 ·exact zd _ ⟨Y,Y,Y,Y,Y,Y,Y,(zLz (fun x:Nat=>I (x:Int)) (zL8 _)),Y,trivial⟩ (Y)
 ·rintro⟨k,hk⟩;have hk3:k=0∨k=1∨k=2∨k=3:=oM;rcases hk3 with rfl|rfl|rfl|rfl
  ·dsimp only;refine Z6 ?_;refine nC ?_ ?_<;>intro h0
   ·skip;have hlt:0<l.length:=by simp at h0;omega
    obtain⟨hx,hy,hch,hc1,hc2⟩:=ae (hcp _ (zLm hlt)) hat hpl;refine Z7 ?_;refine zb (zc Y Y Y ii oM (aJ hlt) kM) (Z7 ?_);refine zN mixed nR Y ?_;refine Z4 ?_;refine zH Y (zc Y Y Y ib oM (aL hx) kp) (Z2 ?_);refine zH Y (ve Y Y Y underlying9 oM (by rw[Int.toNat_natCast];exact zLe hy)) (Z ?_);refine zH Y (zi (av:=[_,_,_]) Y rL (hch▸f119 c _ f hc ⟨hc1,hc2⟩ hf)) ?_;refine Z9 ?_;refine nC ?_ ?_<;>intro h1
    ·skip;exfalso;have hq:=dt (c:=c) (at':=at') (pz:=pz) (f:=f) (n:=n.1) hlt (by rw[hch];simpa using h1);have:=(hall 0 oM).symm.trans hq;cases this
    ·skip;have hn0:kZ c (chF l[0] at' pz) f≠0:=by rw[hch];simpa using h1
     refine Z6 ?_;refine nC ?_ ?_<;>intro h2
     ·skip;have hwq:=vN (c:=c) (at':=at') (pz:=pz) (f:=f) (n:=n.1) hlt (by rw[hch];simpa using h2);have hW:=hwq.1;have hq:=hwq.2;refine Z2 ?_;refine zb (zy Y Y Y Y Y jg oM oM) (Z2 ?_);refine zb (zy Y Y Y Y Y jg oM oM) ?_;refine zm Y (zp Y Y Y Y Y Y cEx ki rF bL) (Z4 ?_);refine zN mixed nR Y ?_;refine Z ?_;refine zH Y (zy Y Y Y Y Y jg oM oM) (Z7 ?_);refine nC ?_ ?_<;>intro h3
      ·skip;exfalso;have:=hq.symm.trans (hall 0 oM);simp at this h3;omega
      ·skip;have hok:True:=trivial;refine Z7 ?_;exact⟨⟨1,by omega⟩,by dsimp only;omega,(by refine zd (mem':=[.row [[I (n.1+wP l at' pz f 0),I n.2.1,I n.2.2]],.row [[I 0,I 0,I 0]]]) [(2,I (at':Int)),(3,I (pz:Int)),(4,I f),(5,.pub (.ptr (jZ c l))),(6,.pp 0 1 0 0),(10,.pp 1 1 0 0),(15,.pub (eCps l)),(16,I (l.length:Int)),(17,I 1)] ?_ ?_;exact rL;exact(zLz (fun z=>[PO.row [z],.row [[I 0,I 0,I 0]]]) (by first|rw[hW,Int.add_zero]|rw[hW];rfl|rw[hW])))⟩
     ·skip;have hwq:=vM (c:=c) (at':=at') (pz:=pz) (f:=f) (n:=n.1) hlt hn0 (by rw[hch];simpa using h2);have hW:=hwq.1;have hq:=hwq.2;refine Z4 ?_;refine zN mixed nR Y ?_;refine Z ?_;refine zH Y (zy Y Y Y Y Y jg oM oM) (Z7 ?_);refine nC ?_ ?_<;>intro h3
      ·skip;exfalso;have:=hq.symm.trans (hall 0 oM);simp at this h3;omega
      ·skip;have hok:True:=trivial;refine Z7 ?_;exact⟨⟨1,by omega⟩,by dsimp only;omega,(by refine zd (mem':=[.row [[I (n.1+wP l at' pz f 0),I n.2.1,I n.2.2]],.row [[I 0,I 0,I 0]]]) [(2,I (at':Int)),(3,I (pz:Int)),(4,I f),(5,.pub (.ptr (jZ c l))),(6,.pp 0 1 0 0),(10,.pp 1 1 0 0),(15,.pub (eCps l)),(16,I (l.length:Int)),(17,I 1)] ?_ ?_;exact rL;exact(zLz (fun z=>[PO.row [z],.row [[I 0,I 0,I 0]]]) (by first|rw[hW,Int.add_zero]|rw[hW];rfl|rw[hW])))⟩
   ·skip;have hge:l.length<=0:=by simp at h0;first|omega|simp[h0]
    refine Z8 ?_;refine zm Y (zp Y Y Y Y Y Y cEx jo rF bL) (Z4 ?_);exact⟨.inr Y,⟨_,Y,⟨_,_,Y,(zQ Y Y Y Y jo Y ⟨_,_,Y,AVle.of (SY hge oM),⟨_,_,Y,AVle.of (Vz hge oM),⟨_,_,Y,AVle.of (SJ hge oM),Y⟩⟩⟩),⟨_,_,Y,AVle.refl _,Y⟩⟩⟩⟩
  ·dsimp only;refine Z6 ?_;refine nC ?_ ?_<;>intro h0
   ·skip;have hlt:1<l.length:=by simp at h0;omega
    obtain⟨hx,hy,hch,hc1,hc2⟩:=ae (hcp _ (zLm hlt)) hat hpl;refine Z7 ?_;refine zb (zc Y Y Y ii oM (aJ hlt) kM) (Z7 ?_);refine zN mixed nR Y ?_;refine Z4 ?_;refine zH Y (zc Y Y Y ib oM (aL hx) kp) (Z2 ?_);refine zH Y (ve Y Y Y underlying9 oM (by rw[Int.toNat_natCast];exact zLe hy)) (Z ?_);refine zH Y (zi (av:=[_,_,_]) Y rL (hch▸f119 c _ f hc ⟨hc1,hc2⟩ hf)) ?_;refine Z9 ?_;refine nC ?_ ?_<;>intro h1
    ·skip;exfalso;have hq:=dt (c:=c) (at':=at') (pz:=pz) (f:=f) (n:=n.2.1) hlt (by rw[hch];simpa using h1);have:=(hall 1 oM).symm.trans hq;cases this
    ·skip;have hn0:kZ c (chF l[1] at' pz) f≠0:=by rw[hch];simpa using h1
     refine Z6 ?_;refine nC ?_ ?_<;>intro h2
     ·skip;have hwq:=vN (c:=c) (at':=at') (pz:=pz) (f:=f) (n:=n.2.1) hlt (by rw[hch];simpa using h2);have hW:=hwq.1;have hq:=hwq.2;refine Z2 ?_;refine zb (zy Y Y Y Y Y jg oM oM) (Z2 ?_);refine zb (zy Y Y Y Y Y jg oM oM) ?_;refine zm Y (zp Y Y Y Y Y Y cEx ki rF bL) (Z4 ?_);refine zN mixed nR Y ?_;refine Z ?_;refine zH Y (zy Y Y Y Y Y jg oM oM) (Z7 ?_);refine nC ?_ ?_<;>intro h3
      ·skip;exfalso;have:=hq.symm.trans (hall 1 oM);simp at this h3;omega
      ·skip;have hok:True:=trivial;refine Z7 ?_;exact⟨⟨2,by omega⟩,by dsimp only;omega,(by refine zd (mem':=[.row [[I (n.1+wP l at' pz f 0),I (n.2.1+wP l at' pz f 1),I n.2.2]],.row [[I 0,I 0,I 0]]]) [(2,I (at':Int)),(3,I (pz:Int)),(4,I f),(5,.pub (.ptr (jZ c l))),(6,.pp 0 1 0 0),(10,.pp 1 1 0 0),(15,.pub (eCps l)),(16,I (l.length:Int)),(17,I 2)] ?_ ?_;exact rL;exact(zLz (fun z=>[PO.row [z],.row [[I 0,I 0,I 0]]]) (by first|rw[hW,Int.add_zero]|rw[hW];rfl|rw[hW])))⟩
     ·skip;have hwq:=vM (c:=c) (at':=at') (pz:=pz) (f:=f) (n:=n.2.1) hlt hn0 (by rw[hch];simpa using h2);have hW:=hwq.1;have hq:=hwq.2;refine Z4 ?_;refine zN mixed nR Y ?_;refine Z ?_;refine zH Y (zy Y Y Y Y Y jg oM oM) (Z7 ?_);refine nC ?_ ?_<;>intro h3
      ·skip;exfalso;have:=hq.symm.trans (hall 1 oM);simp at this h3;omega
      ·skip;have hok:True:=trivial;refine Z7 ?_;exact⟨⟨2,by omega⟩,by dsimp only;omega,(by refine zd (mem':=[.row [[I (n.1+wP l at' pz f 0),I (n.2.1+wP l at' pz f 1),I n.2.2]],.row [[I 0,I 0,I 0]]]) [(2,I (at':Int)),(3,I (pz:Int)),(4,I f),(5,.pub (.ptr (jZ c l))),(6,.pp 0 1 0 0),(10,.pp 1 1 0 0),(15,.pub (eCps l)),(16,I (l.length:Int)),(17,I 2)] ?_ ?_;exact rL;exact(zLz (fun z=>[PO.row [z],.row [[I 0,I 0,I 0]]]) (by first|rw[hW,Int.add_zero]|rw[hW];rfl|rw[hW])))⟩
   ·skip;have hge:l.length<=1:=by simp at h0;first|omega|simp[h0]
    refine Z8 ?_;refine zm Y (zp Y Y Y Y Y Y cEx jo rF bL) (Z4 ?_);exact⟨.inr Y,⟨_,Y,⟨_,_,Y,(zQ Y Y Y Y jo Y ⟨_,_,Y,AVle.of (RY hge oM),⟨_,_,Y,AVle.of (Xm hge oM),⟨_,_,Y,AVle.of (UM hge oM),Y⟩⟩⟩),⟨_,_,Y,AVle.refl _,Y⟩⟩⟩⟩
  ·dsimp only;refine Z6 ?_;refine nC ?_ ?_<;>intro h0
   ·skip;have hlt:2<l.length:=by simp at h0;omega
    obtain⟨hx,hy,hch,hc1,hc2⟩:=ae (hcp _ (zLm hlt)) hat hpl;refine Z7 ?_;refine zb (zc Y Y Y ii oM (aJ hlt) kM) (Z7 ?_);refine zN mixed nR Y ?_;refine Z4 ?_;refine zH Y (zc Y Y Y ib oM (aL hx) kp) (Z2 ?_);refine zH Y (ve Y Y Y underlying9 oM (by rw[Int.toNat_natCast];exact zLe hy)) (Z ?_);refine zH Y (zi (av:=[_,_,_]) Y rL (hch▸f119 c _ f hc ⟨hc1,hc2⟩ hf)) ?_;refine Z9 ?_;refine nC ?_ ?_<;>intro h1
    ·skip;exfalso;have hq:=dt (c:=c) (at':=at') (pz:=pz) (f:=f) (n:=n.2.2) hlt (by rw[hch];simpa using h1);have:=(hall 2 oM).symm.trans hq;cases this
    ·skip;have hn0:kZ c (chF l[2] at' pz) f≠0:=by rw[hch];simpa using h1
     refine Z6 ?_;refine nC ?_ ?_<;>intro h2
     ·skip;have hwq:=vN (c:=c) (at':=at') (pz:=pz) (f:=f) (n:=n.2.2) hlt (by rw[hch];simpa using h2);have hW:=hwq.1;have hq:=hwq.2;refine Z2 ?_;refine zb (zy Y Y Y Y Y jg oM oM) (Z2 ?_);refine zb (zy Y Y Y Y Y jg oM oM) ?_;refine zm Y (zp Y Y Y Y Y Y cEx ki rF bL) (Z4 ?_);refine zN mixed nR Y ?_;refine Z ?_;refine zH Y (zy Y Y Y Y Y jg oM oM) (Z7 ?_);refine nC ?_ ?_<;>intro h3
      ·skip;exfalso;have:=hq.symm.trans (hall 2 oM);simp at this h3;omega
      ·skip;have hok:True:=trivial;refine Z7 ?_;exact⟨⟨3,by omega⟩,by dsimp only;omega,(by refine zd (mem':=[.row [[I (n.1+wP l at' pz f 0),I (n.2.1+wP l at' pz f 1),I (n.2.2+wP l at' pz f 2)]],.row [[I 0,I 0,I 0]]]) [(2,I (at':Int)),(3,I (pz:Int)),(4,I f),(5,.pub (.ptr (jZ c l))),(6,.pp 0 1 0 0),(10,.pp 1 1 0 0),(15,.pub (eCps l)),(16,I (l.length:Int)),(17,I 3)] ?_ ?_;exact rL;exact(zLz (fun z=>[PO.row [z],.row [[I 0,I 0,I 0]]]) (by first|rw[hW,Int.add_zero]|rw[hW];rfl|rw[hW])))⟩
     ·skip;have hwq:=vM (c:=c) (at':=at') (pz:=pz) (f:=f) (n:=n.2.2) hlt hn0 (by rw[hch];simpa using h2);have hW:=hwq.1;have hq:=hwq.2;refine Z4 ?_;refine zN mixed nR Y ?_;refine Z ?_;refine zH Y (zy Y Y Y Y Y jg oM oM) (Z7 ?_);refine nC ?_ ?_<;>intro h3
      ·skip;exfalso;have:=hq.symm.trans (hall 2 oM);simp at this h3;omega
      ·skip;have hok:True:=trivial;refine Z7 ?_;exact⟨⟨3,by omega⟩,by dsimp only;omega,(by refine zd (mem':=[.row [[I (n.1+wP l at' pz f 0),I (n.2.1+wP l at' pz f 1),I (n.2.2+wP l at' pz f 2)]],.row [[I 0,I 0,I 0]]]) [(2,I (at':Int)),(3,I (pz:Int)),(4,I f),(5,.pub (.ptr (jZ c l))),(6,.pp 0 1 0 0),(10,.pp 1 1 0 0),(15,.pub (eCps l)),(16,I (l.length:Int)),(17,I 3)] ?_ ?_;exact rL;exact(zLz (fun z=>[PO.row [z],.row [[I 0,I 0,I 0]]]) (by first|rw[hW,Int.add_zero]|rw[hW];rfl|rw[hW])))⟩
   ·skip;have hge:l.length<=2:=by simp at h0;first|omega|simp[h0]
    refine Z8 ?_;refine zm Y (zp Y Y Y Y Y Y cEx jo rF bL) (Z4 ?_);exact⟨.inr Y,⟨_,Y,⟨_,_,Y,(zQ Y Y Y Y jo Y ⟨_,_,Y,AVle.of (U4 hge oM),⟨_,_,Y,AVle.of (VP hge oM),⟨_,_,Y,AVle.of (US hge oM),Y⟩⟩⟩),⟨_,_,Y,AVle.refl _,Y⟩⟩⟩⟩
  ·dsimp only;refine Z6 ?_;refine nC ?_ ?_<;>intro h0
   ·skip;exfalso;simp at h0;omega
   ·skip;have hge:l.length<=3:=by simp at h0;first|omega|simp[h0]
    refine Z8 ?_;refine zm Y (zp Y Y Y Y Y Y cEx jo rF bL) (Z4 ?_);exact⟨.inr Y,⟨_,Y,⟨_,_,Y,(zQ Y Y Y Y jo Y ⟨_,_,Y,AVle.of (VH hge oM),⟨_,_,Y,AVle.of (R2 hge oM),⟨_,_,Y,AVle.of (RU hge oM),Y⟩⟩⟩),⟨_,_,Y,AVle.refl _,Y⟩⟩⟩⟩
theorem KP(c:Cod)(l:TC)(n:Int × Int × Int)(at' pz:Nat)(f:Int)(hc:codB c=true)(hl:l.length<=3)(hcp:∀g∈l,vu c g=true)(hat:at'<=c.fields.length)(hpl:pz<5)(hf:0<=f/\f<=9)(hn:0<=n.1/\n.1<=1000/\0<=n.2.1/\n.2.1<=1000/\0<=n.2.2/\n.2.2<=1000)(hno:jQ c l at' pz f n=false):ACall tP G 262 [.agg (jZ c l),.agg (eCn n),ei (at':Int),ei (pz:Int),ei f] (.tup [.agg [.top,.top,.top],.v (.bool false)]):=by
 have hb0:=dL l at' pz f 0;have hb1:=dL l at' pz f 1;have hb2:=dL l at' pz f 2;refine aC func262 ?_;refine Z3 ?_;refine zm Y (qI Y Y cEx) (zm Y (zE Y Y rO Y Y) ?_);refine Z8 ?_;refine zb (zM Y Y Y underlying46) (Z4 ?_);refine zD (ι:={k:Nat//k<4/\(∀i,i<k->bK n c l at' pz f i=true)}) (fun k=>match k.1 with|0=>⟨Tryz.f262.ntmps,frL [(2,I (at':Int)),(3,I (pz:Int)),(4,I f),(5,.pub (.ptr (jZ c l))),(6,.pp 0 1 0 0),(10,.pp 1 1 0 0),(15,.pub (eCps l)),(16,I (l.length:Int)),(17,I 0)],[.row [[I n.1,I n.2.1,I n.2.2]],.row [[I 0,I 0,I 0]]]⟩|1=>⟨Tryz.f262.ntmps,frL [(2,I (at':Int)),(3,I (pz:Int)),(4,I f),(5,.pub (.ptr (jZ c l))),(6,.pp 0 1 0 0),(10,.pp 1 1 0 0),(15,.pub (eCps l)),(16,I (l.length:Int)),(17,I 1)],[.row [[I (n.1+wP l at' pz f 0),I n.2.1,I n.2.2]],.row [[I 0,I 0,I 0]]]⟩|2=>⟨Tryz.f262.ntmps,frL [(2,I (at':Int)),(3,I (pz:Int)),(4,I f),(5,.pub (.ptr (jZ c l))),(6,.pp 0 1 0 0),(10,.pp 1 1 0 0),(15,.pub (eCps l)),(16,I (l.length:Int)),(17,I 2)],[.row [[I (n.1+wP l at' pz f 0),I (n.2.1+wP l at' pz f 1),I n.2.2]],.row [[I 0,I 0,I 0]]]⟩|_=>⟨Tryz.f262.ntmps,frL [(2,I (at':Int)),(3,I (pz:Int)),(4,I f),(5,.pub (.ptr (jZ c l))),(6,.pp 0 1 0 0),(10,.pp 1 1 0 0),(15,.pub (eCps l)),(16,I (l.length:Int)),(17,I 3)],[.row [[I (n.1+wP l at' pz f 0),I (n.2.1+wP l at' pz f 1),I (n.2.2+wP l at' pz f 2)]],.row [[I 0,I 0,I 0]]]⟩) (fun k=>4-k.1) (⟨0,oM,fun i hi=>absurd hi oM⟩) ?_ ?_
 ·exact zd _ ⟨Y,Y,Y,Y,Y,Y,Y,(zLz (fun x:Nat=>I (x:Int)) (zL8 _)),Y,trivial⟩ (Y)
 ·rintro⟨k,hk,hinv⟩;have hk3:k=0∨k=1∨k=2∨k=3:=oM;rcases hk3 with rfl|rfl|rfl|rfl
  ·dsimp only;refine Z6 ?_;refine nC ?_ ?_<;>intro h0
   ·skip;have hlt:0<l.length:=by simp at h0;omega
    obtain⟨hx,hy,hch,hc1,hc2⟩:=ae (hcp _ (zLm hlt)) hat hpl;refine Z7 ?_;refine zb (zc Y Y Y ii oM (aJ hlt) kM) (Z7 ?_);refine zN mixed nR Y ?_;refine Z4 ?_;refine zH Y (zc Y Y Y ib oM (aL hx) kp) (Z2 ?_);refine zH Y (ve Y Y Y underlying9 oM (by rw[Int.toNat_natCast];exact zLe hy)) (Z ?_);refine zH Y (zi (av:=[_,_,_]) Y rL (hch▸f119 c _ f hc ⟨hc1,hc2⟩ hf)) ?_;refine Z9 ?_;refine nC ?_ ?_<;>intro h1
    ·skip;refine Z3 ?_;refine zm Y (zp Y Y Y Y Y Y cEx jo rF bL) (Z11 ?_);exact⟨.inr Y,⟨_,Y,⟨_,_,Y,(zQ Y Y Y Y jo Y (vwT (vwT (vwT Y)))),⟨_,_,Y,AVle.refl _,Y⟩⟩⟩⟩
    ·skip;have hn0:kZ c (chF l[0] at' pz) f≠0:=by rw[hch];simpa using h1
     refine Z6 ?_;refine nC ?_ ?_<;>intro h2
     ·skip;have hwq:=vN (c:=c) (at':=at') (pz:=pz) (f:=f) (n:=n.1) hlt (by rw[hch];simpa using h2);have hW:=hwq.1;have hq:=hwq.2;refine Z2 ?_;refine zb (zy Y Y Y Y Y jg oM oM) (Z2 ?_);refine zb (zy Y Y Y Y Y jg oM oM) ?_;refine zm Y (zp Y Y Y Y Y Y cEx ki rF bL) (Z4 ?_);refine zN mixed nR Y ?_;refine Z ?_;refine zH Y (zy Y Y Y Y Y jg oM oM) (Z7 ?_);refine nC ?_ ?_<;>intro h3
      ·skip;refine Z3 ?_;refine zm Y (zp Y Y Y Y Y Y cEx jo rF bL) (Z9 ?_);exact⟨.inr Y,⟨_,Y,⟨_,_,Y,(zQ Y Y Y Y jo Y (vwT (vwT (vwT Y)))),⟨_,_,Y,AVle.refl _,Y⟩⟩⟩⟩
      ·skip;have hok:bK n c l at' pz f 0=true:=by simp only[bK];rw[hq];simpa using h3
       refine Z7 ?_;exact⟨⟨1,by omega,(fun i hi=>by rcases(show i=0 by omega)with rfl<;>first|exact hok|exact hinv _ (by omega))⟩,by dsimp only;omega,(by refine zd (mem':=[.row [[I (n.1+wP l at' pz f 0),I n.2.1,I n.2.2]],.row [[I 0,I 0,I 0]]]) [(2,I (at':Int)),(3,I (pz:Int)),(4,I f),(5,.pub (.ptr (jZ c l))),(6,.pp 0 1 0 0),(10,.pp 1 1 0 0),(15,.pub (eCps l)),(16,I (l.length:Int)),(17,I 1)] ?_ ?_;exact rL;exact(zLz (fun z=>[PO.row [z],.row [[I 0,I 0,I 0]]]) (by first|rw[hW,Int.add_zero]|rw[hW];rfl|rw[hW])))⟩
     ·skip;have hwq:=vM (c:=c) (at':=at') (pz:=pz) (f:=f) (n:=n.1) hlt hn0 (by rw[hch];simpa using h2);have hW:=hwq.1;have hq:=hwq.2;refine Z4 ?_;refine zN mixed nR Y ?_;refine Z ?_;refine zH Y (zy Y Y Y Y Y jg oM oM) (Z7 ?_);refine nC ?_ ?_<;>intro h3
      ·skip;refine Z3 ?_;refine zm Y (zp Y Y Y Y Y Y cEx jo rF bL) (Z9 ?_);exact⟨.inr Y,⟨_,Y,⟨_,_,Y,(zQ Y Y Y Y jo Y (vwT (vwT (vwT Y)))),⟨_,_,Y,AVle.refl _,Y⟩⟩⟩⟩
      ·skip;have hok:bK n c l at' pz f 0=true:=by simp only[bK];rw[hq];simpa using h3
       refine Z7 ?_;exact⟨⟨1,by omega,(fun i hi=>by rcases(show i=0 by omega)with rfl<;>first|exact hok|exact hinv _ (by omega))⟩,by dsimp only;omega,(by refine zd (mem':=[.row [[I (n.1+wP l at' pz f 0),I n.2.1,I n.2.2]],.row [[I 0,I 0,I 0]]]) [(2,I (at':Int)),(3,I (pz:Int)),(4,I f),(5,.pub (.ptr (jZ c l))),(6,.pp 0 1 0 0),(10,.pp 1 1 0 0),(15,.pub (eCps l)),(16,I (l.length:Int)),(17,I 1)] ?_ ?_;exact rL;exact(zLz (fun z=>[PO.row [z],.row [[I 0,I 0,I 0]]]) (by first|rw[hW,Int.add_zero]|rw[hW];rfl|rw[hW])))⟩
   ·skip;exfalso;have hge:l.length<=0:=by simp at h0;first|omega|simp[h0]
    have:jQ c l at' pz f n=true:=by
     have:=hinv;simp only[jQ,zLa];exact⟨kw oM,kw oM,kw oM⟩
    rw[this]at hno;cases hno
  ·dsimp only;refine Z6 ?_;refine nC ?_ ?_<;>intro h0
   ·skip;have hlt:1<l.length:=by simp at h0;omega
    obtain⟨hx,hy,hch,hc1,hc2⟩:=ae (hcp _ (zLm hlt)) hat hpl;refine Z7 ?_;refine zb (zc Y Y Y ii oM (aJ hlt) kM) (Z7 ?_);refine zN mixed nR Y ?_;refine Z4 ?_;refine zH Y (zc Y Y Y ib oM (aL hx) kp) (Z2 ?_);refine zH Y (ve Y Y Y underlying9 oM (by rw[Int.toNat_natCast];exact zLe hy)) (Z ?_);refine zH Y (zi (av:=[_,_,_]) Y rL (hch▸f119 c _ f hc ⟨hc1,hc2⟩ hf)) ?_;refine Z9 ?_;refine nC ?_ ?_<;>intro h1
    ·skip;refine Z3 ?_;refine zm Y (zp Y Y Y Y Y Y cEx jo rF bL) (Z11 ?_);exact⟨.inr Y,⟨_,Y,⟨_,_,Y,(zQ Y Y Y Y jo Y (vwT (vwT (vwT Y)))),⟨_,_,Y,AVle.refl _,Y⟩⟩⟩⟩
    ·skip;have hn0:kZ c (chF l[1] at' pz) f≠0:=by rw[hch];simpa using h1
     refine Z6 ?_;refine nC ?_ ?_<;>intro h2
     ·skip;have hwq:=vN (c:=c) (at':=at') (pz:=pz) (f:=f) (n:=n.2.1) hlt (by rw[hch];simpa using h2);have hW:=hwq.1;have hq:=hwq.2;refine Z2 ?_;refine zb (zy Y Y Y Y Y jg oM oM) (Z2 ?_);refine zb (zy Y Y Y Y Y jg oM oM) ?_;refine zm Y (zp Y Y Y Y Y Y cEx ki rF bL) (Z4 ?_);refine zN mixed nR Y ?_;refine Z ?_;refine zH Y (zy Y Y Y Y Y jg oM oM) (Z7 ?_);refine nC ?_ ?_<;>intro h3
      ·skip;refine Z3 ?_;refine zm Y (zp Y Y Y Y Y Y cEx jo rF bL) (Z9 ?_);exact⟨.inr Y,⟨_,Y,⟨_,_,Y,(zQ Y Y Y Y jo Y (vwT (vwT (vwT Y)))),⟨_,_,Y,AVle.refl _,Y⟩⟩⟩⟩
      ·skip;have hok:bK n c l at' pz f 1=true:=by simp only[bK];rw[hq];simpa using h3
       refine Z7 ?_;exact⟨⟨2,by omega,(fun i hi=>by rcases(show i=0∨i=1 by omega)with rfl|rfl<;>first|exact hok|exact hinv _ (by omega))⟩,by dsimp only;omega,(by refine zd (mem':=[.row [[I (n.1+wP l at' pz f 0),I (n.2.1+wP l at' pz f 1),I n.2.2]],.row [[I 0,I 0,I 0]]]) [(2,I (at':Int)),(3,I (pz:Int)),(4,I f),(5,.pub (.ptr (jZ c l))),(6,.pp 0 1 0 0),(10,.pp 1 1 0 0),(15,.pub (eCps l)),(16,I (l.length:Int)),(17,I 2)] ?_ ?_;exact rL;exact(zLz (fun z=>[PO.row [z],.row [[I 0,I 0,I 0]]]) (by first|rw[hW,Int.add_zero]|rw[hW];rfl|rw[hW])))⟩
     ·skip;have hwq:=vM (c:=c) (at':=at') (pz:=pz) (f:=f) (n:=n.2.1) hlt hn0 (by rw[hch];simpa using h2);have hW:=hwq.1;have hq:=hwq.2;refine Z4 ?_;refine zN mixed nR Y ?_;refine Z ?_;refine zH Y (zy Y Y Y Y Y jg oM oM) (Z7 ?_);refine nC ?_ ?_<;>intro h3
      ·skip;refine Z3 ?_;refine zm Y (zp Y Y Y Y Y Y cEx jo rF bL) (Z9 ?_);exact⟨.inr Y,⟨_,Y,⟨_,_,Y,(zQ Y Y Y Y jo Y (vwT (vwT (vwT Y)))),⟨_,_,Y,AVle.refl _,Y⟩⟩⟩⟩
      ·skip;have hok:bK n c l at' pz f 1=true:=by simp only[bK];rw[hq];simpa using h3
       refine Z7 ?_;exact⟨⟨2,by omega,(fun i hi=>by rcases(show i=0∨i=1 by omega)with rfl|rfl<;>first|exact hok|exact hinv _ (by omega))⟩,by dsimp only;omega,(by refine zd (mem':=[.row [[I (n.1+wP l at' pz f 0),I (n.2.1+wP l at' pz f 1),I n.2.2]],.row [[I 0,I 0,I 0]]]) [(2,I (at':Int)),(3,I (pz:Int)),(4,I f),(5,.pub (.ptr (jZ c l))),(6,.pp 0 1 0 0),(10,.pp 1 1 0 0),(15,.pub (eCps l)),(16,I (l.length:Int)),(17,I 2)] ?_ ?_;exact rL;exact(zLz (fun z=>[PO.row [z],.row [[I 0,I 0,I 0]]]) (by first|rw[hW,Int.add_zero]|rw[hW];rfl|rw[hW])))⟩
   ·skip;exfalso;have hge:l.length<=1:=by simp at h0;first|omega|simp[h0]
    have:jQ c l at' pz f n=true:=by
     have:=hinv;simp only[jQ,zLa];exact⟨hinv 0 oM,kw oM,kw oM⟩
    rw[this]at hno;cases hno
  ·dsimp only;refine Z6 ?_;refine nC ?_ ?_<;>intro h0
   ·skip;have hlt:2<l.length:=by simp at h0;omega
    obtain⟨hx,hy,hch,hc1,hc2⟩:=ae (hcp _ (zLm hlt)) hat hpl;refine Z7 ?_;refine zb (zc Y Y Y ii oM (aJ hlt) kM) (Z7 ?_);refine zN mixed nR Y ?_;refine Z4 ?_;refine zH Y (zc Y Y Y ib oM (aL hx) kp) (Z2 ?_);refine zH Y (ve Y Y Y underlying9 oM (by rw[Int.toNat_natCast];exact zLe hy)) (Z ?_);refine zH Y (zi (av:=[_,_,_]) Y rL (hch▸f119 c _ f hc ⟨hc1,hc2⟩ hf)) ?_;refine Z9 ?_;refine nC ?_ ?_<;>intro h1
    ·skip;refine Z3 ?_;refine zm Y (zp Y Y Y Y Y Y cEx jo rF bL) (Z11 ?_);exact⟨.inr Y,⟨_,Y,⟨_,_,Y,(zQ Y Y Y Y jo Y (vwT (vwT (vwT Y)))),⟨_,_,Y,AVle.refl _,Y⟩⟩⟩⟩
    ·skip;have hn0:kZ c (chF l[2] at' pz) f≠0:=by rw[hch];simpa using h1
     refine Z6 ?_;refine nC ?_ ?_<;>intro h2
     ·skip;have hwq:=vN (c:=c) (at':=at') (pz:=pz) (f:=f) (n:=n.2.2) hlt (by rw[hch];simpa using h2);have hW:=hwq.1;have hq:=hwq.2;refine Z2 ?_;refine zb (zy Y Y Y Y Y jg oM oM) (Z2 ?_);refine zb (zy Y Y Y Y Y jg oM oM) ?_;refine zm Y (zp Y Y Y Y Y Y cEx ki rF bL) (Z4 ?_);refine zN mixed nR Y ?_;refine Z ?_;refine zH Y (zy Y Y Y Y Y jg oM oM) (Z7 ?_);refine nC ?_ ?_<;>intro h3
      ·skip;refine Z3 ?_;refine zm Y (zp Y Y Y Y Y Y cEx jo rF bL) (Z9 ?_);exact⟨.inr Y,⟨_,Y,⟨_,_,Y,(zQ Y Y Y Y jo Y (vwT (vwT (vwT Y)))),⟨_,_,Y,AVle.refl _,Y⟩⟩⟩⟩
      ·skip;have hok:bK n c l at' pz f 2=true:=by simp only[bK];rw[hq];simpa using h3
       refine Z7 ?_;exact⟨⟨3,by omega,(fun i hi=>by rcases(show i=0∨i=1∨i=2 by omega)with rfl|rfl|rfl<;>first|exact hok|exact hinv _ (by omega))⟩,by dsimp only;omega,(by refine zd (mem':=[.row [[I (n.1+wP l at' pz f 0),I (n.2.1+wP l at' pz f 1),I (n.2.2+wP l at' pz f 2)]],.row [[I 0,I 0,I 0]]]) [(2,I (at':Int)),(3,I (pz:Int)),(4,I f),(5,.pub (.ptr (jZ c l))),(6,.pp 0 1 0 0),(10,.pp 1 1 0 0),(15,.pub (eCps l)),(16,I (l.length:Int)),(17,I 3)] ?_ ?_;exact rL;exact(zLz (fun z=>[PO.row [z],.row [[I 0,I 0,I 0]]]) (by first|rw[hW,Int.add_zero]|rw[hW];rfl|rw[hW])))⟩
     ·skip;have hwq:=vM (c:=c) (at':=at') (pz:=pz) (f:=f) (n:=n.2.2) hlt hn0 (by rw[hch];simpa using h2);have hW:=hwq.1;have hq:=hwq.2;refine Z4 ?_;refine zN mixed nR Y ?_;refine Z ?_;refine zH Y (zy Y Y Y Y Y jg oM oM) (Z7 ?_);refine nC ?_ ?_<;>intro h3
      ·skip;refine Z3 ?_;refine zm Y (zp Y Y Y Y Y Y cEx jo rF bL) (Z9 ?_);exact⟨.inr Y,⟨_,Y,⟨_,_,Y,(zQ Y Y Y Y jo Y (vwT (vwT (vwT Y)))),⟨_,_,Y,AVle.refl _,Y⟩⟩⟩⟩
      ·skip;have hok:bK n c l at' pz f 2=true:=by simp only[bK];rw[hq];simpa using h3
       refine Z7 ?_;exact⟨⟨3,by omega,(fun i hi=>by rcases(show i=0∨i=1∨i=2 by omega)with rfl|rfl|rfl<;>first|exact hok|exact hinv _ (by omega))⟩,by dsimp only;omega,(by refine zd (mem':=[.row [[I (n.1+wP l at' pz f 0),I (n.2.1+wP l at' pz f 1),I (n.2.2+wP l at' pz f 2)]],.row [[I 0,I 0,I 0]]]) [(2,I (at':Int)),(3,I (pz:Int)),(4,I f),(5,.pub (.ptr (jZ c l))),(6,.pp 0 1 0 0),(10,.pp 1 1 0 0),(15,.pub (eCps l)),(16,I (l.length:Int)),(17,I 3)] ?_ ?_;exact rL;exact(zLz (fun z=>[PO.row [z],.row [[I 0,I 0,I 0]]]) (by first|rw[hW,Int.add_zero]|rw[hW];rfl|rw[hW])))⟩
   ·skip;exfalso;have hge:l.length<=2:=by simp at h0;first|omega|simp[h0]
    have:jQ c l at' pz f n=true:=by
     have:=hinv;simp only[jQ,zLa];exact⟨hinv 0 oM,hinv 1 oM,kw oM⟩
    rw[this]at hno;cases hno
  ·dsimp only;refine Z6 ?_;refine nC ?_ ?_<;>intro h0
   ·skip;exfalso;simp at h0;omega
   ·skip;exfalso;have hge:l.length<=3:=by simp at h0;first|omega|simp[h0]
    have:jQ c l at' pz f n=true:=by
     have:=hinv;simp only[jQ,zLa];exact⟨hinv 0 oM,hinv 1 oM,hinv 2 oM⟩
    rw[this]at hno;cases hno
theorem aG:zS tP 280 true 4=true:=nR
theorem zbq(b:Bool):b=false∨b=true:=by cases b<;>simp
def plX(c:Cod)(l:TC)(at' pz:Nat)(f:Int)(n:Int × Int × Int)(x:AV):AV:=if jQ c l at' pz f n then x else .top
theorem f137(c:Cod)(l:TC)(n:Int × Int × Int)(at' pz:Nat)(f:Int)(hc:codB c=true)(hl:l.length<=3)(hcp:∀g∈l,vu c g=true)(hat:at'<=c.fields.length)(hpl:pz<5)(hf:0<=f/\f<=9)(hn:0<=n.1/\n.1<=1000/\0<=n.2.1/\n.2.1<=1000/\0<=n.2.2/\n.2.2<=1000):ACall tP G 262 [.agg (jZ c l),.agg (eCn n),ei (at':Int),ei (pz:Int),ei f] (.tup [.agg [plX c l at' pz f n (ei (plN l at' pz f n).1),plX c l at' pz f n (ei (plN l at' pz f n).2.1),plX c l at' pz f n (ei (plN l at' pz f n).2.2)],.v (.bool (jQ c l at' pz f n))]):=by
 cases h:jQ c l at' pz f n with
 |true=>
  have:=IF (G:=G) c l n at' pz f hc hl hcp hat hpl hf hn h;simp only[plX,h,if_true];exact this
 |false=>
  have:=KP (G:=G) c l n at' pz f hc hl hcp hat hpl hf hn h;simp only[plX,h,Bool.false_eq_true,if_false];exact this
def gn(f:Nat->Bool)(k:Nat):Nat:=((List.range k).filter f).length
theorem lJ(f:Nat->Bool)(k:Nat):gn f (k+1)=if f k then gn f k+1 else gn f k:=by
 unfold gn;rw[List.range_succ,List.filter_append];cases h:f k<;>simp[h]
theorem BQ{f:Nat->Bool}:∀{n k:Nat},k<n->f k=true->((List.range n).filter f)[gn f k]?=some k:=by
 intro n
 induction n with
 |zero=>intro k h;omega
 |succ n ih=>
  intro k hk hf;rw[List.range_succ,List.filter_append]
  by_cases h:k<n
  ·rw[zLf]
   ·exact ih h hf
   ·have:=ih h hf;exact(zLg this).1
  ·have:k=n:=oM;subst this;rw[zL4 (by unfold gn;omega)];simp[gn,hf]
theorem xX{P:Program}{C:Cx P G}{ph:Ph}{st st':ASt}{Q:Exit->Ph->ASt->Prop}(hw:Weak st st'){c:Code}(h:jH C c ph st' Q):jH C c ph st Q:=fun w0 ok0 a w hc hs=>h w0 ok0 a w hc (hw w0 ok0 a w hs)
def kf(c:Cod)(l:TC)(at' pz:Nat)(n:Int × Int × Int):List Nat:=(List.range 10).filter fun f=>jQ c l at' pz (f:Int) n
def C7(c:Cod)(l:TC)(at' pz:Nat)(n:Int × Int × Int):List (TA):=(kf c l at' pz n).map fun(f:Nat)=>[ei (f:Int),.agg (eCn (plN l at' pz (f:Int) n))]
theorem JP{pz:Nat}(hk:k<10)(hb:jQ c l at' pz (k:Int) n=true):(C7 c l at' pz n)[gn (fun f=>jQ c l at' pz (f:Int) n) k]?=some [ei (k:Int),.agg (eCn (plN l at' pz (k:Int) n))]:=by
 unfold C7 kf;rw[zLq,BQ (f:=fun f=>jQ c l at' pz (f:Int) n) hk hb];rfl
theorem D3{pz:Nat}:(C7 c l at' pz n).length=gn (fun f=>jQ c l at' pz (f:Int) n) 10:=by simp[C7,kf,gn]
theorem EC{pz:Nat}(h:jQ c l at' pz f n=true):[plX c l at' pz f n (ei (plN l at' pz f n).1),plX c l at' pz f n (ei (plN l at' pz f n).2.1),plX c l at' pz f n (ei (plN l at' pz f n).2.2)]=eCn (plN l at' pz f n):=by
 simp only[plX,h,if_true];rfl
theorem Uh(c:Cod)(l:TC)(n:Int × Int × Int)(at' pz:Nat)(hc:codB c=true)(hl:l.length<=3)(hcp:∀g∈l,vu c g=true)(hat:at'<=c.fields.length)(hpl:pz<5)(hn:0<=n.1/\n.1<=1000/\0<=n.2.1/\n.2.1<=1000/\0<=n.2.2/\n.2.2<=1000):gp tP G 331 [] [.ptr (jZ c l),.ptr (eCn n),.ptr [ei (at':Int)],.ptr [ei (pz:Int)]] (C7 c l at' pz n):=by
 refine fc (qs:=(C7 c l at' pz n)) func331 Y nR Y Y (fun C hC=>?_);refine qH ?_;refine jK ?_;refine Z3 ?_;refine zV ?_;refine wo ?_;refine cn (ι:={k:Nat//k<=10}) (fun k=>⟨Tryz.f331.ntmps,frL [(0,.pub (.v (.func (.yield C.l) #[] #[]))),(1,.pub (.ptr (jZ c l))),(2,.pub (.ptr (eCn n))),(3,.pub (.ptr [ei (at':Int)])),(4,.pub (.ptr [ei (pz:Int)])),(9,I (k.1:Int))],[]⟩) (fun k=>.on (gn (fun f=>jQ c l at' pz (f:Int) n) k.1)) (fun k=>10-k.1) (⟨0,oM⟩) Y ?_ ?_
 ·exact zd _ rL (Y)
 ·rintro⟨k,hk⟩;dsimp only;refine qH ?_;refine jK ?_;refine Z3 ?_;refine zV ?_;refine qH ?_;refine jM Y (fun h0=>?_) (fun h0=>?_)
  ·have hlt:k<10:=by simp at h0;omega
   refine wQ ?_;refine zV ?_;refine qH ?_;refine wo ?_;refine qH ?_;refine jK ?_;refine Z4 ?_;refine zV ?_;refine qH ?_;refine jK ?_;refine Z6 ?_;refine yc (f137 c l n at' pz (k:Int) hc hl hcp hat hpl oM hn) ?_;refine Z3 ?_;refine zI Y Y Y Y Y Y Y rO jo Y rF (zF Y) Y (Z2 ?_);refine zV ?_;refine qH ?_;refine Or.elim (zbq (jQ c l at' pz (k:Int) n)) (fun hb=>?_) (fun hb=>?_)
   ·refine xX (zd (mem':=[]) [(0,.pub (.v (.func (.yield C.l) #[] #[]))),(1,.pub (.ptr (jZ c l))),(2,.pub (.ptr (eCn n))),(3,.pub (.ptr [ei (at':Int)])),(4,.pub (.ptr [ei (pz:Int)])),(6,I (k:Int)),(8,B false),(9,I (k:Int))] ⟨Y,Y,Y,Y,Y,Y,zLz B hb,Y,trivial⟩ Y) ?_;refine vT ?_;refine jO Y Y (zX Y Y) ?_;refine jO Y Y (zX Y Y) ?_;refine je (x:=.pub .top) Y Y Y (fun h=>absurd h dE) ?_;refine je (x:=.pub .top) Y Y Y (fun h=>absurd h dE) ?_;refine je (x:=.pub .top) Y Y Y (fun h=>absurd h dE) ?_;refine kn (q:=[]) (c:=false) Y Y Y Y (fun h=>absurd h dE) (fun h=>absurd h dE) (fun h=>absurd h dE) Y Y Y Y Y (fun _=>?_) (fun h=>absurd h dE) (fun h=>absurd h dE);refine je (x:=.pub .top) Y Y Y (fun h=>absurd h dE) ?_;refine jO Y Y (wm Y Y (fun h=>absurd h dE) (fun _=>rfl)) ?_;refine yS ?_;refine zV ?_;refine jM (b:=false) Y (fun h=>absurd h dE) (fun _=>?_);refine wQ ?_;refine vO ?_;refine zV ?_;refine jK ?_
    refine Z4 ?_;exact⟨⟨k+1,oM⟩,by dsimp only;omega,by simp only[lJ,hb];rfl,zd _ rL Y⟩
   ·refine xX (zd (mem':=[]) [(0,.pub (.v (.func (.yield C.l) #[] #[]))),(1,.pub (.ptr (jZ c l))),(2,.pub (.ptr (eCn n))),(3,.pub (.ptr [ei (at':Int)])),(4,.pub (.ptr [ei (pz:Int)])),(6,I (k:Int)),(7,.pub (.ptr (eCn (plN l at' pz (k:Int) n)))),(8,B true),(9,I (k:Int))] ⟨Y,Y,Y,Y,Y,Y,(zLz (fun z=>EV.pub (.ptr z)) (EC hb)),zLz B hb,Y,trivial⟩ Y) ?_;refine vT ?_;refine jO Y Y (zX Y Y) ?_;refine jO Y Y (zX Y Y) ?_;refine je Y Y Y (fun _=>zX Y Y) ?_;refine je Y Y Y (fun _=>zX Y Y) ?_;refine je Y Y Y (fun _=>qk Y Y jo bL) ?_;refine kn (q:=[ei (k:Int),.agg (eCn (plN l at' pz (k:Int) n))]) (c:=true) Y Y Y Y (fun _=>rfl) (fun _=>rfl) (fun _=>by rw[hC];exact JP oM hb) Y Y Y Y Y (fun h=>absurd h dE) (fun _=>?_) (fun _=>?_)
    ·refine je Y Y Y (fun _=>q0 Y Y) ?_;refine jO Y Y (wm Y Y (fun _=>rfl) (fun h=>absurd h dE)) ?_;refine yS ?_;refine zV ?_;refine jM (b:=false) Y (fun h=>absurd h dE) (fun _=>?_);refine wQ ?_;refine vO ?_;refine zV ?_;refine jK ?_;refine Z4 ?_;exact⟨⟨k+1,oM⟩,by dsimp only;omega,by simp only[lJ,hb];rfl,zd _ rL Y⟩
    ·refine je Y Y Y (fun _=>q0 Y Y) ?_;refine jO Y Y (wm Y Y (fun _=>rfl) (fun h=>absurd h dE)) ?_;refine yS ?_;refine zV ?_;refine jM (b:=true) Y (fun _=>?_) (fun h=>absurd h dE);refine mq ?_;refine yR ?_;refine yK ?_;refine yK ?_;refine yR ?_;exact⟨.inr Y,Y,.inr ⟨_,Y⟩⟩
  ·have hge:10<=k:=by simp at h0;omega
   refine bI ?_;refine vj ?_;refine vj ?_;refine cw ?_;exact⟨.inl Y,Y,.inl (by rw[D3,show 10=k from oM])⟩
theorem f138(c:Cod)(l:TC)(n:Int × Int × Int)(at' pz:Int):ACall tP G 263 [.agg (jZ c l),.agg (eCn n),ei at',ei pz] (.fn 331 [] [.ptr (jZ c l),.ptr (eCn n),.ptr [ei at'],.ptr [ei pz]]):=by
 refine aC func263 ?_;refine Z16 ?_;exact aR
end Wr
end Go.Av
namespace Go.Av
namespace Wr
open Go.Proofs Tryz
def dg(m:List Int)(q j:Nat):Int:=if h:j<m.length then dig m[j] q else iP m q % 10
variable{m now:List Int}{a i j k p q:Nat}{f:Int}{c:Cod}{l:TC}{n:Int × Int × Int}{g:TB}
theorem Gj(h:j<m.length):dg m q j=dig m[j] q:=by unfold dg;rw[dif_pos h]
theorem NR(h:m.length<=j):dg m q j=iP m q % 10:=by unfold dg;rw[dif_neg oM]
theorem B1(hj:j<(aQ m).length)(hq:q<5):K5 (aQ m)[j] q=dg m q j:=by
 have hl:(aQ m).length=m.length+1:=by simp[aQ]
 by_cases h:j<m.length
 ·rw[Gj h];have e:(aQ m)[j]=jn m[j]:=by simp[aQ,h]
  rw[e]
  match q,hq with
  |0,_=>rfl
  |1,_=>rfl
  |2,_=>rfl
  |3,_=>rfl
  |4,_=>rfl
 ·have hj':j=m.length:=oM;subst hj';rw[NR (zLl _)];have e:(aQ m)[m.length]'hj=chk m:=by simp[aQ]
  rw[e,←JY];simp only[jn,ckN]
  match q,hq with
  |0,_=>show _/10/10/10/10 % 10=_;omega
  |1,_=>show _/10/10/10 % 10=_;omega
  |2,_=>show _/10/10 % 10=_;omega
  |3,_=>show _/10 % 10=_;omega
  |4,_=>show _ % 10=_;omega
def pv(x:Int)(p:Nat):Int:=dv x (5-p)
theorem pv5(x:Int):pv x 5=x:=rfl
theorem me(x:Int)(h:p<5):pv x p=pv x (p+1)/10/\dig x p=pv x (p+1) % 10:=by
 match p,h with
 |0,_=>exact⟨rfl,rfl⟩
 |1,_=>exact⟨rfl,rfl⟩
 |2,_=>exact⟨rfl,rfl⟩
 |3,_=>exact⟨rfl,rfl⟩
 |4,_=>exact⟨rfl,rfl⟩
theorem Jl(x:Int)(h:p<5):pv x (p+1)=10*pv x p+dig x p:=by
 obtain⟨h1,h2⟩:=me x h;omega
theorem pv0{x:Int}(h:0<=x/\x<=99999):pv x 0=0:=by show x/10/10/10/10/10=0;omega
def wq:List Int->Nat->Nat->List Int
 |[],_,_=>[]
 |x::xs,p,0=>pv x p::wq xs p 0
 |x::xs,p,a+1=>pv x (p+1)::wq xs p a
theorem vq:∀(m:List Int)(p a:Nat),(wq m p a).length=m.length
 |[],_,_=>rfl
 |_::xs,p,0=>by simp[wq,vq xs p 0]
 |_::xs,p,a+1=>by simp[wq,vq xs p a]
theorem cK:∀(m:List Int)(p a:Nat),m.length<=a->wq m p a=wq m (p+1) 0
 |[],_,_,_=>rfl
 |_::_,_,0,h=>by simp at h
 |x::xs,p,a+1,h=>by simp only[wq];rw[cK xs p a (by simpa using h)]
theorem Iz:∀m:List Int,wq m 5 0=m
 |[]=>rfl
 |x::xs=>by simp only[wq,pv5];rw[Iz xs]
theorem kG:∀{m:List Int}{p a j:Nat}(h:j<m.length),(wq m p a)[j]'(by rw[vq];exact h)=pv m[j] (if j<a then p+1 else p)
 |x::xs,p,0,0,_=>rfl
 |x::xs,p,0,j+1,h=>by
  simp only[wq,List.getElem_cons_succ];rw[kG (by simpa using h)];simp
 |x::xs,p,a+1,0,_=>by simp[wq]
 |x::xs,p,a+1,j+1,h=>by
  simp only[wq,List.getElem_cons_succ];rw[kG (by simpa using h)];simp
theorem BC(h:a<m.length)(hp:p<5):wq m p (a+1)=(wq m p a).set a (10*pv m[a] p+dig m[a] p):=by
 refine List.ext_getElem (by simp[vq]) fun j h1 h2=>?_;have hj:j<m.length:=by simpa[vq]using h1
 rw[kG hj,List.getElem_set]
 by_cases e:a=j
 ·subst e;rw[zLc rfl,zLc oM,Jl _ hp]
 ·rw[zLy e,kG hj]
  by_cases h3:j<a
  ·rw[zLc h3,zLc oM]
  ·rw[zLy h3,zLy oM]
theorem B9(h:a<m.length)(hp:p<5)(hl:now.length=m.length)(hf:0<=f/\f<=9)(e:wq m p (a+1)=now.set a (10*(now.getD a 0)+f)):wq m p a=now/\f=dig m[a] p:=by
 have ha:a<now.length:=oM;have hg:now.getD a 0=now[a]:=by simp[zLv,zLe ha]
 have key:∀j(hj:j<m.length),pv m[j] (if j<a+1 then p+1 else p)=if a=j then 10*now[a]+f else now[j]'oM:=fun j hj=>by
  have h1:=kG (p:=p) (a:=a+1) hj;rw[←h1];simp only[e,hg];rw[List.getElem_set]
 have ka:=key a h;rw[zLc oM,zLc rfl]at ka;obtain⟨h1,h2⟩:=me m[a] hp;refine⟨List.ext_getElem (by rw[vq,hl]) fun j h3 h4=>?_,oM⟩;have hj:j<m.length:=by rwa[vq]at h3
 rw[kG hj]
 by_cases ej:a=j
 ·subst ej;rw[zLy oM];omega
 ·have:=key j hj;rw[zLy ej]at this;rw[←this]
  by_cases h5:j<a
  ·rw[zLc h5,zLc oM]
  ·rw[zLy h5,zLy oM]
def srch(c:Cod)(l:TC):Nat->Nat->Nat->Int->Int × Int × Int->List Int->List (List Int)
 |0,_,_,_,_,_=>[]
 |fu+1,pz,a,sum,n,now=>
  if pz=5 then(if kW c now then[now]else[])
  else if a=c.fields.length then(if jQ c l a pz (sum % 10) n then srch c l fu (pz+1) 0 0 (plN l a pz (sum % 10) n) now else[])
  else(kf c l a pz n).flatMap fun(f:Nat)=>srch c l fu pz (a+1) (sum+(f:Int)) (plN l a pz (f:Int) n) (now.set a (10*now.getD a 0+(f:Int)))
def stp(k:Nat):Nat->Nat->Nat->List (Nat × Nat)
 |0,_,_=>[]
 |fu+1,p,a=>if p=5 then[]else(p,a)::(if a=k then stp k fu (p+1) 0 else stp k fu p (a+1))
def ud(c:Cod)(l:TC)(m:List Int):List (Nat × Nat)->Int × Int × Int->Bool
 |[],_=>true
 |s::r,n=>jQ c l s.2 s.1 (dg m s.1 s.2) n&&ud c l m r (plN l s.2 s.1 (dg m s.1 s.2) n)
def xn(now:List Int)(a:Nat):Int:=(now.take a).foldl (fun s x=>s+x % 10) 0
theorem lV(h:a<now.length):xn now (a+1)=xn now a+now[a] % 10:=by
 unfold xn;rw[zLt h,List.foldl_append];rfl
theorem oQ{x:Int}:xn (now.set a x) a=xn now a:=by
 unfold xn;rw[List.take_set_of_le oM]
theorem Bw:∀(m:List Int)(p:Nat),p<5->xn (wq m p m.length) m.length=iP m p:=fun m p hp=>by
 have e:xn (wq m p m.length) m.length=(wq m p m.length).foldl (fun s x=>s+x % 10) 0:=by
  unfold xn;rw[zLk (by rw[vq];exact zLl _)]
 rw[e,cK m p _ (zLl _)];unfold iP
 have key:∀(m:List Int)(t:Int),(wq m (p+1) 0).foldl (fun s x=>s+x % 10) t=m.foldl (fun s n=>s+dig n p) t:=by
  intro m
  induction m with
  |nil=>intro t;rfl
  |cons x xs ih=>
   intro t;simp only[wq,List.foldl_cons];rw[ih,(me x hp).2]
 exact key m 0
theorem oJ{pz:Nat}{f:Nat}:f∈kf c l a pz n↔f<10/\jQ c l a pz (f:Int) n=true:=by
 simp[kf]
def kj(k pz a:Nat):Nat:=(5-pz)*(k+1)+(k-a)+1
theorem Ir(c:Cod)(l:TC):∀(fu pz a:Nat)(sum:Int)(n:Int × Int × Int)(now m:List Int),pz<=5->a<=c.fields.length->(pz=5->a=0)->kj c.fields.length pz a<=fu->now.length=c.fields.length->sum=xn now a->
  (m∈srch c l fu pz a sum n now↔kW c m=true/\wq m pz a=now/\ud c l m (stp c.fields.length fu pz a) n=true):=by
 intro fu
 induction fu with
 |zero=>intro pz a sum n now m _ _ _ h;unfold kj at h;omega
 |succ fu ih=>
  intro pz a sum n now m hp ha h5 hfu hl hs;simp only[srch,stp]
  by_cases e5:pz=5
  ·subst e5;have:=h5 rfl;subst this;rw[zLc rfl,zLc rfl,Iz];simp only[ud,and_true]
   by_cases hm:kW c now=true
   ·rw[zLc hm];simp only[zLh];constructor
    ·rintro rfl;exact⟨hm,rfl⟩
    ·exact fun h=>h.2
   ·rw[zLy hm];simp only[List.not_mem_nil,false_iff,not_and];rintro h rfl;exact hm h
  ·rw[zLy e5,zLy e5];have hp5:pz<5:=oM
   have hmu:(5-pz)*(c.fields.length+1)=(5-(pz+1))*(c.fields.length+1)+(c.fields.length+1):=by
    rw[←Nat.succ_mul];congr 1;omega
   simp only[ud]
   by_cases ea:a=c.fields.length
   ·rw[zLc ea,zLc ea];have ih':=ih (pz+1) 0 0 (plN l a pz (sum % 10) n) now m oM oM (fun _=>rfl) (by unfold kj at hfu⊢;omega) hl (by simp[xn])
    have hD:kW c m=true->wq m pz a=now->dg m pz a=sum % 10:=fun hm hpre=>by
     have hml:=msg_len hm;rw[NR oM,hs,←hpre,ea,←hml,Bw m pz hp5]
    have hP:m.length=c.fields.length->wq m pz a=wq m (pz+1) 0:=fun hm=>cK m pz a oM;constructor
    ·intro h;split at h
     ·rename_i hb
      rw[ih']at h;have hpre:wq m pz a=now:=by rw[hP (msg_len h.1)];exact h.2.1
      have hd:=hD h.1 hpre;refine⟨h.1,hpre,?_⟩;rw[hd,hb,Bool.true_and];exact h.2.2
     ·cases h
    ·rintro⟨h1,h2,h3⟩;have hd:=hD h1 h2;rw[hd,zLa]at h3;rw[zLc h3.1,ih'];exact⟨h1,by rw[←hP (msg_len h1)];exact h2,h3.2⟩
   ·rw[zLy ea,zLy ea];have halt:a<c.fields.length:=oM;have han:a<now.length:=oM;have hg:now.getD a 0=now[a]:=by simp[zLv,zLe han]
    have ih':∀f:Nat,f<10->(m∈srch c l fu pz (a+1) (sum+(f:Int)) (plN l a pz (f:Int) n) (now.set a (10*now.getD a 0+(f:Int)))↔kW c m=true/\wq m pz (a+1)=now.set a (10*now.getD a 0+(f:Int))/\ud c l m (stp c.fields.length fu pz (a+1)) (plN l a pz (f:Int) n)=true):=fun f hf=>
     ih pz (a+1) _ _ _ m hp oM (fun h=>absurd h e5) (by unfold kj at hfu⊢;omega) (by simpa using hl) (by
      rw[lV (by simpa using han),oQ,hs];simp only[List.getElem_set_self];omega)
    simp only[List.mem_flatMap,oJ];constructor
    ·rintro⟨f,⟨hf,hb⟩,h⟩;rw[ih' f hf]at h;have hml:=msg_len h.1;obtain⟨k1,k2⟩:=B9 (a:=a) oM hp5 oM oM h.2.1;refine⟨h.1,k1,?_⟩;rw[Gj (show a<m.length by omega),←k2,hb,Bool.true_and];exact h.2.2
    ·rintro⟨h1,h2,h3⟩;have hml:=msg_len h1;have hd:dg m pz a=dig (m[a]'oM) pz:=Gj oM;have hb:=Qy (n:=m[a]'oM) pz;have hf:(((dig (m[a]'oM) pz).toNat:Nat):Int)=dig (m[a]'oM) pz:=oM;rw[hd,zLa]at h3;refine⟨(dig (m[a]'oM) pz).toNat,⟨oM,by rw[hf];exact h3.1⟩,?_⟩;rw[ih' _ oM,hf];refine⟨h1,?_,h3.2⟩;rw[BC oM hp5,h2,hg];congr 2;have:=kG (m:=m) (p:=pz) (a:=a) (j:=a) oM;rw[zLy oM]at this;rw[←this];simp only[h2]
def okS(c:Cod)(l:TC)(m:List Int)(i:Nat):List (Nat × Nat)->Int->Bool
 |[],_=>true
 |s::r,x=>okQ c l s.2 s.1 (dg m s.1 s.2) i x&&okS c l m i r (x+wP l s.2 s.1 (dg m s.1 s.2) i)
theorem sk(c:Cod)(l:TC)(m:List Int):∀(S:List (Nat × Nat))(n:Int × Int × Int),ud c l m S n=(okS c l m 0 S n.1&&(okS c l m 1 S n.2.1&&okS c l m 2 S n.2.2))
 |[],_=>rfl
 |s::r,n=>by
  simp only[ud,okS,sk c l m r,jQ,plN]
  cases okQ c l s.2 s.1 (dg m s.1 s.2) 0 n.1<;>cases okQ c l s.2 s.1 (dg m s.1 s.2) 1 n.2.1<;>cases okQ c l s.2 s.1 (dg m s.1 s.2) 2 n.2.2<;>
   cases okS c l m 0 r (n.1+wP l s.2 s.1 (dg m s.1 s.2) 0)<;>cases okS c l m 1 r (n.2.1+wP l s.2 s.1 (dg m s.1 s.2) 1)<;>cases okS c l m 2 r (n.2.2+wP l s.2 s.1 (dg m s.1 s.2) 2)<;>rfl
theorem Bc(h:l.length<=i):∀(S:List (Nat × Nat))(x:Int),okS c l m i S x=true
 |[],_=>rfl
 |s::r,x=>by simp only[okS,kw h,Bc h r,Bool.and_self]
def rcv(m:List Int)(g:TB)(s:Nat × Nat):Int × Int:=(chF g s.2 s.1,dg m s.1 s.2)
def bO(m:List Int)(g:TB)(S:List (Nat × Nat)):Int:=S.foldr (fun s t=>wrN (rcv m g s)+t) 0
theorem As(m:List Int)(g:TB):∀S,0<=bO m g S
 |[]=>Int.le_refl _
 |s::r=>by
  have h1:=As m g r;have h2:=OP (rcv m g s);show 0<=wrN _+bO m g r;omega
theorem uX(h:i<l.length):∀(S:List (Nat × Nat))(x:Int),x<=c.most->okS c l m i S x=(S.all (fun s=>okP c (rcv m l[i] s))&&decide (x+bO m l[i] S<=c.most))
 |[],x,hx=>by simp[okS,bO,hx]
 |s::r,x,hx=>by
  have hw:wP l s.2 s.1 (dg m s.1 s.2) i=wrN (rcv m l[i] s):=by unfold wP rcv;rw[dif_pos h]
  have hq:okQ c l s.2 s.1 (dg m s.1 s.2) i x=(okP c (rcv m l[i] s)&&decide (x+wrN (rcv m l[i] s)<=c.most)):=by unfold okQ rcv;rw[dif_pos h]
  have hs:bO m l[i] (s::r)=wrN (rcv m l[i] s)+bO m l[i] r:=rfl;have hb:=As m l[i] r;simp only[okS,hw,hq,List.all_cons,hs]
  by_cases hle:x+wrN (rcv m l[i] s)<=c.most
  ·rw[uX h r _ hle,decide_eq_true hle,Bool.and_true,Bool.and_assoc];congr 3;rw[Int.add_assoc]
  ·rw[decide_eq_false hle,Bool.and_false,Bool.false_and,decide_eq_false oM,Bool.and_false]
theorem lK{xs:List (Int × Int)}{F:Nat->Int × Int}:∀k,k<=xs.length->(∀q(h:q<xs.length),xs[q]=F q)->pz (xs.take k)=j3 k (fun q=>wrN (F q))
 |0,_,_=>by simp[pz,j3]
 |k+1,hk,h=>by rw[Cb oM,lK k oM h,h k oM];rfl
theorem ly{L:List (List (Int × Int))}{F:Nat->Nat->Int × Int}:∀k,k<=L.length->(∀j(h:j<L.length),pz L[j]=j3 5 (fun q=>wrN (F j q)))->uo (L.take k)=j3 k (fun j=>j3 5 (fun q=>wrN (F j q)))
 |0,_,_=>by simp[uo,j3]
 |k+1,hk,h=>by rw[DC oM,ly k oM h,h k oM];rfl
def grid(k:Nat):List (Nat × Nat):=(List.range 5).flatMap fun q=>(List.range (k+1)).map fun j=>(q,j)
theorem sg{s:Nat × Nat}:s∈grid k↔s.1<5/\s.2<=k:=by
 obtain⟨q,j⟩:=s;simp[grid];omega
theorem sf(h:1<=k/\k<=3):stp k 24 0 0=grid k:=by
 have:k=1∨k=2∨k=3:=oM;rcases this with rfl|rfl|rfl<;>rfl
theorem Df(h:1<=k/\k<=3)(m:List Int)(g:TB):bO m g (grid k)=j3 5 (fun q=>j3 (k+1) (fun j=>wrN (rcv m g (q,j)))):=by
 have:k=1∨k=2∨k=3:=oM;rcases this with rfl|rfl|rfl
 ·show bO m g [(0,0),(0,1),(1,0),(1,1),(2,0),(2,1),(3,0),(3,1),(4,0),(4,1)]=_;simp only[bO,List.foldr_cons,List.foldr_nil,j3];omega
 ·show bO m g [(0,0),(0,1),(0,2),(1,0),(1,1),(1,2),(2,0),(2,1),(2,2),(3,0),(3,1),(3,2),(4,0),(4,1),(4,2)]=_;simp only[bO,List.foldr_cons,List.foldr_nil,j3];omega
 ·show bO m g [(0,0),(0,1),(0,2),(0,3),(1,0),(1,1),(1,2),(1,3),(2,0),(2,1),(2,2),(2,3),(3,0),(3,1),(3,2),(3,3),(4,0),(4,1),(4,2),(4,3)]=_;simp only[bO,List.foldr_cons,List.foldr_nil,j3];omega
theorem cod_bd(h:codB c=true):(1<=c.fields.length/\c.fields.length<=3)/\0<=c.most/\c.most<=2:=by
 simp only[codB,zLa,inB_iff]at h;omega
theorem DL(hm:kW c m=true)(hg:vu c g=true):(prs m g).length=c.fields.length+1/\∀j(h:j<(prs m g).length),((prs m g)[j]).length=5/\∀q(h2:q<((prs m g)[j]).length),(prs m g)[j][q]=rcv m g (q,j):=by
 obtain⟨h1,h2⟩:=DX hg;have hml:=msg_len hm;have hgl:(aQ m).length=m.length+1:=by simp[aQ]
 have hpl:(prs m g).length=c.fields.length+1:=by simp[prs];omega
 refine⟨hpl,fun j h=>?_⟩;have hjg:j<(aQ m).length:=oM;have hj:j<g.length:=oM;have h5:=ca (h2 _ (zLm hj));have e:=Ox hjg hj;have hl:((prs m g)[j]).length=5:=by rw[e,fK h5]
 refine⟨hl,fun q hq=>?_⟩;have hq5:q<5:=oM;have e2:(prs m g)[j][q]=(five (aQ m)[j] g[j])[q]'(by rw[fK h5];exact hq5):=by simp only[e]
 rw[e2,KV h5 hq5,B1 hjg hq5];unfold rcv chF;have e3:g.getD j []=g[j]:=by rw[zLv,zLe hj,Option.getD_some]
 have e4:g[j].getD q 0=g[j][q]'oM:=by rw[zLv,zLe oM,Option.getD_some]
 rw[e3,e4]
theorem BZ(hc:codB c=true)(hm:kW c m=true)(hg:vu c g=true):((grid c.fields.length).all (fun s=>okP c (rcv m g s))&&decide (0+bO m g (grid c.fields.length)<=c.most))=JC c m g:=by
 obtain⟨hpl,hp⟩:=DL hm hg;have hcb:=cod_bd hc
 have hcnt:uo (prs m g)=j3 (c.fields.length+1) (fun j=>j3 5 (fun q=>wrN (rcv m g (q,j)))):=by
  have:=ly (L:=prs m g) (F:=fun j q=>rcv m g (q,j)) _ (zLl _) (fun j h=>by
   have:=lK (xs:=(prs m g)[j]) (F:=fun q=>rcv m g (q,j)) 5 (by rw[(hp j h).1];exact zLl _) (hp j h).2;rwa[zLk (by rw[(hp j h).1];exact zLl _)]at this)
  rwa[zLk (zLl _),hpl]at this
 unfold JC;rw[Df hcb.1,BR,hcnt,Int.zero_add];congr 1;rw[Bool.eq_iff_iff,zLu,zLu];constructor
 ·intro h xs hx;obtain⟨j,hj,rfl⟩:=List.mem_iff_getElem.1 hx;rw[zLu];intro y hy;obtain⟨q,hq,rfl⟩:=List.mem_iff_getElem.1 hy;rw[(hp j hj).2 q hq];exact h (q,j) (sg.2 ⟨by rw[(hp j hj).1]at hq;exact hq,oM⟩)
 ·intro h;rintro⟨q,j⟩ hs;have hs:=sg.1 hs;have hj:j<(prs m g).length:=by rw[hpl];have:=hs.2;simp only at this;omega
  have h2:=zLu.1 (h _ (zLm hj));have hq:q<((prs m g)[j]).length:=by rw[(hp j hj).1];exact hs.1
  have:=h2 _ (zLm hq);rwa[(hp j hj).2 q hq]at this
def msgs(c:Cod)(l:TC):List (List Int):=sortL (srch c l 24 0 0 0 (0,0,0) (List.replicate c.fields.length 0))
theorem AW:∀{m:List Int},(∀x∈m,0<=x/\x<=99999)->wq m 0 0=List.replicate m.length 0
 |[],_=>rfl
 |x::xs,h=>by
  simp only[wq,List.length_cons,List.replicate_succ];rw[pv0 (h x (zL1 ..)),AW (fun y hy=>h y (zL3 _ hy))]
theorem mem_msgs(hc:codB c=true)(hl:l.length<=3)(hcp:∀g∈l,vu c g=true):m∈msgs c l↔kW c m=true/\∀g∈l,JC c m g=true:=by
 have hcb:=cod_bd hc;unfold msgs;rw[BN,Ir c l 24 0 0 0 (0,0,0) _ m oM oM oM (by unfold kj;omega) sI (by simp[xn]),sf hcb.1,sk]
 have hpre:kW c m=true->wq m 0 0=List.replicate c.fields.length 0:=fun hm=>by
  rw[AW (Re hc hm),msg_len hm]
 have hone:∀i,kW c m=true->(i<l.length->okS c l m i (grid c.fields.length) 0=JC c m (l.getD i [])):=fun i hm hi=>by
  rw[uX hi _ _ oM];have e:l.getD i []=l[i]:=by rw[zLv,zLe hi,Option.getD_some]
  rw[e,BZ hc hm (hcp _ (zLm hi))]
 constructor
 ·rintro⟨hm,_,h⟩;refine⟨hm,fun g hg=>?_⟩;obtain⟨i,hi,rfl⟩:=List.mem_iff_getElem.1 hg;simp only[zLa]at h;have e:l.getD i []=l[i]:=by rw[zLv,zLe hi,Option.getD_some]
  rw[←e,←hone i hm hi];have:i=0∨i=1∨i=2:=oM;rcases this with rfl|rfl|rfl
  ·exact h.1
  ·exact h.2.1
  ·exact h.2.2
 ·rintro⟨hm,h⟩;refine⟨hm,hpre hm,?_⟩
  have key:∀i,okS c l m i (grid c.fields.length) 0=true:=fun i=>by
   by_cases hi:i<l.length
   ·rw[hone i hm hi];have e:l.getD i []=l[i]:=by rw[zLv,zLe hi,Option.getD_some]
    rw[e];exact h _ (zLm hi)
   ·exact Bc oM _ _
  simp only[key,Bool.and_self]
def dZ(pz a:Nat)(now:List Int):Prop:=∀j(h:j<now.length),0<=now[j]/\now[j]<10^(if j<a then pz+1 else pz)
theorem FN{pz:Nat}(h:dZ pz a now)(ha:a<now.length)(hp:pz<5):0<=now[a]/\now[a]<=9999:=by
 have:=h a ha;rw[zLy oM]at this;have hq:pz=0∨pz=1∨pz=2∨pz=3∨pz=4:=oM;rcases hq with rfl|rfl|rfl|rfl|rfl<;>(simp at this;omega)
theorem tN{pz:Nat}(h:dZ pz a now)(ha:a<now.length)(hf:0<=f/\f<=9):dZ pz (a+1) (now.set a (10*now[a]+f)):=by
 intro j hj;have hj':j<now.length:=by simpa using hj
 have h1:=h j hj';rw[List.getElem_set]
 by_cases e:a=j
 ·subst e;rw[zLy oM]at h1;rw[zLc rfl,zLc oM,Int.pow_succ];omega
 ·rw[zLy e]
  by_cases h2:j<a
  ·rw[zLc h2]at h1;rw[zLc oM];exact h1
  ·rw[zLy h2]at h1;rw[zLy oM];exact h1
theorem sT{pz:Nat}(h:dZ pz a now)(ha:now.length<=a):dZ (pz+1) 0 now:=by
 intro j hj;have:=h j hj;rw[zLc oM]at this;rw[zLy oM];exact this
theorem Ko(k:Nat):dZ 0 0 (List.replicate k 0):=by
 intro j hj;simp
def pC(n:Int × Int × Int):Prop:=(0<=n.1/\n.1<=2)/\(0<=n.2.1/\n.2.1<=2)/\0<=n.2.2/\n.2.2<=2
theorem ut{pz:Nat}{n:Int}(hc:codB c=true)(h:okQ c l a pz f i n=true)(hn:0<=n/\n<=2):0<=n+wP l a pz f i/\n+wP l a pz f i<=2:=by
 have hb:=dL l a pz f i;have hcb:=cod_bd hc
 by_cases hi:i<l.length
 ·unfold okQ at h;rw[dif_pos hi,zLa,zLd]at h;have e:wP l a pz f i=wrN (chF l[i] a pz,f):=by unfold wP;rw[dif_pos hi]
  have h2:=h.2;rw[←e]at h2;omega
 ·rw[bc oM];omega
theorem sF{pz:Nat}(hc:codB c=true)(h:jQ c l a pz f n=true)(hn:pC n):pC (plN l a pz f n):=by
 simp only[jQ,zLa]at h;exact⟨ut hc h.1 hn.1,ut hc h.2.1 hn.2.1,ut hc h.2.2 hn.2.2⟩
theorem KG(now:List Int):∀a:Nat,0<=xn now a/\xn now a<=9*a:=by
 intro a
 have key:∀(l:List Int)(t:Int),t<=l.foldl (fun s x=>s+x % 10) t/\l.foldl (fun s x=>s+x % 10) t<=t+9*l.length:=by
  intro l
  induction l with
  |nil=>intro t;simp
  |cons x l ih=>
   intro t;have:=ih (t+x % 10);simp only[List.foldl_cons,List.length_cons];omega
 have h:=key (now.take a) 0;have:((now.take a).length:Int)<=a:=by simp;omega
 unfold xn;omega
def Bd(k:Nat)(g:TB):List (Nat × Nat)->Nat->Nat
 |[],_=>1
 |s::r,b=>if s.2=k then Bd k g r b else if chF g s.2 s.1=63 then 10*Bd k g r b else Bd k g r b+9*(match b with
  |0=>0
  |b'+1=>Bd k g r b')
theorem eT(k:Nat)(g:TB):∀(S:List (Nat × Nat))(b:Nat),Bd k g S b<=Bd k g S (b+1)
 |[],_=>zLl _
 |s::r,b=>by
  have h1:=eT k g r b;simp only[Bd];split
  ·exact h1
  ·split
   ·omega
   ·cases b with
    |zero=>simp only;omega
    |succ b=>
     have h2:=eT k g r b;simp only;omega
theorem HT(k:Nat)(g:TB)(S:List (Nat × Nat)){b b':Nat}(h:b<=b'):Bd k g S b<=Bd k g S b':=by
 induction h with
 |refl=>exact zLl _
 |step _ ih=>exact zL6 ih (eT ..)
def xh(g:TB)(S:List (Nat × Nat)):Nat:=(S.filter fun s=>chF g s.2 s.1==63).length
theorem IA(k:Nat)(g:TB):∀(S:List (Nat × Nat)),Bd k g S 0<=10^xh g S/\Bd k g S 1<=10^xh g S*(1+9*S.length)/\Bd k g S 2<=10^xh g S*((1+9*S.length)*(1+9*S.length))
 |[]=>by simp[Bd,xh]
 |s::r=>by
  obtain⟨h0,h1,h2⟩:=IA k g r
  have hH:xh g (s::r)=if chF g s.2 s.1=63 then xh g r+1 else xh g r:=by
   unfold xh;rw[List.filter_cons]
   by_cases e:chF g s.2 s.1=63<;>simp[e]
  rw[hH];simp only[Bd,List.length_cons];generalize hy:1+9*r.length=y at*;have hy2:1+9*(r.length+1)=y+9:=oM;rw[hy2]
  have hm:∀x:Nat,x*((y+9)*(y+9))=x*(y*y)+18*(x*y)+81*x:=fun x=>by
   have e1:(y+9)*(y+9)=y*y+18*y+81:=by rw[Nat.add_mul,Nat.mul_add];omega
   have e2:x*(18*y)=18*(x*y):=Nat.mul_left_comm ..;rw[e1,Nat.mul_add,Nat.mul_add,e2];omega
  have hm1:∀x:Nat,x*(y+9)=x*y+9*x:=fun x=>by rw[Nat.mul_add];omega
  by_cases e:chF g s.2 s.1=63
  ·simp only[e,if_true];have hp:10^(xh g r+1)=10*10^xh g r:=by rw[Nat.pow_succ];omega
   rw[hp,hm,hm1];generalize 10^xh g r=x at*;have e1:10*x*y=10*(x*y):=Nat.mul_assoc ..;have e2:10*x*(y*y)=10*(x*(y*y)):=Nat.mul_assoc ..;rw[e1,e2]
   by_cases ek:s.2=k
   ·simp only[ek,if_true];omega
   ·simp only[ek,if_false];omega
  ·simp only[e,if_false];rw[hm,hm1];generalize 10^xh g r=x at*
   by_cases ek:s.2=k
   ·simp only[ek,if_true];omega
   ·simp only[ek,if_false];omega
theorem FZ(c:Cod)(hc:codB c=true)(l:TC)(hl:0<l.length):∀(fu pz a:Nat)(sum:Int)(n:Int × Int × Int)(now:List Int),n.1<=c.most->
  (srch c l fu pz a sum n now).length<=Bd c.fields.length l[0] (stp c.fields.length fu pz a) (c.most-n.1).toNat:=by
 intro fu
 induction fu with
 |zero=>intro pz a sum n now _;simp[srch]
 |succ fu ih=>
  intro pz a sum n now hn;simp only[srch,stp]
  have hstep:∀f:Int,jQ c l a pz f n=true->(plN l a pz f n).1<=c.most/\n.1<=(plN l a pz f n).1/\(rgt (chF l[0] a pz) f=false->(plN l a pz f n).1=n.1+1):=fun f h=>by
   simp only[jQ,zLa]at h;have h0:=h.1;unfold okQ at h0;rw[dif_pos hl,zLa,zLd]at h0;have hb:=dL l a pz f 0;have e:wP l a pz f 0=wrN (chF l[0] a pz,f):=by unfold wP;rw[dif_pos hl]
   have e2:(plN l a pz f n).1=n.1+wP l a pz f 0:=rfl;have h02:=h0.2;rw[←e]at h02;rw[e2];refine⟨h02,oM,fun hr=>?_⟩;rw[e];unfold wrN;simp only[hr,Bool.false_eq_true,if_false]
  split
  ·split<;>simp[Bd]
  ·split
   ·rename_i ea
    simp only[Bd];rw[zLc ea];split
    ·rename_i hb
     obtain⟨h1,h2,_⟩:=hstep _ hb;have h4:(c.most-(plN l a pz (sum % 10) n).1).toNat<=(c.most-n.1).toNat:=oM;exact zL6 (ih _ _ _ _ _ h1) (HT _ _ _ h4)
    ·exact Nat.zero_le _
   ·rename_i ea
    simp only[Bd];rw[zLy ea,List.length_flatMap]
    -- each figure's share
    have hsh:∀f:Nat,jQ c l a pz (f:Int) n=true->(srch c l fu pz (a+1) (sum+(f:Int)) (plN l a pz (f:Int) n) (now.set a (10*now.getD a 0+(f:Int)))).length<=Bd c.fields.length l[0] (stp c.fields.length fu pz (a+1)) (c.most-n.1).toNat:=fun f hf=>by
     obtain⟨h1,h2,_⟩:=hstep _ hf;have h4:(c.most-(plN l a pz (f:Int) n).1).toNat<=(c.most-n.1).toNat:=oM;exact zL6 (ih _ _ _ _ _ h1) (HT _ _ _ h4)
    have hsh2:∀f:Nat,jQ c l a pz (f:Int) n=true->rgt (chF l[0] a pz) (f:Int)=false->(srch c l fu pz (a+1) (sum+(f:Int)) (plN l a pz (f:Int) n) (now.set a (10*now.getD a 0+(f:Int)))).length<=(match(c.most-n.1).toNat with|0=>0|b'+1=>Bd c.fields.length l[0] (stp c.fields.length fu pz (a+1)) b'):=fun f hf hr=>by
     obtain⟨h1,h2,h3⟩:=hstep _ hf;have h3:=h3 hr;have:=ih pz (a+1) (sum+(f:Int)) _ (now.set a (10*now.getD a 0+(f:Int))) h1;rw[h3]at this;cases hb:(c.most-n.1).toNat with
     |zero=>omega
     |succ b=>
      have e:(c.most-(n.1+1)).toNat=b:=oM;rw[e]at this;exact this
    generalize hB:Bd c.fields.length l[0] (stp c.fields.length fu pz (a+1)) (c.most-n.1).toNat=B at*;generalize hD:(match(c.most-n.1).toNat with|0=>0|b'+1=>Bd c.fields.length l[0] (stp c.fields.length fu pz (a+1)) b')=D at*;generalize hF:(fun(f:Nat)=>(srch c l fu pz (a+1) (sum+(f:Int)) (plN l a pz (f:Int) n) (now.set a (10*now.getD a 0+(f:Int)))).length)=F at*;have hF1:∀f:Nat,jQ c l a pz (f:Int) n=true->F f<=B:=fun f hf=>by rw[←hF];exact hsh f hf
    have hF2:∀f:Nat,jQ c l a pz (f:Int) n=true->rgt (chF l[0] a pz) (f:Int)=false->F f<=D:=fun f hf hr=>by rw[←hF];exact hsh2 f hf hr
    unfold kf
    have hsum:∀(p:Nat->Bool)(G:Nat->Nat),(∀f,p f=true->F f<=G f)->(((List.range 10).filter p).map F).sum<=((List.range 10).map G).sum:=fun p G h=>by
     have:∀L:List Nat,((L.filter p).map F).sum<=(L.map G).sum:=fun L=>by
      induction L with
      |nil=>simp
      |cons x L ih=>
       rw[List.filter_cons];cases hx:p x with
       |true=>
        have:=h x hx;simp only[if_true,List.map_cons,List.sum_cons];omega
       |false=>
        simp only[Bool.false_eq_true,if_false,List.map_cons,List.sum_cons];omega
     exact this _
    split
    ·refine zL6 (hsum _ (fun _=>B) hF1) ?_;simp[List.range_succ];omega
    ·rename_i h63
     refine zL6 (hsum _ (fun f=>if rgt (chF l[0] a pz) (f:Int)=true then B else D) (fun f hf=>?_)) ?_
     ·split
      ·exact hF1 f hf
      ·rename_i hr
       exact hF2 f hf (by simpa using hr)
     ·have hr:∀f:Nat,rgt (chF l[0] a pz) (f:Int)=true↔chF l[0] a pz-48=(f:Int):=fun f=>by
       unfold rgt;simp[h63]
      simp only[hr];have:List.range 10=[0,1,2,3,4,5,6,7,8,9]:=rfl;rw[this];simp only[List.map_cons,List.map_nil,List.sum_cons,List.sum_nil];generalize chF l[0] a pz-48=x
      by_cases h0:x=((0:Nat):Int)
      ·subst h0;simp;omega
      by_cases h1:x=((1:Nat):Int)
      ·subst h1;simp;omega
      by_cases h2:x=((2:Nat):Int)
      ·subst h2;simp;omega
      by_cases h3:x=((3:Nat):Int)
      ·subst h3;simp;omega
      by_cases h4:x=((4:Nat):Int)
      ·subst h4;simp;omega
      by_cases h5:x=((5:Nat):Int)
      ·subst h5;simp;omega
      by_cases h6:x=((6:Nat):Int)
      ·subst h6;simp;omega
      by_cases h7:x=((7:Nat):Int)
      ·subst h7;simp;omega
      by_cases h8:x=((8:Nat):Int)
      ·subst h8;simp;omega
      by_cases h9:x=((9:Nat):Int)
      ·subst h9;simp;omega
      rw[zLy h0,zLy h1,zLy h2,zLy h3,zLy h4,zLy h5,zLy h6,zLy h7,zLy h8,zLy h9]
      -- no figure is right: ten shares of what is left
      have hDB:D<=B:=by
       rw[←hD,←hB];cases(c.most-n.1).toNat with
       |zero=>exact Nat.zero_le _
       |succ b=>exact eT ..
      omega
theorem EA(hc:codB c=true)(hg:vu c g=true):xh g (grid c.fields.length)<=2:=by
 have hcb:=cod_bd hc;have hcp:=DX hg;have hle:hlN g<=2:=by simp only[vu,zLa,zLd]at hg;exact hg.2.2
 have h1:∀k,k<=g.length->hlN (g.take k)=j3 k (fun j=>j3 5 (fun q=>if chF g j q=63 then 1 else 0)):=fun k=>by
  induction k with
  |zero=>intro _;simp[hlN,j3]
  |succ k ih=>
   intro hk;have hkl:k<g.length:=oM;rw[pg hkl,ih oM];simp only[j3];have h5:=ca (hcp.2 _ (zLm hkl));have e1:g.getD k []=g[k]:=by rw[zLv,zLe hkl,Option.getD_some]
   have h2:∀q,q<=5->hl1 (g[k].take q)=j3 q (fun q=>if chF g k q=63 then 1 else 0):=fun q=>by
    induction q with
    |zero=>intro _;simp[hl1,j3]
    |succ q ih=>
     intro hq;have hql:q<g[k].length:=oM;rw[oU hql,ih oM];simp only[j3]
     have e2:chF g k q=(g[k][q].toNat:Int):=by
      unfold chF;rw[e1,zLv,zLe hql,Option.getD_some]
     rw[e2];congr 1
     by_cases e:g[k][q].toNat=63
     ·rw[zLc e,zLc oM]
     ·rw[zLy e,zLy oM]
   have:=h2 5 oM;rw[zLk oM]at this;rw[this];rfl
 have h2:=h1 g.length (zLl _);rw[zLk (zLl _)]at h2;have hgl:g.length=c.fields.length+1:=oM;rw[h2,hgl]at hle
 have key:∀(S:List (Nat × Nat)),(xh g S:Int)=S.foldr (fun s t=>(if chF g s.2 s.1=63 then(1:Int)else 0)+t) 0:=fun S=>by
  induction S with
  |nil=>rfl
  |cons s S ih=>
   simp only[List.foldr_cons,←ih];unfold xh;rw[List.filter_cons]
   by_cases e:chF g s.2 s.1=63
   ·simp[e];omega
   ·simp[e]
 have:(xh g (grid c.fields.length):Int)<=2:=by
  rw[key];have hk:c.fields.length=1∨c.fields.length=2∨c.fields.length=3:=oM;rcases hk with hk|hk|hk
  ·rw[hk]at hle⊢;show List.foldr _ _ [(0,0),(0,1),(1,0),(1,1),(2,0),(2,1),(3,0),(3,1),(4,0),(4,1)]<=_;simp only[j3,List.foldr_cons,List.foldr_nil]at hle⊢;omega
  ·rw[hk]at hle⊢;show List.foldr _ _ [(0,0),(0,1),(0,2),(1,0),(1,1),(1,2),(2,0),(2,1),(2,2),(3,0),(3,1),(3,2),(4,0),(4,1),(4,2)]<=_;simp only[j3,List.foldr_cons,List.foldr_nil]at hle⊢;omega
  ·rw[hk]at hle⊢;show List.foldr _ _ [(0,0),(0,1),(0,2),(0,3),(1,0),(1,1),(1,2),(1,3),(2,0),(2,1),(2,2),(2,3),(3,0),(3,1),(3,2),(3,3),(4,0),(4,1),(4,2),(4,3)]<=_;simp only[j3,List.foldr_cons,List.foldr_nil]at hle⊢;omega
 omega
theorem rQ(hc:codB c=true)(hl:0<l.length)(hcp:∀g∈l,vu c g=true):(srch c l 24 0 0 0 (0,0,0) (List.replicate c.fields.length 0)).length<=4000000:=by
 have hcb:=cod_bd hc;have h1:=FZ c hc l hl 24 0 0 0 (0,0,0) (List.replicate c.fields.length 0) oM;rw[sf hcb.1]at h1;have h2:=EA hc (hcp _ (zLm hl));have h3:=HT c.fields.length l[0] (grid c.fields.length) (b:=(c.most-0).toNat) (b':=2) oM;have h4:=(IA c.fields.length l[0] (grid c.fields.length)).2.2
 have h5:(grid c.fields.length).length<=20:=by
  have hk:c.fields.length=1∨c.fields.length=2∨c.fields.length=3:=oM;rcases hk with hk|hk|hk<;>(rw[hk];decide)
 have h6:10^xh l[0] (grid c.fields.length)<=10^2:=Nat.pow_le_pow_right oM h2;have h7:(1+9*(grid c.fields.length).length)*(1+9*(grid c.fields.length).length)<=181*181:=Nat.mul_le_mul oM oM;have h8:=Nat.mul_le_mul h6 h7;exact zL6 h1 (zL6 h3 (zL6 h4 (zL6 h8 dE)))
end Wr
end Go.Av
end
