import Derived.Test.YtigbomcjnlikjaaGreatDoorFc
import Derived.Test.YtigbomcjnlikjaaGreatDoorChA
import Derived.Lib.Hide
set_option linter.unusedVariables false
set_option linter.unusedSimpArgs false
set_option maxRecDepth 100000
set_option maxHeartbeats 9000000
section
namespace Go.Av
namespace Ct
open Go.Proofs Tryz
variable{G:Glob}
def maxL(l:List Int):Int:=l.foldl max (l.headD 0)
def minL(l:List Int):Int:=l.foldl min (l.headD 0)
def d5(w r:Int):TA:=[.v (.int .i64 w),.v (.int .i64 r)]
def qo(m:Mp):TA:=eMp m++d5 m.wide m.rows
variable{l:List Int}{k:Nat}{p:Int}{m:Mp}
theorem pw(h:0<l.length):l.headD 0=l[0]:=by
 cases l with
 |nil=>simp at h
 |cons x xs=>rfl
theorem oK(a b:Int):maxL [a,b]=max a b:=by simp[maxL]
theorem Gk(a b:Int):minL [a,b]=min a b:=by simp[minL]
theorem lE{f:Int->Int->Int}{a:Int}(h:k<l.length):(l.take (k+1)).foldl f a=f ((l.take k).foldl f a) l[k]:=by
 rw[zLt h,List.foldl_append];rfl
theorem f136(l:List Int)(h:0<l.length)(hl:l.length<=1000):ACall tP G 313 [eInts l] (.v (.int .i64 (maxL l))):=by
 have hh:=pw h;refine aC func313 ?_;refine Z8 ?_;refine zb (zc Y Y Y zY oM (zA h) zn) (Z13 ?_);refine zD (ι:={k:Nat//k<=l.length}) (fun k=>⟨Tryz.f313.ntmps,frL [(3,I ((l.take k.1).foldl max l[0])),(9,.pub (eInts l)),(10,I (l.length:Int)),(11,I (k.1:Int))],[]⟩) (fun k=>l.length-k.1) (⟨0,sI⟩) ?_ ?_
 ·exact zd _ ⟨Y,Y,(zLz (fun x:Nat=>I (x:Int)) (zL8 _)),Y,trivial⟩ (Y)
 ·rintro⟨k,hk⟩;dsimp only;refine Z6 ?_;refine nC ?_ ?_<;>intro h0
  ·skip;have hlt:k<l.length:=by simpa using h0
   refine Z6 ?_;refine zb (zc Y Y Y zY oM (zA hlt) zn) (Z16 ?_);exact⟨⟨k+1,oM⟩,by dsimp only;omega,zd _ ⟨(zLz I (lE hlt).symm),Y,Y,Y,trivial⟩ (Y)⟩
  ·skip;have hge:l.length<=k:=by simpa using h0
   refine Z12 ?_;exact⟨.inr Y,AVle.of (by rw[zLk hge];unfold maxL;rw[hh])⟩
theorem f135(l:List Int)(h:0<l.length)(hl:l.length<=1000):ACall tP G 312 [eInts l] (.v (.int .i64 (minL l))):=by
 have hh:=pw h;refine aC func312 ?_;refine Z8 ?_;refine zb (zc Y Y Y zY oM (zA h) zn) (Z13 ?_);refine zD (ι:={k:Nat//k<=l.length}) (fun k=>⟨Tryz.f312.ntmps,frL [(3,I ((l.take k.1).foldl min l[0])),(9,.pub (eInts l)),(10,I (l.length:Int)),(11,I (k.1:Int))],[]⟩) (fun k=>l.length-k.1) (⟨0,sI⟩) ?_ ?_
 ·exact zd _ ⟨Y,Y,(zLz (fun x:Nat=>I (x:Int)) (zL8 _)),Y,trivial⟩ (Y)
 ·rintro⟨k,hk⟩;dsimp only;refine Z6 ?_;refine nC ?_ ?_<;>intro h0
  ·skip;have hlt:k<l.length:=by simpa using h0
   refine Z6 ?_;refine zb (zc Y Y Y zY oM (zA hlt) zn) (Z16 ?_);exact⟨⟨k+1,oM⟩,by dsimp only;omega,zd _ ⟨(zLz I (lE hlt).symm),Y,Y,Y,trivial⟩ (Y)⟩
  ·skip;have hge:l.length<=k:=by simpa using h0
   refine Z12 ?_;exact⟨.inr Y,AVle.of (by rw[zLk hge];unfold minL;rw[hh])⟩
theorem f105(a b:Int)(ha:-1000000000000<=a/\a<=1000000000000)(hb:-1000000000000<=b/\b<=1000000000000):ACall tP G 346 [.v (.int .i64 a),.v (.int .i64 b)] (.v (.int .i64 (eC a b))):=by
 refine aC func346 ?_;refine Z13 ?_;refine zb (zw (size:=1) (rows:=[[_],[_]]) Y underlying24 Xs Y dE Y dE ⟨_,_,Y,(jT Y),⟨_,_,Y,(jT Y),Y⟩⟩ rF (by simp[ofV]) Y sI) ?_;refine yc (f136 [_,_] sI sI) ?_;refine Z4 ?_;exact⟨.inr Y,AVle.of (by rw[oK];rfl)⟩
theorem f120(w r p:Int)(hw:1<=w)(hp:0<=p/\p<=100000):ACall tP G 347 [.agg (d5 w r),.v (.int .i64 p)] (.v (.int .i64 (p/w))):=by
 refine aC func347 ?_;refine Z11 ?_;refine zb (dH Y Y Y ⟨oM,oM,oM⟩) (Z4 ?_);exact aR
theorem f121(w r p:Int)(hw:1<=w)(hp:0<=p/\p<=100000):ACall tP G 348 [.agg (d5 w r),.v (.int .i64 p)] (.v (.int .i64 (p % w))):=by
 refine aC func348 ?_;refine Z11 ?_;refine zb (fW Y Y Y ⟨oM,oM⟩) (Z4 ?_);exact aR
theorem f119(w r a b:Int)(hw:1<=w/\w<=1000)(ha:0<=a/\a<=100000)(hb:0<=b/\b<=100000):ACall tP G 291 [.agg (d5 w r),.v (.int .i64 a),.v (.int .i64 b)] (.v (.int .i64 (jC w a b))):=by
 have h1:=dm hw.1 ha;have h2:=dm hw.1 hb;have h3:=fb (N:=100000) ⟨h1.1,h1.2.1⟩ ⟨h2.1,h2.2.1⟩;have h4:=fb (N:=w) ⟨h1.2.2.1,oM⟩ ⟨h2.2.2.1,oM⟩;refine aC func291 ?_;refine Z7 ?_;refine zN mixed nR Y ?_;refine Z2 ?_;refine zH Y (zi (av:=[_,_]) Y rL (f120 w r _ oM oM)) ?_;refine Z2 ?_;refine zH Y (zi (av:=[_,_]) Y rL (f120 w r _ oM oM)) (zH Y (zi (av:=[_,_]) Y rL (f105 _ _ oM oM)) ?_);refine Z2 ?_;refine zH Y (zi (av:=[_,_]) Y rL (f121 w r _ oM oM)) ?_;refine Z2 ?_;refine zH Y (zi (av:=[_,_]) Y rL (f121 w r _ oM oM)) (zH Y (zi (av:=[_,_]) Y rL (f105 _ _ oM oM)) ?_);refine Z5 ?_;exact aR
theorem KT{w sl:Int}{l:List Stn}(h:∀s∈l,s.lo<=99999/\0<=sl*jC w p s.pt):0<=kE w sl p l/\kE w sl p l<=99999:=
 w9 _ (fun a=>0<=a/\a<=99999) l 0 oM (fun b a ha hb=>by have:=h a ha;omega)
theorem Je{w sl:Int}{l:List Stn}(h:∀s∈l,0<=s.hi/\0<=sl*jC w p s.pt):0<=kF w sl p l/\kF w sl p l<=99999:=
 w9 _ (fun a=>0<=a/\a<=99999) l 99999 oM (fun b a ha hb=>by have:=h a ha;omega)
theorem okM.sd(hm:okM m)(hp:0<=p/\p<=30):∀s∈m.st,0<=jC m.wide p s.pt/\jC m.wide p s.pt<=36/\0<=m.slope*jC m.wide p s.pt/\m.slope*jC m.wide p s.pt<=500000:=fun s hs=>by
 obtain⟨m1,m2,m3,m4,m5,m6,m7,m8⟩:=hm;have h:=m8 s hs;have har:=area m1 m2 m3 m4;have hd:=mG (N:=30) (w:=m.wide) (a:=p) (b:=s.pt) m1 oM oM;have hsd:=NA m5 m6 hd.1 (by omega:jC m.wide p s.pt<=100);omega
theorem okM.lo(hm:okM m)(hp:0<=p/\p<=30)(k:Nat):0<=kE m.wide m.slope p (m.st.take k)/\kE m.wide m.slope p (m.st.take k)<=99999:=
 KT fun s hs=>by
  have h1:=hm.sd hp s (List.mem_of_mem_take hs);have h2:=hm.2.2.2.2.2.2.2 s (List.mem_of_mem_take hs);omega
theorem okM.hi(hm:okM m)(hp:0<=p/\p<=30)(k:Nat):0<=kF m.wide m.slope p (m.st.take k)/\kF m.wide m.slope p (m.st.take k)<=99999:=
 Je fun s hs=>by
  have h1:=hm.sd hp s (List.mem_of_mem_take hs);have h2:=hm.2.2.2.2.2.2.2 s (List.mem_of_mem_take hs);omega
theorem f114(m:Mp)(p:Int)(hm:okM m)(hp:0<=p/\p<=30):ACall tP G 243 [.agg (qo m),.v (.int .i64 p)] (.v (.int .i64 (kE m.wide m.slope p m.st))):=by
 refine aC func243 ?_;refine Z22 ?_;refine zD (ι:={k:Nat//k<=m.st.length}) (fun k=>⟨Tryz.f243.ntmps,frL [(1,I p),(2,.pub (.ptr (qo m))),(5,I (kE m.wide m.slope p (m.st.take k.1))),(10,.pub (.sl (m.st.map eStn))),(11,I (m.st.length:Int)),(12,I (k.1:Int))],[]⟩) (fun k=>m.st.length-k.1) (⟨0,sI⟩) ?_ ?_
 ·exact zd _ ⟨Y,Y,Y,Y,(zLz (fun x:Nat=>I (x:Int)) (zL8 _)),Y,trivial⟩ (Y)
 ·rintro⟨k,hk⟩;dsimp only;refine Z6 ?_;refine nC ?_ ?_<;>intro h0
  ·skip;have hlt:k<m.st.length:=by simpa using h0
   have hs:=hm.sd hp _ (zLm hlt);have hb:=hm.lo hp k;have ho:=hm;obtain⟨m1,m2,m3,m4,m5,m6,m7,m8⟩:=ho;have ht:=m8 _ (zLm hlt);have har:=area m1 m2 m3 m4;refine Z6 ?_;refine zb (zc Y Y Y wu oM (cE hlt) xY) (Z ?_);refine zI Y Y Y Y Y Y Y rA i6 Y rF (zF Y) Y (Z2 ?_);refine zN mixed nR Y ?_;refine Z12 ?_;refine zH Y (zi (av:=[_,_,_]) Y rL (f119 m.wide m.rows _ _ oM oM oM)) ?_;refine Z2 ?_;refine zH Y (zw (size:=1) (rows:=[[_],[_]]) Y underlying24 Xs Y dE Y dE ⟨_,_,Y,(jT Y),⟨_,_,Y,(jT Y),Y⟩⟩ rF (by simp[ofV]) Y sI) ?_;refine zH Y (zi (av:=[_]) Y rL (f136 [_,_] sI sI)) ?_;refine Z8 ?_;exact⟨⟨k+1,oM⟩,by dsimp only;omega,zd _ ⟨Y,Y,(zLz I ((oK _ _).trans (DK hlt).symm)),Y,Y,Y,trivial⟩ (Y)⟩
  ·skip;have hge:m.st.length<=k:=by simpa using h0
   refine Z12 ?_;exact⟨.inr Y,AVle.of (by rw[zLk hge])⟩
theorem f115(m:Mp)(p:Int)(hm:okM m)(hp:0<=p/\p<=30):ACall tP G 244 [.agg (qo m),.v (.int .i64 p)] (.v (.int .i64 (kF m.wide m.slope p m.st))):=by
 refine aC func244 ?_;refine Z22 ?_;refine zD (ι:={k:Nat//k<=m.st.length}) (fun k=>⟨Tryz.f244.ntmps,frL [(1,I p),(2,.pub (.ptr (qo m))),(5,I (kF m.wide m.slope p (m.st.take k.1))),(10,.pub (.sl (m.st.map eStn))),(11,I (m.st.length:Int)),(12,I (k.1:Int))],[]⟩) (fun k=>m.st.length-k.1) (⟨0,sI⟩) ?_ ?_
 ·exact zd _ ⟨Y,Y,Y,Y,(zLz (fun x:Nat=>I (x:Int)) (zL8 _)),Y,trivial⟩ (Y)
 ·rintro⟨k,hk⟩;dsimp only;refine Z6 ?_;refine nC ?_ ?_<;>intro h0
  ·skip;have hlt:k<m.st.length:=by simpa using h0
   have hs:=hm.sd hp _ (zLm hlt);have hb:=hm.hi hp k;have ho:=hm;obtain⟨m1,m2,m3,m4,m5,m6,m7,m8⟩:=ho;have ht:=m8 _ (zLm hlt);have har:=area m1 m2 m3 m4;refine Z6 ?_;refine zb (zc Y Y Y wu oM (cE hlt) xY) (Z ?_);refine zI Y Y Y Y Y Y Y rA i6 Y rF (zF Y) Y (Z2 ?_);refine zN mixed nR Y ?_;refine Z12 ?_;refine zH Y (zi (av:=[_,_,_]) Y rL (f119 m.wide m.rows _ _ oM oM oM)) ?_;refine Z2 ?_;refine zH Y (zw (size:=1) (rows:=[[_],[_]]) Y underlying24 Xs Y dE Y dE ⟨_,_,Y,(jT Y),⟨_,_,Y,(jT Y),Y⟩⟩ rF (by simp[ofV]) Y sI) ?_;refine zH Y (zi (av:=[_]) Y rL (f135 [_,_] sI sI)) ?_;refine Z8 ?_;exact⟨⟨k+1,oM⟩,by dsimp only;omega,zd _ ⟨Y,Y,(zLz I ((Gk _ _).trans (CU hlt).symm)),Y,Y,Y,trivial⟩ (Y)⟩
  ·skip;have hge:m.st.length<=k:=by simpa using h0
   refine Z12 ?_;exact⟨.inr Y,AVle.of (by rw[zLk hge])⟩
def npt(m:Mp):Nat:=(m.wide*m.rows).toNat
def los(m:Mp):List Int:=(List.range (npt m)).map fun p:Nat=>kE m.wide m.slope (p:Int) m.st
def his(m:Mp):List Int:=(List.range (npt m)).map fun p:Nat=>kF m.wide m.slope (p:Int) m.st
theorem kr{α:Type}(f:Nat->α)(k:Nat):(List.range k).map f++[f k]=(List.range (k+1)).map f:=by simp[List.range_succ]
theorem kO(hm:okM m):(npt m:Int)=m.wide*m.rows/\1<=npt m/\npt m<=30:=by
 obtain⟨m1,m2,m3,m4,_⟩:=hm;have:=area m1 m2 m3 m4;unfold npt;omega
abbrev wZ:EV:=.pub (.v (.slice none 0 0))
def loE(m:Mp)(p:Nat):TE:=[I (kE m.wide m.slope (p:Int) m.st)]
def hiE(m:Mp)(p:Nat):TE:=[I (kF m.wide m.slope (p:Int) m.st)]
theorem cA{α:Type}{l:List α}{f:α->TE}(h:∀a,(f a).length=1):∀r∈l.map f,r.length=1:=fun r hr=>by
 obtain⟨a,_,rfl⟩:=zLj.1 hr;exact h a
theorem f64(m:Mp)(hm:okM m):ACall tP G 172 [.agg (qo m)] (.agg [eInts (los m),eInts (his m)]):=by
 have hn:=kO hm;have ho:=hm;obtain⟨m1,m2,m3,m4,m5,m6,m7,m8⟩:=ho;refine aC func172 ?_;refine Z3 ?_;refine zm Y (zE Y Y sB Y Y) (Z4 ?_);refine zm Y (zE Y Y sB Y Y) (Z9 ?_);refine zb (v8 (cs:=[_,_]) Y Rz Y ⟨_,_,Y,(uV Y),⟨_,_,Y,(uV Y),Y⟩⟩ rF (by simp[ofV])) ?_;refine Z4 ?_;refine zD (ι:={k:Nat//k<3}) (fun k=>match k.1 with|0=>⟨Tryz.f172.ntmps,frL [(1,.pub (.ptr (qo m))),(2,.pp 0 1 0 0),(3,.pp 1 1 0 0),(12,.pub (.agg [.fn 243 [.agg (qo m)] [],.fn 244 [.agg (qo m)] []])),(13,I 0)],[.row [[wZ,wZ]],.row [[wZ,wZ]]]⟩|1=>⟨Tryz.f172.ntmps,frL [(1,.pub (.ptr (qo m))),(2,.pp 0 1 0 0),(3,.pp 1 1 0 0),(12,.pub (.agg [.fn 243 [.agg (qo m)] [],.fn 244 [.agg (qo m)] []])),(13,I 1)],[.row [[wZ,wZ]],.row [[.psl 2 (npt m),wZ]],.row ((List.range (npt m)).map (loE m))]⟩|_=>⟨Tryz.f172.ntmps,frL [(1,.pub (.ptr (qo m))),(2,.pp 0 1 0 0),(3,.pp 1 1 0 0),(12,.pub (.agg [.fn 243 [.agg (qo m)] [],.fn 244 [.agg (qo m)] []])),(13,I 2)],[.row [[wZ,wZ]],.row [[.psl 2 (npt m),.psl 3 (npt m)]],.row ((List.range (npt m)).map (loE m)),.row ((List.range (npt m)).map (hiE m))]⟩) (fun k=>3-k.1) (⟨0,oM⟩) ?_ ?_
 ·exact zd _ rL (Y)
 ·rintro⟨k,hk⟩;have hk3:k=0∨k=1∨k=2:=oM;rcases hk3 with rfl|rfl|rfl
  ·dsimp only;refine Z6 ?_;refine nC ?_ ?_<;>intro h0
   ·skip;refine Z7 ?_;refine zb (qJ rfl rfl rfl It (fun e he=>by rw[underlying295]at he;cases he;exact F7) oM oM rfl) (Z17 ?_);refine zt (cV (k:=1) (i:=0) (j:=0) Y Y Y) ?_;refine zD (ι:={k:Nat//k<=npt m}) (fun k=>⟨Tryz.f172.ntmps,frL [(1,.pub (.ptr (qo m))),(2,.pp 0 1 0 0),(3,.pp 1 1 0 0),(12,.pub (.agg [.fn 243 [.agg (qo m)] [],.fn 244 [.agg (qo m)] []])),(13,I 0),(4,I 0),(5,.pub (.fn 243 [.agg (qo m)] [])),(23,I (m.wide*m.rows)),(24,I (k.1:Int))],[.row [[wZ,wZ]],.row [[.psl 2 k.1,wZ]],.row ((List.range k.1).map (loE m))]⟩) (fun k=>npt m-k.1) (⟨0,oM⟩) ?_ ?_
    ·exact zd _ rL (Y)
    ·rintro⟨k,hk⟩;dsimp only;refine Z6 ?_;refine nC ?_ ?_<;>intro h1
     ·skip;have hlt:k<npt m:=by have:=of_decide_eq_true h1;omega
      refine Z14 ?_;refine zb (qD (av:=[_]) Y Y rL (f114 m (k:Int) hm oM)) (Z6 ?_);refine zb (zy Y Y Y Y Y yu oM oM) (Z2 ?_);refine zb (zw (size:=1) (rows:=[[_]]) Y underlying24 Xs Y dE Y dE ⟨_,_,Y,(jT Y),Y⟩ rF (by simp[ofV]) Y sI) ?_;refine zm Y (wn Y Y Y Y sI Y Eb (cA fun _=>rfl) sI (by simp;omega) (by unfold maxLen;simp;omega)) ?_;refine zb (zy Y Y Y Y Y yu oM oM) ?_;refine zm Y (zp Y Y Y Y Y Y (jW Y Y sI) hU rF bL) (Z7 ?_);exact⟨⟨k+1,oM⟩,by dsimp only;omega,zd _ rL (zLz (fun z=>[PO.row [[wZ,wZ]],PO.row [[.psl 2 (k+1),wZ]],PO.row z]) (kr (loE m) k))⟩
     ·skip;have hge:npt m<=k:=by have:=of_decide_eq_false h1;omega
      have hk2:k=npt m:=oM;subst hk2;refine Z10 ?_;exact⟨⟨1,oM⟩,by dsimp only;omega,zd (mem':=[.row [[wZ,wZ]],.row [[.psl 2 (npt m),wZ]],.row ((List.range (npt m)).map (loE m))]) [(1,.pub (.ptr (qo m))),(2,.pp 0 1 0 0),(3,.pp 1 1 0 0),(12,.pub (.agg [.fn 243 [.agg (qo m)] [],.fn 244 [.agg (qo m)] []])),(13,I 1)] ⟨Y,Y,Y,Y,Y,trivial⟩ (Y)⟩
   ·skip;exfalso;simp at h0
  ·dsimp only;refine Z6 ?_;refine nC ?_ ?_<;>intro h0
   ·skip;refine Z7 ?_;refine zb (qJ rfl rfl rfl It (fun e he=>by rw[underlying295]at he;cases he;exact F7) oM oM rfl) (Z17 ?_);refine zt (cV (k:=1) (i:=0) (j:=1) Y Y Y) ?_;refine zD (ι:={k:Nat//k<=npt m}) (fun k=>⟨Tryz.f172.ntmps,frL [(1,.pub (.ptr (qo m))),(2,.pp 0 1 0 0),(3,.pp 1 1 0 0),(12,.pub (.agg [.fn 243 [.agg (qo m)] [],.fn 244 [.agg (qo m)] []])),(13,I 1),(4,I 1),(5,.pub (.fn 244 [.agg (qo m)] [])),(23,I (m.wide*m.rows)),(24,I (k.1:Int))],[.row [[wZ,wZ]],.row [[.psl 2 (npt m),.psl 3 k.1]],.row ((List.range (npt m)).map (loE m)),.row ((List.range k.1).map (hiE m))]⟩) (fun k=>npt m-k.1) (⟨0,oM⟩) ?_ ?_
    ·exact zd _ rL (Y)
    ·rintro⟨k,hk⟩;dsimp only;refine Z6 ?_;refine nC ?_ ?_<;>intro h1
     ·skip;have hlt:k<npt m:=by have:=of_decide_eq_true h1;omega
      refine Z14 ?_;refine zb (qD (av:=[_]) Y Y rL (f115 m (k:Int) hm oM)) (Z6 ?_);refine zb (zy Y Y Y Y Y yu oM oM) (Z2 ?_);refine zb (zw (size:=1) (rows:=[[_]]) Y underlying24 Xs Y dE Y dE ⟨_,_,Y,(jT Y),Y⟩ rF (by simp[ofV]) Y sI) ?_;refine zm Y (wn Y Y Y Y sI Y Eb (cA fun _=>rfl) sI (by simp;omega) (by unfold maxLen;simp;omega)) ?_;refine zb (zy Y Y Y Y Y yu oM oM) ?_;refine zm Y (zp Y Y Y Y Y Y (jW Y Y sI) hU rF bL) (Z7 ?_);exact⟨⟨k+1,oM⟩,by dsimp only;omega,zd _ rL (zLz (fun z=>[PO.row [[wZ,wZ]],PO.row [[.psl 2 (npt m),.psl 3 (k+1)]],PO.row ((List.range (npt m)).map (loE m)),PO.row z]) (kr (hiE m) k))⟩
     ·skip;have hge:npt m<=k:=by have:=of_decide_eq_false h1;omega
      have hk2:k=npt m:=oM;subst hk2;refine Z10 ?_;exact⟨⟨2,oM⟩,by dsimp only;omega,zd (mem':=[.row [[wZ,wZ]],.row [[.psl 2 (npt m),.psl 3 (npt m)]],.row ((List.range (npt m)).map (loE m)),.row ((List.range (npt m)).map (hiE m))]) [(1,.pub (.ptr (qo m))),(2,.pp 0 1 0 0),(3,.pp 1 1 0 0),(12,.pub (.agg [.fn 243 [.agg (qo m)] [],.fn 244 [.agg (qo m)] []])),(13,I 2)] ⟨Y,Y,Y,Y,Y,trivial⟩ (Y)⟩
   ·skip;exfalso;simp at h0
  ·dsimp only;refine Z6 ?_;refine nC ?_ ?_<;>intro h0
   ·skip;exfalso;simp at h0
   ·skip;refine Z8 ?_;refine zm Y (zp Y Y Y Y Y Y (ta Y) pq rF bL) (Z3 ?_);exact⟨.inr Y,jb Y (zQ Y Y Y Y pq Y ⟨_,_,Y,⟨((los m).map fun n=>[AV.v (.int .i64 n)]),by show some (PO.row _)=some (PO.row _);simp[los,loE,Function.comp_def],by simp[los],Y⟩,⟨_,_,Y,⟨((his m).map fun n=>[AV.v (.int .i64 n)]),by show some (PO.row _)=some (PO.row _);simp[his,hiE,Function.comp_def],by simp[his],Y⟩,Y⟩⟩)⟩
def gk(m:Mp)(s:Stn):Bool:=!inB s.pt 0 (m.wide*m.rows-1)||decide (s.lo<0)||decide (s.hi<s.lo)||decide (99999<s.hi)
theorem uk(m:Mp)(s:Stn):gk m s= !np m s:=by
 rw[Bool.eq_iff_iff];simp[gk,np,inB];omega
def Hh:Stn:=⟨0,0,0⟩
theorem H8{α:Type}{p:α->Bool}{l:List α}(h:(l.take k).any p=false)(hk:k<l.length)(hp:p l[k]=false):(l.take (k+1)).any p=false:=by
 rw[zLt hk,List.any_append,h];simp[hp]
theorem nX{α:Type}{p:α->Bool}{l:List α}(h:(l.take k).any p=false)(hk:k<l.length)(hp:p l[k]=true):l.find? p=some l[k]:=by
 have e:l=l.take k++l[k]::l.drop (k+1):=by rw[←List.drop_eq_getElem_cons hk,List.take_append_drop]
 have h1:(l.take k).find? p=none:=by rw[List.find?_eq_none];intro x hx hp';rw[List.any_eq_false]at h;exact h x hx hp'
 have h2:(l.take k++l[k]::l.drop (k+1)).find? p=some l[k]:=by rw[List.find?_append,h1];simp only[Option.none_or,List.find?_cons,hp]
 rw[←e]at h2;exact h2
theorem QV{α:Type}{p:α->Bool}{l:List α}(hk:k<l.length)(hp:p l[k]=true):l.any p=true:=by
 rw[List.any_eq_true];exact⟨l[k],zLm hk,hp⟩
theorem f137(m:Mp)(s:Stn)(h1:1<=m.wide/\m.wide<=6)(h2:1<=m.rows/\m.rows<=5):ACall tP G 229 [.agg (eStn s),.ptr (eMp m)] (.v (.bool (gk m s))):=by
 have har:=area h1.1 h1.2 h2.1 h2.2;refine aC func229 ?_;refine Z16 ?_;refine yc (f68 _ _ _) ?_;refine Z26 ?_;exact aR
theorem f103(l:List Stn)(h:Stn->Bool)(f:FuncId)(fs cs:TA)(hl:l.length<=1000)(hf:∀s∈l,ACall tP G f (fs++[.agg (eStn s)]++cs) (.v (.bool (h s)))):ACall tP G 228 [.sl (l.map eStn),.fn f fs cs] (.tup [.agg (eStn ((l.find? h).getD Hh)),.v (.bool (l.any h))]):=by
 have hF:=Lib.hid hf;clear hf;refine aC func228 ?_;refine Z2 ?_;refine zm Y (zE Y Y rA Y Y) (Z12 ?_);refine zD (ι:={k:Nat//k<=l.length/\(l.take k).any h=false}) (fun k=>⟨Tryz.f228.ntmps,frL [(1,.pub (.fn f fs cs)),(4,.pp 0 1 0 0),(9,.pub (.sl (l.map eStn))),(10,I (l.length:Int)),(11,I (k.1:Int))],[.row [[I 0,I 0,I 0]]]⟩) (fun k=>l.length-k.1) (⟨0,sI⟩) ?_ ?_
 ·exact zd _ ⟨Y,Y,Y,(zLz (fun x:Nat=>I (x:Int)) (zL8 _)),Y,trivial⟩ (Y)
 ·rintro⟨k,hk⟩;dsimp only;refine Z6 ?_;refine nC ?_ ?_<;>intro h0
  ·skip;have hlt:k<l.length:=by simpa using h0
   refine Z6 ?_;refine zb (zc Y Y Y wu oM (cE hlt) xY) (Z ?_);refine zI Y Y Y Y Y Y Y rA i6 Y rF (zF Y) Y (Z6 ?_);refine zb (qD (av:=[_]) Y Y rL (hF.out _ (zLm hlt))) ?_;refine Z2 ?_;refine nC ?_ ?_<;>intro h1
   ·skip;refine Z3 ?_;refine zm Y (zp Y Y Y Y Y Y (zF Y) i6 rF bL) (Z9 ?_);exact⟨.inr Y,⟨_,Y,⟨_,_,Y,(zQ Y Y Y Y i6 Y ⟨_,_,Y,AVle.of (by rw[nX hk.2 hlt h1];rfl),⟨_,_,Y,AVle.of (by rw[nX hk.2 hlt h1];rfl),⟨_,_,Y,AVle.of (by rw[nX hk.2 hlt h1];rfl),Y⟩⟩⟩),⟨_,_,Y,AVle.of (by rw[QV hlt h1]),Y⟩⟩⟩⟩
   ·skip;refine Z7 ?_;exact⟨⟨k+1,oM,H8 hk.2 hlt h1⟩,by dsimp only;omega,zd _ rL (Y)⟩
  ·skip;have hge:l.length<=k:=by simpa using h0
   refine Z7 ?_;refine zm Y (zE Y Y rA Y Y) (Z5 ?_);refine zm Y (zp Y Y Y Y Y Y (zF Y) i6 rF bL) (Z4 ?_);exact⟨.inr Y,⟨_,Y,⟨_,_,Y,(zQ Y Y Y Y i6 Y ⟨_,_,Y,AVle.of (by rw[zLk hge]at hk;rw[List.find?_eq_none.2 (by have:=hk.2;rw[List.any_eq_false]at this;simpa using this)];rfl),⟨_,_,Y,AVle.of (by rw[zLk hge]at hk;rw[List.find?_eq_none.2 (by have:=hk.2;rw[List.any_eq_false]at this;simpa using this)];rfl),⟨_,_,Y,AVle.of (by rw[zLk hge]at hk;rw[List.find?_eq_none.2 (by have:=hk.2;rw[List.any_eq_false]at this;simpa using this)];rfl),Y⟩⟩⟩),⟨_,_,Y,AVle.of (by rw[zLk hge]at hk;rw[hk.2]),Y⟩⟩⟩⟩
theorem ED(m:Mp)(h:kX m=true):mapB m= !(m.st.any (gk m)):=by
 unfold mapB;rw[h,Bool.true_and]
 induction m.st with
 |nil=>rfl
 |cons s l ih=>simp[uk,ih,List.any_cons,List.all_cons,Bool.not_or]
theorem f99(m:Mp):ACall tP G 125 [.agg (eMp m)] (.v (.bool (mapB m))):=by
  refine aC func125 ?_;refine Z11 ?_;refine yc (f68 _ _ _) ?_;refine Z4 ?_;refine yd Y (fun hg=>(f68 _ _ _)) ?_;refine Z5 ?_;refine yd Y (fun hg=>(f68 _ _ _)) ?_;refine Z10 ?_;refine nC ?_ ?_<;>intro h0
  · skip
    have hf : kX m = false := by
            rw[Bool.eq_false_iff];intro hc;simp[kX,inB]at hc h0;omega
    refine Z7 ?_;exact⟨.inr Y,AVle.of (by simp[mapB,hf])⟩
  · skip
    have hh:kX m=true:=by simp[kX,inB]at h0⊢;omega
    have hw:1<=m.wide/\m.wide<=6:=by simp_all[kX,inB]
    have hr:1<=m.rows/\m.rows<=5:=by simp_all[kX,inB]
    have hl:m.st.length<=12:=by simp[kX]at hh;omega
    refine Z7 ?_;refine yc (f103 m.st (gk m) 229 [] [.ptr (eMp m)] oM (fun s _=>f137 m s hw hr)) ?_;refine Z3 ?_;refine zI Y Y Y Y Y Y Y rA i6 Y rF (zF Y) Y (Z11 ?_);exact⟨.inr Y,AVle.of (by rw[ED m hh])⟩
end Ct
end Go.Av
end
