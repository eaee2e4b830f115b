import Derived.Test.YtigbomcjnlikjaaGreatDoorChF
import Derived.Test.YtigbomcjnlikjaaGreatDoorExF
set_option linter.unusedVariables false
set_option linter.unusedSimpArgs false
set_option maxRecDepth 100000
set_option maxHeartbeats 9000000
section
namespace Go.Av
namespace Ke
open Go.Proofs Tryz Go.RowKit Go.Av.Ct Go.Av.Pn Go.Av.Pn.Ct
variable{G:Glob}
theorem Ua:zS tP 382 false 1=true:=nR
theorem Vq:zU tP 417 [(0,1)] [nZ]:=⟨_,underlying417,nR,nR⟩
theorem Vv:(tP.info? 204).bind (·.zero)=some (.map none):=nR
theorem S9:(tP.info? 382).bind (·.zero)=some (.nilFunc):=nR
theorem Ue:(tP.info? 417).bind (·.zero)=some (.agg #[nZ]):=nR
theorem RN:zS tP 417 true 1=true:=nR
def ez(p lvl:Int)(hi:Bool):TA:=[ei p,ei lvl,.v (.bool hi)]
def inS(vals:List Int)(lvl:Int)(hi:Bool)(q:Nat):Bool:=decide (lvl<=vals.getD q 0)==hi
theorem Xq:zS tP 252 true 3=true:=nR
theorem AK{l:List Int}{k:Nat}(h:k<l.length):(l.map fun n=>[AV.v (.int .i64 n)])[k]?=some [.v (.int .i64 (l.getD k 0))]:=by simp[h,List.getD]
def shD(m:Mp)(p:Nat)(i:Nat):Int:=m.slope*jC m.wide (p:Int) (i:Int)
def shG(m:Mp)(p:Nat)(lvl:Int)(hi:Bool)(i:Nat):Int:=match hi with
 |true=>maxL [(los m).getD i 0,lvl-shD m p i]
 |false=>minL [(his m).getD i 0,lvl-1+shD m p i]
def shL(m:Mp)(p:Nat)(lvl:Int)(hi:Bool):List Int:=(List.range (npt m)).map (shG m p lvl hi)
def shE(m:Mp)(p:Nat)(lvl:Int)(hi:Bool)(i:Nat):TE:=[I (shG m p lvl hi i)]
theorem PM{m:Mp}(hm:okM m){p i:Nat}(hp:p<=30)(hi:i<=30):0<=shD m p i/\shD m p i<=180000:=by
 obtain⟨m1,m2,m3,m4,m5,m6,m7,m8⟩:=hm;have h:=mG (w:=m.wide) (a:=(p:Int)) (b:=(i:Int)) (N:=30) m1 oM oM;unfold shD;have h1:=Int.mul_nonneg m5 h.1;have h2:m.slope*jC m.wide (p:Int) (i:Int)<=5000*36:=Int.mul_le_mul m6 oM h.1 oM;omega
theorem Uz:zU tP 252 [(0,1),(1,1),(2,1)] [nZ,nZ,.bool false]:=⟨_,underlying252,nR,nR⟩
theorem Uy:(tP.info? 252).bind (·.zero)=some (.agg #[nZ,nZ,.bool false]):=nR
def SM(caps:TE):TP:=[.map [],.row [[.mpv 0]],.row [[.fnm 385 [] caps]]]
def cps(w r:Int)(c:Bool)(gF:FuncId)(gcs:TA):TE:=[.pub (.ptr (d5 w r)),.pp 1 1 0 0,.pub (.ptr [.v (.bool c)]),.pub (.ptr [.fn gF [] gcs]),.pp 2 1 0 0]
theorem RZ{caps:TE}(hc:∀x∈caps,x.lt 3):zW (SM caps).length (SM caps):=by
 show zW 3 [.map [],.row [[.mpv 0]],.row [[.fnm 385 [] caps]]];refine⟨fun q hq=>(List.not_mem_nil hq).elim,fun r hr x hx=>?_,fun r hr x hx=>?_,trivial⟩
 ·rw[zLh]at hr;subst hr;rw[zLh]at hx;subst hx;show 0<3;omega
 ·rw[zLh]at hr;subst hr;rw[zLh]at hx;subst hx;simp only[EV.lt];exact⟨trivial,EV.ltL_iff.2 hc⟩
theorem zbi(w r:Int)(c:Bool)(gF:FuncId)(gcs:TA)(p:Nat)(hw:1<=w/\w<=6)(hr:1<=r/\r<=5)(hp:p<(w*r).toNat)(he:edgG w r (p:Int)=true):
  zv tP G 385 ([.pub (ei (p:Int))]++cps w r c gF gcs) (SM (cps w r c gF gcs)) (.pan (.ifc 417 (.agg [ei (p:Int)])) (SM (cps w r c gF gcs))):=by
 have har:=area hw.1 hw.2 hr.1 hr.2
 have hcl:∀x∈cps w r c gF gcs,EV.lt 3 x:=fun x hx=>by
  simp only[cps,List.mem_cons,List.not_mem_nil,or_false]at hx;rcases hx with rfl|rfl|rfl|rfl|rfl<;>simp[EV.lt]
 refine y3 func385 Y nR Y (fun gh hold=>?_);refine Z5 ?_;refine yc (f190 w r (p:Int) oM oM oM) ?_;refine Z2 ?_;refine nC ?_ ?_<;>intro h0
 ·refine Z2 ?_;refine zb (zu (cs:=[_]) Y Vq Y ⟨_,_,Y,jT Y,Y⟩ rF (by simp[ofV])) ?_;refine zb (zZ Y Y underlying417 Y) ?_;refine vY Y Y Y (fun u=>?_);refine qW ?_;exact EJ [] (List.append_nil _).symm (RZ hcl) (zLl _) (AVle.refl _)
 ·rw[he]at h0;cases h0
theorem E7(w r:Int)(c:Bool)(gF:FuncId)(gcs:TA)(se:Nat->Bool)(p:Nat)(hw:1<=w/\w<=6)(hr:1<=r/\r<=5)(hset:∀q:Nat,q<(w*r).toNat->ACall tP G gF ([ei (q:Int)]++gcs) (.v (.bool (se q))))(hp:p<(w*r).toNat)(he:edgG w r (p:Int)=true):XCall tP G 360 [.agg (d5 w r),ei (p:Int),.fn gF [] gcs,.v (.bool c)] (.pan (.ifc 417 (.agg [ei (p:Int)]))):=by
 have hm:=zbi (G:=G) w r c gF gcs p hw hr hp he;refine I9 func360 Y nR Y ?_;refine Z9 ?_;refine zm Y (vR Y Y) (zm Y (zE Y Y Vv Y Y) ?_);refine zm Y (zp Y Y Y Y Y Y (ul Y Y) FM rF bL) (Z4 ?_);refine zm Y (zE Y Y S9 Y Y) (Z5 ?_);refine zm Y (zp Y Y Y Y Y Y (ji Y) Ua rF bL) (Z5 ?_);refine SK (f:=385) (fs:=[]) (cs:=cps w r c gF gcs) (av:=[.pub (ei (p:Int))]) Y Y ⟨Y,Y,Y⟩ rL hm (fun u=>?_);exact⟨u,Y,zL1 ..,Y⟩
theorem Bz(x:Int):nH tP G 359 [.pp 0 1 0 0] (some (.ifc 417 (.agg [ei x]))) [.row [[B false]]] [.row [[B false]]]:=by
 refine bX func359 Y nR Y Y Y Y Y Y (fun gh=>?_);refine Z3 ?_;refine zb (tr Y Y underlying20) (Z2 ?_);refine nC ?_ ?_<;>intro h0
 ·exfalso;simp at h0
 ·refine Z2 ?_;refine zb (cS Y Y underlying417 Y) (Z4 ?_);refine nC ?_ ?_<;>intro h1
  ·refine Z2 ?_;refine zI Y Y Y Y Y Y Y Ue RN Y rF (zF Y) Y (Z3 ?_);refine zm Y (zp Y Y Y Y Y Y (jT Y) ty4 rF bL) (Z2 ?_);exact⟨.inl Y,Y,Y⟩
  ·exfalso;simp at h1
theorem F9(w r:Int)(c:Bool)(gF:FuncId)(gcs:TA)(se:Nat->Bool)(p:Nat)(hw:1<=w/\w<=6)(hr:1<=r/\r<=5)(hset:∀q:Nat,q<(w*r).toNat->ACall tP G gF ([ei (q:Int)]++gcs) (.v (.bool (se q))))(hp:p<(w*r).toNat)(hs:se p=true)(he:edgG w r (p:Int)=true):ACall tP G 314 [.agg (d5 w r),ei (p:Int),.fn gF [] gcs,.v (.bool c)] (.v (.bool false)):=by
 refine xU func314 Y nR Y ?_;refine Z3 ?_;refine zm Y (zE Y Y zB Y Y) (Z5 ?_);refine bF Y Y Y Y ?_;refine Z7 ?_;refine zb (qD (av:=[_]) Y Y rL (hset p hp)) (Z3 ?_);refine nC ?_ ?_<;>intro h0
 ·exfalso;simp[hs]at h0
 ·refine Z8 ?_;refine uL (av:=[_,_,_,_]) Y Y rL (E7 w r c gF gcs se p hw hr hset hp he) (fun u=>?_);exact .inr ⟨9,359,_,_,_,Y,Y,(jb Y (jI Y Y Y Y ty4 Y (by exact AVle.refl _))),.inr ⟨u,_,Y,zL1 ..,Bz _⟩⟩
theorem f166(vals:List Int)(pt lvl:Int)(hi:Bool)(q:Nat)(hq:q<vals.length)(hl:vals.length<=1000):ACall tP G 315 [ei (q:Int),.ptr [eInts vals],.ptr (ez pt lvl hi)] (.v (.bool (inS vals lvl hi q))):=by
 refine aC func315 ?_;refine Z6 ?_;refine zN mixed nR Y ?_;refine Z2 ?_;refine zH Y (zc Y Y Y zY oM (zA hq) zn) (Z6 ?_);refine zH Y (Qs Y Y Y underlying4) (Z4 ?_);exact⟨.inr Y,AVle.of (by unfold inS;rw[getD_at hq])⟩
theorem f134(m:Mp)(p:Nat)(lvl:Int)(hi:Bool)(vals:List Int)(hm:okM m)(hp:p<npt m)(hv:vals.length=npt m)(hs:inS vals lvl hi p=true)(he:edgG m.wide m.rows (p:Int)=true):ACall tP G 241 [.agg (qo m),.agg (ez (p:Int) lvl hi),eInts vals] (.v (.bool false)):=by
 have hn:=kO hm;have ho:=hm;obtain⟨m1,m2,m3,m4,m5,m6,m7,m8⟩:=ho;have har:=area m1 m2 m3 m4;have hN:(m.wide*m.rows).toNat=npt m:=oM;have h165:=F9 (G:=G) m.wide m.rows (!hi) 315 [.ptr [eInts vals],.ptr (ez (p:Int) lvl hi)] (inS vals lvl hi) p oM oM (fun q hq=>f166 vals (p:Int) lvl hi q oM oM) oM hs he;refine aC func241 ?_;refine Z18 ?_;refine yc h165 ?_;refine Z4 ?_;exact aR
theorem f133(m:Mp)(p lvl:Int)(hi:Bool)(hm:okM m):ACall tP G 239 [.agg (qo m),.ptr (ez p lvl hi),.ptr (eMp m)] (.v (.bool (inB p 0 (m.wide*m.rows-1)&&inB lvl 1 99999))):=by
 have hn:=kO hm;have ho:=hm;obtain⟨m1,m2,m3,m4,m5,m6,m7,m8⟩:=ho;have har:=area m1 m2 m3 m4;refine aC func239 ?_;refine Z16 ?_;refine yc (f68 _ _ _) ?_;refine Z3 ?_;refine yd Y (fun hg=>(f68 _ _ _)) ?_;refine Z5 ?_;exact aR
theorem P8(m:Mp)(p lvl:Int)(hi:Bool)(hm:okM m)(h:(inB p 0 (m.wide*m.rows-1)&&inB lvl 1 99999)=true)(hc:clashOf m=none):ACall tP G 144 [.agg (eMp m),.agg (ez p lvl hi)] (.tup [.agg (qo m),ei 0]):=by
 have h133:=f133 (G:=G) m p lvl hi hm;rw[h]at h133;refine aC func144 ?_;refine Z4 ?_;refine zm Y (zE Y Y xB Y Y) (Z7 ?_);refine yc (Ec m hm 239 [] [.ptr (ez p lvl hi),.ptr (eMp m)] h133 hc) ?_;refine Z2 ?_;refine zm Y (zp Y Y Y Y Y Y (zF Y) vx rF bL) (Z4 ?_);exact⟨.inr Y,⟨_,Y,⟨_,_,Y,(zQ Y Y Y Y vx Y (vwR (vwR (vwR (vwR (vwR (vwR Y))))))),⟨_,_,Y,AVle.refl _,Y⟩⟩⟩⟩
theorem f3(m:Mp)(p:Nat)(lvl:Int)(hm:okM m)(hp:p<npt m)(hv:1<=lvl/\lvl<=99999)(hs:inS (shL m p lvl false) lvl false p=true)(he:edgG m.wide m.rows (p:Int)=true)(h:(decide (lvl<=(los m).getD p 0))=false):ACall tP G 240 [.agg (qo m),.agg (ez (p:Int) lvl false)] (.tup [eInts (shL m p lvl false),.v (.bool false)]):=by
 have hn:=kO hm;have ho:=hm;obtain⟨m1,m2,m3,m4,m5,m6,m7,m8⟩:=ho;have har:=area m1 m2 m3 m4;have hlol:=eG m;have hhil:=eJ m;refine aC func240 ?_;refine Z11 ?_;refine yc (f64 m hm) ?_;refine zI Y Y Y Y Y Y Y sB pq Y rF (zF Y) Y (Z10 ?_);refine zb (qm Y Y Y yu oM oM) (Z ?_);refine zb (Dv Y Y underlying24) (Z4 ?_);refine zt (yZ 7 Y) ?_;refine zD (ι:={k:Nat//k<=npt m}) (fun k=>⟨Tryz.f240.ntmps,frL [(2,.pub (.ptr (qo m))),(3,.pub (.ptr (ez (p:Int) lvl false))),(6,.pub (.ptr [eInts (los m),eInts (his m)])),(7,.psl 0 k.1),(15,I (npt m:Int)),(16,I (k.1:Int))],[.row ((List.range k.1).map (shE m p lvl false))]⟩) (fun k=>npt m-k.1) (⟨0,oM⟩) ?_ ?_
 ·exact zd _ ⟨Y,Y,Y,Y,(zLz (fun n:Nat=>I (n:Int)) hlol),Y,trivial⟩ (Y)
 ·rintro⟨k,hk⟩;dsimp only;refine Z6 ?_;refine nC ?_ ?_<;>intro h0
  ·skip;have hk1:k<npt m:=by simp at h0;omega
   have hdb:=PM hm (p:=p) (i:=k) oM oM;unfold shD at hdb;refine Z11 ?_;refine zN mixed nR Y ?_;refine Z8 ?_;refine zH Y (zi (av:=[_,_,_]) Y rL (f119 m.wide m.rows (p:Int) (k:Int) oM oM oM)) (Z5 ?_);refine zN mixed nR Y ?_;refine zH Y (qm Y Y Y yu oM oM) (Z2 ?_);refine zH Y (zc Y Y Y zY oM (AK oM) zn) (Z6 ?_);refine zH Y (zw (size:=1) (rows:=[[_],[_]]) Y underlying24 Xs Y dE Y dE ⟨_,_,Y,(jT Y),⟨_,_,Y,(jT Y),Y⟩⟩ rF (by simp[ofV]) Y sI) ?_;refine zH Y (zi (av:=[_]) Y rL (f135 [_,_] sI sI)) ?_;refine Z10 ?_;refine nC ?_ ?_<;>intro h1
   ·skip;exfalso;simp at h1
   ·skip;refine Z5 ?_;refine zb (zw (size:=1) (rows:=[[_]]) Y underlying24 Xs Y dE Y dE ⟨_,_,Y,(jT Y),Y⟩ rF (by simp[ofV]) Y sI) ?_;refine zm Y (wn Y Y Y Y sI Y Eb (cA fun _=>rfl) sI (by simp;omega) (by unfold maxLen;simp;omega)) ?_;refine Z8 ?_;exact⟨⟨k+1,oM⟩,by dsimp only;omega,zd _ rL ((zLz (fun z=>[PO.row z]) (kr (shE m p lvl false) k)))⟩
  ·skip;have hge:k=npt m:=by simp at h0;omega
   subst hge;refine Z7 ?_;refine zN mixed nR Y ?_;refine Z3 ?_;refine zq Y (fun hg=>qm Y Y Y yu oM oM) ?_;refine zq (x:=.pub (.tup [])) Y (fun hg=>absurd hg dE) (Z ?_);refine zq (x:=.pub (.tup [])) Y (fun hg=>absurd hg dE) ?_;refine zq (x:=.pub (.tup [])) Y (fun hg=>absurd hg dE) ?_;refine zq (x:=.pub (.tup [])) Y (fun hg=>absurd hg dE) (Z ?_);refine zq (x:=.pub (.tup [])) Y (fun hg=>absurd hg dE) ?_;refine zq (x:=.pub (.tup [])) Y (fun hg=>absurd hg dE) ?_;refine zH Y (wm Y Y (fun h=>absurd h dE) (fun _=>rfl)) ?_;refine Z2 ?_;refine zq Y (fun hg=>zl Y (Y) Y ty4) (zq Y (fun hg=>q0 Y (Y)) (zq Y (fun hg=>zX Y (Y)) (zq Y (fun hg=>qm Y Y Y yu oM oM) ?_)));refine Z3 ?_;refine zq Y (fun hg=>zc Y Y Y zY oM (AK oM) zn) (Z8 ?_);refine nC ?_ ?_<;>intro h2
   ·skip;exfalso;simp at h2 h;omega
   ·skip;refine Z3 ?_;refine zt (GR (k:=0) (m:=npt m) (rows:=(shL m p lvl false).map fun n=>[.v (.int .i64 n)]) [7] ?_ ?_ ?_) ?_
    ·show some (PO.row _)=some (PO.row _);simp[shL,shE,Function.comp_def,I]
    ·simp[shL]
    ·intro d hd;rw[zLh]at hd;subst hd;rfl
    refine Z5 ?_;refine yc (f134 m p lvl false (shL m p lvl false) hm hp (by simp[shL]) hs he) ?_;refine Z5 ?_;exact⟨.inr Y,⟨_,Y,⟨_,_,Y,AVle.refl _,⟨_,_,Y,AVle.refl _,Y⟩⟩⟩⟩
theorem oo(m:Mp)(p:Nat)(lvl:Int)(hm:okM m)(hp:p<npt m)(hv:1<=lvl/\lvl<=99999)(V:AV)(h90:ACall tP G 240 [.agg (qo m),.agg (ez (p:Int) lvl false)] (.tup [V,.v (.bool false)])):ACall tP G 145 [.agg (qo m),.agg (ez (p:Int) lvl false)] (ei 1):=by
 have hn:=kO hm;have ho:=hm;obtain⟨m1,m2,m3,m4,m5,m6,m7,m8⟩:=ho;have har:=area m1 m2 m3 m4;have hlol:=eG m;have hhil:=eJ m;refine aC func145 ?_;refine Z10 ?_;refine yc (f64 m hm) ?_;refine zI Y Y Y Y Y Y Y sB pq Y rF (zF Y) Y (Z12 ?_);refine yc h90 ?_;refine Z12 ?_;refine nC ?_ ?_<;>intro h0
 ·skip;exfalso;cases h0
 ·skip;refine Z10 ?_;exact aR
theorem QO(m:Mp)(p lvl wd:Int)(h88:ACall tP G 144 [.agg (eMp m),.agg (ez p lvl false)] (.tup [.agg (qo m),ei 0]))(h89:ACall tP G 145 [.agg (qo m),.agg (ez p lvl false)] (ei wd)):ACall tP G 68 [.agg (eMp m),ei p,ei lvl] (.tup [ei wd,ei 0]):=by
 refine aC func68 ?_;refine Z11 ?_;refine zb (zu (cs:=[_,_,_]) Y Uz Y ⟨_,_,Y,(jT Y),⟨_,_,Y,(jT Y),⟨_,_,Y,(jT Y),Y⟩⟩⟩ rF (by simp[ofV])) ?_;refine zI Y Y Y Y Y Y Y Uy Xq Y rF (zF Y) Y (Z6 ?_);refine yc h88 ?_;refine Z3 ?_;refine zI Y Y Y Y Y Y Y xB vx Y rF (zF Y) Y (Z10 ?_);refine nC ?_ ?_<;>intro h0
 ·skip;exfalso;simp at h0
 ·skip;refine Z6 ?_;refine yc h89 ?_;refine Z5 ?_;exact⟨.inr Y,⟨_,Y,⟨_,_,Y,AVle.refl _,⟨_,_,Y,AVle.refl _,Y⟩⟩⟩⟩
theorem low_edge(m:Mp)(p:Nat)(lvl:Int)(hm:okM m)(hc:clashOf m=none)(hp:p<npt m)(hv:1<=lvl/\lvl<=99999)(hi:(inB (p:Int) 0 (m.wide*m.rows-1)&&inB lvl 1 99999)=true)(hs:inS (shL m p lvl false) lvl false p=true)(he:edgG m.wide m.rows (p:Int)=true)(h:decide (lvl<=(los m).getD p 0)=false):
  ACall tP G 68 [.agg (eMp m),ei (p:Int),ei lvl] (.tup [ei 1,ei 0]):=
 QO m (p:Int) lvl _ (P8 m (p:Int) lvl false hm hi hc) (oo m p lvl hm hp hv _ (f3 m p lvl hm hp hv hs he h))
end Ke
end Go.Av
namespace Go.Av
namespace Bu
open Go.Proofs Tryz
variable{G:Glob}
def m15K:Ct.Mp:=mpD sK (k15.maps.getD 0 [])
theorem Xz:Ct.clashOf m15K=none:=nR
theorem VZ:Ct.mapB m15K=true:=nR
theorem Vo:Ke.inS (Ke.shL m15K 3 75900 false) 75900 false 3=true:=nR
theorem Xt:Ct.edgG m15K.wide m15K.rows ((3:Nat):Int)=true:=nR
theorem Ss:decide (75900<=(Ct.los m15K).getD 3 0)=false:=nR
theorem za8:prP (liK 26)=some (⟨301,3,false,false,false⟩,[0,3,75900],[]):=nR
theorem R9{b:BS}{m:Ct.Mp}{W:Int}(hd:0<b.maps.length)(hm:m=mpD sK (b.maps.getD 0 []))(h:ACall tP G 68 [.agg (Ct.eMp m),ei 3,ei 75900] (.tup [ei W,ei 0])):ACall tP G 18 [.ptr (eBu sK b),ei 0,ei 3,ei 75900] (.tup [ei W,ei 0]):=
 OT sK suK b (d:=0) hd nR (by rw[hm]at h;simpa[hd]using h)
theorem S0:ACall tP G 301 [.ptr (eBu sK k15),eI [0,3,75900],Wr.eCps []] (.tup [eI [1],ei 0]):=by
 have hl:=Ke.low_edge (G:=G) m15K 3 75900 ((Ct.okM_iff _).1 VZ) Xz (zLb nR) ⟨dE,dE⟩ nR Vo Xt Ss;exact zaT (G:=G) 0 3 75900 (R9 (zLb nR) Y hl) []
theorem zaY:Ln sK (liK 26) k15 k15 (Lib.join ([1].map Lib.itoa) [32]) 0:=
 eg (qdo (liK 26) dE za8 (f94 sK k15) S0 dE dE (zLb nR))
end Bu
end Go.Av
namespace Go.Av
namespace Bu
open Go.Proofs Tryz
def yj(c:Int)(k:Nat):Bool:=c/2^k % 2==1
def pt1(s:Hs.Sut)(e:(Int × Int) × Std)(c:Nat):Int:=(if gB e.2.parts (c:Int)then gnL e.2.parts c else 0)*s.wts.getD e.1.2.toNat 0
def ptL(s:Hs.Sut)(e:(Int × Int) × Std)(n:Nat):List Int:=((List.range n).filter (yj e.2.came)).map (pt1 s e)
variable{s:Hs.Sut}{e:(Int × Int) × Std}{n:List Nat}{a b:Int}{l:List Int}
theorem ux{n:Nat}(h:yj e.2.came n=true):ptL s e n++[pt1 s e n]=ptL s e (n+1):=by
 simp[ptL,List.range_succ,List.filter_append,h]
theorem ov{n:Nat}(h:yj e.2.came n=false):ptL s e n=ptL s e (n+1):=by
 simp[ptL,List.range_succ,List.filter_append,h]
theorem u6(s:Hs.Sut)(e:(Int × Int) × Std)(n:Nat):(ptL s e n).length<=n:=by
 have:=List.length_filter_le (yj e.2.came) (List.range n);simpa[ptL]using this
def mnL:List Int->Int
 |[]=>0
 |x::l=>l.foldl min x
def mxL:List Int->Int
 |[]=>0
 |x::l=>l.foldl max x
def loE(s:Hs.Sut)(e:(Int × Int) × Std):Int:=if e.2.came=0 then 0 else mnL (ptL s e s.cls.toNat)
def hiE(s:Hs.Sut)(e:(Int × Int) × Std):Int:=if e.2.came=0 then 0 else mxL (ptL s e s.cls.toNat)
theorem Aj:∀(l:List Int)(x:Int),(a<=x/\x<=b)->(∀y∈l,a<=y/\y<=b)->a<=l.foldl min x/\l.foldl min x<=b
 |[],x,h,_=>h
 |y::l,x,h,hl=>Aj l (min x y) (by have:=hl y sI;omega) (fun z hz=>hl z (by simp[hz]))
theorem Ae:∀(l:List Int)(x:Int),(a<=x/\x<=b)->(∀y∈l,a<=y/\y<=b)->a<=l.foldl max x/\l.foldl max x<=b
 |[],x,h,_=>h
 |y::l,x,h,hl=>Ae l (max x y) (by have:=hl y sI;omega) (fun z hz=>hl z (by simp[hz]))
theorem QN(l:List Int)(h0:a<=0/\0<=b)(h:∀y∈l,a<=y/\y<=b):a<=mnL l/\mnL l<=b:=by
 cases l with
 |nil=>exact h0
 |cons x l=>exact Aj l x (h x sI) fun y hy=>h y (by simp[hy])
theorem Rr(l:List Int)(h0:a<=0/\0<=b)(h:∀y∈l,a<=y/\y<=b):a<=mxL l/\mxL l<=b:=by
 cases l with
 |nil=>exact h0
 |cons x l=>exact Ae l x (h x sI) fun y hy=>h y (by simp[hy])
structure SdK(s:Hs.Sut)(e:(Int × Int) × Std):Prop where
 p:yi e.2.parts=true
 l:(e.2.parts.length:Int)=s.cls
 w:0<=e.1.2/\e.1.2<(s.wts.length:Int)
 c:e.2.came=0∨ptL s e s.cls.toNat≠[]
 n:0<=e.2.came/\e.2.came<=1000
theorem HB{x:Int}(h:0<=x/\x<=100):0<=x*x/\x*x<=100*x/\200*x-x*x<=10000:=by
 have h1:=Int.mul_nonneg h.1 h.1;have h2:=Int.mul_le_mul_of_nonneg_right h.2 h.1;have h3:=Int.mul_nonneg (show 0<=100-x by omega) (show 0<=100-x by omega);rw[Int.sub_mul,Int.mul_sub,Int.mul_sub]at h3;omega
theorem Rb(h:yi l=true){c:Nat}(hc:c<l.length):-10000<=gnL l c/\gnL l c<=10000:=by
 obtain⟨hn,hb⟩:=nU h;simp only[yi,zLa,zLd]at h;have hs:=h.2
 match l,hn with
 |[a,b],_=>
  have ha:=HB (hb a sI);have hb2:=HB (hb b sI);have ha0:=hb a sI;have hb0:=hb b sI;simp only[cq,List.foldl_cons,List.foldl_nil]at hs;have:c=0∨c=1:=by simp at hc;omega
  rcases this with rfl|rfl<;>(simp only[gnL,List.foldl_cons,List.foldl_nil,List.getD_cons_zero,List.getD_cons_succ];omega)
 |[a,b,d],_=>
  have ha:=HB (hb a sI);have hb2:=HB (hb b sI);have hd:=HB (hb d sI);have ha0:=hb a sI;have hb0:=hb b sI;have hd0:=hb d sI;simp only[cq,List.foldl_cons,List.foldl_nil]at hs;have:c=0∨c=1∨c=2:=by simp at hc;omega
  rcases this with rfl|rfl|rfl<;>(simp only[gnL,List.foldl_cons,List.foldl_nil,List.getD_cons_zero,List.getD_cons_succ];omega)
theorem zan(h:yi l=true){c:Nat}:-10000<=(if gB l (c:Int)then gnL l c else 0)/\(if gB l (c:Int)then gnL l c else 0)<=10000:=by
 split
 ·rename_i hg
  refine Rb h ?_;unfold gB at hg;simp[Hs.inB]at hg;omega
 ·omega
theorem DZ{w:Int}(ha:-10000<=a/\a<=10000)(hw:0<=w/\w<=100):-1000000<=a*w/\a*w<=1000000:=by
 obtain⟨n,rfl⟩:=Int.eq_ofNat_of_zero_le hw.1;have h1:=Int.mul_le_mul_of_nonneg_right ha.1 hw.1;have h2:=Int.mul_le_mul_of_nonneg_right ha.2 hw.1;omega
theorem Oo(hw:∀x∈s.wts,0<=x/\x<=100)(i:Nat):0<=s.wts.getD i 0/\s.wts.getD i 0<=100:=by
 rw[zLv];cases h:s.wts[i]?with
 |none=>simp
 |some x=>exact hw x (zLo h)
theorem NN(hw:∀x∈s.wts,0<=x/\x<=100)(h:yi e.2.parts=true)(c:Nat):-1000000<=pt1 s e c/\pt1 s e c<=1000000:=DZ (zan h) (Oo hw _)
theorem NV(hw:∀x∈s.wts,0<=x/\x<=100)(h:yi e.2.parts=true)(n:Nat):∀y∈ptL s e n,-1000000<=y/\y<=1000000:=fun y hy=>by
 obtain⟨c,_,rfl⟩:=zLj.1 hy;exact NN hw h c
theorem F5(hw:∀x∈s.wts,0<=x/\x<=100)(h:yi e.2.parts=true):-1000000<=loE s e/\loE s e<=1000000:=by
 unfold loE;split
 ·omega
 ·exact QN _ oM (NV hw h _)
theorem H4(hw:∀x∈s.wts,0<=x/\x<=100)(h:yi e.2.parts=true):-1000000<=hiE s e/\hiE s e<=1000000:=by
 unfold hiE;split
 ·omega
 ·exact Rr _ oM (NV hw h _)
def sd0:(Int × Int) × Std:=((0,0),⟨[],0⟩)
def suS{α:Type}(f:α->Int)(d:α)(l:List α)(n:List Nat):Int:=n.foldl (fun a i=>a+f (l.getD i d)) 0
def sumF{α:Type}(f:α->Int)(l:List α):Int:=l.foldl (fun a e=>a+f e) 0
theorem FA{α:Type}{f:α->Int}{d:α}{l:List α}{i:Nat}:suS f d l n+f (l.getD i d)=suS f d l (n++[i]):=by simp[suS,List.foldl_append]
theorem Ii{α:Type}{f:α->Int}{d:α}{l:List α}(h:∀e∈l,-1000000<=f e/\f e<=1000000)(hn:∀i∈n,i<l.length):-1000000*(n.length:Int)<=suS f d l n/\suS f d l n<=1000000*(n.length:Int):=by
 have key:∀(n:List Nat)(a:Int),(∀i∈n,i<l.length)->a-1000000*(n.length:Int)<=n.foldl (fun a i=>a+f (l.getD i d)) a/\n.foldl (fun a i=>a+f (l.getD i d)) a<=a+1000000*(n.length:Int):=by
  intro n
  induction n with
  |nil=>intro a _;simp
  |cons i n ih=>
   intro a hn;have h1:=ih (a+f (l.getD i d)) (fun j hj=>hn j (by simp[hj]));have hi:=hn i sI;have h2:=h (l.getD i d) (by simp[hi]);simp only[List.foldl_cons,List.length_cons];omega
 have:=key n 0 hn;unfold suS;omega
theorem pH{α:Type}(f:α->Int)(d:α):∀(l:List α)(a:Int),(List.range l.length).foldl (fun a i=>a+f (l.getD i d)) a=l.foldl (fun a e=>a+f e) a:=by
 intro l
 induction l with
 |nil=>intro a;rfl
 |cons x l ih=>
  intro a;rw[List.length_cons,List.range_succ_eq_map,List.foldl_cons,List.foldl_map,List.foldl_cons];exact ih (a+f x)
theorem mZ{α:Type}{f:α->Int}{d:α}{l:List α}(hd:n.Nodup)(hn:∀i∈n,i<l.length)(ha:∀i,i<l.length->i∈n):suS f d l n=sumF f l:=by
 have hp:n.Perm (List.range l.length):=(List.perm_ext_iff_of_nodup hd List.nodup_range).2 fun i=>⟨fun h=>List.mem_range.2 (hn i h),fun h=>ha i (List.mem_range.1 h)⟩;unfold suS sumF;rw[hp.foldl_eq' (fun x _ y _ z=>oM) 0,pH]
theorem tq{α:Type}{f:α->Int}{l:List α}(h:∀e∈l,-1000000<=f e/\f e<=1000000):-1000000*(l.length:Int)<=sumF f l/\sumF f l<=1000000*(l.length:Int):=by
 cases l with
 |nil=>simp[sumF]
 |cons x l=>
  rw[←mZ (f:=f) (d:=x) (l:=x::l) List.nodup_range (fun i hi=>List.mem_range.1 hi) (fun i hi=>List.mem_range.2 hi)];have:=Ii (f:=f) (d:=x) (l:=x::l) (n:=List.range (x::l).length) h (fun i hi=>List.mem_range.1 hi);rw[List.length_range]at this;exact this
def cI(s:Hs.Sut)(b:BS):Int:=sumF (loE s) b.said
def cU(s:Hs.Sut)(b:BS):Int:=sumF (hiE s) b.said
theorem Q0{x:List Nat}{i n:Nat}(h:x.Nodup/\∀j∈x,j<n)(hi:i∉x)(hin:i<n):(x++[i]).Nodup/\∀j∈x++[i],j<n:=by
 refine⟨List.nodup_append.2 ⟨h.1,sI,fun a ha b hb=>?_⟩,fun j hj=>?_⟩
 ·rw[zLh]at hb;subst hb;exact fun e=>hi (e▸ha)
 ·rcases List.mem_append.1 hj with hj|hj
  ·exact h.2 j hj
  ·rw[zLh]at hj;subst hj;exact hin
theorem Hl{k:Nat}(hd:n.Nodup)(hn:∀i∈n,i<k):n.length<=k:=by
 have hp:n.Perm ((List.range k).filter (fun i=>decide (i∈n))):=(List.perm_ext_iff_of_nodup hd (List.nodup_range.filter _)).2 fun i=>by
  simp only[List.mem_filter,List.mem_range,zLd];exact⟨fun h=>⟨hn i h,h⟩,fun h=>h.2⟩
 rw[hp.length_eq];have:=List.length_filter_le (fun i=>decide (i∈n)) (List.range k);simpa using this
end Bu
end Go.Av
namespace Go.Av
namespace Bu
open Go.Proofs Tryz
variable{G:Glob}
theorem MY:(tP.info? 63).bind (·.zero)=some (.agg #[nZ,nZ]):=nR
theorem Du:zO tP 197 0 0=true:=nR
theorem BE:zO tP 194 1 1=true:=nR
variable{fr:Nat->EV}{i k:Nat}{l:List Int}
theorem K3{n n':NS}{mem:TP}(h:n=n'):Weak ⟨n,fr,mem⟩ ⟨n',fr,mem⟩:=h▸fun _ _ _ _ h=>h
theorem Pe{P:Program}{m:TP}{o:Oper}{x y:EV}(h:OpY P G fr m o x)(e:x=y):OpY P G fr m o y:=e▸h
theorem Sj{x:List Int}{mem:TP}(h:mem[k]?=some (.row (rI x))):DV mem (.psl k x.length) (eI x):=
 .psl h (by simp[rI]) (by
  clear h
  induction x with
  |nil=>exact .nil
  |cons a l ih=>exact .cons (.cons .r .nil) ih)
theorem HA(h:i<l.length):l.getD i 0=l[i]:=by simp[h]
theorem Rx(h1:1<=k)(h:k<l.length):min (mnL (l.take k)) l[k]=mnL (l.take (k+1)):=by
 cases l with
 |nil=>simp at h
 |cons x l=>
  obtain⟨j,rfl⟩:∃j,k=j+1:=⟨k-1,oM⟩;have hj:j<l.length:=by simpa using h
  simp only[List.take_succ_cons,List.getElem_cons_succ,mnL];rw[zLt hj,List.foldl_append];rfl
theorem Sv(h1:1<=k)(h:k<l.length):max (mxL (l.take k)) l[k]=mxL (l.take (k+1)):=by
 cases l with
 |nil=>simp at h
 |cons x l=>
  obtain⟨j,rfl⟩:∃j,k=j+1:=⟨k-1,oM⟩;have hj:j<l.length:=by simpa using h
  simp only[List.take_succ_cons,List.getElem_cons_succ,mxL];rw[zLt hj,List.foldl_append];rfl
theorem zbm(h:0<l.length):l[0]=mnL (l.take 1):=by
 cases l with
 |nil=>simp at h
 |cons x l=>rfl
theorem zbu(h:0<l.length):l[0]=mxL (l.take 1):=by
 cases l with
 |nil=>simp at h
 |cons x l=>rfl
theorem zbC(l:List Int)(hl:l≠[])(hl9:l.length<=1000):ACall tP G 101 [eI l] (ei (mnL l)):=by
 have hm:(l.map fun n=>[ei n]).length=l.length:=sI;have hl0:0<l.length:=List.length_pos_iff.2 hl;refine aC func101 ?_;refine Z9 ?_;refine zb (zM Y Y Y underlying24) (Z3 ?_);refine nC ?_ ?_<;>intro h0
 ·skip;exfalso;simp at h0;omega
 ·skip;refine Z5 ?_;refine zb (zc Y Y Y zY oM (by exact zA (ds:=l) (i:=0) hl0) zn) ?_;refine zb (zl Y Y Y ki) (Z10 ?_);refine zD (ι:={k:Nat//1<=k/\k<=l.length}) (fun k=>⟨Tryz.f101.ntmps,frL [(0,.pub (eI l)),(3,I (mnL (l.take k.1))),(4,I (k.1:Int))],[]⟩) (fun k=>l.length-k.1) (⟨1,⟨oM,oM⟩⟩) ?_ ?_
  ·exact zd _ ⟨Y,(zLz I (zbm hl0)),Y,trivial⟩ (Y)
  ·rintro⟨k,hk⟩;dsimp only;refine Z5 ?_;refine zb (zM Y Y Y underlying24) (Z3 ?_);refine nC ?_ ?_<;>intro h1
   ·skip;have hlt:k<l.length:=by rw[hm]at h1;simpa using h1
    refine Z8 ?_;refine zb (zc Y Y Y zY oM (by exact zA (ds:=l) (i:=k) hlt) zn) ?_;refine zb (zl Y Y Y ki) (Z10 ?_);exact⟨⟨k+1,⟨oM,oM⟩⟩,by dsimp only;omega,zd _ ⟨Y,(zLz I (Rx hk.1 hlt)),Y,trivial⟩ (Y)⟩
   ·skip;have hge:k=l.length:=by rw[hm]at h1;simp at h1;omega
    refine Z12 ?_;exact⟨.inr Y,AVle.of (by rw[hge,List.take_length])⟩
theorem zaQ(l:List Int)(hl:l≠[])(hl9:l.length<=1000):ACall tP G 102 [eI l] (ei (mxL l)):=by
 have hm:(l.map fun n=>[ei n]).length=l.length:=sI;have hl0:0<l.length:=List.length_pos_iff.2 hl;refine aC func102 ?_;refine Z9 ?_;refine zb (zM Y Y Y underlying24) (Z3 ?_);refine nC ?_ ?_<;>intro h0
 ·skip;exfalso;simp at h0;omega
 ·skip;refine Z5 ?_;refine zb (zc Y Y Y zY oM (by exact zA (ds:=l) (i:=0) hl0) zn) ?_;refine zb (zl Y Y Y ki) (Z10 ?_);refine zD (ι:={k:Nat//1<=k/\k<=l.length}) (fun k=>⟨Tryz.f102.ntmps,frL [(0,.pub (eI l)),(3,I (mxL (l.take k.1))),(4,I (k.1:Int))],[]⟩) (fun k=>l.length-k.1) (⟨1,⟨oM,oM⟩⟩) ?_ ?_
  ·exact zd _ ⟨Y,(zLz I (zbu hl0)),Y,trivial⟩ (Y)
  ·rintro⟨k,hk⟩;dsimp only;refine Z5 ?_;refine zb (zM Y Y Y underlying24) (Z3 ?_);refine nC ?_ ?_<;>intro h1
   ·skip;have hlt:k<l.length:=by rw[hm]at h1;simpa using h1
    refine Z8 ?_;refine zb (zc Y Y Y zY oM (by exact zA (ds:=l) (i:=k) hlt) zn) ?_;refine zb (zl Y Y Y ki) (Z10 ?_);exact⟨⟨k+1,⟨oM,oM⟩⟩,by dsimp only;omega,zd _ ⟨Y,(zLz I (Sv hk.1 hlt)),Y,trivial⟩ (Y)⟩
   ·skip;have hge:k=l.length:=by rw[hm]at h1;simp at h1;omega
    refine Z12 ?_;exact⟨.inr Y,AVle.of (by rw[hge,List.take_length])⟩
theorem EN{l:List ((Int × Int) × Std)}(h:i<l.length):((sdL l).map fun p=>spE p.1)[i]?=some (spE l[i].1)/\((sdL l).map (·.2))[i]?=some (.ptr [eI l[i].2.parts,ei l[i].2.came]):=by
 simp[sdL,h]
theorem Ql(p:Int × Int):ofV (spE p)=.agg [ei p.1,ei p.2]:=by simp only[spE,ofV];rfl
theorem u5{s:Hs.Sut}{e:(Int × Int) × Std}{c:Nat}{x:Int}(h:yj e.2.came c=true)(hx:x=pt1 s e c):PO.row (rI (ptL s e c)++[[I x]])=.row (rI (ptL s e (c+1))):=by
 rw[←ux h,hx];simp[rI]
theorem gX{a b c d:Int}{xs:TP}:zW 2 ((.row [[I a,I b]]::.row [[I c,I d]]::xs).take 2):=by
 refine⟨?_,?_,trivial⟩<;>(intro r hr x hx;simp at hr;subst hr;simp at hx;rcases hx with rfl|rfl<;>simp[EV.lt,I])
theorem MV{l:List ((Int × Int) × Std)}(h:i<l.length):l.getD i sd0=l[i]:=by simp[h]
theorem q32(s:Hs.Sut)(hS:Hs.SuP s)(b:BS)(hk:∀e∈b.said,SdK s e)(hn:b.said.length<=60):ACall tP G 32 [.ptr (eBu s b)] (.tup [.agg [ei (cI s b),ei (cU s b)],ei 0]):=by
 have hKL:((sdL b.said).map fun p=>spE p.1).length=b.said.length:=by simp[sdL]
 have hcl:2<=s.cls/\s.cls<=3:=by have:=hS.s6;simp[Hs.s6B,Hs.inB]at this;omega
 have hwt:∀x∈s.wts,0<=x/\x<=100:=by have:=hS.s6;simp only[Hs.s6B,zLa,zLu,Hs.inB_iff]at this;exact this.1
 refine aC func32 ?_;refine Z2 ?_;refine zm Y (zE Y Y MY Y Y) (Z7 ?_);refine yc (f94 s b) ?_;refine Z2 ?_;refine nC ?_ ?_<;>intro h0
 ·skip;exfalso;simp at h0
 ·skip;refine Z4 ?_;refine zm Y (zE Y Y MY Y Y) (Z7 ?_);refine zb (zf Y Y gQ) (zb (zl Y Y Y Im) ?_);refine lH Y Y Y Y underlying175 (fun bb gg cc hcc=>?_);refine Z3 ?_;refine zD (ι:={x:List Nat//x.Nodup/\∀j∈x,j<b.said.length}) (fun x=>⟨((NS.of Tryz.f32.ntmps).itM bb gg cc x.1 ((sdL b.said).map fun p=>spE p.1) ((sdL b.said).map (·.2))),frL [(0,.pub (.ptr (eBu s b))),(2,.pp 0 1 0 0),(4,.pp 1 1 0 0),(18,itP bb)],[.row [[I 0,I 0]],.row [[I (suS (loE s) sd0 b.said x.1),I (suS (hiE s) sd0 b.said x.1)]]]⟩) (fun x=>b.said.length-x.1.length) (⟨[],⟨List.nodup_nil,sI⟩⟩) ?_ ?_
  ·exact zd _ rL (Y)
  ·rintro⟨x,hx⟩;dsimp only;refine Z2 ?_;refine pA (n:=NS.of Tryz.f32.ntmps) Y Y Y Y Y hcc Y (fun ch hch=>?_);refine zb (jD Y Y (XH _ _ ch)) ?_;refine Z3 ?_;refine nC ?_ ?_<;>intro h1
   ·skip;refine Exists.elim (E0 hch (by simpa using h1)) (fun i hi=>?_);have hib:i<b.said.length:=by have:=hi.2.2;rwa[hKL]at this
    have hsd:=hk _ (zLm hib);have hx2:(x++[i]).Nodup/\∀j∈x++[i],j<b.said.length:=Q0 hx hi.2.1 hib;have hl2:=Hl hx2.1 hx2.2;have hsA:=Ii (f:=loE s) (d:=sd0) (fun e he=>F5 hwt (hk e he).p) hx.2;have hsZ:=Ii (f:=hiE s) (d:=sd0) (fun e he=>H4 hwt (hk e he).p) hx.2;have hll:(x++[i]).length=x.length+1:=sI;have hiA:suS (loE s) sd0 b.said x+loE s b.said[i]=suS (loE s) sd0 b.said (x++[i]):=by rw[←FA,MV hib]
    have hiZ:suS (hiE s) sd0 b.said x+hiE s b.said[i]=suS (hiE s) sd0 b.said (x++[i]):=by rw[←FA,MV hib]
    have hpl:=hsd.l;have hwb:=hsd.w;have hcm:=hsd.n;have hwl:b.said[i].1.2.toNat<s.wts.length:=oM;refine zt (K3 (n':=((NS.of Tryz.f32.ntmps).itM bb gg cc (x++[i]) ((sdL b.said).map fun p=>spE p.1) ((sdL b.said).map (·.2)))) (zLz (fun z=>((NS.of Tryz.f32.ntmps).itM bb gg cc z ((sdL b.said).map fun p=>spE p.1) ((sdL b.said).map (·.2)))) (by rw[hi.1]))) ?_;refine Z5 ?_;refine ma (n:=NS.of Tryz.f32.ntmps) (i:=i) (seen:=x) Y Y Y Y Y hcc (EN hib).1 (EN hib).2 ?_;refine zb (Pe (jD Y Y Y) (zLz EV.pub (Ql _))) ?_;refine Z ?_;refine zI Y Y Y Y Y Y Y u7 AZ Y rF (zF Y) Y (Z8 ?_);refine zb (zf Y Y o9) (zb (zl Y Y Y ki) ?_);refine Z3 ?_;refine nC ?_ ?_<;>intro h2
    ·skip;have hc0:b.said[i].2.came=0:=by simpa using h2
     have eA:loE s b.said[i]=0:=by unfold loE;rw[zLc hc0]
     have eZ:hiE s b.said[i]=0:=by unfold hiE;rw[zLc hc0]
     have hmeq:([.row [[I 0,I 0]],.row [[I (suS (loE s) sd0 b.said x),I (suS (hiE s) sd0 b.said x)]]]:TP)=[.row [[I 0,I 0]],.row [[I (suS (loE s) sd0 b.said (x++[i])),I (suS (hiE s) sd0 b.said (x++[i]))]]]:=by rw[←hiA,←hiZ,eA,eZ,Int.add_zero,Int.add_zero]
     refine Z3 ?_;exact⟨⟨x++[i],hx2⟩,by dsimp only;omega,Weak.trans (zd [(0,.pub (.ptr (eBu s b))),(2,.pp 0 1 0 0),(4,.pp 1 1 0 0),(18,itP bb)] ⟨Y,Y,Y,Y,trivial⟩ hmeq) (l5 2 ⟨trivial,(by show 0<2;omega),(by show 1<2;omega),trivial,trivial⟩ gX (by simp[NS.itM,NS.of,EV.lt]))⟩
    ·skip;have hc0:¬b.said[i].2.came=0:=by simpa using h2
     have eA:loE s b.said[i]=mnL (ptL s b.said[i] s.cls.toNat):=by unfold loE;rw[zLy hc0]
     have eZ:hiE s b.said[i]=mxL (ptL s b.said[i] s.cls.toNat):=by unfold hiE;rw[zLy hc0]
     have hpl9:=u6 s b.said[i] s.cls.toNat;have hne:ptL s b.said[i] s.cls.toNat≠[]:=hsd.c.resolve_left hc0;have hmeq:([.row [[I 0,I 0]],.row [[I (suS (loE s) sd0 b.said x+mnL (ptL s b.said[i] s.cls.toNat)),I (suS (hiE s) sd0 b.said x+mxL (ptL s b.said[i] s.cls.toNat))]],.row (rI (ptL s b.said[i] s.cls.toNat))]:TP)=[.row [[I 0,I 0]],.row [[I (suS (loE s) sd0 b.said (x++[i])),I (suS (hiE s) sd0 b.said (x++[i]))]],.row (rI (ptL s b.said[i] s.cls.toNat))]:=by rw[←hiA,←hiZ,eA,eZ]
     have bA:=F5 hwt hsd.p;have bZ:=H4 hwt hsd.p;refine Z9 ?_;refine zt (yZ 7 Y) ?_;refine Z3 ?_;refine zb (zf Y Y lC) (zb (zf Y Y fB) (zb (zl Y Y Y ki) ?_));refine Z4 ?_;refine zD (ι:={c:Nat//c<=s.cls.toNat}) (fun c=>⟨((NS.of Tryz.f32.ntmps).itM bb gg cc (x++[i]) ((sdL b.said).map fun p=>spE p.1) ((sdL b.said).map (·.2))),frL [(0,.pub (.ptr (eBu s b))),(2,.pp 0 1 0 0),(4,.pp 1 1 0 0),(5,.pub (.ptr [ei b.said[i].1.1,ei b.said[i].1.2])),(6,.pub (.ptr [eI b.said[i].2.parts,ei b.said[i].2.came])),(7,.psl 2 (ptL s b.said[i] c.1).length),(18,itP bb),(33,I s.cls),(34,I (c.1:Int))],[.row [[I 0,I 0]],.row [[I (suS (loE s) sd0 b.said x),I (suS (hiE s) sd0 b.said x)]],.row (rI (ptL s b.said[i] c.1))]⟩) (fun c=>s.cls.toNat-c.1) (⟨0,oM⟩) ?_ ?_
     ·exact zd _ rL (Y)
     ·rintro⟨c,hc⟩;dsimp only;refine Z6 ?_;refine nC ?_ ?_<;>intro h3
      ·skip;have hlt:c<s.cls.toNat:=by simp at h3;omega
       have hpb:-1000000<=(if gB b.said[i].2.parts (c:Int)=true then gnL b.said[i].2.parts (c:Int).toNat else 0)*s.wts[b.said[i].1.2.toNat]/\(if gB b.said[i].2.parts (c:Int)=true then gnL b.said[i].2.parts (c:Int).toNat else 0)*s.wts[b.said[i].1.2.toNat]<=1000000:=by have h:=NN hwt hsd.p c;unfold pt1 at h;rw[HA hwl]at h;exact h
       refine Z14 ?_;refine zb (zf Y Y o9) (zb (zl Y Y Y ki) ?_);refine Z ?_;refine zb (MD Y Y Y oM oM) (zb (Gs Y Y Y) ?_);refine Z3 ?_;refine nC ?_ ?_<;>intro h4
       ·skip;have hbt:yj b.said[i].2.came c=true:=h4;have hpl3:=u6 s b.said[i] c;refine Z4 ?_;refine zb (zf Y Y Du) (zb (zl Y Y Y hU) ?_);refine Z ?_;refine yc (f51 b.said[i].2.parts oM _) ?_;refine Z7 ?_;refine qd (fun _=>True) (fun k=>match k with|1=>.stable|2=>.stable|3=>.stable|4=>.stable|5=>.stable|6=>.stable|7=>.stable|8=>.stable|9=>.stable|10=>.stable|11=>.stable|13=>.writes|14=>.stable|_=>.here) mixed nR rfl nR trivial ?_;refine Z4 ?_;refine zC Y Y (fun m hm=>zf Y Y lC) (zC Y Y (fun m hm=>zf Y Y rR) (zC Y Y (fun m hm=>zl Y Y Y hU) (zC Y Y (fun m hm=>zf Y Y BE) (zC Y Y (fun m hm=>zl Y Y Y ki) ?_))));refine zC Y Y (fun m hm=>zc Y Y Y zY oM (by exact zA (ds:=s.wts) (i:=b.said[i].1.2.toNat) hwl) zn) ?_;refine zC Y Y (fun m hm=>zl Y Y Y ki) (Z ?_);refine zK Y Y (zw (size:=1) (rows:=[[_]]) Y underlying24 Xs Y dE Y dE ⟨_,_,Y,jT Y,Y⟩ rF (by simp[ofV]) Y sI) ?_;refine qw Y Y (qz Y Y Y (by simp[rI]) Y Eb Oj (by intro r hr;simp at hr;subst hr;rfl) (by simp;omega) (by unfold maxLen;simp;omega)) trivial (Z8 ?_)
        first|exact⟨⟨c+1,by omega⟩,by dsimp only;omega,zd _ ⟨rfl,rfl,rfl,rfl,rfl,(zLz (EV.psl 2) (by rw[←ux hbt];simp)),rfl,rfl,rfl,trivial⟩ (zLz (fun z=>[PO.row [[I 0,I 0]],PO.row [[I (suS (loE s) sd0 b.said x),I (suS (hiE s) sd0 b.said x)]],z]) (u5 hbt (by unfold pt1;rw[HA hwl];rfl)))⟩|exact⟨⟨c+1,by omega⟩,by dsimp only;omega,zd _ ⟨rfl,rfl,rfl,rfl,rfl,(zLz (EV.psl 2) (by rw[←ov hbt])),rfl,rfl,rfl,trivial⟩ (zLz (fun z=>[PO.row [[I 0,I 0]],PO.row [[I (suS (loE s) sd0 b.said x),I (suS (hiE s) sd0 b.said x)]],PO.row (rI z)]) (ov hbt))⟩
       ·skip;have hbt:yj b.said[i].2.came c=false:=by simpa[yj]using h4
        refine Z7 ?_;first|exact⟨⟨c+1,by omega⟩,by dsimp only;omega,zd _ ⟨rfl,rfl,rfl,rfl,rfl,(zLz (EV.psl 2) (by rw[←ux hbt];simp)),rfl,rfl,rfl,trivial⟩ (zLz (fun z=>[PO.row [[I 0,I 0]],PO.row [[I (suS (loE s) sd0 b.said x),I (suS (hiE s) sd0 b.said x)]],z]) (u5 hbt (by unfold pt1;rw[HA hwl];rfl)))⟩|exact⟨⟨c+1,by omega⟩,by dsimp only;omega,zd _ ⟨rfl,rfl,rfl,rfl,rfl,(zLz (EV.psl 2) (by rw[←ov hbt])),rfl,rfl,rfl,trivial⟩ (zLz (fun z=>[PO.row [[I 0,I 0]],PO.row [[I (suS (loE s) sd0 b.said x),I (suS (hiE s) sd0 b.said x)]],PO.row (rI z)]) (ov hbt))⟩
      ·skip;have hge:c=s.cls.toNat:=by simp at h3;omega
       subst hge;have hdv:DV [.row [[I 0,I 0]],.row [[I (suS (loE s) sd0 b.said x),I (suS (hiE s) sd0 b.said x)]],.row (rI (ptL s b.said[i] s.cls.toNat))] (.psl 2 (ptL s b.said[i] s.cls.toNat).length) (eI (ptL s b.said[i] s.cls.toNat)):=Sj rfl;refine Z5 ?_;refine qd (fun m=>∃r,m[1]?=some (PO.row [r])) (fun k=>match k with|7=>.stable|9=>.stable|11=>.writes|12=>.stable|13=>.writes|_=>.here) mixed nR rfl nR ⟨_,rfl⟩ ?_;refine zK Y Y (ze Y Y Y Y ag) (zK Y Y (zg Y Y Y Y Y Y ki) ?_);refine Z ?_;refine zK Y Y (jc (av:=[_]) Y ⟨hdv,trivial⟩ Y (zbC _ hne oM)) ?_;refine Z ?_;refine zK Y Y (ze Y Y Y Y xE) (zK Y Y (zg Y Y Y Y Y Y ki) ?_);refine Z ?_;refine zK Y Y (jc (av:=[_]) Y ⟨hdv,trivial⟩ Y (zaQ _ hne oM)) ?_;refine Z ?_;refine zK Y Y (ze Y Y Y Y ag) ?_;refine qw Y Y (zz Y Y Y Y Y Y cEx ki rF rF) ⟨_,Y⟩ ?_;refine zC Y Y (fun m hm=>ze (rows:=[hm.choose]) Y Y hm.choose_spec Y xE) ?_;refine qw Y Y (zz Y Y Y Y Y Y cEx ki rF rF) ⟨_,Y⟩ ?_
       refine Z2 ?_;exact⟨⟨x++[i],hx2⟩,by dsimp only;omega,Weak.trans (zd [(0,.pub (.ptr (eBu s b))),(2,.pp 0 1 0 0),(4,.pp 1 1 0 0),(18,itP bb)] ⟨Y,Y,Y,Y,trivial⟩ hmeq) (l5 2 ⟨trivial,(by show 0<2;omega),(by show 1<2;omega),trivial,trivial⟩ gX (by simp[NS.itM,NS.of,EV.lt]))⟩
   ·skip;have hall:∀j,j<b.said.length->j∈x:=by have:=Gu hch (by simpa using h1);rwa[hKL]at this
    refine Z7 ?_;refine zb (wb (cs:=[_,_]) Y Y Y Y Y bL Y vd) ?_;refine zm Y (zp Y Y Y Y Y Y cEx vd rF bL) (Z4 ?_);exact⟨.inr Y,⟨_,Y,⟨_,_,Y,(zQ Y Y Y Y vd Y ⟨_,_,Y,(by exact AVle.of (by rw[mZ hx.1 hx.2 hall];rfl)),⟨_,_,Y,(by exact AVle.of (by rw[mZ hx.1 hx.2 hall];rfl)),Y⟩⟩),⟨_,_,Y,AVle.refl _,Y⟩⟩⟩⟩
theorem Xg:k15.said=[((0,0),⟨[70,20,10],1⟩),((0,1),⟨[50,50,0],3⟩)]:=nR
theorem za6:∀e∈k15.said,SdK sK e:=fun e he=>by
 rw[Xg]at he;simp only[List.mem_cons,List.not_mem_nil,or_false]at he;rcases he with rfl|rfl
 ·exact⟨nR,nR,dE,.inr dE,dE⟩
 ·exact⟨nR,nR,dE,.inr dE,dE⟩
theorem toK:ACall tP GB 32 [.ptr (eBu sK k15)] (.tup [.agg [ei 18600,ei 18600],ei 0]):=by
 have h:=q32 (G:=GB) sK suK k15 za6 (zLb nR);rw[show cI sK k15=18600 from nR,show cU sK k15=18600 from nR]at h;exact h
theorem paK:ACall tP GB 33 [.ptr (eBu sK k15)] (.tup [.agg [ei 555,ei 555],ei 0]):=by
 have h:=q33 (G:=GB) sK k15 (A:=18600) (ZZ:=18600) suK.pap dE dE toK;rw[show dB sK.pb sK.pr sK.pl 18600=555 from nR]at h;exact h
theorem zbb:prP (liK 24)=some (⟨306,0,false,false,false⟩,[],[]):=nR
theorem zaJ:Ln sK (liK 24) k15 k15 (Lib.join ([18600,18600].map Lib.itoa) [32]) 0:=by
 have h:=toK;exact eg (qdo (liK 24) dE zbb (f94 sK k15) (zbG h []) dE dE (zLb nR))
theorem zaw:prP (liK 25)=some (⟨307,0,false,false,false⟩,[],[]):=nR
theorem zbQ:Ln sK (liK 25) k15 k15 (Lib.join ([555,555].map Lib.itoa) [32]) 0:=by
 have h:=paK;exact eg (qdo (liK 25) dE zaw (f94 sK k15) (X6 h []) dE dE (zLb nR))
def bsK(k:Nat):BS:=[k0,k1,k1,k2,k2,k3,k4,k5,k6,k7,k7,k7,k7,k8,k8,k9,k9,k9,k9,k10,k11,k12,k13,k14,k15,k15,k15,k15].getD k k0
def ouK(k:Nat):List UInt8:=[[],Lib.join ([76000,76000,76000,76000].map Lib.itoa) [32],[],Lib.join ([76000,75902,75902,75802].map Lib.itoa) [32],[],[],[],[],[],Lib.join ([76000,75902,75902,75810].map Lib.itoa) [32],Lib.join ([17].map Lib.itoa) [32],Lib.join ([328].map Lib.itoa) [32],[],[],[],Lib.join ([850,890].map Lib.itoa) [32],Lib.join ([2].map Lib.itoa) [32],Lib.join ([3].map Lib.itoa) [32],[],[],[],[],[],[],Lib.join ([18600,18600].map Lib.itoa) [32],Lib.join ([555,555].map Lib.itoa) [32],Lib.join ([1].map Lib.itoa) [32]].getD k []
def erK(k:Nat):Int:=[0,0,0,0,7,0,0,7,0,0,0,0,0,5,0,0,0,0,0,6,7,0,0,0,0,0,0].getD k 0
theorem lnK:∀k,k<27->Ln sK (vH (rsN tK k)).1 (bsK k) (bsK (k+1)) (ouK k) (erK k)
 |0,_=>la0
 |1,_=>lq1
 |2,_=>la1
 |3,_=>lq3
 |4,_=>la2
 |5,_=>la3
 |6,_=>la4
 |7,_=>la5
 |8,_=>la6
 |9,_=>lq9
 |10,_=>zbU
 |11,_=>zbf
 |12,_=>la7
 |13,_=>zbp
 |14,_=>la8
 |15,_=>zaS
 |16,_=>zbS
 |17,_=>XU
 |18,_=>la9
 |19,_=>zbH
 |20,_=>zb3
 |21,_=>X4
 |22,_=>zb4
 |23,_=>zaf
 |24,_=>zaJ
 |25,_=>zbQ
 |26,_=>zaY
 |n+27,h=>absurd h oM
theorem btK:btT ouK erK 27=anK:=nR
theorem szK:(List.range 28).all (fun k=>Nat.ble (btT ouK erK k).length 90000000)=true:=nR
theorem rpK:(List.range 27).all (fun k=>Nat.ble (rpT (ouK k) (erK k)).length 1000000)=true:=nR
theorem ebK:∀k,k<27->-9223372036854775808<=erK k/\erK k<=9223372036854775807:=dE
theorem zbP:ACall tP GB 64 [.agg (Hs.eSut sK),eS tK] (.tup [eS anK,ei 0]):=by
 have hne:=neK;rw[zLu]at hne
 have h1:∀k,k<27->rsN tK k≠[]/\liK k≠[]:=fun k hk=>by
  have:=hne k (List.mem_range.2 hk);simp only[zLa,Bool.not_eq_true',List.isEmpty_eq_false_iff]at this;exact⟨this.1.1,this.1.2⟩
 have h:=JA (n:=27) smK suK (zLb zbR) oM (fun k hk=>(h1 k hk).1) (fun k hk=>(h1 k hk).2) zbo (bs:=bsK) rfl lnK
  (fun k hk=>zLb (zLu.1 szK k (List.mem_range.2 oM))) ebK (fun k hk=>zLb (zLu.1 rpK k (List.mem_range.2 hk)))
 rw[btK]at h;exact h
theorem q14:ACall tP GB 14 [] (.v (.bool true)):=by
 refine aC func14 ?_;refine Z7 ?_;refine yc q65 ?_;refine yc zbP ?_;refine Z13 ?_;refine zh Y (fun hg=>dD (a:=anK) (b:=anK) Y Y Y) (Z5 ?_);exact aR
end Bu
end Go.Av
end
