import Derived.Test.YtigbomcjnlikjaaGreatDoorChB
set_option linter.unusedVariables false
set_option linter.unusedSimpArgs false
set_option maxRecDepth 100000
set_option maxHeartbeats 9000000
section
namespace Go.Av
namespace Ct
open Go.Proofs Tryz
variable{G:Glob}
def apartB(m:Mp)(a b:Stn):Bool:=decide (b.hi<a.lo-m.slope*jC m.wide a.pt b.pt)||decide (a.hi<b.lo-m.slope*jC m.wide a.pt b.pt)
def Bn(s:Stn):Prop:=0<=s.pt/\s.pt<=30/\0<=s.lo/\s.lo<=99999/\0<=s.hi/\s.hi<=99999
variable{m:Mp}{p:Nat->Nat->Bool}{k n:Nat}
theorem okM.st(hm:okM m):∀s∈m.st,Bn s:=fun s hs=>by
 obtain⟨m1,m2,m3,m4,m5,m6,m7,m8⟩:=hm;have h:=m8 s hs;have har:=area m1 m2 m3 m4;unfold Bn;omega
def vb(p:Nat->Nat->Bool)(n:Nat):Option (Nat × Nat):=(List.range n).findSome? fun i=>((List.range n).find? fun j=>decide (i<j)&&p i j).map fun j=>(i,j)
theorem find_range{p:Nat->Bool}(hk:k<n)(hp:p k=true)(h:∀i<k,p i=false):(List.range n).find? p=some k:=by
 rw[List.find?_range_eq_some];exact⟨hp,by simpa using hk,fun j hj=>by simp[h j hj]⟩
theorem fQ{i j:Nat}(hi:i<j)(hj:j<n)(hp:p i j=true)(h1:∀a<i,∀b<n,a<b->p a b=false)(h2:∀b,i<b->b<j->p i b=false):vb p n=some (i,j):=by
 unfold vb
 have e:∀a,a<i->((List.range n).find? fun j=>decide (a<j)&&p a j)=none:=fun a ha=>by
  rw[List.find?_range_eq_none];intro b hb
  by_cases hab:a<b
  ·simp[h1 a ha b hb hab]
  ·simp[hab]
 have e2:((List.range n).find? fun b=>decide (i<b)&&p i b)=some j:=find_range hj (by simp[hi,hp]) (fun b hb=>by
  by_cases hab:i<b
  ·simp[h2 b hab hb]
  ·simp[hab])
 have e3:List.range n=List.range i++i::(List.range n).drop (i+1):=by
  have:i<(List.range n).length:=by simp;omega
  have h:=List.take_append_drop i (List.range n);rw[List.drop_eq_getElem_cons this,List.take_range,List.getElem_range,Nat.min_eq_left oM]at h;exact h.symm
 generalize hf:(fun a=>((List.range n).find? fun j=>decide (a<j)&&p a j).map fun j=>(a,j))=f;have hfi:f i=some (i,j):=by rw[←hf];simp only[e2,Option.map_some]
 have hfn:∀a∈List.range i,f a=none:=fun a ha=>by rw[←hf];simp only[e a (List.mem_range.1 ha),Option.map_none]
 rw[e3,List.findSome?_append,List.findSome?_eq_none_iff.2 hfn,Option.none_or,List.findSome?_cons,hfi]
theorem gI(h:∀a<n,∀b<n,a<b->p a b=false):vb p n=none:=by
 unfold vb;rw[List.findSome?_eq_none_iff];intro a ha;rw[Option.map_eq_none_iff,List.find?_range_eq_none];intro b hb
 by_cases hab:a<b
 ·simp[h a (List.mem_range.1 ha) b hb hab]
 ·simp[hab]
def ig(m:Mp)(i j:Nat):Bool:=apartB m (m.st.getD i Hh) (m.st.getD j Hh)
def clashOf(m:Mp):Option (Nat × Nat):=vb (ig m) m.st.length
theorem hZ{i j:Nat}(hi:i<m.st.length)(hj:j<m.st.length):ig m i j=apartB m m.st[i] m.st[j]:=by
 unfold ig;rw[show m.st.getD i Hh=m.st[i] by simp[List.getD,hi],show m.st.getD j Hh=m.st[j] by simp[List.getD,hj]]
def Q2:Option (Nat × Nat)->AV
 |some (i,j)=>.tup [ei i,ei j,.v (.bool true)]
 |none=>.tup [ei 0,ei 0,.v (.bool false)]
theorem f138(m:Mp)(a b:Stn)(hm:okM m)(ha:Bn a)(hb:Bn b):ACall tP G 230 [.agg (qo m),.agg (eStn a),.agg (eStn b)] (.v (.bool (apartB m a b))):=by
 obtain⟨m1,m2,m3,m4,m5,m6,m7,m8⟩:=hm;obtain⟨a1,a2,a3,a4,a5,a6⟩:=ha;obtain⟨b1,b2,b3,b4,b5,b6⟩:=hb;have hd:=mG (N:=30) (w:=m.wide) (a:=a.pt) (b:=b.pt) m1 oM oM;have hsd:=NA m5 m6 hd.1 (by omega:jC m.wide a.pt b.pt<=100);refine aC func230 ?_;refine Z9 ?_;refine zN mixed nR Y ?_;refine Z9 ?_;refine zH Y (zi (av:=[_,_,_]) Y rL (f119 m.wide m.rows _ _ oM oM oM)) ?_;refine Z20 ?_;refine zh Y (fun hg=>j4 Y (zLc hg) (zLc hg) ⟨(by first|omega|(simp at hg;omega)),(by first|omega|(simp at hg;omega))⟩) (Z9 ?_);exact aR
theorem f101(m:Mp)(hm:okM m):ACall tP G 127 [.agg (qo m)] (Q2 (clashOf m)):=by
  have hln:=hm.2.2.2.2.2.2.1;refine aC func127 ?_;refine Z19 ?_;refine zD (ι:={k:Nat//k<=m.st.length/\∀a<k,∀b<m.st.length,a<b->ig m a b=false}) (fun k=>⟨Tryz.f127.ntmps,frL [(1,.pub (.ptr (qo m))),(10,.pub (.sl (m.st.map eStn))),(11,I (m.st.length:Int)),(12,I (k.1:Int))],[]⟩) (fun k=>m.st.length-k.1) (⟨0,oM,fun a ha=>absurd ha oM⟩) ?_ ?_
  · exact zd _ ⟨Y,Y,(zLz (fun x:Nat=>I (x:Int)) (zL8 _)),Y,trivial⟩ (Y)
  · rintro⟨k,hk⟩
    dsimp only;refine Z6 ?_;refine nC ?_ ?_<;>intro h0
    · skip
      have hlt:k<m.st.length:=by simpa using h0
      refine Z7 ?_;refine zb (zc Y Y Y wu oM (cE hlt) xY) (Z ?_);refine fJ Y Y Y Y Y Y Y Y (xP Y Y) Y Y Y rA i6 Y rF (zF Y) Y ?_;refine Z10 ?_;refine zD (ι:={j:Nat//k<j/\j<=m.st.length/\∀b,k<b->b<j->b<m.st.length->ig m k b=false}) (fun j=>⟨Tryz.f127.ntmps,frL [(1,.pub (.ptr (qo m))),(10,.pub (.sl (m.st.map eStn))),(11,I (m.st.length:Int)),(12,I (k:Int)),(5,I (k:Int)),(6,.pub (.ptr (eStn m.st[k]))),(7,I (j.1:Int))],[]⟩) (fun j=>m.st.length-j.1) (⟨k+1,oM,oM,fun b h1 h2=>absurd h1 oM⟩) ?_ ?_
      · exact zd _ rL (Y)
      · rintro⟨j,hj⟩
        dsimp only;refine Z11 ?_;refine nC ?_ ?_<;>intro h1
        · skip
          have hjt:j<m.st.length:=by simp at h1;omega
          refine Z5 ?_;refine zN mixed nR Y ?_;refine Z6 ?_;refine zH Y (zc Y Y Y wu oM (cE hjt) xY) (Z ?_);refine zH Y (zi (av:=[_,_,_]) Y rL (f138 m _ _ hm (hm.st _ (zLm hlt)) (hm.st _ (zLm hjt)))) ?_;refine Z2 ?_;refine nC ?_ ?_<;>intro h2
          · skip
            have hyes:ig m k j=true:=(hZ hlt hjt).trans h2;have hc:clashOf m=some (k,j):=fQ hj.1 hjt hyes hk.2 (fun b b1 b2=>hj.2.2 b b1 b2 oM);refine Z19 ?_;refine⟨.inr Y,?_⟩;rw[hc];exact⟨_,Y,⟨_,_,Y,AVle.refl _,⟨_,_,Y,AVle.refl _,⟨_,_,Y,AVle.refl _,Y⟩⟩⟩⟩
          · skip
            have hno:ig m k j=false:=(hZ hlt hjt).trans h2;refine Z8 ?_
            exact ⟨⟨j + 1, oM, oM, fun b b1 b2 b3 => by
                              by_cases e:b=j
                              · subst e;exact hno
                              · exact hj.2.2 b b1 oM b3⟩,by dsimp only;omega,zd _ rL (Y)⟩
        · skip
          have hjge:m.st.length<=j:=by simp at h1;omega
          refine Z10 ?_
          exact ⟨⟨k + 1, oM, fun a ha b hb hab => by
                              by_cases e:a=k
                              · subst e;exact hj.2.2 b hab oM hb
                              · exact hk.2 a oM b hb hab⟩,by dsimp only;omega,zd _ rL (Y)⟩
    · skip
      have hge:m.st.length<=k:=by simpa using h0
      refine Z13 ?_;refine⟨.inr Y,?_⟩;rw[show clashOf m=none from gI (fun a ha b hb hab=>hk.2 a oM b hb hab)];exact⟨_,Y,⟨_,_,Y,AVle.refl _,⟨_,_,Y,AVle.refl _,⟨_,_,Y,AVle.refl _,Y⟩⟩⟩⟩
def Fa:TA:=[.v (nZ),.v (nZ),.v (nZ),.v (.slice none 0 0),.v (nZ),.v (nZ)]
theorem f100(m:Mp):ACall tP G 126 [.agg (eMp m)] (.agg (qo m)):=by
 refine aC func126 ?_;refine Z3 ?_;refine zm Y (zE Y Y xB Y Y) (Z9 ?_);refine zb (zu (cs:=[_,_]) Y zaN Y ⟨_,_,Y,(jT Y),⟨_,_,Y,(jT Y),Y⟩⟩ rF (by simp[ofV])) ?_;refine zb (zu (cs:=[_,_,_,_,_,_]) Y Iu Y ⟨_,_,Y,(zF Y),⟨_,_,Y,(zF Y),Y⟩⟩ rF (by simp[ofV])) ?_;refine zm Y (zp Y Y Y Y Y Y (zF Y) vx rF bL) (Z3 ?_);exact⟨.inr Y,jb Y (zQ Y Y Y Y vx Y (vwR (vwR (vwR (vwR (vwR (vwR Y)))))))⟩
theorem f63(m:Mp):ACall tP G 171 [.agg (qo m)] (.v (.bool true)):=by
 refine aC func171 ?_;refine Z12 ?_;exact aR
theorem IH(m:Mp)(h:mapB m=false)(f:FuncId)(fs cs:TA):ACall tP G 170 [.agg (eMp m),.fn f fs cs] (.tup [.agg Fa,ei 2]):=by
 refine aC func170 ?_;refine Z3 ?_;refine zm Y (zE Y Y xB Y Y) (Z7 ?_);refine yc (f99 m) ?_;refine Z3 ?_;refine nC ?_ ?_<;>intro h0
 ·skip;refine Z2 ?_;refine zb (zu (cs:=[_,_,_,_,_,_]) Y Iu Y Y rF (by simp[ofV])) ?_;refine zm Y (zp Y Y Y Y Y Y (zF Y) vx rF bL) (Z5 ?_);exact⟨.inr Y,⟨_,Y,⟨_,_,Y,(zQ Y Y Y Y vx Y (vwR (vwR (vwR (vwR (vwR (vwR Y))))))),⟨_,_,Y,AVle.refl _,Y⟩⟩⟩⟩
 ·skip;exfalso;simp[h]at h0
theorem Db(m:Mp)(hm:okM m)(f:FuncId)(fs cs:TA)(hf:ACall tP G f (fs++[.agg (qo m)]++cs) (.v (.bool true)))(p:Nat × Nat)(hc:clashOf m=some p):ACall tP G 170 [.agg (eMp m),.fn f fs cs] (.tup [.agg Fa,ei 7]):=by
 have hmb:=(okM_iff m).2 hm;refine aC func170 ?_;refine Z3 ?_;refine zm Y (zE Y Y xB Y Y) (Z7 ?_);refine yc (f99 m) ?_;refine Z3 ?_;refine nC ?_ ?_<;>intro h0
 ·skip;exfalso;simp[hmb]at h0
 ·skip;refine Z5 ?_;refine yc (f100 m) ?_;refine zI Y Y Y Y Y Y Y xB vx Y rF (zF Y) Y (Z7 ?_);refine zb (qD (av:=[_]) Y Y rL hf) (Z3 ?_);refine nC ?_ ?_<;>intro h1
  ·skip;exfalso;simp at h1
  ·skip;refine Z6 ?_;refine yc (r:=.tup [ei p.1,ei p.2,.v (.bool true)]) (by have h:=f101 (G:=G) m hm;rw[hc]at h;exact h) ?_;refine Z14 ?_;refine nC ?_ ?_<;>intro h2
   ·skip;refine Z2 ?_;refine zb (zu (cs:=[_,_,_,_,_,_]) Y Iu Y Y rF (by simp[ofV])) ?_;refine zm Y (zp Y Y Y Y Y Y (zF Y) vx rF bL) (Z5 ?_);exact⟨.inr Y,⟨_,Y,⟨_,_,Y,(zQ Y Y Y Y vx Y (vwR (vwR (vwR (vwR (vwR (vwR Y))))))),⟨_,_,Y,AVle.refl _,Y⟩⟩⟩⟩
   ·skip;exfalso;simp at h2
theorem Ec(m:Mp)(hm:okM m)(f:FuncId)(fs cs:TA)(hf:ACall tP G f (fs++[.agg (qo m)]++cs) (.v (.bool true)))(hc:clashOf m=none):ACall tP G 170 [.agg (eMp m),.fn f fs cs] (.tup [.agg (qo m),ei 0]):=by
 have hmb:=(okM_iff m).2 hm;refine aC func170 ?_;refine Z3 ?_;refine zm Y (zE Y Y xB Y Y) (Z7 ?_);refine yc (f99 m) ?_;refine Z3 ?_;refine nC ?_ ?_<;>intro h0
 ·skip;exfalso;simp[hmb]at h0
 ·skip;refine Z5 ?_;refine yc (f100 m) ?_;refine zI Y Y Y Y Y Y Y xB vx Y rF (zF Y) Y (Z7 ?_);refine zb (qD (av:=[_]) Y Y rL hf) (Z3 ?_);refine nC ?_ ?_<;>intro h1
  ·skip;exfalso;simp at h1
  ·skip;refine Z6 ?_;refine yc (r:=.tup [ei 0,ei 0,.v (.bool false)]) (by have h:=f101 (G:=G) m hm;rw[hc]at h;exact h) ?_;refine Z14 ?_;refine nC ?_ ?_<;>intro h2
   ·skip;exfalso;simp at h2
   ·skip;refine Z5 ?_;refine zm Y (zp Y Y Y Y Y Y (zF Y) vx rF bL) (Z4 ?_);exact⟨.inr Y,⟨_,Y,⟨_,_,Y,(zQ Y Y Y Y vx Y (vwR (vwR (vwR (vwR (vwR (vwR Y))))))),⟨_,_,Y,AVle.refl _,Y⟩⟩⟩⟩
def lG(m:Mp):List Int:=(List.range (npt m)).map fun p:Nat=>(kE m.wide m.slope (p:Int) m.st+kF m.wide m.slope (p:Int) m.st)/2
def drawF(m:Mp):Fld:=⟨m.wide,lG m⟩
def U8:Fld:=⟨0,[]⟩
def drE(m:Mp)(p:Nat):TE:=[I ((kE m.wide m.slope (p:Int) m.st+kF m.wide m.slope (p:Int) m.st)/2)]
theorem eG(m:Mp):(los m).length=npt m:=by simp[los]
theorem eJ(m:Mp):(his m).length=npt m:=by simp[his]
theorem Ey(h:k<(los m).length):(los m)[k]=kE m.wide m.slope (k:Int) m.st:=by simp[los]
theorem Fe(h:k<(his m).length):(his m)[k]=kF m.wide m.slope (k:Int) m.st:=by simp[his]
theorem Qz(hm:okM m)(h:k<(los m).length):0<=(los m)[k]/\(los m)[k]<=99999:=by
 have hn:=kO hm;rw[Ey h];rw[eG]at h;have:=hm.lo (p:=(k:Int)) oM m.st.length;rwa[zLk (zLl _)]at this
theorem Pi(hm:okM m)(h:k<(his m).length):0<=(his m)[k]/\(his m)[k]<=99999:=by
 have hn:=kO hm;rw[Fe h];rw[eJ]at h;have:=hm.hi (p:=(k:Int)) oM m.st.length;rwa[zLk (zLl _)]at this
theorem JF(h1:k<(los m).length)(h2:k<(his m).length):(List.range k).map (drE m)++[[I (((los m)[k]+(his m)[k])/2)]]=(List.range (k+1)).map (drE m):=by
 rw[Ey h1,Fe h2];exact kr (drE m) k
theorem f22_bad(m:Mp)(hb:mapB m=false):ACall tP G 75 [.agg (eMp m)] (.tup [.agg (eFld U8),ei 2]):=by
 refine aC func75 ?_;refine Z3 ?_;refine zm Y (zE Y Y IC Y Y) (Z6 ?_);refine yc (IH m hb 171 [] []) ?_;refine Z3 ?_;refine zI Y Y Y Y Y Y Y xB vx Y rF (zF Y) Y (Z10 ?_);refine nC ?_ ?_<;>intro h0
 ·skip;refine Z2 ?_;refine zb (zu (cs:=[_,_]) Y QX Y Y rF (by simp[ofV])) ?_;refine Z ?_;refine zm Y (zp Y Y Y Y Y Y (zF Y) bY rF bL) (Z5 ?_);exact⟨.inr Y,⟨_,Y,⟨_,_,Y,(zQ Y Y Y Y bY Y (vwR ⟨_,_,Y,AVle.nil,Y⟩)),⟨_,_,Y,AVle.refl _,Y⟩⟩⟩⟩
 ·skip;exfalso;simp at h0
theorem f22_clash(m:Mp)(hm:okM m)(p:Nat × Nat)(hc:clashOf m=some p):ACall tP G 75 [.agg (eMp m)] (.tup [.agg (eFld U8),ei 7]):=by
 refine aC func75 ?_;refine Z3 ?_;refine zm Y (zE Y Y IC Y Y) (Z6 ?_);refine yc (Db m hm 171 [] [] (f63 m) p hc) ?_;refine Z3 ?_;refine zI Y Y Y Y Y Y Y xB vx Y rF (zF Y) Y (Z10 ?_);refine nC ?_ ?_<;>intro h0
 ·skip;refine Z2 ?_;refine zb (zu (cs:=[_,_]) Y QX Y Y rF (by simp[ofV])) ?_;refine Z ?_;refine zm Y (zp Y Y Y Y Y Y (zF Y) bY rF bL) (Z5 ?_);exact⟨.inr Y,⟨_,Y,⟨_,_,Y,(zQ Y Y Y Y bY Y (vwR ⟨_,_,Y,AVle.nil,Y⟩)),⟨_,_,Y,AVle.refl _,Y⟩⟩⟩⟩
 ·skip;exfalso;simp at h0
theorem f22_ok(m:Mp)(hm:okM m)(hc:clashOf m=none):ACall tP G 75 [.agg (eMp m)] (.tup [.agg (eFld (drawF m)),ei 0]):=by
 have hn:=kO hm;refine aC func75 ?_;refine Z3 ?_;refine zm Y (zE Y Y IC Y Y) (Z6 ?_);refine yc (Ec m hm 171 [] [] (f63 m) hc) ?_;refine Z3 ?_;refine zI Y Y Y Y Y Y Y xB vx Y rF (zF Y) Y (Z10 ?_);refine nC ?_ ?_<;>intro h0
 ·skip;exfalso;simp at h0
 ·skip;refine Z5 ?_;refine yc (f64 m hm) ?_;refine zI Y Y Y Y Y Y Y sB pq Y rF (zF Y) Y (Z6 ?_);refine zb (zu (cs:=[_,_]) Y QX Y ⟨_,_,Y,(jT Y),Y⟩ rF (by simp[ofV])) ?_;refine zm Y (zE Y Y IC Y Y) ?_;refine zm Y (zp Y Y Y Y Y Y (zF Y) bY rF bL) (Z5 ?_);refine zb (qm Y Y Y yu oM oM) (Z6 ?_);refine zt (cV (k:=1) (i:=0) (j:=1) Y Y Y) ?_;refine zD (ι:={k:Nat//k<=npt m}) (fun k=>⟨Tryz.f75.ntmps,frL [(2,.pp 0 1 0 0),(6,.pub (.ptr [eInts (los m),eInts (his m)])),(7,.pp 1 1 0 0),(25,I (npt m:Int)),(26,I (k.1:Int))],[.row [[I 0,wZ]],.row [[I m.wide,.psl 2 k.1]],.row ((List.range k.1).map (drE m))]⟩) (fun k=>npt m-k.1) (⟨0,oM⟩) ?_ ?_
  ·exact zd _ ⟨Y,Y,Y,(zLz (fun x:Nat=>I (x:Int)) (by simp[los])),Y,trivial⟩ (Y)
  ·rintro⟨k,hk⟩;dsimp only;refine Z6 ?_;refine nC ?_ ?_<;>intro h1
   ·skip;have hlt:k<npt m:=by simpa using h1
    have hl1:k<(los m).length:=by rw[eG];exact hlt
    have hl2:k<(his m).length:=by rw[eJ];exact hlt
    have hb1:=Qz hm hl1;have hb2:=Pi hm hl2;refine Z10 ?_;refine qd (fun m=>∃rows,m[1]?=some (.row rows)/\rows.length=1) (fun k=>match k with|0=>.stable|2=>.stable|3=>.stable|4=>.stable|5=>.stable|6=>.stable|7=>.stable|8=>.stable|9=>.stable|10=>.stable|11=>.stable|12=>.stable|13=>.stable|15=>.writes|16=>.stable|17=>.writes|_=>.here) mixed nR rfl nR ⟨_,rfl,rfl⟩ ?_;refine zC Y Y (fun m hm=>ze Y Y hm.choose_spec.1 hm.choose_spec.2 uT) (Z ?_);refine zC Y Y (fun m hm=>qm Y Y Y yu oM oM) (Z2 ?_);refine zC Y Y (fun m hm=>zc Y Y Y zY oM (zA hl1) zn) (Z ?_);refine zC Y Y (fun m hm=>qm Y Y Y yu oM oM) (Z2 ?_);refine zC Y Y (fun m hm=>zc Y Y Y zY oM (zA hl2) zn) (Z2 ?_);refine zC Y Y (fun m hm=>dH Y Y Y ⟨oM,oM,oM⟩) ?_;refine zK Y Y (zw (size:=1) (rows:=[[_]]) Y underlying24 Xs Y dE Y dE ⟨_,_,Y,(jT Y),Y⟩ rF (by simp[ofV]) Y sI) ?_;refine qw Y Y (qz Y Y Y sI Y Eb (cA fun _=>rfl) sI (by simp;omega) (by unfold maxLen;simp;omega)) ⟨_,Y,Y⟩ ?_
    refine zC Y Y (fun m hm=>ze Y Y hm.choose_spec.1 hm.choose_spec.2 uT) ?_;refine qw Y Y (zz Y Y Y Y Y Y (jW Y Y sI) hU rF rF) ⟨_,Y,Y⟩ ?_;refine Z7 ?_;exact⟨⟨k+1,oM⟩,by dsimp only;omega,zd _ rL (zLz (fun z=>[PO.row [[I 0,wZ]],PO.row [[I m.wide,.psl 2 (k+1)]],PO.row z]) (JF hl1 hl2))⟩
   ·skip;have hge:npt m<=k:=by simpa using h1
    have hk2:k=npt m:=oM;subst hk2;refine Z8 ?_;refine zm Y (zp Y Y Y Y Y Y (ta Y) bY rF bL) (Z4 ?_);exact⟨.inr Y,⟨_,Y,⟨_,_,Y,(zQ Y Y Y Y bY Y (vwR ⟨_,_,Y,⟨((lG m).map fun n=>[AV.v (.int .i64 n)]),by show some (PO.row _)=some (PO.row _);simp[lG,drE,Function.comp_def],by simp[lG],Y⟩,Y⟩)),⟨_,_,Y,AVle.refl _,Y⟩⟩⟩⟩
end Ct
end Go.Av
end
