import Derived.Test.YtigbomcjnlikjaaGreatDoorBuB
import Derived.Test.YtigbomcjnlikjaaGreatDoorPlatF
set_option linter.unusedVariables false
set_option linter.unusedSimpArgs false
set_option maxRecDepth 100000
set_option maxHeartbeats 9000000
section
namespace Go.Av
namespace Bu
open Go.Proofs Tryz
variable{s:Hs.Sut}{b:BS}{ix:Ix}{mem M xs:TP}{G:Glob}
theorem xo(h:BuM s b ix M){a:AV}:qK s b ix a (M++xs)=qK s b ix a M++xs:=by
 unfold qK;rw[jX (h.lt _ (by simp[Ix.all])),jX (by rw[zL2];exact h.lt _ (by simp[Ix.all]))]
variable{t:Ct.Stn}{r:Hs.Rep}{f:FuncId}{A:TP}{br:Bool}
theorem gx(h:BuM s b ix M){d:Nat}:wG s b ix d t (M++xs)=wG s b ix d t M++xs:=by
 unfold wG;rw[jX (h.lt _ (by simp[Ix.all]))]
theorem FX(h:BuM s b ix M){c:Int}:bp s b ix c (M++xs)=bp s b ix c M++xs:=by
 unfold bp;rw[jX (h.lt _ (by simp[Ix.all]))]
def BS.rep(b:BS)(r:Hs.Rep):BS:={b with reps:=b.reps++[r]}
def aT(s:Hs.Sut)(b:BS)(ix:Ix)(r:Hs.Rep)(mem:TP):TP:=(mem.set ix.reps (.row (Hs.rRep (b.reps++[r])))).set ix.row (.row [cB s (b.rep r) ix])
theorem BuM.rep(h:BuM s b ix mem)(r:Hs.Rep):BuM s (b.rep r) ix (aT s b ix r mem):=by
 have n:=h.ne;have g:∀{k:Nat}{o:PO},ix.row≠k->ix.reps≠k->mem[k]?=some o->(aT s b ix r mem)[k]?=some o:=fun h1 h2 h3=>zT h1 (zT h2 h3)
 exact⟨zj (zT n.a.1.symm h.row),zT n.a.1 (zj h.reps),g n.a.2.1 n.b.1 h.maps,g n.a.2.2.1 n.b.2.1 h.ships,h.sml,
  fun d k l h1 h2=>g (n.m k (zLo h1)).1.symm (n.m k (zLo h1)).2.1.symm (h.sm d k l h1 h2),g n.a.2.2.2.1 n.b.2.2.1 h.said,h.spl,
  fun i k x h1 h2=>g (n.p k (zLo h1)).1.symm (n.p k (zLo h1)).2.1.symm (h.sp i k x h1 h2),g n.a.2.2.2.2 n.b.2.2.2 h.acts,h.nd⟩
theorem fN:(aT s b ix r mem).length=mem.length:=by simp[aT]
theorem uP(h:BuM s b ix mem)(hk:zW mem.length mem):zW (aT s b ix r mem).length (aT s b ix r mem):=by
 rw[fN];exact qY (qY hk Hs.rRep_ok) (tz h.lt)
theorem GK(h:BuM s b ix M):aT s b ix r (M++xs)=aT s b ix r M++xs:=by
 unfold aT;rw[jX (h.lt _ (by simp[Ix.all])),jX (by rw[zL2];exact h.lt _ (by simp[Ix.all]))]
structure Fr(ix ix':Ix)(mem mem':TP):Prop where
 le:mem.length<=mem'.length
 old:∀j,j<mem.length->j∉ix.all->mem'[j]?=mem[j]?
 new:∀j∈ix'.all,j∈ix.all∨mem.length<=j
 row:ix'.row=ix.row
 ok:zW mem.length mem->zW mem'.length mem'
 lk:∀j,j<mem.length->Like mem mem' j
theorem Fr.refl:Fr ix ix mem mem:=⟨zLl _,fun _ _ _=>rfl,fun _ h=>.inl h,rfl,fun h=>h,fun _ _=>.inl rfl⟩
theorem Fr.trans{ix1 ix2 ix3:Ix}{m1 m2 m3:TP}(h1:Fr ix1 ix2 m1 m2)(h2:Fr ix2 ix3 m2 m3):Fr ix1 ix3 m1 m3:=
  ⟨zL6 h1.le h2.le,fun j hj hn=>by
    rw[h2.old j (Nat.lt_of_lt_of_le hj h1.le) (fun hm=>by rcases h1.new j hm with h|h;exact hn h;omega)];exact h1.old j hj hn,
   fun j hj=>by
    rcases h2.new j hj with h|h
    · exact h1.new j h
    · exact .inr (zL6 h1.le h),h2.row.trans h1.row,fun h=>h2.ok (h1.ok h),fun j hj=>(h1.lk j hj).trans (h2.lk j (Nat.lt_of_lt_of_le hj h1.le))⟩
theorem xt(h:BuM s b ix mem){a:AV}:Fr ix ix mem (qK s b ix a mem):=⟨by rw[jE];exact zLl _,fun j _ hn=>by
 unfold qK;rw[zLn (fun e=>hn (by subst e;simp[Ix.all])),zLn (fun e=>hn (by subst e;simp[Ix.all]))],fun _ h=>.inl h,rfl,vK h,fun j _=>(yl h.acts (by simp[acR]) j).trans (yl (zT h.ne.a.2.2.2.2.symm h.row) sI j)⟩
theorem PE(h:BuM s b ix mem):Fr ix ix mem (aT s b ix r mem):=⟨by rw[fN];exact zLl _,fun j _ hn=>by
 unfold aT;rw[zLn (fun e=>hn (by subst e;simp[Ix.all])),zLn (fun e=>hn (by subst e;simp[Ix.all]))],fun _ h=>.inl h,rfl,uP h,fun j _=>(yl h.reps (by simp[Hs.rRep]) j).trans (yl (zT h.ne.a.1.symm h.row) sI j)⟩
theorem tl(h:BuM s b ix mem){d:Nat}:Fr ix ix mem (wG s b ix d t mem):=⟨by rw[kb];exact zLl _,fun j _ hn=>by
 unfold wG;rw[zLn (fun e=>hn (by subst e;simp[Ix.all]))],fun _ h=>.inl h,rfl,bD,fun j _=>yl h.maps (by simp[BS.put]) j⟩
theorem Oz(h:BuM s b ix mem){c:Int}:Fr ix ix mem (bp s b ix c mem):=⟨by rw[gA];exact zLl _,fun j _ hn=>by
 unfold bp;rw[zLn (fun e=>hn (by subst e;simp[Ix.all]))],fun _ h=>.inl h,rfl,Ar h,fun j _=>yl h.row sI j⟩
def Step(G:Glob)(s:Hs.Sut)(f:FuncId)(args:TE)(b:BS)(ix:Ix)(mem:TP)(e:Int)(b':BS):Prop:=
 ∃ix' mem',BuM s b' ix' mem'/\Fr ix ix' mem mem'/\zv tP G f args mem (.ret (I e) mem')
theorem yk{cs:TE}{bv:TA}(hc:ACall tP G f bv (.v (.bool br)))(hd:∀xs:TP,DVL (A++xs) cs bv):CondQ G (.fnm f [] cs) A A br:=
 ⟨⟨f,[],cs,⟨rfl,rfl,rfl⟩,fun xs=>by simpa using hc.d (hd xs) rfl⟩,fun m=>rfl⟩
theorem Oa(hc:ACall tP G f [] (.v (.bool br))):CondQ G (.pub (.fn f [] [])) A A br:=
 ⟨⟨f,[],[],⟨rfl,rfl,rfl⟩,fun xs=>by simpa using hc.m⟩,fun m=>rfl⟩
theorem at_end{x:PO}:(A++[x])[A.length]?=some x:=sI
theorem vW(h:BuM s b ix M)(xs:TP):DV ((M++[.row [[.pp ix.row 1 0 0]]])++xs) (.pp M.length 1 0 0) (.ptr [.ptr (eBu s b)]):=bz (h.app (xs:=[.row [[.pp ix.row 1 0 0]]])).app (ql at_end)
section
variable{P:Program}{ops:Array Oper}
theorem rp{C:TP->Prop}{hows:Nat->How}{Q:(Nat->EV)->TP->Prop}{k n:Nat}{fr:Nat->EV}{o:Oper}{rest:List Oper}{e:EV}{xs:TP}(R:List Nat)(hk:hows k=.grow R n)(hg:o.guard=none)(hn:mem.length=n)
  (ho:∀m:TP,m.length=n->Agree R m mem->C m->OpB P G fr m o e (m++xs)/\C (m++xs)) (h:wt P G ops C hows Q (k+1) rest (qc fr o.dst e) (mem++xs)):wt P G ops C hows Q k (o::rest) fr mem:=⟨e,mem++xs,by rw[hk];exact⟨hg,xs,rfl,hn,ho⟩,h⟩
end
end Bu
end Go.Av
namespace Go.Av
namespace Bu
open Go.Proofs Tryz
variable{G:Glob}
theorem Pv{l:List Ct.Stn}:rSt l=(l.map Ct.eStn).map (·.map .pub):=by rw[List.map_map];rfl
theorem Jt{l:List Ct.Stn}:∀r∈l.map Ct.eStn,∀x∈r,∃v,x=AV.v v:=fun r hr x hx=>by
 obtain⟨t,_,rfl⟩:=zLj.1 hr;simp only[Ct.eStn,List.mem_cons,List.not_mem_nil,or_false]at hx;rcases hx with rfl|rfl|rfl<;>exact⟨_,rfl⟩
theorem zbF(s:Hs.Sut)(b:BS)(d:Nat)(hd:d<b.maps.length)(hl:(b.maps[d]).length<=1000)(pt lo hi:Int):WCall tP G 242 [.ptr (eBu s b),ei d,ei pt,.agg [ei lo,ei hi]] (.agg (Ct.eMp (wiM s b.maps[d] pt lo hi))):=by
 have hm:(b.maps.map fun l=>Ct.eMp (mpD s l)).length=b.maps.length:=sI;refine EM func242 Y nR Y ?_;refine Z3 ?_;refine zm Y (zE Y Y uM Y Y) (Z9 ?_);refine zb (zc Y Y Y mO oM (by exact Hs.mp_at (e:=fun l=>Ct.eMp (mpD s l)) hd) (Hs.mp_len fun _=>rfl)) ?_;refine Z ?_;refine zm Y (zE Y Y uM Y Y) ?_;refine zm Y (zp Y Y Y Y Y Y cEx fL rF bL) (Z3 ?_);refine qd (fun _=>True) (fun k=>match k with|0=>.rd [1]|1=>.rd [1]|2=>.grow [] 2|3=>.stable|4=>.stable|5=>.stable|6=>.stable|7=>.rw [] (2)|8=>.rd [1]|9=>.writes|_=>.here) mixed nR rfl nR trivial ?_;refine wX [1] Y Y (fun m hm hC=>ze Y Y (hm.one 1 Y) Y bH) ?_;refine wX [1] Y Y (fun m hm hC=>zg (rows:=[[I s.wide,I s.rows,I s.slope,.pub (.sl ((b.maps[d]).map Ct.eStn))]]) (r:=[I s.wide,I s.rows,I s.slope,.pub (.sl ((b.maps[d]).map Ct.eStn))]) Y Y (hm.one 1 Y) Y Y Y uK) ?_;refine KL [] Y Y Y (fun _=>trivial) (fun m hn hm=>vS (av:=[.pub (.sl ((b.maps[d]).map Ct.eStn))]) Y rL (N7 b.maps[d] hl hn) sI (fun l h=>zLf h)) ?_
 refine Z2 ?_;refine zC Y Y (fun m hm=>zu (cs:=[_,_,_]) Y MJ Y (zk (zk Y)) rF (by simp[ofV])) ?_;refine zC Y Y (fun m hm=>zw (size:=3) (rows:=[[_,_,_]]) Y underlying124 NZ Y dE Y dE (zk Y) rF (by simp[ofV]) Y sI) ?_;refine Dm [] (2) Y Y (fun _=>trivial) (fun m hm=>qz Y Y ((hm 2 sI).trans Y) eD Y D4 Md (by intro r hr;simp at hr;subst hr;rfl) (by simp;omega) (by unfold maxLen;simp;omega)) ?_;refine wX [1] Y Y (fun m hm hC=>ze Y Y (hm.one 1 Y) Y bH) ?_;refine qw Y Y (zz Y Y Y Y Y Y (jW Y Y (by simp[eD])) uK rF rF) trivial (Z3 ?_);refine zt (zd (mem':=[.row [[I 0,I 0,I 0,.pub (.v (.slice none 0 0))]],.row [[I s.wide,I s.rows,I s.slope,.psl 2 ((b.maps[d]).length+1)]],.row (rSt (b.maps[d]++[⟨pt,lo,hi⟩]))]) [(8,.pp 0 1 0 0),(9,.pp 1 1 0 0)] ?_ ?_) ?_
 ·exact rL
 ·exact(zLz (fun z=>[PO.row [[I 0,I 0,I 0,.pub (.v (.slice none 0 0))]],.row [[I s.wide,I s.rows,I s.slope,.psl 2 ((b.maps[d]).length+1)]],.row z]) (F2 (l:=b.maps[d]) (t:=⟨pt,lo,hi⟩)))
 refine Z2 ?_;refine zm Y (zp Y Y Y Y Y Y cEx fL rF bL) (Z3 ?_);exact⟨.inr Y,Y,_,⟨_,_,Y,sI,Y,.inr ⟨_,fL,bL,Y⟩⟩,⟨_,_,Y,.inl ⟨_,Y,Y⟩,_,_,Y,.inl ⟨_,Y,Y⟩,_,_,Y,.inl ⟨_,Y,Y⟩,_,_,Y,.inr ⟨_,_,(b.maps[d]++[(⟨pt,lo,hi⟩:Ct.Stn)]).map Ct.eStn,Y,zLz (fun z=>some (PO.row z)) Pv,sI,Jt,Y⟩,Y⟩⟩
variable{l:List (List Ct.Stn)}{s:Hs.Sut}
theorem RO:∀r∈l.map (mpC s),r.length=4:=fun r hr=>by
 obtain⟨x,_,rfl⟩:=zLj.1 hr;rfl
theorem put_eq{b:BS}{ix:Ix}{d:Nat}(hd:d<b.maps.length){t:Ct.Stn}{M:TP}:M.set ix.maps (.row ((b.maps.map (mpC s)).set d ((Ct.eMp (mpD s (b.maps[d]++[t]))).map .pub)))=wG s b ix d t M:=by
 have e:(b.put d t).maps.map (mpC s)=(b.maps.map (mpC s)).set d ((Ct.eMp (mpD s (b.maps[d]++[t]))).map .pub):=by
  have:b.maps.getD d []=b.maps[d]:=by simp[hd]
  simp only[BS.put,List.map_set,this];rfl
 rw[wG,e]
theorem QT{d:Nat}(hd:d<l.length):(l.map (mpC s))[d]?=some (mpC s l[d]):=by simp[hd]
theorem Qn{b:BS}{ix:Ix}{M:TP}(h:BuM s b ix M)(d:Nat)(hd:d<b.maps.length)(hl:(b.maps[d]).length<=1000)(pt lo hi:Int):zv tP G 152 [.pp ix.row 1 0 0,I d,I pt,.pub (.agg [ei lo,ei hi])] M (.ret (.pub (.tup [])) (wG s b ix d ⟨pt,lo,hi⟩ M)):=by
 refine mW func152 (fun gh hold hmk=>?_);refine Z5 ?_;refine qd (fun _=>True) (fun k=>match k with|11=>.writes|_=>.here) mixed nR rfl nR trivial ?_;refine Z ?_;refine zK Y Y (zr Y Y h.row Y) (zK Y Y (ze Y Y h.row Y jv) (zK Y Y (zg Y Y h.row Y Y Y kT) ?_));refine Z5 ?_;refine zK Y Y (JW (av:=[.ptr (eBu s b),ei d,ei pt,.agg [ei lo,ei hi]]) Y ⟨h.dv,.r,.r,.r,trivial⟩ (zbF s b d hd hl pt lo hi)) ?_;refine zK Y Y (qh Y Y Y h.maps sI mO oM oM RO) ?_;refine qw Y Y (zz Y Y Y h.maps sI (QT hd) (zF Y) fL rF rF) trivial (Z ?_)
 exact fun hz=>zR [] (by rw[List.append_nil];exact put_eq (t:=⟨pt,lo,hi⟩) hd) (bD hmk) (by rw[kb];exact zLl _) (.inl Y) (by simp[EV.lt]) ⟨[],Y,Y⟩
end Bu
end Go.Av
namespace Go.Av
namespace Bu
open Go.Proofs Tryz
variable{s:Hs.Sut}{b:BS}{ix:Ix}{mem M xs:TP}{G:Glob}
def cBr(s:Hs.Sut)(b:BS)(ix:Ix)(n:Nat):TE:=Hs.rSK (.pub (.sl (s.st.map Hs.eBSt))) (.psl ix.reps n) s++[.psl ix.maps b.maps.length,.psl ix.ships b.ships.length,.mpv ix.said,I b.cost,.psl ix.acts b.acts.length,.pub (.v (.bool true))]
variable{r:Hs.Rep}{d:Nat}{n:Int}
theorem PV:cBr s b ix (b.reps.length+1)=cB s (b.rep r) ix:=by simp[cB,cBr,BS.rep]
theorem IR(h:BuM s b ix M):(((M++xs).set ix.reps (.row (Hs.rRep b.reps++[(Hs.eRep r).map .pub]))).set ix.row (.row [cBr s b ix (b.reps.length+1)]))=aT s b ix r M++xs:=by
 have e2:Hs.rRep b.reps++[(Hs.eRep r).map .pub]=Hs.rRep (b.reps++[r]):=by simp[Hs.rRep]
 rw[e2,PV (r:=r)];exact GK h
theorem io{α β:Type}[DecidableEq α]{a:α}{x:β}:∀{l:List (α × β)},(∀p∈l,p.1≠a)->xu a x l=l++[(a,x)]
 |[],_=>rfl
 |(c,y)::l,h=>by
  have h1:=h (c,y) sI;simp only[xu,List.cons_append];rw[zLy h1,io (l:=l) (fun p hp=>h p (by simp[hp]))]
def BS.ship(b:BS)(d:Nat)(n:Int):BS:={b with ships:=b.ships.set d (b.ships.getD d []++[n])}
def yD(b:BS)(ix:Ix)(d:Nat)(n:Int)(mem:TP):TP:=mem.set (ix.sm.getD d 0) (wM enI ((shL (b.ships.getD d []++[n])).map fun p=>(p.1,.pub p.2)))
theorem KB:cB s (b.ship d n) ix=cB s b ix:=by simp[cB,BS.ship]
theorem sN(hd:d<ix.sm.length):ix.sm.getD d 0∈ix.sm:=by simp[hd]
theorem BuM.ship(h:BuM s b ix mem)(d:Nat)(n:Int)(hd:d<b.ships.length):BuM s (b.ship d n) ix (yD b ix d n mem):=by
 have hn:=h.ne;have hd2:d<ix.sm.length:=by rw[h.sml];exact hd
 have hk:=sN hd2;have nk:=hn.m _ hk;have g:∀{k:Nat}{o:PO},ix.sm.getD d 0≠k->mem[k]?=some o->(yD b ix d n mem)[k]?=some o:=fun h1 h3=>zT h1 h3;have hsd:ix.sm[d]?=some (ix.sm.getD d 0):=by simp[hd2]
 refine⟨by rw[KB];exact g nk.1 h.row,g nk.2.1 h.reps,g nk.2.2.1 h.maps,g nk.2.2.2.1 h.ships,by simp[BS.ship,h.sml],fun d' k l h1 h2=>?_,g nk.2.2.2.2.1 h.said,h.spl,
  fun i k x h1 h2=>g (hn.mp _ hk _ (zLo h1)) (h.sp i k x h1 h2),g nk.2.2.2.2.2 h.acts,h.nd⟩
 by_cases e:d=d'
 ·subst e;rw[hsd]at h1;injection h1 with h1;subst h1
  simp only[BS.ship,zLi hd]at h2;injection h2 with h2;subst h2
  have hb:b.ships[d]?=some (b.ships.getD d []):=by simp[hd]
  exact zj (h.sm d _ _ hsd hb)
 ·simp only[BS.ship,zLn e]at h2;refine g (fun e2=>e ?_) (h.sm d' k l h1 h2);have i1:d'<ix.sm.length:=(zLg h1).1
  have:ix.sm[d]=ix.sm[d']:=by
   have a1:ix.sm[d]'hd2=ix.sm.getD d 0:=by simp[hd2]
   have a2:ix.sm[d']'i1=k:=(zLg h1).2;rw[a1,a2,e2]
  have hp:=List.pairwise_iff_getElem.1 hn.mm;rcases Nat.lt_trichotomy d d' with hlt|heq|hgt
  ·exact absurd this (hp d d' hd2 i1 hlt)
  ·exact heq
  ·exact absurd this.symm (hp d' d i1 hd2 hgt)
theorem c8:(yD b ix d n mem).length=mem.length:=by simp[yD]
theorem Ku{α:Type}{enc:α->Value}{k:Nat}{l:List (α × AV)}:PO.okL k (wM enc (l.map fun p=>(p.1,.pub p.2))):=fun p hp=>by
 obtain⟨q,hq,rfl⟩:=zLj.1 hp;obtain⟨z,_,rfl⟩:=zLj.1 hq;simp[EV.lt]
theorem pd(hk:zW mem.length mem):zW (yD b ix d n mem).length (yD b ix d n mem):=by
 rw[c8];exact qY hk Ku
theorem Ce(h:BuM s b ix M)(hd:d<b.ships.length):yD b ix d n (M++xs)=yD b ix d n M++xs:=by
 unfold yD;rw[jX (h.lt _ (by simp only[Ix.all,List.mem_append];exact .inl (.inr (sN (by rw[h.sml];exact hd)))))]
theorem JZ(h:BuM s b ix mem)(hd:d<b.ships.length):Fr ix ix mem (yD b ix d n mem):=⟨by rw[c8];exact zLl _,fun j _ hn=>by
 unfold yD;rw[zLn (fun e=>hn (by rw[←e];simp only[Ix.all,List.mem_append];exact .inl (.inr (sN (by rw[h.sml];exact hd)))))],fun _ h=>.inl h,rfl,pd,fun j _=>by
 have hd2:d<ix.sm.length:=by rw[h.sml];exact hd
 exact yU (h.sm d _ _ (show ix.sm[d]?=some (ix.sm.getD d 0) by simp[hd2]) (show b.ships[d]?=some (b.ships.getD d []) by simp[hd])) j⟩
theorem FY{l:List Int}(hn:n∉l):xu n (EV.pub (.v (.bool true))) ((shL l).map fun p=>(p.1,EV.pub p.2))=(shL (l++[n])).map fun p=>(p.1,.pub p.2):=by
 rw[io (fun p hp=>?_)]
 ·simp[shL]
 ·simp only[shL,List.map_map,zLj]at hp;obtain⟨x,hx,rfl⟩:=hp
  exact fun e=>hn (by have:x=n:=e;rw[←this];exact hx)
section
variable{α:Type}[DecidableEq α]{enc:α->Value}{P:Program}{fr:Nat->EV}{o:Oper}
theorem aD{T kt et:TypeId}{x i y:Operand}{l:Nat}{es:List (α × EV)}{a:α}{kx:AV}{v:EV}(ho:o.op=.mapUpdate T x i y)(hd:o.dst=none)(hx:evO fr x=.mpv l)(hm:mem[l]?=some (wM enc es))(hi:evO fr i=.pub kx)(hk:mS kx (enc a))
  (hT:P.underlying T=some (.map kt et)) (hK:KeyT P kt enc) (hv:evO fr y=v):OpB P G fr mem o j6 (mem.set l (wM enc (xu a v es))):=fun N fr2 he hd2=>by
 have h1:evO fr2 x=.mpv l:=(he x (by simp[ho,Op.operands])).trans hx;have h2:evO fr2 i=.pub kx:=(he i (by simp[ho,Op.operands])).trans hi;have h3:evO fr2 y=v:=(he y (by simp[ho,Op.operands])).trans hv;have:=qt (P:=P) (G:=G) (st:=⟨N,fr2,mem⟩) (.inl ho) hd h1 hm h2 hk hT hK h3;rw[hd];exact this
end
end Bu
end Go.Av
namespace Go.Av
namespace Bu
open Go.Proofs Tryz
variable{G:Glob}
theorem Me:zU tP 191 [(0,7)] [nZ,nZ,nZ,nZ,nZ,nZ,nZ]:=⟨_,underlying191,nR,nR⟩
variable{s:Hs.Sut}{b:BS}{ix:Ix}{M:TP}{ds l:List Int}
theorem Rk(h:BuM s b ix M)(r:Hs.Rep){e:Int}(he:e≠0)(hq:zv tP G 96 [.pp ix.row 1 0 0,.pub (.ifc 191 (.agg (Hs.eRep r))),.fnm 97 [] [.pp M.length 1 0 0,.pub (.ptr (Hs.eRep r))],.fnm 99 [] [.pp M.length 1 0 0],.pub (.fn 100 [] [])] (M++[.row [[.pp ix.row 1 0 0]]]) (.ret (I e) (M++[.row [[.pp ix.row 1 0 0]]]))):zv tP G 31 [.pp ix.row 1 0 0,.pub (.agg (Hs.eRep r))] M (.ret (I e) M):=by
 refine mW func31 (fun gh hold hmk=>?_);refine Z2 ?_;refine zm Y (qI Y Y (wE Y h.row Y)) (Z7 ?_);refine zb (zg Y Y at_end Y Y Y jG) (Z ?_);refine zb (zu (cs:=[_,_,_,_,_,_,_]) Y Me Y (zk Y) rF (by simp[ofV])) ?_;refine zb (zZ Y Y underlying191 Y) (Z2 ?_);refine mc hq ?_;refine Z9 ?_;refine nC ?_ ?_<;>intro h0
 ·skip;refine Z8 ?_
  exact fun hz=>zR [_] Y hmk (zLl _) (.inr Y) (by simp[EV.lt]) Y
 ·skip;exfalso;simp at h0;exact he h0
theorem E1{xs:TP}{a:AV}{r:Hs.Rep}(h:BuM s b ix M):(((qK s b ix a (M++xs)).set ix.reps (.row (Hs.rRep (b.act a).reps++[(Hs.eRep r).map .pub]))).set ix.row (.row [cBr s (b.act a) ix ((b.act a).reps.length+1)]))=aT s (b.act a) ix r (qK s b ix a M)++xs:=by
 rw[xo h];exact IR (h.act a)
theorem Rm(h:BuM s b ix M)(r:Hs.Rep)(hr:b.reps.length<9)(hq:zv tP G 96 [.pp ix.row 1 0 0,.pub (.ifc 191 (.agg (Hs.eRep r))),.fnm 97 [] [.pp M.length 1 0 0,.pub (.ptr (Hs.eRep r))],.fnm 99 [] [.pp M.length 1 0 0],.pub (.fn 100 [] [])] (M++[.row [[.pp ix.row 1 0 0]]]) (.ret (I 0) (qK s b ix (.ifc 191 (.agg (Hs.eRep r))) (M++[.row [[.pp ix.row 1 0 0]]])))):zv tP G 31 [.pp ix.row 1 0 0,.pub (.agg (Hs.eRep r))] M (.ret (I 0) (aT s (b.act (.ifc 191 (.agg (Hs.eRep r)))) ix r (qK s b ix (.ifc 191 (.agg (Hs.eRep r))) M))):=by
 have h2:BuM s (b.act (.ifc 191 (.agg (Hs.eRep r)))) ix (qK s b ix (.ifc 191 (.agg (Hs.eRep r))) (M++[.row [[.pp ix.row 1 0 0]]])):=h.app.act (.ifc 191 (.agg (Hs.eRep r)));have hne:=h.ne;have k1:=h.lt ix.row (by simp[Ix.all]);have k2:=h.lt ix.acts (by simp[Ix.all]);have k3:=h.lt ix.reps (by simp[Ix.all]);have k4:=h.lt ix.maps (by simp[Ix.all]);have hbx:(qK s b ix (.ifc 191 (.agg (Hs.eRep r))) (M++[.row [[.pp ix.row 1 0 0]]]))[M.length]?=some (PO.row [[.pp ix.row 1 0 0]]):=zT oM (zT oM at_end);refine mW func31 (fun gh hold hmk=>?_);refine Z2 ?_;refine zm Y (qI Y Y (wE Y h.row Y)) (Z7 ?_);refine zb (zg Y Y at_end Y Y Y jG) (Z ?_);refine zb (zu (cs:=[_,_,_,_,_,_,_]) Y Me Y (zk Y) rF (by simp[ofV])) ?_;refine zb (zZ Y Y underlying191 Y) (Z2 ?_);refine mc hq ?_;refine Z9 ?_;refine nC ?_ ?_<;>intro h0
 ·skip;exfalso;simp at h0
 ·skip;refine Z3 ?_;refine qd (fun mm=>(∃r,mm[ix.row]?=some (PO.row [r]))/\mm[M.length]?=some (PO.row [[.pp ix.row 1 0 0]])) (fun k=>match k with|0=>.stable|1=>.stable|2=>.stable|3=>.stable|4=>.stable|5=>.stable|7=>.stable|8=>.stable|9=>.writes|10=>.stable|11=>.stable|12=>.stable|13=>.stable|14=>.writes|_=>.here) mixed nR rfl nR ⟨⟨_,h2.row⟩,hbx⟩ ?_;refine zC Y Y (fun m hm=>zg Y Y hm.2 Y Y Y jG) (zC Y Y (fun m hm=>zg Y Y hm.2 Y Y Y jG) (zC Y Y (fun m hm=>zr (rows:=[hm.1.choose]) Y Y hm.1.choose_spec Y) (zC Y Y (fun m hm=>ze (rows:=[hm.1.choose]) Y Y hm.1.choose_spec Y j8) (zC Y Y (fun m hm=>ze (rows:=[hm.1.choose]) Y Y hm.1.choose_spec Y vG) (zC Y Y (fun m hm=>ze (rows:=[hm.1.choose]) Y Y hm.1.choose_spec Y kD) (zK Y Y (zg Y Y h2.row Y Y Y bY) ?_))))));refine Z ?_;refine zC Y Y (fun m hm=>zw (size:=7) (rows:=[[_,_,_,_,_,_,_]]) Y underlying29 NI Y dE Y dE ⟨_,_,Y,zF Y,Y⟩ rF (by simp[ofV]) Y sI) ?_
  refine qw Y Y (qz Y Y h2.reps Hs.rRep_len Y Qv Hs.rRep_7 (by intro r hr;simp at hr;subst hr;rfl) (by simp[BS.act];omega) (by unfold maxLen;simp[BS.act];omega)) (⟨⟨_,zT hne.a.1.symm h2.row⟩,zT oM hbx⟩) ?_;refine zC Y Y (fun m hm=>zr (rows:=[hm.1.choose]) Y Y hm.1.choose_spec Y) (zC Y Y (fun m hm=>ze (rows:=[hm.1.choose]) Y Y hm.1.choose_spec Y j8) (zC Y Y (fun m hm=>ze (rows:=[hm.1.choose]) Y Y hm.1.choose_spec Y vG) (zC Y Y (fun m hm=>ze (rows:=[hm.1.choose]) Y Y hm.1.choose_spec Y kD) ?_)));refine qw Y Y (zz Y Y Y (zT hne.a.1.symm h2.row) Y Y (jW Y (zj h2.reps) (by simp[Hs.rRep_len])) bY rF rF) (⟨⟨_,zj (zT hne.a.1.symm h2.row)⟩,zT oM (zT oM hbx)⟩) ?_;refine Z3 ?_;refine zt (zd (mem':=aT s (b.act (.ifc 191 (.agg (Hs.eRep r)))) ix r (qK s b ix (.ifc 191 (.agg (Hs.eRep r))) M)++[.row [[.pp ix.row 1 0 0]]]) [] trivial (E1 h)) ?_;refine Z5 ?_
  exact fun hz=>zR [_] Y (uP (h.act _) (vK h hmk)) (by rw[fN,jE];exact zLl _) (.inr Y) (by simp[EV.lt]) Y
theorem M4:zU tP 265 [(0,1),(1,1),(2,1),(3,2)] [nZ,nZ,nZ,nZ,nZ]:=⟨_,underlying265,nR,nR⟩
theorem KX(h:BuM s b ix M)(n dd pt lo hi:Int){e:Int}(he:e≠0)(hq:zv tP G 96 [.pp ix.row 1 0 0,.pub (.ifc 265 (.agg [ei n,ei dd,ei pt,ei lo,ei hi])),.fnm 158 [] [.pub (.ptr [ei n]),.pp M.length 1 0 0,.pub (.ptr [ei dd]),.pub (.ptr [ei pt]),.pub (.ptr [ei lo,ei hi])],.fnm 160 [] [.pp M.length 1 0 0,.pub (.ptr [ei dd])],.fnm 161 [] [.pp M.length 1 0 0,.pub (.ptr [ei dd]),.pub (.ptr [ei n]),.pub (.ptr [ei pt]),.pub (.ptr [ei lo,ei hi])]] (M++[.row [[.pp ix.row 1 0 0]]]) (.ret (I e) (M++[.row [[.pp ix.row 1 0 0]]]))):zv tP G 72 [.pp ix.row 1 0 0,I n,I dd,I pt,.pub (.agg [ei lo,ei hi])] M (.ret (I e) M):=by
 refine mW func72 (fun gh hold hmk=>?_);refine Z2 ?_;refine zm Y (qI Y Y (wE Y h.row Y)) (Z10 ?_);refine zb (zg Y Y at_end Y Y Y jG) (Z4 ?_);refine zb (zu (cs:=[_,_,_,_,_]) Y M4 Y (zk (zk (zk (zk Y)))) rF (by simp[ofV])) ?_;refine zb (zZ Y Y underlying265 Y) (Z3 ?_);refine mc hq ?_;refine Z9 ?_;refine nC ?_ ?_<;>intro h0
 ·skip;refine Z8 ?_
  exact fun hz=>zR [_] Y hmk (zLl _) (.inr Y) (by simp[EV.lt]) Y
 ·skip;exfalso;simp at h0;exact he h0
theorem Jg:∀r∈(ix.sm.map fun k=>[EV.mpv k]),r.length=1:=fun r hr=>by
 obtain⟨k,_,rfl⟩:=zLj.1 hr;rfl
theorem OU{d:Nat}(hd:d<ix.sm.length):(ix.sm.map fun k=>[EV.mpv k])[d]?=some [.mpv (ix.sm.getD d 0)]:=by simp[hd]
theorem He{xs:TP}{a:AV}{d:Nat}{t:Ct.Stn}{n:Int}(h:BuM s b ix M)(hd:d<b.ships.length)(hn:n∉b.ships.getD d []):
  (wG s (b.act a) ix d t (qK s b ix a (M++xs))).set (ix.sm.getD d 0) (wM enI (xu n (EV.pub (.v (.bool true))) ((shL (b.ships.getD d [])).map fun p=>(p.1,EV.pub p.2))))=yD ((b.act a).put d t) ix d n (wG s (b.act a) ix d t (qK s b ix a M))++xs:=by
 rw[FY hn,xo h,gx (h.act a),←Ce ((h.act a).put d t) hd];rfl
theorem I0(h:BuM s b ix M)(n:Int)(d:Nat)(pt lo hi:Int)(hd:d<b.maps.length)(hl:(b.maps[d]).length<=1000)(hd2:d<b.ships.length)(hn:n∉b.ships.getD d [])(hq:zv tP G 96 [.pp ix.row 1 0 0,.pub (.ifc 265 (.agg [ei n,ei (d:Int),ei pt,ei lo,ei hi])),.fnm 158 [] [.pub (.ptr [ei n]),.pp M.length 1 0 0,.pub (.ptr [ei (d:Int)]),.pub (.ptr [ei pt]),.pub (.ptr [ei lo,ei hi])],.fnm 160 [] [.pp M.length 1 0 0,.pub (.ptr [ei (d:Int)])],.fnm 161 [] [.pp M.length 1 0 0,.pub (.ptr [ei (d:Int)]),.pub (.ptr [ei n]),.pub (.ptr [ei pt]),.pub (.ptr [ei lo,ei hi])]] (M++[.row [[.pp ix.row 1 0 0]]]) (.ret (I 0) (qK s b ix (.ifc 265 (.agg [ei n,ei (d:Int),ei pt,ei lo,ei hi])) (M++[.row [[.pp ix.row 1 0 0]]])))):zv tP G 72 [.pp ix.row 1 0 0,I n,I (d:Int),I pt,.pub (.agg [ei lo,ei hi])] M (.ret (I 0) (yD ((b.act (.ifc 265 (.agg [ei n,ei (d:Int),ei pt,ei lo,ei hi]))).put d ⟨pt,lo,hi⟩) ix d n (wG s (b.act (.ifc 265 (.agg [ei n,ei (d:Int),ei pt,ei lo,ei hi]))) ix d ⟨pt,lo,hi⟩ (qK s b ix (.ifc 265 (.agg [ei n,ei (d:Int),ei pt,ei lo,ei hi])) M)))):=by
 have h2:BuM s (b.act (.ifc 265 (.agg [ei n,ei (d:Int),ei pt,ei lo,ei hi]))) ix (qK s b ix (.ifc 265 (.agg [ei n,ei (d:Int),ei pt,ei lo,ei hi])) (M++[.row [[.pp ix.row 1 0 0]]])):=h.app.act (.ifc 265 (.agg [ei n,ei (d:Int),ei pt,ei lo,ei hi]));have hne:=h.ne;have k1:=h.lt ix.row (by simp[Ix.all]);have k2:=h.lt ix.acts (by simp[Ix.all]);have k3:=h.lt ix.reps (by simp[Ix.all]);have k4:=h.lt ix.maps (by simp[Ix.all]);have hbx:(qK s b ix (.ifc 265 (.agg [ei n,ei (d:Int),ei pt,ei lo,ei hi])) (M++[.row [[.pp ix.row 1 0 0]]]))[M.length]?=some (PO.row [[.pp ix.row 1 0 0]]):=zT oM (zT oM at_end);have h3:BuM s ((b.act (.ifc 265 (.agg [ei n,ei (d:Int),ei pt,ei lo,ei hi]))).put d ⟨pt,lo,hi⟩) ix (wG s (b.act (.ifc 265 (.agg [ei n,ei (d:Int),ei pt,ei lo,ei hi]))) ix d ⟨pt,lo,hi⟩ (qK s b ix (.ifc 265 (.agg [ei n,ei (d:Int),ei pt,ei lo,ei hi])) (M++[.row [[.pp ix.row 1 0 0]]]))):=h2.put d ⟨pt,lo,hi⟩;have hbx3:(wG s (b.act (.ifc 265 (.agg [ei n,ei (d:Int),ei pt,ei lo,ei hi]))) ix d ⟨pt,lo,hi⟩ (qK s b ix (.ifc 265 (.agg [ei n,ei (d:Int),ei pt,ei lo,ei hi])) (M++[.row [[.pp ix.row 1 0 0]]])))[M.length]?=some (PO.row [[.pp ix.row 1 0 0]]):=zT oM hbx
 have hd3:d<ix.sm.length:=by rw[h.sml];exact hd2
 have hsd:ix.sm[d]?=some (ix.sm.getD d 0):=by simp[hd3]
 have hbs:b.ships[d]?=some (b.ships.getD d []):=by simp[hd2]
 have hs3:=h3.sm d _ _ hsd hbs;have hsl:(ix.sm.map fun k=>[EV.mpv k]).length=b.ships.length:=by simp[h.sml]
 refine mW func72 (fun gh hold hmk=>?_);refine Z2 ?_;refine zm Y (qI Y Y (wE Y h.row Y)) (Z10 ?_);refine zb (zg Y Y at_end Y Y Y jG) (Z4 ?_);refine zb (zu (cs:=[_,_,_,_,_]) Y M4 Y (zk (zk (zk (zk Y)))) rF (by simp[ofV])) ?_;refine zb (zZ Y Y underlying265 Y) (Z3 ?_);refine mc hq ?_;refine Z9 ?_;refine nC ?_ ?_<;>intro h0
 ·skip;exfalso;simp at h0
 ·skip;refine Z4 ?_;refine zb (zg Y Y hbx Y Y Y jG) (Z3 ?_);refine mc (Qn h2 d hd hl pt lo hi) ?_;refine Z3 ?_;refine qd (fun _=>True) (fun k=>match k with|8=>.writes|_=>.here) mixed nR rfl nR trivial ?_;refine zK Y Y (zg Y Y hbx3 Y Y Y jG) (zK Y Y (zr Y Y h3.row Y) (zK Y Y (ze Y Y h3.row Y wO) (zK Y Y (zg Y Y h3.row Y Y Y bR) ?_)));refine Z ?_;refine zK Y Y (qh Y Y Y h3.ships hsl Gt oM (by show((d:Nat):Int)<((b.ships.length:Nat):Int);omega) Jg) ?_;refine zK Y Y (zg Y Y h3.ships hsl (OU hd3) Y FM) (Z ?_);refine qw Y Y (aD (enc:=enI) (a:=n) (kx:=ei n) Y Y Y hs3 Y jr underlying204 keyN Y) trivial (Z3 ?_);refine zt (zd (mem':=yD ((b.act (.ifc 265 (.agg [ei n,ei (d:Int),ei pt,ei lo,ei hi]))).put d ⟨pt,lo,hi⟩) ix d n (wG s (b.act (.ifc 265 (.agg [ei n,ei (d:Int),ei pt,ei lo,ei hi]))) ix d ⟨pt,lo,hi⟩ (qK s b ix (.ifc 265 (.agg [ei n,ei (d:Int),ei pt,ei lo,ei hi])) M))++[.row [[.pp ix.row 1 0 0]]]) [] trivial (He h hd2 hn)) ?_
  refine Z5 ?_
  exact fun hz=>zR [_] Y (pd (bD (vK h hmk))) (by rw[c8,kb,jE];exact zLl _) (.inr Y) (by simp[EV.lt]) Y
theorem f270(x:Int):ACall tP G 209 [ei x] (.v (.bool (!Hs.inB x 0 100))):=by
 refine aC func209 ?_;refine Z8 ?_;refine yc (Hs.f209 _ _ _) ?_;refine Z5 ?_;exact aR
def cq(l:List Int):Int:=l.foldl (· + ·) 0
def yi(l:List Int):Bool:=Hs.inB (l.length:Int) 2 3&& !(l.any fun x=>!Hs.inB x 0 100)&&decide (cq l=100)
theorem GE(h:∀x∈l,0<=x/\x<=100):∀k,k<=l.length->0<=cq (l.take k)/\cq (l.take k)<=100*k
 |0,_=>by simp[cq]
 |k+1,hk=>by
  have h1:=GE h k oM;have h2:=h l[k] (zLm oM);have:cq (l.take (k+1))=cq (l.take k)+l[k]:=by unfold cq;rw[zLt oM,List.foldl_append];rfl
  omega
theorem Ij{k:Nat}(h:k<l.length):cq (l.take k)+l[k]=cq (l.take (k+1)):=by unfold cq;rw[zLt h,List.foldl_append];rfl
theorem zA{i:Nat}(h:i<ds.length):(ds.map fun n=>[ei n])[i]?=some [ei ds[i]]:=by simp[h]
theorem zn:∀q∈ds.map fun n=>[ei n],q.length=1:=Hs.mp_len fun _=>rfl
theorem f271(l:List Int)(hn:l.length<=3)(hb:∀x∈l,0<=x/\x<=100):ACall tP G 210 [eI l] (ei (cq l)):=by
 have hm:(l.map fun n=>[ei n]).length=l.length:=sI;refine aC func210 ?_;refine Z14 ?_;refine zb (zM Y Y Y underlying24) (Z4 ?_);refine zD (ι:={a:Nat//a<=l.length}) (fun a=>⟨Tryz.f210.ntmps,frL [(3,I (cq (l.take a.1))),(6,.pub (eI l)),(7,I (((l.map fun n=>[ei n]).length:Nat):Int)),(8,I (a.1:Int))],[]⟩) (fun a=>l.length-a.1) (⟨0,oM⟩) ?_ ?_
 ·exact zd _ rL (Y)
 ·rintro⟨a,ha⟩;dsimp only;refine Z6 ?_;refine nC ?_ ?_<;>intro h0
  ·skip;have hlt:a<l.length:=by simpa using h0
   have s1:=GE hb a oM;have s2:=hb _ (zLm hlt);refine Z6 ?_;refine zb (zc Y Y Y zY oM (by exact zA (i:=a) hlt) zn) (Z16 ?_);exact⟨⟨a+1,oM⟩,by dsimp only;omega,zd _ ⟨(zLz I (Ij hlt)),Y,Y,Y,trivial⟩ (Y)⟩
  ·skip;have hge:a=l.length:=by simp at h0;omega
   refine Z12 ?_;exact⟨.inr Y,AVle.of (by rw[hge,List.take_length])⟩
theorem FU(h:(l.any fun x=>!Hs.inB x 0 100)=false):∀x∈l,0<=x/\x<=100:=fun x hx=>by
 have:=List.any_eq_false.1 h x hx;simp[Hs.inB]at this;exact this
theorem Vf{a:Bool}(h:(Hs.inB (l.length:Int) 2 3&&a)=true):l.length<=3:=by
 simp[Hs.inB]at h;omega
theorem zbr{a:Bool}(h:(a&& !(l.any fun x=>!Hs.inB x 0 100))=true):∀x∈l,0<=x/\x<=100:=FU (by cases hq:(l.any fun x=>!Hs.inB x 0 100)<;>simp_all)
theorem f137(l:List Int)(hl:l.length<=1000):ACall tP G 104 [eI l] (.v (.bool (yi l))):=by
 have hm:(l.map fun n=>[ei n]).length=l.length:=sI;refine aC func104 ?_;refine Z8 ?_;refine zb (zM Y Y Y underlying24) ?_;refine yc (Hs.f209 _ _ _) ?_;refine Z2 ?_;refine yd Y (fun hg=>(Hs.f261 209 [] l oM (fun x _=>f270 x))) ?_;refine Z4 ?_;refine yd Y (fun hg=>(f271 l (by rw[hm]at hg;exact Vf hg) (zbr hg))) ?_;refine Z6 ?_;exact⟨.inr Y,AVle.of (by rw[hm];rfl)⟩
end Bu
end Go.Av
namespace Go.Av
namespace Bu
open Go.Proofs Tryz
variable{s:Hs.Sut}{b:BS}{ix:Ix}{mem M xs:TP}{G:Glob}
def BS.state(b:BS)(p:Int × Int)(l:List Int):BS:={b with said:=b.said++[(p,⟨l,0⟩)]}
def Ix.more(ix:Ix)(k:Nat):Ix:={ix with sp:=ix.sp++[k]}
variable{l:List ((Int × Int) × Std)}{sp:List Nat}{p:Int × Int}{e:Std}
theorem P1(h:sp.length=l.length)(e:(Int × Int) × Std)(k:Nat):sdO (l++[e]) (sp++[k])=sdO l sp++[(e.1,.pp k 1 0 0)]:=by
 unfold sdO;rw[List.zip_append h.symm,List.map_append];rfl
theorem Io:∀q∈sdO l sp,∃e∈l,q.1=e.1:=fun q hq=>by
 obtain⟨z,hz,rfl⟩:=zLj.1 hq;exact⟨z.1,(List.of_mem_zip hz).1,Y⟩
theorem li(h:jf b p=none):∀e∈b.said,e.1≠p:=by
 simp only[jf,Option.map_eq_none_iff,List.find?_eq_none,zLd]at h;exact h
theorem ON(h:BuM s b ix mem)(hn:jf b p=none)(l:List Int)(k:Nat):xu p (.pp k 1 0 0) (sdO b.said ix.sp)=sdO (b.said++[(p,⟨l,0⟩)]) (ix.sp++[k]):=by
 rw[io (fun q hq=>?_),P1 h.spl];obtain⟨e,he,e2⟩:=Io q hq;rw[e2];exact li hn e he
theorem BuM.state(h:BuM s b ix mem)(p:Int × Int)(l:List Int){N:Nat}(hN:mem[N]?=some (.row [sdC ⟨l,0⟩]))(hnew:N∉ix.all):
  BuM s (b.state p l) (ix.more N) (mem.set ix.said (wM spE (sdO (b.said++[(p,⟨l,0⟩)]) (ix.sp++[N])))):=by
 have n:=h.ne;have g:∀{k:Nat}{o:PO},ix.said≠k->mem[k]?=some o->(mem.set ix.said (wM spE (sdO (b.said++[(p,⟨l,0⟩)]) (ix.sp++[N]))))[k]?=some o:=fun h1 h3=>zT h1 h3;have hNs:ix.said≠N:=fun e=>hnew (by rw[←e];simp[Ix.all]);refine⟨g n.a.2.2.2.1.symm h.row,g n.b.2.2.1.symm h.reps,g n.c.2.1.symm h.maps,g n.d.1.symm h.ships,h.sml,fun d k l h1 h2=>g (n.m k (zLo h1)).2.2.2.2.1.symm (h.sm d k l h1 h2),zj h.said,by simp[Ix.more,BS.state,h.spl],fun i k x h1 h2=>?_,g n.d.2.2 h.acts,?_⟩
 ·simp only[Ix.more,BS.state]at h1 h2
  by_cases hi:i<ix.sp.length
  ·rw[zLf hi]at h1;rw[zLf (by rw[←h.spl];exact hi)]at h2;exact g (n.p k (zLo h1)).2.2.2.2.1.symm (h.sp i k x h1 h2)
  ·have hi1:=(zLg h1).1;have e:i=ix.sp.length:=by simp at hi1;omega
   subst e;rw[zL4 (zLl _)]at h1;rw[h.spl,zL4 (zLl _)]at h2;simp at h1 h2;subst h1;subst h2;exact g hNs hN
 ·have e:(ix.more N).all=ix.all++[N]:=by simp[Ix.all,Ix.more]
  rw[e,List.nodup_append];exact⟨h.nd,sI,fun a ha c hc=>by rw[zLh]at hc;subst hc;exact fun e=>hnew (e▸ha)⟩
theorem Ez{k:Nat}:(ix.more k).all=ix.all++[k]:=by simp[Ix.all,Ix.more]
def kV(p:Int × Int)(c:Int)(l:List ((Int × Int) × Std)):List ((Int × Int) × Std):=l.map fun e=>if e.1=p then(e.1,⟨e.2.parts,c⟩)else e
def BS.came(b:BS)(p:Int × Int)(c:Int):BS:={b with said:=kV p c b.said}
def SdU(b:BS):Prop:=(b.said.map (·.1)).Nodup
theorem Dk(h:jf b p=some e):∃i:Nat,b.said[i]?=some (p,e):=by
 simp only[jf,zL7]at h;obtain⟨⟨q,e'⟩,h1,h2⟩:=h;have h3:=List.mem_of_find?_eq_some h1;have h4:=List.find?_some h1;simp only[zLd]at h4;simp only at h2;subst h4;subst h2;obtain⟨i,hi,e⟩:=List.mem_iff_getElem.1 h3;exact⟨i,by rw[zLe hi,e]⟩
theorem oW{d:EV}:∀{l:List ((Int × Int) × Std)}{sp:List Nat}{i k:Nat}{e:Std},(l.map (·.1)).Nodup->l[i]?=some (p,e)->sp[i]?=some k->wY p d (sdO l sp)=.pp k 1 0 0
 |[],_,i,_,_,_,h,_=>by simp at h
 |x::l,[],i,_,_,_,_,h=>by simp at h
 |x::l,y::sp,0,k,e,_,h1,h2=>by
  simp at h1 h2;subst h1;subst h2;simp[sdO,wY]
 |x::l,y::sp,i+1,k,e,hn,h1,h2=>by
  simp only[List.getElem?_cons_succ]at h1 h2;simp only[List.map_cons,List.nodup_cons]at hn;have hx:x.1≠p:=fun e2=>hn.1 (by rw[e2];exact zLj.2 ⟨(p,e),zLo h1,rfl⟩);have:=oW (d:=d) hn.2 h1 h2;simp only[sdO,List.zip_cons_cons,List.map_cons,wY]at this⊢;rw[zLy hx];exact this
theorem IX{c:Int}(hn:(l.map (·.1)).Nodup){i:Nat}(h:l[i]?=some (p,e)){j:Nat}{x:(Int × Int) × Std}(hj:(kV p c l)[j]?=some x):(j=i/\x=(p,⟨e.parts,c⟩))∨(j≠i/\l[j]?=some x):=by
 simp only[kV,zLq,zL7]at hj;obtain⟨y,h1,h2⟩:=hj
 by_cases e1:j=i
 ·subst e1;rw[h]at h1;injection h1 with h1;subst h1
  exact .inl ⟨Y,by simpa using h2.symm⟩
 ·refine .inr ⟨e1,?_⟩
  by_cases e2:y.1=p
  ·exfalso;have i1:=(zLg h1).1;have i2:=(zLg h).1
   have:(l.map (·.1))[j]'(by simpa using i1)=(l.map (·.1))[i]'(by simpa using i2):=by
    simp[(zLg h1).2,(zLg h).2,e2]
   exact e1 ((List.getElem_inj hn).1 this)
  ·rw[zLy e2]at h2;rw[←h2];exact h1
theorem Ge{c:Int}:sdO (kV p c l) sp=sdO l sp:=by
 unfold sdO kV;apply List.ext_getElem?;intro i;simp only[zLq,List.zip,List.getElem?_zipWith];cases l[i]?with
 |none=>rfl
 |some x=>cases sp[i]?with
  |none=>simp
  |some k=>simp;split<;>rfl
theorem BuM.came(h:BuM s b ix mem)(hu:SdU b){i k:Nat}(hi:b.said[i]?=some (p,e))(hk:ix.sp[i]?=some k)(c:Int):BuM s (b.came p c) ix (mem.set k (.row [sdC ⟨e.parts,c⟩])):=by
 have n:=h.ne;have nk:=n.p k (zLo hk);have g:∀{j:Nat}{o:PO},k≠j->mem[j]?=some o->(mem.set k (.row [sdC ⟨e.parts,c⟩]))[j]?=some o:=fun h1 h3=>zT h1 h3
 refine⟨g nk.1 h.row,g nk.2.1 h.reps,g nk.2.2.1 h.maps,g nk.2.2.2.1 h.ships,h.sml,fun d j l h1 h2=>g (n.mp j (zLo h1) k (zLo hk)).symm (h.sm d j l h1 h2),
  g nk.2.2.2.2.1 (by simp only[BS.came,Ge];exact h.said),by simp[BS.came,kV,h.spl],fun j q x h1 h2=>?_,g nk.2.2.2.2.2 h.acts,h.nd⟩
 rcases IX hu hi h2 with⟨rfl,rfl⟩|⟨hne,h2⟩
 ·rw[hk]at h1;injection h1 with h1;subst h1
  exact zj (h.sp j k _ hk hi)
 ·refine g (fun e2=>hne ?_) (h.sp j q x h1 h2);have i1:=(zLg h1).1;have i2:=(zLg hk).1;have:ix.sp[j]=ix.sp[i]:=by rw[(zLg h1).2,(zLg hk).2,e2]
  exact(List.getElem_inj n.pp).1 this
end Bu
end Go.Av
namespace Go.Av
namespace Bu
open Go.Proofs Tryz
variable{G:Glob}
def gnL(l:List Int)(c:Nat):Int:=l.foldl (fun a p=>a-p*p) (200*l.getD c 0)
def gnK(l:List Int)(c k:Nat):Int:=(l.take k).foldl (fun a p=>a-p*p) (200*l.getD c 0)
def gB(l:List Int)(c:Int):Bool:=yi l&&Hs.inB c 0 ((l.length:Int)-1)
variable{l:List Int}{k:Nat}{i x y:Operand}{s:Hs.Sut}{b:BS}{ix:Ix}{M mem:TP}{p:Int × Int}{sp:List Nat}{fr:Nat->EV}{o:Oper}{T U:TypeId}{A d q z:Int}{f:FuncId}{r:Rdg}{g gl:Hs.Gls}
theorem uy{c:Nat}(h:k<l.length):gnK l c k-l[k]*l[k]=gnK l c (k+1):=by unfold gnK;rw[zLt h,List.foldl_append];rfl
theorem nU(h:yi l=true):(2<=l.length/\l.length<=3)/\∀x∈l,0<=x/\x<=100:=by
 simp only[yi,zLa]at h;refine⟨by have:=h.1.1;simp[Hs.inB]at this;omega,FU (by cases hq:(l.any fun x=>!Hs.inB x 0 100)<;>simp_all)⟩
theorem MQ{x:Int}(h:0<=x/\x<=100):0<=x*x/\x*x<=10000:=⟨Int.mul_nonneg h.1 h.1,by have:=Int.mul_le_mul h.2 h.2 h.1 (by omega:(0:Int)<=100);omega⟩
theorem Np(h:∀x∈l,0<=x/\x<=100){c:Nat}(hc:c<l.length):∀k,k<=l.length->-10000*(k:Int)<=gnK l c k/\gnK l c k<=20000
 |0,_=>by
  have:=h l[c] (zLm hc);simp only[gnK,List.take_zero,List.foldl_nil,zLv,zLe hc,Option.getD_some];omega
 |k+1,hk=>by
  have h1:=Np h hc k oM;have h2:=MQ (h l[k] (zLm oM));rw[←uy oM];omega
theorem f139(l:List Int)(h:yi l=true)(c:Nat)(hc:c<l.length):ACall tP G 106 [eI l,ei (c:Int)] (ei (gnL l c)):=by
 have hm:(l.map fun n=>[ei n]).length=l.length:=sI;obtain⟨hn,hb⟩:=nU h;have hcb:=hb _ (zLm hc);have hgd:l.getD c 0=l[c]:=by simp[hc]
 refine aC func106 ?_;refine Z9 ?_;refine zb (zc Y Y Y zY oM (by exact zA (i:=c) hc) zn) (Z9 ?_);refine zb (zM Y Y Y underlying24) (Z4 ?_);refine zD (ι:={a:Nat//a<=l.length}) (fun a=>⟨Tryz.f106.ntmps,frL [(5,I (gnK l c a.1)),(13,.pub (eI l)),(14,I (((l.map fun n=>[ei n]).length:Nat):Int)),(15,I (a.1:Int))],[]⟩) (fun a=>l.length-a.1) (⟨0,oM⟩) ?_ ?_
 ·exact zd _ ⟨(zLz I (by show 200*l[c]=gnK l c 0;simp[gnK,hc])),Y,Y,Y,trivial⟩ (Y)
 ·rintro⟨a,ha⟩;dsimp only;refine Z6 ?_;refine nC ?_ ?_<;>intro h0
  ·skip;have hlt:a<l.length:=by simpa using h0
   have s1:=Np hb hc a oM;have s2:=MQ (hb _ (zLm hlt));refine Z6 ?_;refine zb (zc Y Y Y zY oM (by exact zA (i:=a) hlt) zn) (Z18 ?_);exact⟨⟨a+1,oM⟩,by dsimp only;omega,zd _ ⟨(zLz I (uy hlt)),Y,Y,Y,trivial⟩ (Y)⟩
  ·skip;have hge:a=l.length:=by simp at h0;omega
   refine Z12 ?_;exact⟨.inr Y,AVle.of (by rw[hge,gnK,List.take_length];rfl)⟩
theorem f51(l:List Int)(hl:l.length<=1000)(c:Int):ACall tP G 36 [eI l,ei c] (.tup [ei (if gB l c then gnL l c.toNat else 0),ei (if gB l c then 0 else 2)]):=by
 have hm:(l.map fun n=>[ei n]).length=l.length:=sI;refine aC func36 ?_;refine Z10 ?_;refine yc (f137 l hl) ?_;refine Z4 ?_;refine zh Y (fun hg=>zM Y Y (zLc hg) underlying24) ?_;refine zh Y (fun hg=>j4 Y (zLc hg) Y ⟨(by first|omega|(simp at hg;omega)),(by first|omega|(simp at hg;omega))⟩) ?_;refine yd Y (fun hg=>(Hs.f209 _ _ _)) ?_;refine Z4 ?_;refine nC ?_ ?_<;>intro h0
 ·skip;have hno:gB l c=false:=by rw[hm]at h0;unfold gB;cases hv1:yi l<;>cases hv2:Hs.inB c 0 ((l.length:Int)-1)<;>simp_all
  refine Z8 ?_;exact⟨.inr Y,⟨_,Y,⟨_,_,Y,AVle.of (by rw[hno];rfl),⟨_,_,Y,AVle.of (by rw[hno];rfl),Y⟩⟩⟩⟩
 ·skip;have hyes:gB l c=true:=by rw[hm]at h0;unfold gB;cases hv1:yi l<;>cases hv2:Hs.inB c 0 ((l.length:Int)-1)<;>simp_all
  have hp:yi l=true:=by unfold gB at hyes;cases hv1:yi l<;>simp_all
  have hci:0<=c/\c<=(l.length:Int)-1:=by unfold gB at hyes;simp[Hs.inB]at hyes;omega
  have hn2:=(nU hp).1
  have sp139:ACall tP G 106 [eI l,ei c] (ei (gnL l c.toNat)):=by
   have:=f139 (G:=G) l hp c.toNat oM;rwa[show((c.toNat:Nat):Int)=c by omega]at this
  refine Z6 ?_;refine yc (sp139) ?_;refine Z5 ?_;exact⟨.inr Y,⟨_,Y,⟨_,_,Y,AVle.of (by rw[zLc hyes]),⟨_,_,Y,AVle.of (by rw[zLc hyes]),Y⟩⟩⟩⟩
theorem zbJ(l:List Int):gB l 0=yi l:=by
 unfold gB;cases h:yi l with
 |false=>rfl
 |true=>have:=(nU h).1;simp[Hs.inB];omega
theorem f227(s:Hs.Sut)(hS:Hs.SuP s)(b:BS)(l:List Int)(hl:l.length<=1000)(d n:Int):ACall tP G 163 [.ptr [eI l],.ptr [.ptr (eBu s b)],.ptr [ei d],.ptr [ei n]] (.v (.bool (Hs.inB d 0 (s.days-1)&&Hs.inB n 0 ((s.wts.length:Int)-1)&&decide ((l.length:Int)=s.cls)&&yi l))):=by
 have hm:(l.map fun n=>[ei n]).length=l.length:=sI;refine aC func163 ?_;refine Z8 ?_;refine yc (f51 l hl 0) ?_;refine Z8 ?_;refine zN mixed nR Y ?_;refine Z3 ?_;refine zH Y (zi (av:=[_,_,_]) Y rL (f228 s hS b d n)) (Z2 ?_);refine zq Y (fun hg=>zM Y Y (zLc hg) underlying24) (Z15 ?_);exact⟨.inr rfl,AVle.of (by rw[hm,zbJ];cases yi l<;>rfl)⟩
theorem AQ:zU tP 194 [(0,1),(1,1)] [nZ,nZ]:=⟨_,underlying194,nR,nR⟩
theorem Ns:zU tP 268 [(0,1),(1,1),(2,1)] [nZ,nZ,.slice none 0 0]:=⟨_,underlying268,nR,nR⟩
theorem U5:zU tP 197 [(0,1),(1,1)] [.slice none 0 0,nZ]:=⟨_,underlying197,nR,nR⟩
theorem I4(h:BuM s b ix M)(d n:Int)(l:List Int)(hl:l.length<=1000){e:Int}(he:e≠0)(hq:zv tP G 96 [.pp ix.row 1 0 0,.pub (.ifc 268 (.agg [ei d,ei n,eI l])),.fnm 163 [] [.pub (.ptr [eI l]),.pp M.length 1 0 0,.pub (.ptr [ei d]),.pub (.ptr [ei n])],.fnm 165 [] [.pp M.length 1 0 0,.pub (.ptr [ei d,ei n])],.pub (.fn 166 [] [])] (M++[.row [[.pp ix.row 1 0 0]]]) (.ret (I e) (M++[.row [[.pp ix.row 1 0 0]]]))):zv tP G 73 [.pp ix.row 1 0 0,I d,I n,.pub (eI l)] M (.ret (I e) M):=by
 refine mW func73 (fun gh hold hmk=>?_);refine Z2 ?_;refine zm Y (qI Y Y (wE Y h.row Y)) (Z8 ?_);refine yc (Hs.f139 l oM) ?_;refine zI (cs:=[_]) Y Y Y Y Y Y Y Uw hU Y rF cEx Y ?_;refine Z6 ?_;refine zb (zu (cs:=[_,_]) Y AQ Y (zk (zk Y)) rF (by simp[ofV])) ?_;refine zI Y Y Y Y Y Y Y u7 AZ Y rF (zF Y) Y (Z5 ?_);refine zb (zg Y Y at_end Y Y Y jG) (Z3 ?_);refine zb (zu (cs:=[_,_,_]) Y Ns Y (zk (zk (zk Y))) rF (by simp[ofV])) ?_;refine zb (zZ Y Y underlying268 Y) (Z2 ?_);refine mc hq ?_;refine Z9 ?_;refine nC ?_ ?_<;>intro h0
 ·skip;refine Z8 ?_
  exact fun hz=>zR [_] Y hmk (zLl _) (.inr Y) (by simp[EV.lt]) Y
 ·skip;exfalso;simp at h0;exact he h0
theorem Dh{a:AV}{X:PO}{N:Nat}(h:BuM s b ix M)(hn:jf b p=none):
  ((qK s b ix a (M++[X]))++[PO.row [sdC (⟨l,0⟩:Std)]]).set ix.said (wM spE (xu p (.pp N 1 0 0) (sdO b.said ix.sp)))=((qK s b ix a (M++[X]))++[PO.row [sdC (⟨l,0⟩:Std)]]).set ix.said (wM spE (sdO ((b.act a).said++[(p,(⟨l,0⟩:Std))]) (ix.sp++[N]))):=by
 rw[ON h hn l N];rfl
theorem O9{l:List ((Int × Int) × Std)}(h:∀j∈sp,j<k):PO.okL k (wM spE (sdO l sp)):=fun q hq=>by
 obtain⟨z,hz,rfl⟩:=zLj.1 hq;obtain⟨y,hy,rfl⟩:=zLj.1 hz;simp only[EV.lt];exact h _ (List.of_mem_zip hy).2
theorem Kp{cs:TE}{n:Nat}(ho:o.op=.box T x)(hx:qn mem (evO fr x) cs)(hn:mem.length=n):OpB tP G fr mem o (.pp n 1 0 0) (mem++[.row [cs]]):=fun N fr2 he hd=>by
 subst hn;exact qI (P:=tP) (G:=G) (st:=⟨N,fr2,mem⟩) ho hd (by simp only;rw[he x (by simp[ho,Op.operands])];exact hx)
theorem Ja(h:BuM s b ix M)(d n:Int)(l:List Int)(hl:l.length<=1000)(hs:jf b (d,n)=none)(hq:zv tP G 96 [.pp ix.row 1 0 0,.pub (.ifc 268 (.agg [ei d,ei n,eI l])),.fnm 163 [] [.pub (.ptr [eI l]),.pp M.length 1 0 0,.pub (.ptr [ei d]),.pub (.ptr [ei n])],.fnm 165 [] [.pp M.length 1 0 0,.pub (.ptr [ei d,ei n])],.pub (.fn 166 [] [])] (M++[.row [[.pp ix.row 1 0 0]]]) (.ret (I 0) (qK s b ix (.ifc 268 (.agg [ei d,ei n,eI l])) (M++[.row [[.pp ix.row 1 0 0]]])))):zv tP G 73 [.pp ix.row 1 0 0,I d,I n,.pub (eI l)] M (.ret (I 0) ((qK s b ix (.ifc 268 (.agg [ei d,ei n,eI l])) (M++[.row [[.pp ix.row 1 0 0]]])++[PO.row [sdC (⟨l,0⟩:Std)]]).set ix.said (wM spE (sdO ((b.act (.ifc 268 (.agg [ei d,ei n,eI l]))).said++[((d,n),(⟨l,0⟩:Std))]) (ix.sp++[M.length+1]))))):=by
 have h2:BuM s (b.act (.ifc 268 (.agg [ei d,ei n,eI l]))) ix (qK s b ix (.ifc 268 (.agg [ei d,ei n,eI l])) (M++[.row [[.pp ix.row 1 0 0]]])):=h.app.act (.ifc 268 (.agg [ei d,ei n,eI l]));have hne:=h.ne;have k1:=h.lt ix.row (by simp[Ix.all]);have k2:=h.lt ix.acts (by simp[Ix.all]);have k3:=h.lt ix.reps (by simp[Ix.all]);have k4:=h.lt ix.maps (by simp[Ix.all]);have hbx:(qK s b ix (.ifc 268 (.agg [ei d,ei n,eI l])) (M++[.row [[.pp ix.row 1 0 0]]]))[M.length]?=some (PO.row [[.pp ix.row 1 0 0]]):=zT oM (zT oM at_end);have k5:=h.lt ix.said (by simp[Ix.all]);have hlen:(qK s b ix (.ifc 268 (.agg [ei d,ei n,eI l])) (M++[.row [[.pp ix.row 1 0 0]]])).length=M.length+1:=by rw[jE];simp
 refine mW func73 (fun gh hold hmk=>?_);refine Z2 ?_;refine zm Y (qI Y Y (wE Y h.row Y)) (Z8 ?_);refine yc (Hs.f139 l oM) ?_;refine zI (cs:=[_]) Y Y Y Y Y Y Y Uw hU Y rF cEx Y ?_;refine Z6 ?_;refine zb (zu (cs:=[_,_]) Y AQ Y (zk (zk Y)) rF (by simp[ofV])) ?_;refine zI Y Y Y Y Y Y Y u7 AZ Y rF (zF Y) Y (Z5 ?_);refine zb (zg Y Y at_end Y Y Y jG) (Z3 ?_);refine zb (zu (cs:=[_,_,_]) Y Ns Y (zk (zk (zk Y))) rF (by simp[ofV])) ?_;refine zb (zZ Y Y underlying268 Y) (Z2 ?_);refine mc hq ?_;refine Z9 ?_;refine nC ?_ ?_<;>intro h0
 ·skip;exfalso;simp at h0
 ·skip;refine Z3 ?_;refine qd (fun mm=>mm[ix.row]?=some (PO.row [cB s (b.act (.ifc 268 (.agg [ei d,ei n,eI l]))) ix])/\mm[M.length]?=some (PO.row [[.pp ix.row 1 0 0]])) (fun k=>match k with|0=>.stable|1=>.stable|2=>.stable|3=>.stable|4=>.stable|5=>.stable|6=>.stable|7=>.grow [] (M.length+1)|8=>.writes|_=>.here) mixed nR rfl nR ⟨h2.row,hbx⟩ ?_;refine zC Y Y (fun m hm=>zg Y Y hm.2 Y Y Y jG) (zC Y Y (fun m hm=>zr Y Y hm.1 Y) (zC Y Y (fun m hm=>ze Y Y hm.1 Y gQ) (zC Y Y (fun m hm=>zg Y Y hm.1 Y Y Y Im) ?_)));refine Z2 ?_;refine zC Y Y (fun m hm=>zu (cs:=[_,_]) Y U5 Y (zk Y) rF (by simp[ofV])) ?_;refine rp [] Y Y hlen (fun m hn hm hC=>⟨Kp Y (zF Y) hn,⟨ql hC.1,ql hC.2⟩⟩) ?_;refine qw Y Y (aD (enc:=spE) (a:=(d,n)) (kx:=.agg [ei d,ei n]) Y Y Y (ql h2.said) Y (cu (l:=[.int .i64 d,.int .i64 n]) Y) underlying175 OM Y) ⟨zT hne.a.2.2.2.1.symm (ql h2.row),zT oM (ql hbx)⟩ (Z3 ?_);refine zt (zd (mem':=(qK s b ix (.ifc 268 (.agg [ei d,ei n,eI l])) (M++[.row [[.pp ix.row 1 0 0]]])++[PO.row [sdC (⟨l,0⟩:Std)]]).set ix.said (wM spE (sdO ((b.act (.ifc 268 (.agg [ei d,ei n,eI l]))).said++[((d,n),(⟨l,0⟩:Std))]) (ix.sp++[M.length+1])))) [] trivial (Dh h hs)) ?_
  refine Z5 ?_
  exact fun hz=>zR [] (List.append_nil _).symm hz (by rw[zL2,List.length_append,jE,List.length_append];exact Nat.le_add_right_of_le (Nat.le_add_right _ _)) (.inr Y) (by simp[EV.lt]) Y
theorem K9:zU tP 270 [(0,1),(1,1),(2,1)] [nZ,nZ,nZ]:=⟨_,underlying270,nR,nR⟩
theorem IM(h:BuM s b ix M)(d n cl:Int){e:Int}(he:e≠0)(hq:zv tP G 96 [.pp ix.row 1 0 0,.pub (.ifc 270 (.agg [ei d,ei n,ei cl])),.fnm 167 [] [.pp M.length 1 0 0,.pub (.ptr [ei d]),.pub (.ptr [ei n]),.pub (.ptr [ei cl])],.fnm 168 [] [.pp M.length 1 0 0,.pub (.ptr [ei d,ei n])],.fnm 169 [] [.pp M.length 1 0 0,.pub (.ptr [ei d,ei n])]] (M++[.row [[.pp ix.row 1 0 0]]]) (.ret (I e) (M++[.row [[.pp ix.row 1 0 0]]]))):zv tP G 74 [.pp ix.row 1 0 0,I d,I n,I cl] M (.ret (I e) M):=by
 refine mW func74 (fun gh hold hmk=>?_);refine Z2 ?_;refine zm Y (qI Y Y (wE Y h.row Y)) (Z10 ?_);refine zb (zu (cs:=[_,_]) Y AQ Y (zk (zk Y)) rF (by simp[ofV])) ?_;refine zI Y Y Y Y Y Y Y u7 AZ Y rF (zF Y) Y (Z5 ?_);refine zb (zg Y Y at_end Y Y Y jG) (Z3 ?_);refine zb (zu (cs:=[_,_,_]) Y K9 Y (zk (zk (zk Y))) rF (by simp[ofV])) ?_;refine zb (zZ Y Y underlying270 Y) (Z3 ?_);refine mc hq ?_;refine Z9 ?_;refine nC ?_ ?_<;>intro h0
 ·skip;refine Z8 ?_
  exact fun hz=>zR [_] Y hmk (zLl _) (.inr Y) (by simp[EV.lt]) Y
 ·skip;exfalso;simp at h0;exact he h0
theorem J6{q:Nat}{l:List ((Int × Int) × Std)}{j:Nat}{e:Std}(ho:o.op=.lookup 175 x i false)(hx:evO fr x=.mpv q)(hm:mem[q]?=some (wM spE (sdO l sp)))(hi:evO fr i=.pub (.agg [ei p.1,ei p.2]))(hn:(l.map (·.1)).Nodup)(h1:l[j]?=some (p,e))(h2:sp[j]?=some k):OpY tP G fr mem o (.pp k 1 0 0):=by
 have:=BO (P:=tP) (G:=G) (enc:=spE) (es:=sdO l sp) (a:=p) (kx:=.agg [ei p.1,ei p.2]) ho hx hm hi (cu (l:=[.int .i64 p.1,.int .i64 p.2]) rfl) underlying175 OM zP;rwa[oW hn h1 h2]at this
theorem ET{a:AV}{X Y:PO}(h:BuM s b ix M)(hk:k<M.length):(qK s b ix a (M++[X])).set k Y=(qK s b ix a M).set k Y++[X]:=by
 rw[xo h,jX (by rw[jE];exact hk)]
theorem sJ{e:Std}:PO.okL k (.row [sdC e]):=fun r hr x hx=>by
 rw[zLh]at hr;subst hr;simp only[sdC,List.mem_cons,List.not_mem_nil,or_false]at hx;rcases hx with rfl|rfl<;>simp[EV.lt,I]
theorem Jr(h:BuM s b ix M)(d n cl:Int)(hu:SdU b){i:Nat}{e:Std}(hi:b.said[i]?=some ((d,n),e))(hk:ix.sp[i]?=some k)(hq:zv tP G 96 [.pp ix.row 1 0 0,.pub (.ifc 270 (.agg [ei d,ei n,ei cl])),.fnm 167 [] [.pp M.length 1 0 0,.pub (.ptr [ei d]),.pub (.ptr [ei n]),.pub (.ptr [ei cl])],.fnm 168 [] [.pp M.length 1 0 0,.pub (.ptr [ei d,ei n])],.fnm 169 [] [.pp M.length 1 0 0,.pub (.ptr [ei d,ei n])]] (M++[.row [[.pp ix.row 1 0 0]]]) (.ret (I 0) (qK s b ix (.ifc 270 (.agg [ei d,ei n,ei cl])) (M++[.row [[.pp ix.row 1 0 0]]])))):zv tP G 74 [.pp ix.row 1 0 0,I d,I n,I cl] M (.ret (I 0) ((qK s b ix (.ifc 270 (.agg [ei d,ei n,ei cl])) M).set k (.row [sdC ⟨e.parts,cl⟩]))):=by
 have h2:BuM s (b.act (.ifc 270 (.agg [ei d,ei n,ei cl]))) ix (qK s b ix (.ifc 270 (.agg [ei d,ei n,ei cl])) (M++[.row [[.pp ix.row 1 0 0]]])):=h.app.act (.ifc 270 (.agg [ei d,ei n,ei cl]));have hne:=h.ne;have k1:=h.lt ix.row (by simp[Ix.all]);have k2:=h.lt ix.acts (by simp[Ix.all]);have k3:=h.lt ix.reps (by simp[Ix.all]);have k4:=h.lt ix.maps (by simp[Ix.all]);have hbx:(qK s b ix (.ifc 270 (.agg [ei d,ei n,ei cl])) (M++[.row [[.pp ix.row 1 0 0]]]))[M.length]?=some (PO.row [[.pp ix.row 1 0 0]]):=zT oM (zT oM at_end);have hk2:k<M.length:=h.lt k (by simp only[Ix.all,List.mem_append];exact .inr (zLo hk));have hsp:=h2.sp i k _ hk hi;refine mW func74 (fun gh hold hmk=>?_);refine Z2 ?_;refine zm Y (qI Y Y (wE Y h.row Y)) (Z10 ?_);refine zb (zu (cs:=[_,_]) Y AQ Y (zk (zk Y)) rF (by simp[ofV])) ?_;refine zI Y Y Y Y Y Y Y u7 AZ Y rF (zF Y) Y (Z5 ?_);refine zb (zg Y Y at_end Y Y Y jG) (Z3 ?_);refine zb (zu (cs:=[_,_,_]) Y K9 Y (zk (zk (zk Y))) rF (by simp[ofV])) ?_
 refine zb (zZ Y Y underlying270 Y) (Z3 ?_);refine mc hq ?_;refine Z9 ?_;refine nC ?_ ?_<;>intro h0
 ·skip;exfalso;simp at h0
 ·skip;refine Z3 ?_;refine qd (fun mm=>∃r,mm[k]?=some (PO.row [r])) (fun k=>match k with|7=>.stable|9=>.writes|_=>.here) mixed nR rfl nR ⟨_,hsp⟩ ?_;refine zK Y Y (zg Y Y hbx Y Y Y jG) (zK Y Y (zr Y Y h2.row Y) (zK Y Y (ze Y Y h2.row Y gQ) (zK Y Y (zg Y Y h2.row Y Y Y Im) ?_)));refine Z ?_;refine zK Y Y (J6 (p:=(d,n)) Y Y h2.said Y hu hi hk) (Z ?_);refine zC Y Y (fun m hm=>zr (rows:=[hm.choose]) Y Y hm.choose_spec Y) (zK Y Y (ze Y Y hsp Y o9) ?_);refine qw Y Y (zz Y Y Y hsp Y Y (jT Y) ki rF rF) ⟨_,zj hsp⟩ ?_;refine Z3 ?_;refine zt (zd (mem':=(qK s b ix (.ifc 270 (.agg [ei d,ei n,ei cl])) M).set k (.row [sdC ⟨e.parts,cl⟩])++[.row [[.pp ix.row 1 0 0]]]) [] trivial (ET h hk2)) ?_;refine Z5 ?_
  exact fun hz=>zR [_] Y (by rw[zL2];exact qY (vK h hmk) sJ) (by rw[zL2,jE];exact zLl _) (.inr Y) (by simp[EV.lt]) Y
theorem H6:zS tP 390 true 17=true:=nR
theorem nF:vy tP 390 17 1=true:=nR
theorem MX:(tP.info? 390).bind (·.zero)=some (.agg #[nZ,nZ,nZ,nZ,nZ,nZ,nZ,nZ,nZ,nZ,nZ,nZ,nZ,nZ,nZ,nZ,nZ]):=nR
theorem VF:wL tP 390 1 [nZ,nZ,nZ,nZ,nZ,nZ,nZ,nZ,nZ,nZ,nZ,nZ,nZ,nZ,nZ,nZ,nZ]:=⟨_,_,Tryz.t3,underlying390,nR,nR,nR⟩
theorem Ik{p:Int}(ho:o.op=.binOp .quo T x y U)(hx:evO fr x=I p)(hy:evO fr y=I q)(hb:(-9223372036854775808<=p.tdiv q/\p.tdiv q<=9223372036854775807)/\0<q):OpY tP G fr mem o (I (p.tdiv q)):=
 jP ho hx hy (fun w=>by
  have h0:q≠0:=oM;have:IntKind.i64.wrap (p.tdiv q)=p.tdiv q:=wrap_i64 hb.1.1 hb.1.2;simp[binOp,Op.intDiv,h0,this]) rfl
theorem Ha{p:Int}(ho:o.op=.binOp .rem T x y U)(hx:evO fr x=I p)(hy:evO fr y=I q)(hb:0<q):OpY tP G fr mem o (I (p.tmod q)):=
 jP ho hx hy (fun w=>by
  have h0:q≠0:=oM;simp[binOp,Op.intDiv,h0]) rfl
def Bd(A a:Int):Prop:=-A<=a/\a<=A
theorem c7{a b B:Int}(ha:Bd A a)(hb:Bd B b):Bd (A*B) (a*b):=by
 have hA:0<=A:=by unfold Bd at ha;omega
 have hB:0<=B:=by unfold Bd at hb;omega
 have h1:(a*b).natAbs<=(A*B).natAbs:=by rw[Int.natAbs_mul,Int.natAbs_mul];exact Nat.mul_le_mul (by unfold Bd at ha;omega) (by unfold Bd at hb;omega)
 have h2:0<=A*B:=Int.mul_nonneg hA hB;unfold Bd;omega
theorem uB{p:Int}(h:Bd A p)(hq:0<q):Bd A (p.tdiv q):=by
 have h1:(p.tdiv q).natAbs<=p.natAbs:=Int.natAbs_tdiv_le_natAbs p q;unfold Bd at*;omega
def flD(p q:Int):Int:=if p.tmod q<0 then p.tdiv q-1 else p.tdiv q
theorem H7{p:Int}(h:Bd A p)(hq:0<q):Bd (A+1) (flD p q):=by
 have:=uB h hq;unfold flD;unfold Bd at*;split<;>omega
theorem f332(p q:Int)(hp:Bd 1000000000000000000 p)(hq:0<q):ACall tP G 250 [ei p,ei q] (ei (flD p q)):=by
 have hb:=uB hp hq;unfold Bd at hb;refine aC func250 ?_;refine Z9 ?_;refine zb (Ik Y Y Y ⟨⟨oM,oM⟩,hq⟩) (Z8 ?_);refine zb (Ha Y Y Y hq) (Z3 ?_);refine nC ?_ ?_<;>intro h0
 ·skip;have hf:flD p q=p.tdiv q-1:=zLc (by simpa using h0);refine Z7 ?_;refine zt (zd (mem':=[]) [(5,I (flD p q))] ⟨(by rw[hf];rfl),trivial⟩ Y) ?_;refine Z6 ?_;exact aR
 ·skip;have hf:flD p q=p.tdiv q:=zLy (by simpa using h0);refine Z3 ?_;refine zt (zd (mem':=[]) [(5,I (flD p q))] ⟨(by rw[hf];rfl),trivial⟩ Y) ?_;refine Z6 ?_;exact aR
def hTab:List Int:=[38,61,96,144,216,316,458,654,921,1279,1753,2376,3182,4218,5532,7188,9251]
theorem JJ:∀x∈hTab,0<x/\x<=9251:=dE
def hAt(i:Nat):Int:=hTab.getD i 0
theorem mh{i:Nat}(h:i<17):0<hAt i/\hAt i<=9251:=by
 have:hAt i=hTab[i]'(by simpa[hTab]using h):=by unfold hAt;rw[zLv,zLe];rfl
 rw[this];exact JJ _ (zLm _)
theorem Is{i:Nat}(h:i<16):hAt i<=hAt (i+1):=by
 have:∀i,i<16->hAt i<=hAt (i+1):=dE;exact this i h
theorem Jn{i:Nat}(h:i<17):(hTab.map fun n=>ei n)[i]?=some (ei (hAt i)):=by
 have hl:hTab.length=17:=rfl;unfold hAt;rw[zLq,zLv,zLe oM];rfl
theorem hD{p:Int}{i n:Nat}(hp:p=(i:Int))(hn:n=p.toNat)(h:i<17):((hTab.map fun n=>ei n).drop (n*1))[0]?=some (ei (hAt i)):=by
 subst hp;subst hn;rw[List.getElem?_drop];simpa using Jn h
def hoD(t:Int):Int:=if(t+300) % 50=0 then hAt ((t+300)/50).toNat else hAt ((t+300)/50).toNat+(hAt (((t+300)/50).toNat+1)-hAt ((t+300)/50).toNat)*((t+300) % 50)/50
theorem tR{t:Int}(h:-300<=t/\t<=500):0<hoD t/\hoD t<=20000:=by
 have h1:((t+300)/50).toNat<17:=oM;have h2:=mh h1;unfold hoD;split
 ·omega
 ·have h3:((t+300)/50).toNat<16:=oM;have h4:=mh (show((t+300)/50).toNat+1<17 by omega);have h5:=Is h3;have h6:0<=(hAt (((t+300)/50).toNat+1)-hAt ((t+300)/50).toNat)*((t+300) % 50):=Int.mul_nonneg oM oM;have h7:(hAt (((t+300)/50).toNat+1)-hAt ((t+300)/50).toNat)*((t+300) % 50)<=9251*50:=Int.mul_le_mul oM oM oM oM;omega
theorem zaX:ACall tP G 318 [] (.agg (hTab.map fun n=>ei n)):=by
 refine aC func318 ?_;refine Z2 ?_;refine zm Y (zE Y Y MX Y Y) (Z4 ?_);refine zb (v8 (cs:=[_,_,_,_,_,_,_,_,_,_,_,_,_,_,_,_,_]) Y VF Y (zk (zk (zk (zk (zk (zk (zk (zk (zk (zk (zk (zk (zk (zk (zk (zk (zk Y))))))))))))))))) rF (by simp[ofV])) ?_;refine zm Y (zp Y Y Y Y Y Y cEx H6 rF bL) (Z3 ?_);exact⟨.inr Y,jb Y (zQ Y Y Y Y H6 Y (vwR (vwR (vwR (vwR (vwR (vwR (vwR (vwR (vwR (vwR (vwR (vwR (vwR (vwR (vwR (vwR (vwR Y))))))))))))))))))⟩
theorem f335(t:Int)(ht:-300<=t/\t<=500):ACall tP G 253 [ei t] (ei (hoD t)):=by
 obtain⟨i,hi⟩:∃i:Nat,(t+300)/50=(i:Int):=⟨((t+300)/50).toNat,oM⟩;have hi2:((t+300)/50).toNat=i:=oM;have hin:i<17:=oM;have b1:=mh hin;refine aC func253 ?_;refine Z15 ?_;refine zb (dH Y Y Y ⟨oM,oM,oM⟩) (Z ?_);refine zb (fW Y Y Y ⟨oM,oM⟩) (Z6 ?_);refine yc zaX ?_;refine zI Y Y Y Y Y Y Y MX H6 Y rF (zF Y) Y (Z9 ?_);refine nC ?_ ?_<;>intro h0
 ·skip;have hr:(t+300) % 50=0:=by simpa using h0
  have hv:hoD t=hAt i:=by unfold hoD;rw[zLc hr,hi2]
  refine Z3 ?_;refine zb (qm Y Y Y nF oM oM) (zb (zl Y Y (hD hi Y hin) ki) ?_);refine Z5 ?_;exact⟨.inr Y,AVle.of (by rw[hv])⟩
 ·skip;have hr:¬(t+300) % 50=0:=by simpa using h0
  have hi3:i<16:=oM;have b2:=mh (show i+1<17 by omega);have b3:=Is hi3;have b4:0<=(hAt (i+1)-hAt i)*((t+300) % 50):=Int.mul_nonneg oM oM;have b5:(hAt (i+1)-hAt i)*((t+300) % 50)<=9251*50:=Int.mul_le_mul oM oM oM oM;have hv:hoD t=hAt i+(hAt (i+1)-hAt i)*((t+300) % 50)/50:=by unfold hoD;rw[zLy hr,hi2]
  refine Z3 ?_;refine zN mixed nR Y ?_;refine Z ?_;refine zH Y (qm Y Y Y nF oM oM) (zH Y (zl Y Y (hD hi Y hin) ki) ?_);refine Z2 ?_;refine zH Y (qm Y Y Y nF oM oM) (zH Y (zl Y Y (hD (i:=i+1) oM Y oM) ki) ?_);refine Z ?_;refine zH Y (qm Y Y Y nF oM oM) (zH Y (zl Y Y (hD hi Y hin) ki) ?_);refine Z3 ?_;refine zH Y (dH Y Y Y ⟨oM,oM,oM⟩) (Z5 ?_);exact⟨.inr Y,AVle.of (by rw[hv])⟩
theorem uw:vy tP 345 3 1=true:=nR
theorem V0:wL tP 345 1 [.nilFunc,.nilFunc,.nilFunc]:=⟨_,_,Tryz.t228,underlying345,nR,nR,nR⟩
theorem SD:zS tP 275 true 8=true:=nR
structure Tr where
 ix:Int
 er:Int
 gr:Int
 he:Int
 att:Int
 dr:Int
 we:Int
def eTr(t:Tr):TA:=[ei t.ix,ei t.er,ei t.gr,ei t.he,ei t.att,ei t.dr,ei t.we]
def eCo(t:Tr)(m:Int):TA:=[ei t.ix,ei t.er,ei t.gr,ei t.he,ei t.att,ei t.dr,ei t.we,ei m]
structure TrP(t:Tr):Prop where
 ix:Bd 2000 t.ix
 er:Bd 200 t.er
 gr:Bd 3000 t.gr
 he:0<=t.he/\t.he<=3000
 att:Bd 500 t.att
 dr:-300<=t.dr/\t.dr<=500
 we:-300<=t.we/\t.we<=500
theorem lz{p:Int}(hA:0<=A)(h:Bd (A*q) p)(hq:0<q):Bd (A+1) (flD p q):=by
 have h1:(p.tdiv q).natAbs<=A.natAbs:=by
  rw[Int.natAbs_tdiv];have h2:p.natAbs<=A.natAbs*q.natAbs:=by rw[←Int.natAbs_mul];unfold Bd at h;omega
  exact Nat.div_le_of_le_mul (by rw[Nat.mul_comm];exact h2)
 unfold flD;unfold Bd;split<;>omega
theorem QE{p:Int}(h:0<=p)(hq:0<q):0<=flD p q:=by
 have h1:=Int.tdiv_nonneg h (Int.le_of_lt hq);have h2:=Int.tmod_nonneg q h;unfold flD;split<;>omega
def h0V(t:Tr)(m:Int):Int:=m-t.ix-t.er
def h1V(t:Tr)(z:Int):Int:=z-flD (z*t.att*163) 10000000
def h2V(t:Tr)(z:Int):Int:=z+flD (z*t.gr) 1000000
def heV(t:Tr)(m:Int):Int:=h2V t (h1V t (h0V t m))
variable{t:Tr}
theorem GY(h:TrP t){m:Int}(hm:40000<=m/\m<=90000):37800<=h0V t m/\h0V t m<=92200:=by
 have a:=h.ix;have b:=h.er;unfold Bd at a b;unfold h0V;omega
theorem h1p(h:TrP t)(hz:37800<=z/\z<=92200):Bd (46100000) (z*t.att)/\Bd 7514300000 (z*t.att*163):=by
 have a:=c7 (show Bd 92200 z from⟨oM,oM⟩) h.att;unfold Bd at*;omega
theorem En(h:TrP t)(hz:37800<=z/\z<=92200):37000<=h1V t z/\h1V t z<=93000:=by
 have a:=(h1p h hz).2;have b:=lz (A:=752) (q:=10000000) oM (show Bd (752*10000000) (z*t.att*163) by unfold Bd at*;omega) oM;unfold Bd at b;unfold h1V;omega
theorem h2p(h:TrP t)(hz:37000<=z/\z<=93000):Bd 279000000 (z*t.gr):=c7 (show Bd 93000 z from⟨oM,oM⟩) h.gr
theorem MS(h:TrP t)(hz:37000<=z/\z<=93000):36000<=h2V t z/\h2V t z<=94000:=by
 have a:=h2p h hz;have b:=lz (A:=280) (q:=1000000) oM (show Bd (280*1000000) (z*t.gr) by unfold Bd at*;omega) oM;unfold Bd at b;unfold h2V;omega
theorem UQ(h:TrP t){m:Int}(hm:40000<=m/\m<=90000):36000<=heV t m/\heV t m<=94000:=MS h (En h (GY h hm))
def seV(t:Tr)(z:Int):Int:=z+flD (z*t.he*10) (79900+29*t.dr)
def buV(t:Tr):Int:=min t.we t.dr
def vaV(t:Tr)(z:Int):Int:=max 0 (hoD (buV t)-flD (z*(t.dr-buV t)*8) 100000)
def huV(t:Tr)(z:Int):Int:=flD (100*vaV t z) (hoD t.dr)
theorem sep(h:TrP t)(hz:36000<=z/\z<=94000):(0<=z*t.he/\z*t.he<=282000000):=⟨Int.mul_nonneg oM h.he.1,by have:=Int.mul_le_mul hz.2 h.he.2 h.he.1 (by omega:(0:Int)<=94000);omega⟩
theorem vap(h:TrP t)(hz:36000<=z/\z<=94000):(0<=z*(t.dr-buV t)/\z*(t.dr-buV t)<=75200000)/\(0<=vaV t z/\vaV t z<=20000)/\(-300<=buV t/\buV t<=500)/\Bd 1000000000 (flD (z*(t.dr-buV t)*8) 100000):=by
 have hd:=h.dr;have hw:=h.we;have hb:-300<=buV t/\buV t<=500/\0<=t.dr-buV t:=by unfold buV;omega
 have h1:0<=z*(t.dr-buV t):=Int.mul_nonneg oM hb.2.2;have h2:z*(t.dr-buV t)<=94000*800:=Int.mul_le_mul hz.2 oM hb.2.2 oM;have h3:0<=flD (z*(t.dr-buV t)*8) 100000:=QE oM oM;have h4:=tR ⟨hb.1,hb.2.1⟩;have h5:=H7 (A:=700000000) (q:=100000) (show Bd 700000000 (z*(t.dr-buV t)*8) by unfold Bd;omega) oM;refine⟨⟨h1,oM⟩,?_,⟨hb.1,hb.2.1⟩,by unfold Bd at*;omega⟩;unfold vaV;omega
theorem f329(t:Tr)(h:TrP t)(m:Int)(hm:40000<=m/\m<=90000)(z:Int):ACall tP G 247 [.agg (eCo t m),ei z] (ei (h0V t m)):=by
 have h1:=h.ix;have h2:=h.er;unfold Bd at h1 h2;refine aC func247 ?_;refine Z22 ?_;exact aR
theorem f330(t:Tr)(h:TrP t)(m:Int)(z:Int)(hz:37800<=z/\z<=92200):ACall tP G 248 [.agg (eCo t m),ei z] (ei (h1V t z)):=by
 have h1:=h1p h hz;have h3:=En h hz;have h4:h1V t z=z-flD (z*t.att*163) 10000000:=rfl;have h2:=h1;unfold Bd at h2;refine aC func248 ?_;refine Z15 ?_;refine zb (zi (av:=[_,_]) Y rL (f332 _ _ (by unfold Bd;omega) oM)) ?_;refine Z5 ?_;exact aR
theorem f331(t:Tr)(h:TrP t)(m:Int)(z:Int)(hz:37000<=z/\z<=93000):ACall tP G 249 [.agg (eCo t m),ei z] (ei (h2V t z)):=by
 have h1:=h2p h hz;have h3:=MS h hz;have h4:h2V t z=z+flD (z*t.gr) 1000000:=rfl;unfold Bd at h1;refine aC func249 ?_;refine Z14 ?_;refine zb (zi (av:=[_,_]) Y rL (f332 _ _ (by unfold Bd;omega) oM)) ?_;refine Z5 ?_;exact aR
theorem f239(t:Tr)(h:TrP t)(m:Int)(hm:40000<=m/\m<=90000):ACall tP G 178 [.agg (eCo t m)] (ei (heV t m)):=by
 refine aC func178 ?_;refine Z20 ?_;refine zb (v8 (cs:=[_,_,_]) Y V0 Y (zk (zk (zk Y))) rF (by simp[ofV])) ?_;refine Z4 ?_;refine zD (ι:={k:Nat//k<4}) (fun k=>match k.1 with|0=>⟨Tryz.f178.ntmps,frL [(3,I (0)),(12,.pub (.agg [.fn 247 [.agg (eCo t m)] [],.fn 248 [.agg (eCo t m)] [],.fn 249 [.agg (eCo t m)] []])),(13,I 0)],[]⟩|1=>⟨Tryz.f178.ntmps,frL [(3,I (h0V t m)),(12,.pub (.agg [.fn 247 [.agg (eCo t m)] [],.fn 248 [.agg (eCo t m)] [],.fn 249 [.agg (eCo t m)] []])),(13,I 1)],[]⟩|2=>⟨Tryz.f178.ntmps,frL [(3,I (h1V t (h0V t m))),(12,.pub (.agg [.fn 247 [.agg (eCo t m)] [],.fn 248 [.agg (eCo t m)] [],.fn 249 [.agg (eCo t m)] []])),(13,I 2)],[]⟩|_=>⟨Tryz.f178.ntmps,frL [(3,I (heV t m)),(12,.pub (.agg [.fn 247 [.agg (eCo t m)] [],.fn 248 [.agg (eCo t m)] [],.fn 249 [.agg (eCo t m)] []])),(13,I 3)],[]⟩) (fun k=>4-k.1) (⟨0,oM⟩) ?_ ?_
 ·exact zd _ rL (Y)
 ·rintro⟨k,hk⟩;have hk3:k=0∨k=1∨k=2∨k=3:=oM;rcases hk3 with rfl|rfl|rfl|rfl
  ·dsimp only;refine Z6 ?_;refine nC ?_ ?_<;>intro h0
   ·skip;refine Z6 ?_;refine zb (qJ rfl rfl rfl uw (fun e he=>by rw[underlying345]at he;cases he;exact F7) oM oM rfl) (Z6 ?_);refine zb (qD (av:=[_]) Y Y rL (f329 t h m hm 0)) (Z8 ?_);exact⟨⟨1,oM⟩,by dsimp only;omega,(by refine zd (mem':=[]) [(3,I (h0V t m)),(12,.pub (.agg [.fn 247 [.agg (eCo t m)] [],.fn 248 [.agg (eCo t m)] [],.fn 249 [.agg (eCo t m)] []])),(13,I 1)] ?_ ?_;exact rL;exact(Y))⟩
   ·skip;exfalso;simp at h0
  ·dsimp only;refine Z6 ?_;refine nC ?_ ?_<;>intro h0
   ·skip;refine Z6 ?_;refine zb (qJ rfl rfl rfl uw (fun e he=>by rw[underlying345]at he;cases he;exact F7) oM oM rfl) (Z6 ?_);refine zb (qD (av:=[_]) Y Y rL (f330 t h m _ (GY h hm))) ?_;refine Z8 ?_;exact⟨⟨2,oM⟩,by dsimp only;omega,(by refine zd (mem':=[]) [(3,I (h1V t (h0V t m))),(12,.pub (.agg [.fn 247 [.agg (eCo t m)] [],.fn 248 [.agg (eCo t m)] [],.fn 249 [.agg (eCo t m)] []])),(13,I 2)] ?_ ?_;exact rL;exact(Y))⟩
   ·skip;exfalso;simp at h0
  ·dsimp only;refine Z6 ?_;refine nC ?_ ?_<;>intro h0
   ·skip;refine Z6 ?_;refine zb (qJ rfl rfl rfl uw (fun e he=>by rw[underlying345]at he;cases he;exact F7) oM oM rfl) (Z6 ?_);refine zb (qD (av:=[_]) Y Y rL (f331 t h m _ (En h (GY h hm)))) ?_;refine Z8 ?_;exact⟨⟨3,oM⟩,by dsimp only;omega,(by refine zd (mem':=[]) [(3,I (heV t m)),(12,.pub (.agg [.fn 247 [.agg (eCo t m)] [],.fn 248 [.agg (eCo t m)] [],.fn 249 [.agg (eCo t m)] []])),(13,I 3)] ?_ ?_;exact rL;exact(Y))⟩
   ·skip;exfalso;simp at h0
  ·dsimp only;refine Z6 ?_;refine nC ?_ ?_<;>intro h0
   ·skip;exfalso;simp at h0
   ·skip;refine Z12 ?_;exact aR
theorem f240(t:Tr)(h:TrP t)(m:Int)(z:Int)(hz:36000<=z/\z<=94000):ACall tP G 179 [.agg (eCo t m),ei z] (ei (seV t z)):=by
 have h1:=sep h hz;have hd:=h.dr;have h2:=H7 (p:=z*t.he*10) (q:=79900+29*t.dr) (A:=2820000000) (by unfold Bd;omega) oM;unfold Bd at h2;refine aC func179 ?_;refine Z20 ?_;refine zb (zi (av:=[_,_]) Y rL (f332 _ _ (by unfold Bd;omega) oM)) ?_;refine Z5 ?_;exact aR
theorem f241(t:Tr)(h:TrP t)(m:Int)(z:Int)(hz:36000<=z/\z<=94000):ACall tP G 180 [.agg (eCo t m),ei z] (ei (huV t z)):=by
 have hd:=h.dr;have h1:=vap h hz;have h2:=tR h1.2.2.1;have h3:=tR hd;have h4:=h1.2.2.2;unfold Bd at h4;have hvv:vaV t z=max 0 (hoD (buV t)-flD (z*(t.dr-buV t)*8) 100000):=rfl;have hbb:buV t=min t.we t.dr:=rfl;refine aC func180 ?_;refine Z14 ?_;refine zb (zw (size:=1) (rows:=[[_],[_]]) Y underlying24 Xs Y dE Y dE (zk (zk Y)) rF (by simp[ofV]) Y sI) ?_;refine yc (Hs.f272 _ _) ?_;refine Z4 ?_;refine zN mixed nR Y ?_;refine Z ?_;refine zH Y (zi (av:=[_]) Y rL (f335 (buV t) h1.2.2.1)) (Z5 ?_);refine zH Y (j4 Y Y Y ⟨by show _<=t.dr-buV t;omega,by show t.dr-buV t<=_;omega⟩) ?_;refine zH Y (y7 Y Y Y ⟨by show _<=z*(t.dr-buV t);omega,by show z*(t.dr-buV t)<=_;omega⟩) ?_;refine zH Y (y7 Y Y Y ⟨by show _<=z*(t.dr-buV t)*8;omega,by show z*(t.dr-buV t)*8<=_;omega⟩) ?_;refine zH Y (zi (av:=[_,_]) Y rL (f332 (z*(t.dr-buV t)*8) 100000 (by unfold Bd;omega) oM)) ?_;refine zH Y (j4 Y Y Y ⟨by show _<=hoD (buV t)-flD (z*(t.dr-buV t)*8) 100000;omega,by show hoD (buV t)-flD (z*(t.dr-buV t)*8) 100000<=_;omega⟩) ?_
 refine zH Y (zw (size:=1) (rows:=[[_],[_]]) Y underlying24 Xs Y dE Y dE (zk (zk Y)) rF (by simp[ofV]) Y sI) ?_;refine zH Y (zi (av:=[_]) Y rL (Hs.f271 _ _)) ?_;refine Z6 ?_;refine zb (y7 Y Y Y ⟨by show _<=100*vaV t z;omega,by show 100*vaV t z<=_;omega⟩) ?_;refine Z3 ?_;refine yc (f335 t.dr hd) ?_;refine yc (f332 (100*vaV t z) (hoD t.dr) (by unfold Bd;omega) oM) ?_;refine Z4 ?_;exact aR
theorem Uk:(tP.info? 167).bind (·.zero)=some (.agg #[nZ,nZ,nZ]):=nR
theorem aA:zS tP 165 true 7=true:=nR
theorem SZ:zU tP 275 [(0,7),(7,1)] [nZ,nZ,nZ,nZ,nZ,nZ,nZ,nZ]:=⟨_,underlying275,nR,nR⟩
theorem VA:(tP.info? 275).bind (·.zero)=some (.agg #[nZ,nZ,nZ,nZ,nZ,nZ,nZ,nZ]):=nR
theorem UB:zU tP 167 [(0,1),(1,1),(2,1)] [nZ,nZ,nZ]:=⟨_,underlying167,nR,nR⟩
theorem MR:zS tP 167 true 3=true:=nR
theorem SO:zS tP 75 true 10=true:=nR
theorem xa:(tP.info? 63).bind (·.zero)=some (.agg #[nZ,nZ]):=nR
theorem vU{P:Program}{args:TE}{m:TP}{ys:TA}(h:zv P G f args mem (.ret (.mix (ys.map .pub)) m)):zv P G f args mem (.ret (.pub (.agg ys)) m):=
 ⟨h.1,fun w0 ok0 ok bs w vs gh hold hG hok ho hf=>(h.2 w0 ok0 ok bs w vs gh hold hG hok ho hf).mono fun e w' ⟨ok',bs',h1,u,h2,h3⟩=>⟨ok',bs',h1,u,h2,by
  simp only[FitsE]at h3;simp only[FitsE,Fits];obtain⟨us,e1,e2⟩:=h3;exact⟨us,e1,e2.1,FitsEL.pub.1 e2.2⟩⟩⟩
def rdB(r:Rdg):Bool:=Hs.inB r.day 0 400&&Hs.inB r.min 0 1439&&Hs.inB r.clk 1 3&&Hs.inB r.mer 40000 90000&&Hs.spn3 r.al r.ah (-300) 500&&Hs.spn3 r.dl r.dh (-300) 500&&Hs.spn3 r.wl r.wh (-300) 500
def wV(t:Tr)(m:Int):TA:=[ei (heV t m),ei (seV t (heV t m)),ei (huV t (heV t m))]
theorem f111(r:Rdg):ACall tP G 77 [.agg (qF r)] (.v (.bool (rdB r))):=by
 refine aC func77 ?_;refine Z10 ?_;refine yc (Hs.f215 _ _ _) ?_;refine Z3 ?_;refine yd Y (fun hg=>(Hs.f215 _ _ _)) ?_;refine Z4 ?_;refine yd Y (fun hg=>(Hs.f215 _ _ _)) ?_;refine Z4 ?_;refine yd Y (fun hg=>(Hs.f215 _ _ _)) ?_;refine Z4 ?_;refine yd Y (fun hg=>(Hs.f316 _ _ _ _)) ?_;refine Z4 ?_;refine yd Y (fun hg=>(Hs.f316 _ _ _ _)) ?_;refine Z4 ?_;refine yd Y (fun hg=>(Hs.f316 _ _ _ _)) ?_;refine Z5 ?_;exact aR
theorem f114(r:Rdg)(hm:40000<=r.mer/\r.mer<=90000)(t:Tr)(h:TrP t):ACall tP G 80 [.agg (qF r),.agg (eTr t)] (.agg (wV t r.mer)):=by
 have hh:=UQ h hm;refine aC func80 ?_;refine Z4 ?_;refine zm Y (zE Y Y Uk Y Y) (Z7 ?_);refine zb (zu (cs:=[_,_,_,_,_,_,_,_]) Y SZ Y (zk (zk Y)) rF (by simp[ofV])) ?_;refine zI Y Y Y Y Y Y Y VA SD Y rF (zF Y) Y (Z5 ?_);refine yc (f239 t h r.mer hm) ?_;refine Z4 ?_;refine qd (fun _=>True) (fun k=>match k with|8=>.writes|_=>.here) mixed nR rfl nR trivial ?_;refine Z3 ?_;refine zK Y Y (zi (av:=[_,_]) Y rL (f240 t h r.mer _ hh)) ?_;refine Z2 ?_;refine zK Y Y (zi (av:=[_,_]) Y rL (f241 t h r.mer _ hh)) ?_;refine zK Y Y (zu (cs:=[_,_,_]) Y UB Y (zk (zk (zk Y))) rF (by simp[ofV])) ?_;refine qw Y Y (zz Y Y Y Y Y Y cEx MR rF rF) trivial (Z3 ?_);exact⟨.inr Y,jb Y (zQ Y Y Y Y MR Y (vwR (vwR (vwR Y))))⟩
theorem f117(a b c:Int):ACall tP G 83 [.agg [ei a,ei b,ei c]] (ei a):=by
 refine aC func83 ?_;refine Z14 ?_;exact aR
theorem f118(a b c:Int):ACall tP G 84 [.agg [ei a,ei b,ei c]] (ei b):=by
 refine aC func84 ?_;refine Z14 ?_;exact aR
theorem f119(a b c:Int):ACall tP G 85 [.agg [ei a,ei b,ei c]] (ei c):=by
 refine aC func85 ?_;refine Z14 ?_;exact aR
theorem f113(q:Int->Int->Int->Int)(f:FuncId)(hf:∀a b c,ACall tP G f [.agg [ei a,ei b,ei c]] (ei (q a b c)))(r:Rdg)(hm:40000<=r.mer/\r.mer<=90000)(t:Tr)(h:TrP t):ACall tP G 79 [.agg (eTr t),.ptr [.fn f [] []],.ptr (qF r)] (ei (q (heV t r.mer) (seV t (heV t r.mer)) (huV t (heV t r.mer)))):=by
 refine aC func79 ?_;refine Z7 ?_;refine zN mixed nR Y ?_;refine Z3 ?_;refine zH Y (zi (av:=[_,_]) Y rL (f114 r hm t h)) (zH Y (qD (av:=[_]) Y Y rL (hf _ _ _)) ?_);refine Z4 ?_;exact aR
theorem f112(f:FuncId)(r:Rdg):ACall tP G 78 [.fn f [] [],.ptr (qF r)] (.fn 79 [] [.ptr [.fn f [] []],.ptr (qF r)]):=by
 refine aC func78 ?_;refine Z13 ?_;exact aR
theorem f116{a b:Tr}{x y:Int}(h1:ACall tP G 79 [.agg (eTr a),.ptr [.fn f [] []],.ptr (qF r)] (ei x))(h2:ACall tP G 79 [.agg (eTr b),.ptr [.fn f [] []],.ptr (qF r)] (ei y)):ACall tP G 82 [.agg (eTr a),.agg (eTr b),.fn 79 [] [.ptr [.fn f [] []],.ptr (qF r)]] (.agg [ei x,ei y]):=by
 refine aC func82 ?_;refine Z4 ?_;refine zm Y (zE Y Y xa Y Y) (Z3 ?_);refine zN mixed nR Y ?_;refine Z2 ?_;refine zH Y (qD (av:=[_]) Y Y rL h1) (Z2 ?_);refine zH Y (qD (av:=[_]) Y Y rL h2) (Z8 ?_);refine zb (zu (cs:=[_,_]) Y iV Y (zk (zk Y)) rF (by simp[ofV])) ?_;refine zm Y (zp Y Y Y Y Y Y cEx vd rF bL) (Z3 ?_);exact⟨.inr Y,jb Y (zQ Y Y Y Y vd Y (vwR (vwR Y)))⟩
theorem f243(lo hi:Int)(b:Bool):ACall tP G 182 [.agg [ei lo,ei hi],.v (.bool b)] (ei (if b then lo else hi)):=by
 refine aC func182 ?_;refine Z12 ?_;refine nC ?_ ?_<;>intro h0
 ·skip;refine Z9 ?_;exact⟨.inr Y,AVle.of (by simp[h0])⟩
 ·skip;refine Z10 ?_;exact⟨.inr Y,AVle.of (by simp[h0])⟩
theorem Xw{A B C D E F H J:PO}{j:Nat}{x:Hs.Chk}(h:gl.ck[j]?=some x):[A,B,C,D,.map [],E,F,H,J,.row [Hs.rG gl (.mpv 4)],.row [[I 0,I 0]],.row [[I (max (Hs.loS gl d (gl.ck.take j)) (x.lo-gl.dr*Hs.far d x.t)),I (min (Hs.hiS gl d (gl.ck.take j)) (x.hi+gl.dr*Hs.far d x.t))]]]=[A,B,C,D,.map [],E,F,H,J,.row [Hs.rG gl (.mpv 4)],.row [[I 0,I 0]],.row [[I (Hs.loS gl d (gl.ck.take (j+1))),I (Hs.hiS gl d (gl.ck.take (j+1)))]]]:=by
 rw[show Hs.loS gl d (gl.ck.take (j+1))=max (Hs.loS gl d (gl.ck.take j)) (x.lo-gl.dr*Hs.far d x.t) from Hs.fold_next h,show Hs.hiS gl d (gl.ck.take (j+1))=min (Hs.hiS gl d (gl.ck.take j)) (x.hi+gl.dr*Hs.far d x.t) from Hs.fold_next h]
theorem zb0{A B C D E F H J:PO}:[A,B,C,D,.map [],E,F,H,J,.row [Hs.rG gl (.mpv 4)],.row [[I 0,I 0]],.row [[I (Hs.loS gl d (gl.ck.take gl.ck.length)),I (Hs.hiS gl d (gl.ck.take gl.ck.length))]]]=[A,B,C,D,.map [],E,F,H,J,.row [Hs.rG gl (.mpv 4)],.row [[I 0,I 0]],.row [[I (Hs.loS gl d gl.ck),I (Hs.hiS gl d gl.ck)]]]:=by rw[List.take_length]
theorem NU{l:Nat}{lo hi:Int}(ho:o.op=.lookup 156 x i true)(hx:evO fr x=.mpv l)(hm:mem[l]?=some (.map [(Hs.encN d,.pub (.agg [ei lo,ei hi]))]))(hj:evO fr i=.pub (.v (.int .i64 d))):OpY tP G fr mem o (.pub (.tup [.agg [ei lo,ei hi],.v (.bool true)])):=by
 have:=dP (P:=tP) (G:=G) (enc:=Hs.encN) (es:=[(d,.agg [ei lo,ei hi])]) (a:=d) (kx:=.v (.int .i64 d)) ho hx hm hj jr underlying156 Hs.keyN Hs.zv46m;simpa[wY,aZ,vg]using this
theorem XD(hs:Hs.stGB gl=true)(d:Int)(hd:0<=d/\d<=400)(A B C D E F H J:PO):zv tP G 181 [.mix (Hs.rG gl (.mpv 4)),I d] [A,B,C,D,.map [],E,F,H,J] (.ret (.mix [I (Hs.loS gl d gl.ck),I (Hs.hiS gl d gl.ck)]) [A,B,C,D,.map [(Hs.encN d,.pub (.agg [ei (Hs.loS gl d gl.ck),ei (Hs.hiS gl d gl.ck)]))],E,F,H,J]):=by
 refine mW func181 (fun gh hold hmk=>?_);refine Z2 ?_;refine zm Y (qI Y Y cEx) (zm Y (zE Y Y xa Y Y) ?_);refine Z8 ?_;refine zb (Hs.lookN Y Y Y Y) (Z3 ?_);refine zI Y Y Y Y Y Y Y xa vd Y rF (zF Y) Y (Z8 ?_);refine nC ?_ ?_<;>intro h0
 ·skip;exfalso;simp at h0
 ·skip;refine Z4 ?_;refine zb (zu (cs:=[_,_]) Y iV Y (zk (zk Y)) rF (by simp[ofV])) ?_;refine zm Y (zE Y Y xa Y Y) ?_;refine zm Y (zp Y Y Y Y Y Y cEx vd rF bL) (Z7 ?_);refine zb (oq (av:=[.agg (Hs.eGs gl),.v (.int .i64 d)]) Y ⟨_,_,Y,AVle.refl _,_,_,Y,AVle.refl _,Y⟩ (Hs.f270 gl d)) ?_;refine Z3 ?_;refine jS gl.ck ((Hs.bdQ gl d)) [1,2,4,7] (fun j=>True) (fun j=>[A,B,C,D,.map [],E,F,H,J,.row [Hs.rG gl (.mpv 4)],.row [[I 0,I 0]],.row [[I (Hs.loS gl d (gl.ck.take j)),I (Hs.hiS gl d (gl.ck.take j))]]]) (trivial) Y (Hs.it318 hs d hd) Y (fun _=>rfl) Y Y ?_ ?_
  ·intro j x gh lp hd1 hd2 hq hV;refine Z ?_;refine zI Y Y Y Y Y Y Y xa vd Y rF (zF Y) Y (Z ?_);refine⟨Y,Y,?_⟩;refine Z ?_;refine qd (fun _=>True) (fun k=>match k with|13=>.writes|_=>.here) mixed nR rfl nR trivial ?_;refine Z4 ?_;refine zK Y Y (zw (size:=1) (rows:=[[_],[_]]) Y underlying24 Xs Y dE Y dE (zk (zk Y)) rF (by simp[ofV]) Y sI) ?_;refine zK Y Y (zi (av:=[_]) Y rL (Hs.f271 _ _)) ?_;refine Z4 ?_;refine zK Y Y (zw (size:=1) (rows:=[[_],[_]]) Y underlying24 Xs Y dE Y dE (zk (zk Y)) rF (by simp[ofV]) Y sI) ?_;refine zK Y Y (zi (av:=[_]) Y rL (Hs.f272 _ _)) ?_;refine zK Y Y (zu (cs:=[_,_]) Y iV Y (zk (zk Y)) rF (by simp[ofV])) ?_;refine qw Y Y (zz Y Y Y Y Y Y cEx vd rF rF) trivial (Z2 ?_);exact⟨Y,trivial,zd (mem':=[A,B,C,D,.map [],E,F,H,J,.row [Hs.rG gl (.mpv 4)],.row [[I 0,I 0]],.row [[I (Hs.loS gl d (gl.ck.take (j+1))),I (Hs.hiS gl d (gl.ck.take (j+1)))]]]) [] trivial ((Xw hq))⟩
  ·intro hVn;refine Z3 ?_;refine zt (zd (mem':=[A,B,C,D,.map [],E,F,H,J,.row [Hs.rG gl (.mpv 4)],.row [[I 0,I 0]],.row [[I (Hs.loS gl d gl.ck),I (Hs.hiS gl d gl.ck)]]]) [(1,.pub (.v (.int .i64 d))),(2,.pp 9 1 0 0),(4,.pp 10 1 0 0),(7,.pp 11 1 0 0)] ?_ ?_) ?_
   ·exact rL
   ·exact zb0
   refine Z5 ?_;refine zm Y (qt (enc:=Hs.encN) (es:=[]) (a:=d) (.inl Y) Y Y Y Y jr underlying156 Hs.keyN Y) (Z5 ?_);refine zm Y (zp Y Y Y Y Y Y cEx vd rF bL) (Z3 ?_)
   exact fun hz=>zR [.row [Hs.rG gl (.mpv 4)],.row [[I (Hs.loS gl d gl.ck),I (Hs.hiS gl d gl.ck)]],.row [[I (Hs.loS gl d gl.ck),I (Hs.hiS gl d gl.ck)]]] Y ⟨hmk.1,hmk.2.1,hmk.2.2.1,hmk.2.2.2.1,(by intro p hp;simp at hp;subst hp;simp[EV.lt,EV.ltL]),hmk.2.2.2.2.2.1,hmk.2.2.2.2.2.2.1,hmk.2.2.2.2.2.2.2.1,hmk.2.2.2.2.2.2.2.2.1,trivial⟩ sI (.inr Y) (by simp[EV.lt,EV.ltL,I]) ⟨_,_,Y,sI,Y,.inr ⟨_,vd,bL,Y⟩⟩
theorem O7(d:Int)(A B C D E F H J:PO):zv tP G 181 [.mix (Hs.rG gl (.mpv 4)),I d] [A,B,C,D,.map [(Hs.encN d,.pub (.agg [ei (Hs.loS gl d gl.ck),ei (Hs.hiS gl d gl.ck)]))],E,F,H,J] (.ret (.mix [I (Hs.loS gl d gl.ck),I (Hs.hiS gl d gl.ck)]) [A,B,C,D,.map [(Hs.encN d,.pub (.agg [ei (Hs.loS gl d gl.ck),ei (Hs.hiS gl d gl.ck)]))],E,F,H,J]):=by
 refine mW func181 (fun gh hold hmk=>?_);refine Z2 ?_;refine zm Y (qI Y Y cEx) (zm Y (zE Y Y xa Y Y) ?_);refine Z8 ?_;refine zb (NU Y Y Y Y) (Z3 ?_);refine zI Y Y Y Y Y Y Y xa vd Y rF (zF Y) Y (Z8 ?_);refine nC ?_ ?_<;>intro h0
 ·skip;refine Z3 ?_;refine zm Y (zp Y Y Y Y Y Y cEx vd rF bL) (Z4 ?_)
  exact fun hz=>zR [_,_] Y ⟨hmk.1,hmk.2.1,hmk.2.2.1,hmk.2.2.2.1,hmk.2.2.2.2.1,hmk.2.2.2.2.2.1,hmk.2.2.2.2.2.2.1,hmk.2.2.2.2.2.2.2.1,hmk.2.2.2.2.2.2.2.2.1,trivial⟩ sI (.inr Y) (by simp[EV.lt,EV.ltL,I]) ⟨_,_,Y,sI,Y,.inr ⟨_,vd,bL,Y⟩⟩
 ·skip;exfalso;simp at h0
theorem J2(d:Int)(A B C D E F H J K L:PO):zv tP G 181 [.mix (Hs.rG gl (.mpv 4)),I d] [A,B,C,D,.map [(Hs.encN d,.pub (.agg [ei (Hs.loS gl d gl.ck),ei (Hs.hiS gl d gl.ck)]))],E,F,H,J,K,L] (.ret (.mix [I (Hs.loS gl d gl.ck),I (Hs.hiS gl d gl.ck)]) [A,B,C,D,.map [(Hs.encN d,.pub (.agg [ei (Hs.loS gl d gl.ck),ei (Hs.hiS gl d gl.ck)]))],E,F,H,J,K,L]):=by
 refine mW func181 (fun gh hold hmk=>?_);refine Z2 ?_;refine zm Y (qI Y Y cEx) (zm Y (zE Y Y xa Y Y) ?_);refine Z8 ?_;refine zb (NU Y Y Y Y) (Z3 ?_);refine zI Y Y Y Y Y Y Y xa vd Y rF (zF Y) Y (Z8 ?_);refine nC ?_ ?_<;>intro h0
 ·skip;refine Z3 ?_;refine zm Y (zp Y Y Y Y Y Y cEx vd rF bL) (Z4 ?_)
  exact fun hz=>zR [_,_] Y ⟨hmk.1,hmk.2.1,hmk.2.2.1,hmk.2.2.2.1,hmk.2.2.2.2.1,hmk.2.2.2.2.2.1,hmk.2.2.2.2.2.2.1,hmk.2.2.2.2.2.2.2.1,hmk.2.2.2.2.2.2.2.2.1,hmk.2.2.2.2.2.2.2.2.2.1,hmk.2.2.2.2.2.2.2.2.2.2.1,trivial⟩ sI (.inr Y) (by simp[EV.lt,EV.ltL,I]) ⟨_,_,Y,sI,Y,.inr ⟨_,vd,bL,Y⟩⟩
 ·skip;exfalso;simp at h0
theorem gJ:(tP.info? 165).bind (·.zero)=some (.agg #[nZ,nZ,nZ,nZ,nZ,nZ,nZ]):=nR
theorem Gm:zU tP 165 [(0,1),(1,1),(2,1),(3,1),(4,1),(5,1),(6,1)] [nZ,nZ,nZ,nZ,nZ,nZ,nZ]:=⟨_,underlying165,nR,nR⟩
theorem qL{fop:Operand}{args:Array Operand}{tys:Array TypeId}{av:TA}{r:AV}(ho:o.op=.call {callee:=.value fop,args:=args,argTypes:=tys})(hf:evO fr fop=.pub (.fn f [] []))
  (ha:oI mem fr args.toList av) (hr:r.flat=true) (hc:ACall tP G f av r):OpY tP G fr mem o (.pub r):=by
 intro n ok bs' w a hG hn hm hfit K Q hK;have h0:=hfit fop (by simp[ho,Op.operands,Call.operands]);rw[hf]at h0;simp only[FitsE,Fits]at h0;obtain⟨us,vs,e,k1,k2⟩:=h0;have h4:FitsL (fun b=>b<w.heap.size) w av (args.toList.map a.eval):=kP hm (fun y hy=>hfit y (by simp only[ho,Op.operands,Call.operands,Array.mem_append];exact .inr (by simpa using hy))) ha
 have e1:us=[]:=by cases us with
  |nil=>rfl
  |cons x xs=>simp[FitsL]at k1
 have e2:vs=[]:=by cases vs with
  |nil=>rfl
  |cons x xs=>simp[FitsL]at k2
 subst e1;subst e2;unfold Oper.wp;rw[jt ho hc.1 e];simp only[Oper.upon];refine(hc.2 _ w _ hG (fun b hb=>hb) (by simpa using h4)).mono fun en w' ⟨u,h5,h6,h7⟩=>?_;subst h5;refine hK u w' h6 ?_;simp only[FitsE];exact ak hr h7
def trV(g:Hs.Gls)(r:Rdg)(low height dry wet:Bool):Tr:=⟨if !low then Hs.loS g r.day g.ck else Hs.hiS g r.day g.ck,if !low then -g.rd else g.rd,if low then g.gl else g.gh,if height then g.hl else g.hh,if !low then r.al else r.ah,if dry then r.dl else r.dh,if wet then r.wl else r.wh⟩
theorem tf(h:Hs.stGB g=true):0<=g.rd/\g.rd<=200:=by
 simp only[Hs.stGB,zLa,Hs.inB_iff,zLd]at h;omega
theorem UD(hs:Hs.stGB gl=true)(r:Rdg)(hd:0<=r.day/\r.day<=400)(low height dry wet:Bool)(A B C D E F:PO):zv tP G 81 [.mix (Hs.rG gl (.mpv 4)),.pub (.agg (qF r)),.pub (.v (.bool low)),.pub (.v (.bool height)),.pub (.v (.bool dry)),.pub (.v (.bool wet))] [A,B,C,D,.map [],E,F] (.ret (.mix ((eTr (trV gl r low height dry wet)).map .pub)) [A,B,C,D,.map [(Hs.encN r.day,.pub (.agg [ei (Hs.loS gl r.day gl.ck),ei (Hs.hiS gl r.day gl.ck)]))],E,F]):=by
 have hrd:=tf hs;refine mW func81 (fun gh hold hmk=>?_);refine Z2 ?_;refine zm Y (qI Y Y cEx) (Z ?_);refine zm Y (zE Y Y gJ Y Y) (Z7 ?_);refine mc (vU (ys:=[ei (Hs.loS gl r.day gl.ck),ei (Hs.hiS gl r.day gl.ck)]) (XD hs r.day hd _ _ _ _ _ _ _ _)) ?_;refine zI Y Y Y Y Y Y Y xa vd Y rF (zF Y) Y (Z8 ?_);refine qd (fun _=>True) (fun k=>match k with|46=>.writes|_=>.here) mixed nR rfl nR trivial ?_;refine Z4 ?_;refine zK Y Y (qL (av:=[.agg [ei ((Hs.loS gl r.day gl.ck)),ei ((Hs.hiS gl r.day gl.ck))],.v (.bool (!low))]) Y Y ⟨.r,.r,trivial⟩ Y (f243 _ _ _)) ?_;refine Z4 ?_;refine zK Y Y (AI Y Y ⟨oM,oM⟩) (Z3 ?_);refine zK Y Y (zu (cs:=[_,_]) Y iV Y (zk (zk Y)) rF (by simp[ofV])) ?_;refine Z2 ?_;refine zK Y Y (qL (av:=[.agg [ei (-gl.rd),ei (gl.rd)],.v (.bool (!low))]) Y Y ⟨.r,.r,trivial⟩ Y (f243 _ _ _)) ?_;refine Z5 ?_;refine zK Y Y (qL (av:=[.agg [ei (gl.gl),ei (gl.gh)],.v (.bool (low))]) Y Y ⟨.r,.r,trivial⟩ Y (f243 _ _ _)) ?_
 refine Z5 ?_;refine zK Y Y (qL (av:=[.agg [ei (gl.hl),ei (gl.hh)],.v (.bool (height))]) Y Y ⟨.r,.r,trivial⟩ Y (f243 _ _ _)) ?_;refine Z5 ?_;refine zK Y Y (qL (av:=[.agg [ei (r.al),ei (r.ah)],.v (.bool (!low))]) Y Y ⟨.r,.r,trivial⟩ Y (f243 _ _ _)) ?_;refine Z4 ?_;refine zK Y Y (qL (av:=[.agg [ei (r.dl),ei (r.dh)],.v (.bool (dry))]) Y Y ⟨.r,.r,trivial⟩ Y (f243 _ _ _)) ?_;refine Z4 ?_;refine zK Y Y (qL (av:=[.agg [ei (r.wl),ei (r.wh)],.v (.bool (wet))]) Y Y ⟨.r,.r,trivial⟩ Y (f243 _ _ _)) ?_;refine zK Y Y (zu (cs:=[_,_,_,_,_,_,_]) Y Gm Y (zk (zk (zk (zk (zk (zk (zk Y))))))) rF (by simp[ofV])) ?_;refine qw Y Y (zz Y Y Y Y Y Y cEx aA rF rF) trivial (Z3 ?_)
 exact fun hz=>zR [_,_] Y ⟨hmk.1,hmk.2.1,hmk.2.2.1,hmk.2.2.2.1,(by intro p hp;simp at hp;subst hp;simp[EV.lt,EV.ltL]),hmk.2.2.2.2.2.1,hmk.2.2.2.2.2.2.1,trivial⟩ sI (.inr Y) (by simp[EV.lt,EV.ltL,eTr]) ⟨_,_,Y,sI,Y,.inr ⟨_,aA,bL,Y⟩⟩
theorem QQ(hs:Hs.stGB gl=true)(r:Rdg)(hd:0<=r.day/\r.day<=400)(low height dry wet:Bool)(A B C D E F:PO):zv tP G 81 [.mix (Hs.rG gl (.mpv 4)),.pub (.agg (qF r)),.pub (.v (.bool low)),.pub (.v (.bool height)),.pub (.v (.bool dry)),.pub (.v (.bool wet))] [A,B,C,D,.map [(Hs.encN r.day,.pub (.agg [ei (Hs.loS gl r.day gl.ck),ei (Hs.hiS gl r.day gl.ck)]))],E,F] (.ret (.mix ((eTr (trV gl r low height dry wet)).map .pub)) [A,B,C,D,.map [(Hs.encN r.day,.pub (.agg [ei (Hs.loS gl r.day gl.ck),ei (Hs.hiS gl r.day gl.ck)]))],E,F]):=by
 have hrd:=tf hs;refine mW func81 (fun gh hold hmk=>?_);refine Z2 ?_;refine zm Y (qI Y Y cEx) (Z ?_);refine zm Y (zE Y Y gJ Y Y) (Z7 ?_);refine mc (vU (ys:=[ei (Hs.loS gl r.day gl.ck),ei (Hs.hiS gl r.day gl.ck)]) (O7 r.day _ _ _ _ _ _ _ _)) ?_;refine zI Y Y Y Y Y Y Y xa vd Y rF (zF Y) Y (Z8 ?_);refine qd (fun _=>True) (fun k=>match k with|46=>.writes|_=>.here) mixed nR rfl nR trivial ?_;refine Z4 ?_;refine zK Y Y (qL (av:=[.agg [ei ((Hs.loS gl r.day gl.ck)),ei ((Hs.hiS gl r.day gl.ck))],.v (.bool (!low))]) Y Y ⟨.r,.r,trivial⟩ Y (f243 _ _ _)) ?_;refine Z4 ?_;refine zK Y Y (AI Y Y ⟨oM,oM⟩) (Z3 ?_);refine zK Y Y (zu (cs:=[_,_]) Y iV Y (zk (zk Y)) rF (by simp[ofV])) ?_;refine Z2 ?_;refine zK Y Y (qL (av:=[.agg [ei (-gl.rd),ei (gl.rd)],.v (.bool (!low))]) Y Y ⟨.r,.r,trivial⟩ Y (f243 _ _ _)) ?_;refine Z5 ?_;refine zK Y Y (qL (av:=[.agg [ei (gl.gl),ei (gl.gh)],.v (.bool (low))]) Y Y ⟨.r,.r,trivial⟩ Y (f243 _ _ _)) ?_
 refine Z5 ?_;refine zK Y Y (qL (av:=[.agg [ei (gl.hl),ei (gl.hh)],.v (.bool (height))]) Y Y ⟨.r,.r,trivial⟩ Y (f243 _ _ _)) ?_;refine Z5 ?_;refine zK Y Y (qL (av:=[.agg [ei (r.al),ei (r.ah)],.v (.bool (!low))]) Y Y ⟨.r,.r,trivial⟩ Y (f243 _ _ _)) ?_;refine Z4 ?_;refine zK Y Y (qL (av:=[.agg [ei (r.dl),ei (r.dh)],.v (.bool (dry))]) Y Y ⟨.r,.r,trivial⟩ Y (f243 _ _ _)) ?_;refine Z4 ?_;refine zK Y Y (qL (av:=[.agg [ei (r.wl),ei (r.wh)],.v (.bool (wet))]) Y Y ⟨.r,.r,trivial⟩ Y (f243 _ _ _)) ?_;refine zK Y Y (zu (cs:=[_,_,_,_,_,_,_]) Y Gm Y (zk (zk (zk (zk (zk (zk (zk Y))))))) rF (by simp[ofV])) ?_;refine qw Y Y (zz Y Y Y Y Y Y cEx aA rF rF) trivial (Z3 ?_)
 exact fun hz=>zR [_,_] Y ⟨hmk.1,hmk.2.1,hmk.2.2.1,hmk.2.2.2.1,hmk.2.2.2.2.1,hmk.2.2.2.2.2.1,hmk.2.2.2.2.2.2.1,trivial⟩ sI (.inr Y) (by simp[EV.lt,EV.ltL,eTr]) ⟨_,_,Y,sI,Y,.inr ⟨_,aA,bL,Y⟩⟩
theorem Ol(hs:Hs.stGB gl=true)(r:Rdg)(hd:0<=r.day/\r.day<=400)(low height dry wet:Bool)(A B C D E F K L:PO):zv tP G 81 [.mix (Hs.rG gl (.mpv 4)),.pub (.agg (qF r)),.pub (.v (.bool low)),.pub (.v (.bool height)),.pub (.v (.bool dry)),.pub (.v (.bool wet))] [A,B,C,D,.map [(Hs.encN r.day,.pub (.agg [ei (Hs.loS gl r.day gl.ck),ei (Hs.hiS gl r.day gl.ck)]))],E,F,K,L] (.ret (.mix ((eTr (trV gl r low height dry wet)).map .pub)) [A,B,C,D,.map [(Hs.encN r.day,.pub (.agg [ei (Hs.loS gl r.day gl.ck),ei (Hs.hiS gl r.day gl.ck)]))],E,F,K,L]):=by
 have hrd:=tf hs;refine mW func81 (fun gh hold hmk=>?_);refine Z2 ?_;refine zm Y (qI Y Y cEx) (Z ?_);refine zm Y (zE Y Y gJ Y Y) (Z7 ?_);refine mc (vU (ys:=[ei (Hs.loS gl r.day gl.ck),ei (Hs.hiS gl r.day gl.ck)]) (J2 r.day _ _ _ _ _ _ _ _ _ _)) ?_;refine zI Y Y Y Y Y Y Y xa vd Y rF (zF Y) Y (Z8 ?_);refine qd (fun _=>True) (fun k=>match k with|46=>.writes|_=>.here) mixed nR rfl nR trivial ?_;refine Z4 ?_;refine zK Y Y (qL (av:=[.agg [ei ((Hs.loS gl r.day gl.ck)),ei ((Hs.hiS gl r.day gl.ck))],.v (.bool (!low))]) Y Y ⟨.r,.r,trivial⟩ Y (f243 _ _ _)) ?_;refine Z4 ?_;refine zK Y Y (AI Y Y ⟨oM,oM⟩) (Z3 ?_);refine zK Y Y (zu (cs:=[_,_]) Y iV Y (zk (zk Y)) rF (by simp[ofV])) ?_;refine Z2 ?_;refine zK Y Y (qL (av:=[.agg [ei (-gl.rd),ei (gl.rd)],.v (.bool (!low))]) Y Y ⟨.r,.r,trivial⟩ Y (f243 _ _ _)) ?_;refine Z5 ?_;refine zK Y Y (qL (av:=[.agg [ei (gl.gl),ei (gl.gh)],.v (.bool (low))]) Y Y ⟨.r,.r,trivial⟩ Y (f243 _ _ _)) ?_
 refine Z5 ?_;refine zK Y Y (qL (av:=[.agg [ei (gl.hl),ei (gl.hh)],.v (.bool (height))]) Y Y ⟨.r,.r,trivial⟩ Y (f243 _ _ _)) ?_;refine Z5 ?_;refine zK Y Y (qL (av:=[.agg [ei (r.al),ei (r.ah)],.v (.bool (!low))]) Y Y ⟨.r,.r,trivial⟩ Y (f243 _ _ _)) ?_;refine Z4 ?_;refine zK Y Y (qL (av:=[.agg [ei (r.dl),ei (r.dh)],.v (.bool (dry))]) Y Y ⟨.r,.r,trivial⟩ Y (f243 _ _ _)) ?_;refine Z4 ?_;refine zK Y Y (qL (av:=[.agg [ei (r.wl),ei (r.wh)],.v (.bool (wet))]) Y Y ⟨.r,.r,trivial⟩ Y (f243 _ _ _)) ?_;refine zK Y Y (zu (cs:=[_,_,_,_,_,_,_]) Y Gm Y (zk (zk (zk (zk (zk (zk (zk Y))))))) rF (by simp[ofV])) ?_;refine qw Y Y (zz Y Y Y Y Y Y cEx aA rF rF) trivial (Z3 ?_)
 exact fun hz=>zR [_,_] Y ⟨hmk.1,hmk.2.1,hmk.2.2.1,hmk.2.2.2.1,hmk.2.2.2.2.1,hmk.2.2.2.2.2.1,hmk.2.2.2.2.2.2.1,hmk.2.2.2.2.2.2.2.1,hmk.2.2.2.2.2.2.2.2.1,trivial⟩ sI (.inr Y) (by simp[EV.lt,EV.ltL,eTr]) ⟨_,_,Y,sI,Y,.inr ⟨_,aA,bL,Y⟩⟩
theorem RJ:zU tP 70 [(0,2),(2,2),(4,2)] [nZ,nZ,nZ,nZ,nZ,nZ]:=⟨_,underlying70,nR,nR⟩
theorem ui(h:Hs.stGB g=true):(∀c∈g.ck,-2000<=c.lo/\c.lo<=c.hi/\c.hi<=2000)/\(0<=g.dr/\g.dr<=100)/\(0<=g.rd/\g.rd<=200)/\(0<=g.hl/\g.hl<=g.hh/\g.hh<=3000)/\(-3000<=g.gl/\g.gl<=g.gh/\g.gh<=3000):=by
 simp only[Hs.stGB,zLa,zLu,Hs.inB_iff,Hs.spn3,zLd]at h;obtain⟨h1,h2⟩:=h;refine⟨fun c hc=>?_,?_⟩
 ·have:=h1 c hc;simp only[Hs.okChkB,zLa,Hs.inB_iff,Hs.spn3,zLd]at this;omega
 ·omega
theorem Em(a b:Int):0<=Hs.far a b:=by unfold Hs.far;omega
theorem QD(h:Hs.stGB g=true)(d:Int):-2000<=Hs.loS g d g.ck/\Hs.loS g d g.ck<=2000:=by
 obtain⟨h1,h2,_⟩:=ui h
 have:∀(l:List Hs.Chk)(z:Int),(∀c∈l,c.lo<=2000)->-2000<=z->z<=2000->-2000<=l.foldl (fun a c=>max a (c.lo-g.dr*Hs.far d c.t)) z/\l.foldl (fun a c=>max a (c.lo-g.dr*Hs.far d c.t)) z<=2000:=by
  intro l
  induction l with
  |nil=>intro z _ a b;exact⟨a,b⟩
  |cons c l ih=>
   intro z hl a b;have hc:=hl c (zL1 ..);have hp:0<=g.dr*Hs.far d c.t:=Int.mul_nonneg h2.1 (Em _ _);exact ih (max z (c.lo-g.dr*Hs.far d c.t)) (fun x hx=>hl x (zL3 _ hx)) oM oM
 exact this g.ck _ (fun c hc=>by have:=h1 c hc;omega) oM oM
theorem OD(h:Hs.stGB g=true)(d:Int):-2000<=Hs.hiS g d g.ck/\Hs.hiS g d g.ck<=2000:=by
 obtain⟨h1,h2,_⟩:=ui h
 have:∀(l:List Hs.Chk)(z:Int),(∀c∈l,-2000<=c.hi)->-2000<=z->z<=2000->-2000<=l.foldl (fun a c=>min a (c.hi+g.dr*Hs.far d c.t)) z/\l.foldl (fun a c=>min a (c.hi+g.dr*Hs.far d c.t)) z<=2000:=by
  intro l
  induction l with
  |nil=>intro z _ a b;exact⟨a,b⟩
  |cons c l ih=>
   intro z hl a b;have hc:=hl c (zL1 ..);have hp:0<=g.dr*Hs.far d c.t:=Int.mul_nonneg h2.1 (Em _ _);exact ih (min z (c.hi+g.dr*Hs.far d c.t)) (fun x hx=>hl x (zL3 _ hx)) oM oM
 exact this g.ck _ (fun c hc=>by have:=h1 c hc;omega) oM oM
theorem Nu(h:rdB r=true):(0<=r.day/\r.day<=400)/\(40000<=r.mer/\r.mer<=90000)/\(-300<=r.al/\r.al<=r.ah/\r.ah<=500)/\(-300<=r.dl/\r.dl<=r.dh/\r.dh<=500)/\(-300<=r.wl/\r.wl<=r.wh/\r.wh<=500):=by
 simp only[rdB,zLa,Hs.inB_iff,Hs.spn3,zLd]at h;omega
theorem dc(h:Hs.stGB g=true)(hr:rdB r=true)(low height dry wet:Bool):TrP (trV g r low height dry wet):=by
 obtain⟨_,_,h3,h4,h5⟩:=ui h;obtain⟨_,_,r3,r4,r5⟩:=Nu hr;have l1:=QD h r.day;have l2:=OD h r.day;constructor<;>simp only[trV,Bd]
 ·cases low<;>simp<;>omega
 ·cases low<;>simp<;>omega
 ·cases low<;>simp<;>omega
 ·cases height<;>simp<;>omega
 ·cases low<;>simp<;>omega
 ·cases dry<;>simp<;>omega
 ·cases wet<;>simp<;>omega
def trA(g:Hs.Gls)(r:Rdg):Tr:=trV g r true true false true
def trB(g:Hs.Gls)(r:Rdg):Tr:=trV g r false false true true
def trC(g:Hs.Gls)(r:Rdg):Tr:=trV g r false true false true
def trD(g:Hs.Gls)(r:Rdg):Tr:=trV g r true true true false
def knL(g:Hs.Gls)(r:Rdg):Int:=seV (trA g r) (heV (trA g r) r.mer)
def knH(g:Hs.Gls)(r:Rdg):Int:=seV (trB g r) (heV (trB g r) r.mer)
def knA(g:Hs.Gls)(r:Rdg):TA:=[ei (heV (trA g r) r.mer),ei (heV (trB g r) r.mer),ei (knL g r),ei (knH g r),ei (huV (trC g r) (heV (trC g r) r.mer)),ei (huV (trD g r) (heV (trD g r) r.mer))]
theorem Qe(hs:Hs.stGB gl=true)(r:Rdg)(hd:0<=r.day/\r.day<=400)(low height dry wet:Bool):∀{m:TP},m.length=7->m[4]?=some (.map [])->zv tP G 81 [.mix (Hs.rG gl (.mpv 4)),.pub (.agg (qF r)),.pub (.v (.bool low)),.pub (.v (.bool height)),.pub (.v (.bool dry)),.pub (.v (.bool wet))] m (.ret (.pub (.agg (eTr (trV gl r low height dry wet)))) (m.set 4 (.map [(Hs.encN r.day,.pub (.agg [ei (Hs.loS gl r.day gl.ck),ei (Hs.hiS gl r.day gl.ck)]))])))
 |[A,B,C,D,X,E,F],_,h=>by
  simp at h;subst h;exact vU (UD hs r hd low height dry wet A B C D E F)
theorem I5(hs:Hs.stGB gl=true)(r:Rdg)(hd:0<=r.day/\r.day<=400)(low height dry wet:Bool):∀{m:TP},m.length=7->m[4]?=some (.map [(Hs.encN r.day,.pub (.agg [ei (Hs.loS gl r.day gl.ck),ei (Hs.hiS gl r.day gl.ck)]))])->zv tP G 81 [.mix (Hs.rG gl (.mpv 4)),.pub (.agg (qF r)),.pub (.v (.bool low)),.pub (.v (.bool height)),.pub (.v (.bool dry)),.pub (.v (.bool wet))] m (.ret (.pub (.agg (eTr (trV gl r low height dry wet)))) (m.set 4 (.map [(Hs.encN r.day,.pub (.agg [ei (Hs.loS gl r.day gl.ck),ei (Hs.hiS gl r.day gl.ck)]))])))
 |[A,B,C,D,X,E,F],_,h=>by
  simp at h;subst h;exact vU (QQ hs r hd low height dry wet A B C D E F)
theorem Am(hs:Hs.stGB gl=true)(r:Rdg)(hd:0<=r.day/\r.day<=400)(low height dry wet:Bool):∀{m:TP},m.length=9->m[4]?=some (.map [(Hs.encN r.day,.pub (.agg [ei (Hs.loS gl r.day gl.ck),ei (Hs.hiS gl r.day gl.ck)]))])->zv tP G 81 [.mix (Hs.rG gl (.mpv 4)),.pub (.agg (qF r)),.pub (.v (.bool low)),.pub (.v (.bool height)),.pub (.v (.bool dry)),.pub (.v (.bool wet))] m (.ret (.pub (.agg (eTr (trV gl r low height dry wet)))) (m.set 4 (.map [(Hs.encN r.day,.pub (.agg [ei (Hs.loS gl r.day gl.ck),ei (Hs.hiS gl r.day gl.ck)]))])))
 |[A,B,C,D,X,E,F,K,L],_,h=>by
  simp at h;subst h;exact vU (Ol hs r hd low height dry wet A B C D E F K L)
theorem f39(hs:Hs.stGB gl=true)(hc:Hs.clB gl=false)(r:Rdg)(hr:rdB r=true):ACall tP G 23 [.agg (Hs.eGls gl),.agg (qF r)] (.tup [.agg (knA gl r),ei 0]):=by
 obtain⟨hd,hmr,_⟩:=Nu hr;refine aC func23 ?_;refine Z4 ?_;refine zm Y (zE Y Y Pz Y Y) (Z4 ?_);refine zt qE ?_;refine qd (fun _=>True) (fun k=>match k with|0=>.stable|1=>.stable|2=>.stable|3=>.grow [] 2|4=>.stable|5=>.stable|6=>.stable|7=>.own 1|8=>.writes|9=>.stable|_=>.here) mixed nR rfl nR trivial ?_;refine Z2 ?_;refine zC Y Y (fun m hm=>zi (av:=[_]) Y rL (hr▸f111 r)) ?_;refine KL [] Y Y Y (fun _=>trivial) (fun m hn hm=>vS (av:=[.pub (.agg (Hs.eGls gl)),.pub (.v (.bool true))]) Y rL (Hs.m214L hs hc hn) sI (fun l h=>zLf h)) ?_;refine Z3 ?_;refine ku Y Y (qX Y uD Y Y Y) ?_;refine qw Y Y (zz Y Y Y Y Y Y cEx dY rF rF) trivial (Z10 ?_);refine nC ?_ ?_<;>intro h0
 ·skip;exfalso;simp at h0
 ·skip;refine Z9 ?_;refine zt qE ?_;refine zt qE ?_;refine qd (fun m=>m.length=7) (fun k=>match k with|0=>.rd [1]|1=>.stable|2=>.rw [] (4)|3=>.rd [1]|4=>.stable|5=>.rw [] (4)|6=>.own 5|7=>.own 6|8=>.rw [] (5)|9=>.rw [] (6)|_=>.here) mixed nR rfl nR rfl ?_;refine wX [1] Y Y (fun m hm hC=>j7 Y Y ((hm 1 sI).trans Y) Y Y bL Y dY) ?_;refine Z ?_;refine vz [] 4 Y Y (fun m hm hC=>⟨qO (av:=[.mix (Hs.rG gl (.mpv 4)),.pub (.agg (qF r)),.pub (.v (.bool true)),.pub (.v (.bool true)),.pub (.v (.bool false)),.pub (.v (.bool true))]) Y rL (Qe hs r hd _ _ _ _ hC ((hm 4 sI).trans Y)) sI (fun l _=>yU ((hm 4 sI).trans Y) l),(zL2 ..).trans hC⟩) ?_;refine wX [1] Y Y (fun m hm hC=>j7 Y Y ((hm 1 sI).trans Y) Y Y bL Y dY) ?_;refine Z ?_;refine vz [] 4 Y Y (fun m hm hC=>⟨qO (av:=[.mix (Hs.rG gl (.mpv 4)),.pub (.agg (qF r)),.pub (.v (.bool false)),.pub (.v (.bool false)),.pub (.v (.bool true)),.pub (.v (.bool true))]) Y rL (I5 hs r hd _ _ _ _ hC ((hm 4 sI).trans Y)) sI (fun l _=>yU ((hm 4 sI).trans Y) l),(zL2 ..).trans hC⟩) ?_
  refine ku Y Y ((fun m hml hC=>⟨(qX Y gJ Y Y Y m hml trivial).1,(zL2 ..).trans hC⟩)) ?_;refine ku Y Y ((fun m hml hC=>⟨(qX Y gJ Y Y Y m hml trivial).1,(zL2 ..).trans hC⟩)) ?_;refine vz [] 5 Y Y (fun m hm hC=>⟨zz Y Y Y ((hm 5 sI).trans Y) Y Y (zF Y) aA rF rF,(zL2 ..).trans hC⟩) ?_;refine vz [] 6 Y Y (fun m hm hC=>⟨zz Y Y Y ((hm 6 sI).trans Y) Y Y (zF Y) aA rF rF,(zL2 ..).trans hC⟩) ?_;refine Z3 ?_;refine zt (zd (mem':=[.row [[I 0,I 0,I 0,I 0,I 0,I 0]],.row [Hs.rG gl (.mpv 4)],.row [Hs.rG gl (.mpv 4)],.row [Hs.rG gl (.mpv 4)],.map [(Hs.encN r.day,.pub (.agg [ei (Hs.loS gl r.day gl.ck),ei (Hs.hiS gl r.day gl.ck)]))],.row [(eTr (trA gl r)).map .pub],.row [(eTr (trB gl r)).map .pub]]) [(2,.pub (.ptr (Hs.eGls gl))),(3,.pub (.ptr (qF r))),(4,.pp 0 1 0 0),(6,.pp 1 1 0 0),(8,.pub (.fn 78 [] [.ptr (qF r)])),(9,.pp 5 1 0 0),(10,.pp 6 1 0 0)] ?_ ?_) ?_
  ·exact rL
  ·exact Y
  refine zt qE ?_;refine zt qE ?_;refine qd (fun m=>m.length=9) (fun k=>match k with|0=>.rd [1]|1=>.stable|2=>.rw [] (4)|3=>.rd [1]|4=>.stable|5=>.rw [] (4)|6=>.own 7|7=>.own 8|8=>.rw [] (7)|9=>.rw [] (8)|_=>.here) mixed nR rfl nR rfl ?_;refine wX [1] Y Y (fun m hm hC=>j7 Y Y ((hm 1 sI).trans Y) Y Y bL Y dY) ?_;refine Z ?_;refine vz [] 4 Y Y (fun m hm hC=>⟨qO (av:=[.mix (Hs.rG gl (.mpv 4)),.pub (.agg (qF r)),.pub (.v (.bool false)),.pub (.v (.bool true)),.pub (.v (.bool false)),.pub (.v (.bool true))]) Y rL (Am hs r hd _ _ _ _ hC ((hm 4 sI).trans Y)) sI (fun l _=>yU ((hm 4 sI).trans Y) l),(zL2 ..).trans hC⟩) ?_;refine wX [1] Y Y (fun m hm hC=>j7 Y Y ((hm 1 sI).trans Y) Y Y bL Y dY) ?_;refine Z ?_;refine vz [] 4 Y Y (fun m hm hC=>⟨qO (av:=[.mix (Hs.rG gl (.mpv 4)),.pub (.agg (qF r)),.pub (.v (.bool true)),.pub (.v (.bool true)),.pub (.v (.bool true)),.pub (.v (.bool false))]) Y rL (Am hs r hd _ _ _ _ hC ((hm 4 sI).trans Y)) sI (fun l _=>yU ((hm 4 sI).trans Y) l),(zL2 ..).trans hC⟩) ?_
  refine ku Y Y ((fun m hml hC=>⟨(qX Y gJ Y Y Y m hml trivial).1,(zL2 ..).trans hC⟩)) ?_;refine ku Y Y ((fun m hml hC=>⟨(qX Y gJ Y Y Y m hml trivial).1,(zL2 ..).trans hC⟩)) ?_;refine vz [] 7 Y Y (fun m hm hC=>⟨zz Y Y Y ((hm 7 sI).trans Y) Y Y (zF Y) aA rF rF,(zL2 ..).trans hC⟩) ?_;refine vz [] 8 Y Y (fun m hm hC=>⟨zz Y Y Y ((hm 8 sI).trans Y) Y Y (zF Y) aA rF rF,(zL2 ..).trans hC⟩) ?_;refine Z3 ?_;refine zt (zd (mem':=[.row [[I 0,I 0,I 0,I 0,I 0,I 0]],.row [Hs.rG gl (.mpv 4)],.row [Hs.rG gl (.mpv 4)],.row [Hs.rG gl (.mpv 4)],.map [(Hs.encN r.day,.pub (.agg [ei (Hs.loS gl r.day gl.ck),ei (Hs.hiS gl r.day gl.ck)]))],.row [(eTr (trA gl r)).map .pub],.row [(eTr (trB gl r)).map .pub],.row [(eTr (trC gl r)).map .pub],.row [(eTr (trD gl r)).map .pub]]) [(2,.pub (.ptr (Hs.eGls gl))),(3,.pub (.ptr (qF r))),(4,.pp 0 1 0 0),(6,.pp 1 1 0 0),(8,.pub (.fn 78 [] [.ptr (qF r)])),(9,.pp 5 1 0 0),(10,.pp 6 1 0 0),(11,.pp 7 1 0 0),(12,.pp 8 1 0 0)] ?_ ?_) ?_
  ·exact rL
  ·exact Y
  refine qd (fun _=>True) (fun k=>match k with|16=>.writes|17=>.stable|_=>.here) mixed nR rfl nR trivial ?_;refine Z3 ?_;refine zK Y Y (qD (av:=[_]) Y Y rL (f112 _ r)) (zK Y Y (zi (av:=[_,_,_]) Y rL (f116 (f113 (fun a _ _=>a) 83 (fun _ _ _=>f117 _ _ _) r hmr _ (dc hs hr true true false true)) (f113 (fun a _ _=>a) 83 (fun _ _ _=>f117 _ _ _) r hmr _ (dc hs hr false false true true)))) ?_);refine Z3 ?_;refine zK Y Y (qD (av:=[_]) Y Y rL (f112 _ r)) (zK Y Y (zi (av:=[_,_,_]) Y rL (f116 (f113 (fun _ b _=>b) 84 (fun _ _ _=>f118 _ _ _) r hmr _ (dc hs hr true true false true)) (f113 (fun _ b _=>b) 84 (fun _ _ _=>f118 _ _ _) r hmr _ (dc hs hr false false true true)))) ?_);refine Z3 ?_;refine zK Y Y (qD (av:=[_]) Y Y rL (f112 _ r)) (zK Y Y (zi (av:=[_,_,_]) Y rL (f116 (f113 (fun _ _ c=>c) 85 (fun _ _ _=>f119 _ _ _) r hmr _ (dc hs hr false true false true)) (f113 (fun _ _ c=>c) 85 (fun _ _ _=>f119 _ _ _) r hmr _ (dc hs hr true true true false)))) ?_)
  refine zK Y Y (zu (cs:=[_,_,_,_,_,_]) Y RJ Y (zk (zk (zk Y))) rF (by simp[ofV])) ?_;refine qw Y Y (zz Y Y Y Y Y Y cEx FR rF rF) trivial (Z4 ?_);exact⟨.inr Y,⟨_,Y,⟨_,_,Y,(zQ Y Y Y Y FR Y (vwR (vwR (vwR (vwR (vwR (vwR Y))))))),⟨_,_,Y,AVle.refl _,Y⟩⟩⟩⟩
end Bu
end Go.Av
end
