import Derived.Test.YtigbomcjnlikjaaGreatDoorBuE
import Derived.Test.YtigbomcjnlikjaaGreatDoorWiD
set_option linter.unusedVariables false
set_option linter.unusedSimpArgs false
set_option maxRecDepth 100000
set_option maxHeartbeats 9000000
section
namespace Go.Av
namespace Bu
open Go.Proofs Tryz
variable{G:Glob}
def h0L(L:List (List Int))(k:Nat):Int:=(L.getD k []).getD 0 0
def foV(L:List (List Int))(z:Int × Int):Nat->Int × Int
 |0=>z
 |k+1=>(min (if k=0 then h0L L k else(foV L z k).1) (h0L L k),max (if k=0 then h0L L k else(foV L z k).2) (h0L L k))
variable{L:List (List Int)}{k p q:Nat}{M:TP}{z:Int × Int}{X Y:PO}{s:Hs.Sut}{b:BS}{ix:Ix}
theorem K6(hk:k<L.length)(hp:0<(L[k]).length):h0L L k=(L[k])[0]:=by simp[h0L,hk,hp]
theorem U3{Z:PO}(h0:¬k=0)(hk:k<L.length)(hp:0<(L[k]).length):
  (((M.set q X).set q Y).set q Z).set q (.row [[I (min (foV L z k).1 (L[k])[0]),I (max (foV L z k).2 (L[k])[0])]])=M.set q (.row [[I (foV L z (k+1)).1,I (foV L z (k+1)).2]]):=by
 simp only[List.set_set,foV,zLy h0,K6 hk hp]
theorem QP{X1 X2 X3 Z:PO}(h0:k=0)(hk:k<L.length)(hp:0<(L[k]).length):
  ((((((M.set q X).set q X1).set q X2).set q X3).set q Y).set q Z).set q (.row [[I (min (L[k])[0] (L[k])[0]),I (max (L[k])[0] (L[k])[0])]])=M.set q (.row [[I (foV L z (k+1)).1,I (foV L z (k+1)).2]]):=by
 simp only[List.set_set,foV,zLc h0,K6 hk hp]
theorem Om{x:PO}(h:M[q]?=some x):M=M.set q x:=by
 apply List.ext_getElem?;intro i
 by_cases e:q=i
 ·subst e;rw[zLi (zLg h).1];exact h
 ·rw[zLn e]
theorem Ji(h:BuM s b ix M)(hS:Hs.SuP s){k0:Nat}(hk0:M[k0]?=some (.row [[.pp ix.row 1 0 0]]))(i d:Int)(l:TC)(hst:Hs.inB i 0 ((s.st.length:Int)-1)=false):zv tP G 155 [.pp k0 1 0 0,.pub (.ptr [ei i]),.pub (.ptr [ei d]),.pub (.ptr [Wr.eCps l]),.pp q 1 0 0,.pp p 1 0 0] M (.ret (.pub (.v (.bool false))) M):=by
 refine mW func155 (fun gh hold hmk=>?_);refine Z8 ?_;refine zb (zg Y Y hk0 Y Y Y jG) (Z ?_);refine zb (jc (av:=[.ptr (eBu s b),ei i]) Y ⟨h.dv,.r,trivial⟩ Y (hst▸f212 s hS b i)) ?_;refine Z2 ?_;refine yC Y Y (zo Y) ?_;refine yC Y Y (zo Y) ?_;refine yC Y Y (zo Y) ?_;refine yC Y Y (zo Y) ?_;refine zb (wm Y Y (fun _=>rfl) (fun h=>absurd h dE)) ?_;refine Z2 ?_;refine nC ?_ ?_<;>intro h0
 ·skip;refine Z7 ?_
  exact fun hz=>zR [] sI hmk (zLl _) (.inr Y) (by simp[EV.lt]) Y
 ·skip;exfalso;simp at h0
theorem KQ(h:BuM s b ix M)(hS:Hs.SuP s){k0:Nat}(hk0:M[k0]?=some (.row [[.pp ix.row 1 0 0]]))(i d:Int)(l:TC)(hst:Hs.inB i 0 ((s.st.length:Int)-1)=true)(hdy:Hs.inB d 0 (s.days-1)=false):zv tP G 155 [.pp k0 1 0 0,.pub (.ptr [ei i]),.pub (.ptr [ei d]),.pub (.ptr [Wr.eCps l]),.pp q 1 0 0,.pp p 1 0 0] M (.ret (.pub (.v (.bool false))) M):=by
 refine mW func155 (fun gh hold hmk=>?_);refine Z8 ?_;refine zb (zg Y Y hk0 Y Y Y jG) (Z ?_);refine zb (jc (av:=[.ptr (eBu s b),ei i]) Y ⟨h.dv,.r,trivial⟩ Y (hst▸f212 s hS b i)) ?_;refine Z2 ?_;refine qT (fun _ h=>by cases h) rfl (rfl) (OpY.toM (by exact zg rfl rfl hk0 rfl rfl rfl jG) (zo rfl)) ?_;refine qT (fun _ h=>by cases h) rfl (rfl) (OpY.toM (by exact zl rfl rfl rfl ki) (zo rfl)) ?_;refine qT (fun _ h=>by cases h) rfl (rfl) (OpY.toM (by exact jc (av:=[.ptr (eBu s b),ei d]) rfl ⟨h.dv,.r,trivial⟩ rfl (hdy▸f190 s hS b d)) (zo rfl)) ?_;refine qT (fun _ h=>by cases h) rfl (rfl) (OpY.toM (by exact q0 rfl rfl) (zo rfl)) ?_;refine Z3 ?_;refine nC ?_ ?_<;>intro h0
 ·skip;refine Z7 ?_
  exact fun hz=>zR [] sI hmk (zLl _) (.inr Y) (by simp[EV.lt]) Y
 ·skip;exfalso;simp at h0
theorem zbd(h:BuM s b ix M)(hS:Hs.SuP s){k0:Nat}(hk0:M[k0]?=some (.row [[.pp ix.row 1 0 0]])){x y:Int}(hq:M[q]?=some (.row [[I x,I y]]))(hp:M[p]?=some (.row [[.pub (.v (.bool false))]]))(hpq:q≠p)(i d:Int)(hst:Hs.inB i 0 ((s.st.length:Int)-1)=true)(hdy:Hs.inB d 0 (s.days-1)=true)(l:TC)(hl:l.length<=1000)(hgl:∀c∈l,c.length<=1000)(hne:∀m∈Wr.fndL s.code l,0<m.length):zv tP G 155 [.pp k0 1 0 0,.pub (.ptr [ei i]),.pub (.ptr [ei d]),.pub (.ptr [Wr.eCps l]),.pp q 1 0 0,.pp p 1 0 0] M (.ret (.pub (.v (.bool (decide (Wr.fndE s.code l=0)||decide (Wr.fndE s.code l=5))))) ((M.set q (.row [[I (foV (Wr.fndL s.code l) (x,y) (Wr.fndL s.code l).length).1,I (foV (Wr.fndL s.code l) (x,y) (Wr.fndL s.code l).length).2]])).set p (.row [[.pub (.v (.bool (decide (Wr.fndE s.code l=0))))]]))):=by
 have hcb:=Wr.cod_bd hS.code;have htu:s.code.turns.length<=1000:=by have:=hS.code;simp only[Wr.codB,zLa,zLd,beq_iff_eq]at this;omega
 have hsz:=Wr.fndL_sz s.code l;have hqm:=hq;have hLl:((Wr.fndL s.code l).map fun m=>[Wr.eInts m]).length=(Wr.fndL s.code l).length:=sI;refine mW func155 (fun gh hold hmk=>?_);refine Z8 ?_;refine zb (zg Y Y hk0 Y Y Y jG) (Z ?_);refine zb (jc (av:=[.ptr (eBu s b),ei i]) Y ⟨h.dv,.r,trivial⟩ Y (hst▸f212 s hS b i)) ?_;refine Z2 ?_;refine qT (fun _ h=>by cases h) rfl (rfl) (OpY.toM (by exact zg rfl rfl hk0 rfl rfl rfl jG) (zo rfl)) ?_;refine qT (fun _ h=>by cases h) rfl (rfl) (OpY.toM (by exact zl rfl rfl rfl ki) (zo rfl)) ?_;refine qT (fun _ h=>by cases h) rfl (rfl) (OpY.toM (by exact jc (av:=[.ptr (eBu s b),ei d]) rfl ⟨h.dv,.r,trivial⟩ rfl (hdy▸f190 s hS b d)) (zo rfl)) ?_;refine qT (fun _ h=>by cases h) rfl (rfl) (OpY.toM (by exact q0 rfl rfl) (zo rfl)) ?_;refine Z3 ?_;refine nC ?_ ?_<;>intro h0
 ·skip;exfalso;simp at h0
 ·skip;refine Z3 ?_;refine zN mixed nR Y ?_;refine zH Y (zg Y Y hk0 Y Y Y jG) (zH Y (zr Y Y h.row Y) (zH Y (ze Y Y h.row Y j8) (zH Y (ze Y Y h.row Y kB) (zH Y (wb (cs:=[_,_,_]) Y Y h.row Y Y bL Y XL) ?_))));refine Z ?_;refine zH Y (zi (av:=[_,_]) Y rL (Wr.f24 s.code l oM hl hgl)) (Z11 ?_);refine zb (zM Y Y Y underlying77) (Z4 ?_);refine zD (ι:={k:Nat//k<=(Wr.fndL s.code l).length}) (fun k=>⟨⟨Tryz.f155.ntmps,[],gh,false,hold⟩,frL [(0,.pp k0 1 0 0),(4,.pp q 1 0 0),(5,.pp p 1 0 0),(8,I (Wr.fndE s.code l)),(31,.pub (Wr.eIntss (Wr.fndL s.code l))),(32,I ((((Wr.fndL s.code l).map fun m=>[Wr.eInts m]).length:Nat):Int)),(33,I (k.1:Int))],M.set q (.row [[I (foV (Wr.fndL s.code l) (x,y) k.1).1,I (foV (Wr.fndL s.code l) (x,y) k.1).2]])⟩) (fun k=>(Wr.fndL s.code l).length-k.1) (⟨0,oM⟩) ?_ ?_
  ·exact zd _ rL (Om hq)
  ·rintro⟨k,hk⟩;dsimp only;refine Z6 ?_;refine nC ?_ ?_<;>intro h1
   ·skip;have hlt:k<(Wr.fndL s.code l).length:=by rw[hLl]at h1;simpa using h1
    have hpos:0<((Wr.fndL s.code l)[k]).length:=hne _ (zLm hlt);refine Z7 ?_;refine zb (zc Y Y Y eN oM (by exact Hs.mp_at (e:=fun m=>[Wr.eInts m]) hlt) (Hs.mp_len fun _=>rfl)) ?_;refine Z12 ?_;refine nC ?_ ?_<;>intro h2
    ·skip;have hk0z:k=0:=by simpa using h2
     refine qd (fun mm=>∃u v,mm[q]?=some (PO.row [[u,v]])) (fun k=>match k with|0=>.stable|1=>.stable|2=>.stable|3=>.stable|4=>.stable|5=>.stable|6=>.writes|7=>.stable|8=>.writes|9=>.stable|10=>.writes|_=>.here) mixed nR rfl nR ⟨_,_,(zj hqm)⟩ ?_;refine Z ?_;refine zC Y Y (fun m hm=>zc Y Y Y zY oM (by exact zA (i:=0) hpos) zn) (Z2 ?_);refine zC Y Y (fun m hm=>zc Y Y Y zY oM (by exact zA (i:=0) hpos) zn) (Z ?_);refine qw Y Y (zz Y Y Y (zj hqm) Y Y cEx vd rF rF) ⟨_,_,(zj (zj hqm))⟩ ?_;refine zC Y Y (fun m hm=>ze (rows:=[[hm.choose,hm.choose_spec.choose]]) Y Y hm.choose_spec.choose_spec Y ag) ?_;refine qw Y Y (zz Y Y Y (zj (zj hqm)) Y Y cEx ki rF rF) ⟨_,_,(zj (zj (zj hqm)))⟩ ?_;refine zC Y Y (fun m hm=>ze (rows:=[[hm.choose,hm.choose_spec.choose]]) Y Y hm.choose_spec.choose_spec Y xE) ?_;refine qw Y Y (zz Y Y Y (zj (zj (zj hqm))) Y Y cEx ki rF rF) ⟨_,_,(zj (zj (zj (zj hqm))))⟩ ?_;refine Z2 ?_
     refine qd (fun mm=>∃u v,mm[q]?=some (PO.row [[u,v]])) (fun k=>match k with|2=>.stable|3=>.stable|4=>.stable|5=>.stable|8=>.stable|9=>.stable|10=>.stable|11=>.stable|12=>.writes|13=>.stable|14=>.writes|15=>.stable|16=>.writes|_=>.here) mixed nR rfl nR ⟨_,_,(zj (zj (zj (zj hqm))))⟩ ?_;refine zK Y Y (ze Y Y (zj (zj (zj (zj hqm)))) Y ag) (zK Y Y (zg Y Y (zj (zj (zj (zj hqm)))) Y Y Y ki) ?_);refine Z ?_;refine zC Y Y (fun m hm=>zc Y Y Y zY oM (by exact zA (i:=0) hpos) zn) (Z2 ?_);refine zK Y Y (ze Y Y (zj (zj (zj (zj hqm)))) Y xE) (zK Y Y (zg Y Y (zj (zj (zj (zj hqm)))) Y Y Y ki) ?_);refine Z ?_;refine zC Y Y (fun m hm=>zc Y Y Y zY oM (by exact zA (i:=0) hpos) zn) (Z2 ?_);refine qw Y Y (zz Y Y Y (zj (zj (zj (zj hqm)))) Y Y cEx vd rF rF) ⟨_,_,(zj (zj (zj (zj (zj hqm)))))⟩ ?_;refine zC Y Y (fun m hm=>ze (rows:=[[hm.choose,hm.choose_spec.choose]]) Y Y hm.choose_spec.choose_spec Y ag) ?_;refine qw Y Y (zz Y Y Y (zj (zj (zj (zj (zj hqm))))) Y Y cEx ki rF rF) ⟨_,_,(zj (zj (zj (zj (zj (zj hqm))))))⟩ ?_
     refine zC Y Y (fun m hm=>ze (rows:=[[hm.choose,hm.choose_spec.choose]]) Y Y hm.choose_spec.choose_spec Y xE) ?_;refine qw Y Y (zz Y Y Y (zj (zj (zj (zj (zj (zj hqm)))))) Y Y cEx ki rF rF) ⟨_,_,(zj (zj (zj (zj (zj (zj (zj hqm)))))))⟩ ?_;refine Z7 ?_;exact⟨⟨k+1,oM⟩,by dsimp only;omega,zd _ rL ((QP hk0z hlt hpos))⟩
    ·skip;have hk0z:¬k=0:=by simpa using h2
     refine Z2 ?_;refine qd (fun mm=>∃u v,mm[q]?=some (PO.row [[u,v]])) (fun k=>match k with|2=>.stable|3=>.stable|4=>.stable|5=>.stable|8=>.stable|9=>.stable|10=>.stable|11=>.stable|12=>.writes|13=>.stable|14=>.writes|15=>.stable|16=>.writes|_=>.here) mixed nR rfl nR ⟨_,_,(zj hqm)⟩ ?_;refine zK Y Y (ze Y Y (zj hqm) Y ag) (zK Y Y (zg Y Y (zj hqm) Y Y Y ki) ?_);refine Z ?_;refine zC Y Y (fun m hm=>zc Y Y Y zY oM (by exact zA (i:=0) hpos) zn) (Z2 ?_);refine zK Y Y (ze Y Y (zj hqm) Y xE) (zK Y Y (zg Y Y (zj hqm) Y Y Y ki) ?_);refine Z ?_;refine zC Y Y (fun m hm=>zc Y Y Y zY oM (by exact zA (i:=0) hpos) zn) (Z2 ?_);refine qw Y Y (zz Y Y Y (zj hqm) Y Y cEx vd rF rF) ⟨_,_,(zj (zj hqm))⟩ ?_;refine zC Y Y (fun m hm=>ze (rows:=[[hm.choose,hm.choose_spec.choose]]) Y Y hm.choose_spec.choose_spec Y ag) ?_;refine qw Y Y (zz Y Y Y (zj (zj hqm)) Y Y cEx ki rF rF) ⟨_,_,(zj (zj (zj hqm)))⟩ ?_;refine zC Y Y (fun m hm=>ze (rows:=[[hm.choose,hm.choose_spec.choose]]) Y Y hm.choose_spec.choose_spec Y xE) ?_
     refine qw Y Y (zz Y Y Y (zj (zj (zj hqm))) Y Y cEx ki rF rF) ⟨_,_,(zj (zj (zj (zj hqm))))⟩ ?_;refine Z7 ?_;exact⟨⟨k+1,oM⟩,by dsimp only;omega,zd _ rL ((U3 hk0z hlt hpos))⟩
   ·skip;have hge:k=(Wr.fndL s.code l).length:=by rw[hLl]at h1;simp at h1;omega
    refine Z6 ?_;subst hge;refine Z3 ?_;refine zm Y (zp Y Y Y (zT hpq hp) Y Y (jT Y) ty4 rF bL) (Z4 ?_);refine zb (zg Y Y (zj (zT hpq hp)) Y Y Y ty4) (Z8 ?_)
    exact fun hz=>zR [] (List.append_nil _).symm (by simp only[zL2];exact qY (qY hmk nB) (by intro r hr x hx;simp at hr;subst hr;simp at hx;subst hx;simp[EV.lt])) sI (.inr Y) (by simp[EV.lt]) Y
theorem zax:zS tP 28 true 3=true:=nR
theorem lb:zS tP 23 false 1=true:=nR
theorem KR:zO tP 37 2 4=true:=nR
theorem rH:zO tP 178 4 28=true:=nR
theorem Ur:(tP.info? 46).bind (·.zero)=some (.slice none 0 0):=nR
theorem Nv:zU tP 263 [(0,1),(1,1),(2,1)] [nZ,nZ,.slice none 0 0]:=⟨_,underlying263,nR,nR⟩
theorem KC{α:Type}{M:List α}{x:α}(h:M[q]?=some x):M=M.set q x:=by
 apply List.ext_getElem?;intro i
 by_cases e:q=i
 ·subst e;rw[zLi (zLg h).1];exact h
 ·rw[zLn e]
theorem at_k{xs:TP}(k:Nat):(M++xs)[M.length+k]?=xs[k]?:=jk rfl
theorem Hm{Z:PO}{n:Nat}:(((M++[X])++[Y])++[Z]).set ((M++[X])++[Y]).length (.row [[.psl (M++[X]).length n]])=M++[X,Y,.row [[.psl (M.length+1) n]]]:=sI
theorem uO{Z:PO}{l:TC}{a:Nat}(h:a<l.length):(M++[X,.row (rCp l),Z]).set (M.length+1) (.row ((rCp l).set a [.pub (Wr.eStrs l[a])]))=M++[X,.row (rCp l),Z]:=by
 rw[aS rfl];have:(rCp l).set a [.pub (Wr.eStrs l[a])]=rCp l:=(KC (gf h)).symm;rw[this];rfl
theorem Aa{Z W:PO}:(((M++[X,Y,Z]).set (M.length+1) .dead).set (M.length+2) W).set (M.length+2) .dead=M++[X,.dead,.dead]:=by
 rw[aS rfl,aS rfl,aS rfl];rfl
theorem M8{n:Nat}:Nat.beq (n+2) (n+1)=false:=by
 cases h:Nat.beq (n+2) (n+1)with
 |false=>rfl
 |true=>have:=Nat.eq_of_beq_eq_true h;omega
theorem Bl{Z S W V:PO}:(((M++[X,Y,Z])++[S])++[W]).set ((M++[X,Y,Z])++[S]).length V=M++[X,Y,Z,S,V]:=sI
theorem II(h:BuM s b ix M)(l:TC)(hl:l.length<=1000)(hgl:∀c∈l,c.length<=1000)(i dd:Int){u v:Int}{c:Bool}{e:Int}(he:e≠0)(hq:zv tP G 96 [.pp ix.row 1 0 0,.pub (.ifc 263 (.agg [ei i,ei dd,Wr.eCps l])),.fnm 155 [] [.pp M.length 1 0 0,.pub (.ptr [ei i]),.pub (.ptr [ei dd]),.pub (.ptr [Wr.eCps l]),.pp (M.length+3) 1 0 0,.pp (M.length+4) 1 0 0],.fnm 156 [] [.pp M.length 1 0 0,.pub (.ptr [ei dd])],.fnm 157 [] [.pp (M.length+4) 1 0 0,.pp M.length 1 0 0,.pub (.ptr [ei dd]),.pub (.ptr [ei i]),.pp (M.length+3) 1 0 0]] (M++[.row [[.pp ix.row 1 0 0]],.dead,.dead,.row [[I 0,I 0]],.row [[.pub (.v (.bool false))]]]) (.ret (I e) (M++[.row [[.pp ix.row 1 0 0]],.dead,.dead,.row [[I u,I v]],.row [[.pub (.v (.bool c))]]]))):zv tP G 71 [.pp ix.row 1 0 0,I i,I dd,.pub (Wr.eCps l)] M (.ret (I e) M):=by
 refine mW func71 (fun gh hold hmk=>?_);refine Z2 ?_;refine zm Y (qI Y Y (wE Y h.row Y)) (Z8 ?_);refine mc (Xe l hl _) ?_;refine zm Y (zE Y Y Ur Y Y) ?_;refine zm Y (zp Y Y Y at_end Y Y (jW Y (ql at_end) wv) iu rF bL) (Z4 ?_);refine zt (zd (mem':=(M++[.row [[.pp ix.row 1 0 0]],.row (rCp l),.row [[.psl (M.length+1) l.length]]])) [(4,.pp M.length 1 0 0),(5,.pub (.ptr [ei i])),(6,.pub (.ptr [ei dd])),(9,.pp (M.length+2) 1 0 0)] ?_ ?_) ?_
 ·exact⟨Y,Y,Y,(by show EV.pp _ 1 0 0=_;simp),trivial⟩
 ·exact Hm
 refine Z ?_;refine zb (zg Y Y (at_k 2) Y Y Y iu) (zb (jJ Y Y (at_k 1) wv underlying46) ?_);refine Z4 ?_;refine zD (ι:={a:Nat//a<=l.length}) (fun a=>⟨⟨Tryz.f71.ntmps,[],gh,false,hold⟩,frL [(4,.pp M.length 1 0 0),(5,.pub (.ptr [ei i])),(6,.pub (.ptr [ei dd])),(9,.pp (M.length+2) 1 0 0),(19,I (l.length:Int)),(20,I (a.1:Int))],(M++[.row [[.pp ix.row 1 0 0]],.row (rCp l),.row [[.psl (M.length+1) l.length]]])⟩) (fun a=>l.length-a.1) (⟨0,oM⟩) ?_ ?_
 ·exact zd _ rL (Y)
 ·rintro⟨a,ha⟩;dsimp only;refine Z6 ?_;refine nC ?_ ?_<;>intro h0
  ·skip;have hlt:a<l.length:=by simpa using h0
   refine Z10 ?_;refine qd (fun _=>True) (fun k=>match k with|8=>.writes|_=>.here) mixed nR rfl nR trivial ?_;refine zK Y Y (zg Y Y (at_k 2) Y Y Y iu) (Z ?_);refine zK Y Y (zg Y Y (at_k 2) Y Y Y iu) (Z ?_);refine zK Y Y (qh Y Y Y (at_k 1) wv ii oM oM AG) (zK Y Y (zg Y Y (at_k 1) wv (gf hlt) Y A4) (zK Y Y (zi (av:=[_]) Y rL (f219 l[a] (hgl _ (zLm hlt)))) (zK Y Y (qh Y Y Y (at_k 1) wv ii oM oM AG) ?_)));refine qw Y Y (zz Y Y Y (at_k 1) wv (gf hlt) (lL (rows:=l[a].map fun s=>[eS s]) Y) A4 rF rF) trivial (Z7 ?_);exact⟨⟨a+1,oM⟩,by dsimp only;omega,zd _ rL (uO hlt)⟩
  ·skip;refine Z6 ?_;refine zt (kg (k:=M.length+1) (m:=l.length) (c:=M.length+2) (i:=0) (j:=0) (rows:=(l.map fun g=>[Wr.eStrs g])) ((at_k 1).trans (zLz (fun z=>some (PO.row z)) ni)) sI (at_k 2) Y Y M8) ?_;refine zt (ab (k:=M.length+2) (cs:=[Wr.eCps l]) 9 (zj (zT oM (at_k 2))) Y) ?_;refine zt (zd (mem':=(M++[.row [[.pp ix.row 1 0 0]],.dead,.dead])) [(4,.pp M.length 1 0 0),(5,.pub (.ptr [ei i])),(6,.pub (.ptr [ei dd])),(9,.pub (.ptr [Wr.eCps l]))] ?_ ?_) ?_
   ·exact rL
   ·exact Aa
   refine Z ?_;refine zm Y (zE Y Y xa Y Y) (Z4 ?_);refine zm Y (zE Y Y zB Y Y) ?_;refine zm Y (zp Y Y Y at_end Y Y (jT Y) ty4 rF bL) (Z4 ?_);refine zt (zd (mem':=(M++[.row [[.pp ix.row 1 0 0]],.dead,.dead,.row [[I 0,I 0]],.row [[.pub (.v (.bool false))]]])) [(4,.pp M.length 1 0 0),(5,.pub (.ptr [ei i])),(6,.pub (.ptr [ei dd])),(9,.pub (.ptr [Wr.eCps l])),(11,.pp (M.length+3) 1 0 0),(12,.pp (M.length+4) 1 0 0)] ?_ ?_) ?_
   ·exact⟨Y,Y,Y,Y,(by show EV.pp _ 1 0 0=_;simp),(by show EV.pp _ 1 0 0=_;simp),trivial⟩
   ·exact Bl
   refine Z ?_;refine zb (zg Y Y (at_k 0) Y Y Y jG) (Z3 ?_);refine zb (zu (cs:=[_,_,_]) Y Nv Y (zk (zk (zk Y))) rF (by simp[ofV])) ?_;refine zb (zZ Y Y underlying263 Y) (Z3 ?_);refine mc hq ?_;refine Z9 ?_;refine nC ?_ ?_<;>intro h1
   ·skip;refine Z8 ?_
    exact fun hz=>zR [_,_,_,_,_] Y hmk (zLl _) (.inr Y) (by simp[EV.lt]) Y
   ·skip;exfalso;simp at h1;exact he h1
theorem QG{xs:TP}{a:AV}{d:Nat}{t:Ct.Stn}{c:Int}(h:BuM s b ix M):bp s ((b.act a).put d t) ix c (wG s (b.act a) ix d t (qK s b ix a (M++xs)))=bp s ((b.act a).put d t) ix c (wG s (b.act a) ix d t (qK s b ix a M))++xs:=by
 rw[xo h,gx (h.act a),FX ((h.act a).put d t)]
theorem mx{o f m w n:Int}(h:Hs.tarB o f m=true)(hw:1<=w/\w<=5)(hn:1<=n/\n<=3):0<=Wr.costI ⟨o,f,m⟩ w n/\Wr.costI ⟨o,f,m⟩ w n<=1000000:=by
 simp only[Hs.tarB,zLa,Hs.inB_iff]at h;have h1:0<=m*max 0 (w-f):=Int.mul_nonneg oM oM;have h2:m*max 0 (w-f)<=10000*5:=Int.mul_le_mul oM oM oM oM;unfold Wr.costI;simp only;have q1:0<=((o+m*max 0 (w-f))+1)/2:=oM;have q2:((o+m*max 0 (w-f))+1)/2<=30001:=oM;have h3:0<=(n-1)*(((o+m*max 0 (w-f))+1)/2):=Int.mul_nonneg oM q1;have h4:(n-1)*(((o+m*max 0 (w-f))+1)/2)<=2*30001:=Int.mul_le_mul oM q2 q1 oM;omega
theorem KH(h:BuM s b ix M)(l:TC)(hl:l.length<=1000)(hgl:∀c∈l,c.length<=1000)(hS:Hs.SuP s)(hn:1<=l.length/\l.length<=3)(i d:Nat)(hi:i<s.st.length)(hd:d<b.maps.length)(hlm:(b.maps[d]).length<=1000)(hco:0<=b.cost/\b.cost<=1000000000000){u v:Int}{c:Bool}(hq:zv tP G 96 [.pp ix.row 1 0 0,.pub (.ifc 263 (.agg [ei (i:Int),ei (d:Int),Wr.eCps l])),.fnm 155 [] [.pp M.length 1 0 0,.pub (.ptr [ei (i:Int)]),.pub (.ptr [ei (d:Int)]),.pub (.ptr [Wr.eCps l]),.pp (M.length+3) 1 0 0,.pp (M.length+4) 1 0 0],.fnm 156 [] [.pp M.length 1 0 0,.pub (.ptr [ei (d:Int)])],.fnm 157 [] [.pp (M.length+4) 1 0 0,.pp M.length 1 0 0,.pub (.ptr [ei (d:Int)]),.pub (.ptr [ei (i:Int)]),.pp (M.length+3) 1 0 0]] (M++[.row [[.pp ix.row 1 0 0]],.dead,.dead,.row [[I 0,I 0]],.row [[.pub (.v (.bool false))]]]) (.ret (I 0) (qK s b ix (.ifc 263 (.agg [ei (i:Int),ei (d:Int),Wr.eCps l])) (M++[.row [[.pp ix.row 1 0 0]],.dead,.dead,.row [[I u,I v]],.row [[.pub (.v (.bool c))]]])))):zv tP G 71 [.pp ix.row 1 0 0,I (i:Int),I (d:Int),.pub (Wr.eCps l)] M (.ret (I 0) (bp s ((b.act (.ifc 263 (.agg [ei (i:Int),ei (d:Int),Wr.eCps l]))).put d ⟨(s.st[i]).pt,u,v⟩) ix (Wr.costI ⟨s.op,s.fr,s.mo⟩ ((s.code.fields.length:Int)+1) (l.length:Int)) (wG s (b.act (.ifc 263 (.agg [ei (i:Int),ei (d:Int),Wr.eCps l]))) ix d ⟨(s.st[i]).pt,u,v⟩ (qK s b ix (.ifc 263 (.agg [ei (i:Int),ei (d:Int),Wr.eCps l])) M)))):=by
 have hcd:=Wr.cod_bd hS.code;have h2:BuM s (b.act (.ifc 263 (.agg [ei (i:Int),ei (d:Int),Wr.eCps l]))) ix (qK s b ix (.ifc 263 (.agg [ei (i:Int),ei (d:Int),Wr.eCps l])) (M++[.row [[.pp ix.row 1 0 0]],.dead,.dead,.row [[I u,I v]],.row [[.pub (.v (.bool c))]]])):=h.app.act (.ifc 263 (.agg [ei (i:Int),ei (d:Int),Wr.eCps l]));have hne:=h.ne;have k1:=h.lt ix.row (by simp[Ix.all]);have k2:=h.lt ix.acts (by simp[Ix.all]);have k4:=h.lt ix.maps (by simp[Ix.all]);have hbx:(qK s b ix (.ifc 263 (.agg [ei (i:Int),ei (d:Int),Wr.eCps l])) (M++[.row [[.pp ix.row 1 0 0]],.dead,.dead,.row [[I u,I v]],.row [[.pub (.v (.bool c))]]]))[M.length]?=some (PO.row [[.pp ix.row 1 0 0]]):=zT oM (zT oM (at_k 0));have hsx:(qK s b ix (.ifc 263 (.agg [ei (i:Int),ei (d:Int),Wr.eCps l])) (M++[.row [[.pp ix.row 1 0 0]],.dead,.dead,.row [[I u,I v]],.row [[.pub (.v (.bool c))]]]))[M.length+3]?=some (PO.row [[I u,I v]]):=zT oM (zT oM (at_k 3))
 have hstl:(s.st.map Hs.eBSt).length=s.st.length:=sI;have h3:BuM s ((b.act (.ifc 263 (.agg [ei (i:Int),ei (d:Int),Wr.eCps l]))).put d ⟨(s.st[i]).pt,u,v⟩) ix (wG s (b.act (.ifc 263 (.agg [ei (i:Int),ei (d:Int),Wr.eCps l]))) ix d ⟨(s.st[i]).pt,u,v⟩ (qK s b ix (.ifc 263 (.agg [ei (i:Int),ei (d:Int),Wr.eCps l])) (M++[.row [[.pp ix.row 1 0 0]],.dead,.dead,.row [[I u,I v]],.row [[.pub (.v (.bool c))]]]))):=h2.put d ⟨(s.st[i]).pt,u,v⟩;have hbx3:(wG s (b.act (.ifc 263 (.agg [ei (i:Int),ei (d:Int),Wr.eCps l]))) ix d ⟨(s.st[i]).pt,u,v⟩ (qK s b ix (.ifc 263 (.agg [ei (i:Int),ei (d:Int),Wr.eCps l])) (M++[.row [[.pp ix.row 1 0 0]],.dead,.dead,.row [[I u,I v]],.row [[.pub (.v (.bool c))]]])))[M.length]?=some (PO.row [[.pp ix.row 1 0 0]]):=zT oM hbx;have hci:=mx (w:=(s.code.fields.length:Int)+1) (n:=(l.length:Int)) hS.tar oM oM
 have sp55:ACall tP G 40 [.agg [ei s.op,ei s.fr,ei s.mo],ei ((((s.code.fields.map Wr.eSpn).length:Nat):Int)+1),ei (((l.map fun g=>[Wr.eStrs g]).length:Nat):Int)] (.tup [ei (Wr.costI ⟨s.op,s.fr,s.mo⟩ ((s.code.fields.length:Int)+1) (l.length:Int)),ei 0]):=by
  rw[zL8,zL8];exact Wr.f50_ok ⟨s.op,s.fr,s.mo⟩ _ _ hS.tar (by rw[Wr.inB_iff];omega) (by rw[Wr.inB_iff];omega)
 refine mW func71 (fun gh hold hmk=>?_);refine Z2 ?_;refine zm Y (qI Y Y (wE Y h.row Y)) (Z8 ?_);refine mc (Xe l hl _) ?_;refine zm Y (zE Y Y Ur Y Y) ?_;refine zm Y (zp Y Y Y at_end Y Y (jW Y (ql at_end) wv) iu rF bL) (Z4 ?_);refine zt (zd (mem':=(M++[.row [[.pp ix.row 1 0 0]],.row (rCp l),.row [[.psl (M.length+1) l.length]]])) [(4,.pp M.length 1 0 0),(5,.pub (.ptr [ei (i:Int)])),(6,.pub (.ptr [ei (d:Int)])),(9,.pp (M.length+2) 1 0 0)] ?_ ?_) ?_
 ·exact⟨Y,Y,Y,(by show EV.pp _ 1 0 0=_;simp),trivial⟩
 ·exact Hm
 refine Z ?_;refine zb (zg Y Y (at_k 2) Y Y Y iu) (zb (jJ Y Y (at_k 1) wv underlying46) ?_);refine Z4 ?_;refine zD (ι:={a:Nat//a<=l.length}) (fun a=>⟨⟨Tryz.f71.ntmps,[],gh,false,hold⟩,frL [(4,.pp M.length 1 0 0),(5,.pub (.ptr [ei (i:Int)])),(6,.pub (.ptr [ei (d:Int)])),(9,.pp (M.length+2) 1 0 0),(19,I (l.length:Int)),(20,I (a.1:Int))],(M++[.row [[.pp ix.row 1 0 0]],.row (rCp l),.row [[.psl (M.length+1) l.length]]])⟩) (fun a=>l.length-a.1) (⟨0,oM⟩) ?_ ?_
 ·exact zd _ rL (Y)
 ·rintro⟨a,ha⟩;dsimp only;refine Z6 ?_;refine nC ?_ ?_<;>intro h0
  ·skip;have hlt:a<l.length:=by simpa using h0
   refine Z10 ?_;refine qd (fun _=>True) (fun k=>match k with|8=>.writes|_=>.here) mixed nR rfl nR trivial ?_;refine zK Y Y (zg Y Y (at_k 2) Y Y Y iu) (Z ?_);refine zK Y Y (zg Y Y (at_k 2) Y Y Y iu) (Z ?_);refine zK Y Y (qh Y Y Y (at_k 1) wv ii oM oM AG) (zK Y Y (zg Y Y (at_k 1) wv (gf hlt) Y A4) (zK Y Y (zi (av:=[_]) Y rL (f219 l[a] (hgl _ (zLm hlt)))) (zK Y Y (qh Y Y Y (at_k 1) wv ii oM oM AG) ?_)));refine qw Y Y (zz Y Y Y (at_k 1) wv (gf hlt) (lL (rows:=l[a].map fun s=>[eS s]) Y) A4 rF rF) trivial (Z7 ?_);exact⟨⟨a+1,oM⟩,by dsimp only;omega,zd _ rL (uO hlt)⟩
  ·skip;refine Z6 ?_;refine zt (kg (k:=M.length+1) (m:=l.length) (c:=M.length+2) (i:=0) (j:=0) (rows:=(l.map fun g=>[Wr.eStrs g])) ((at_k 1).trans (zLz (fun z=>some (PO.row z)) ni)) sI (at_k 2) Y Y M8) ?_;refine zt (ab (k:=M.length+2) (cs:=[Wr.eCps l]) 9 (zj (zT oM (at_k 2))) Y) ?_;refine zt (zd (mem':=(M++[.row [[.pp ix.row 1 0 0]],.dead,.dead])) [(4,.pp M.length 1 0 0),(5,.pub (.ptr [ei (i:Int)])),(6,.pub (.ptr [ei (d:Int)])),(9,.pub (.ptr [Wr.eCps l]))] ?_ ?_) ?_
   ·exact rL
   ·exact Aa
   refine Z ?_;refine zm Y (zE Y Y xa Y Y) (Z4 ?_);refine zm Y (zE Y Y zB Y Y) ?_;refine zm Y (zp Y Y Y at_end Y Y (jT Y) ty4 rF bL) (Z4 ?_);refine zt (zd (mem':=(M++[.row [[.pp ix.row 1 0 0]],.dead,.dead,.row [[I 0,I 0]],.row [[.pub (.v (.bool false))]]])) [(4,.pp M.length 1 0 0),(5,.pub (.ptr [ei (i:Int)])),(6,.pub (.ptr [ei (d:Int)])),(9,.pub (.ptr [Wr.eCps l])),(11,.pp (M.length+3) 1 0 0),(12,.pp (M.length+4) 1 0 0)] ?_ ?_) ?_
   ·exact⟨Y,Y,Y,Y,(by show EV.pp _ 1 0 0=_;simp),(by show EV.pp _ 1 0 0=_;simp),trivial⟩
   ·exact Bl
   refine Z ?_;refine zb (zg Y Y (at_k 0) Y Y Y jG) (Z3 ?_);refine zb (zu (cs:=[_,_,_]) Y Nv Y (zk (zk (zk Y))) rF (by simp[ofV])) ?_;refine zb (zZ Y Y underlying263 Y) (Z3 ?_);refine mc hq ?_;refine Z9 ?_;refine nC ?_ ?_<;>intro h1
   ·skip;exfalso;simp at h1
   ·skip;refine Z3 ?_;refine Ap 12 12 rfl (fun _=>True) (fun k=>match k with|_=>.here) mixed nR nR rfl nR trivial ?_;refine zK Y Y (zg Y Y hbx Y Y Y jG) (zK Y Y (zl Y Y Y ki) (zK Y Y (zg Y Y hbx Y Y Y jG) (zK Y Y (zr Y Y h2.row Y) (zK Y Y (ze Y Y h2.row Y j8) (zK Y Y (ze Y Y h2.row Y oG) (zK Y Y (zg Y Y h2.row Y Y Y sV) (zK Y Y (zl Y Y Y ki) ?_)))))));refine zK Y Y (zc Y Y Y wu oM (by exact Hs.mp_at (e:=Hs.eBSt) hi) (Hs.mp_len fun _=>rfl)) ?_;refine zK Y Y (zf Y Y AC) (zK Y Y (zl Y Y Y ki) (zK Y Y (wb (cs:=[_,_]) Y Y hsx Y Y bL Y vd) (GL ?_)));refine mc (Qn h2 d hd hlm (s.st[i]).pt u v) ?_;refine Z3 ?_;refine zN mixed nR Y ?_;refine zH Y (zg Y Y hbx3 Y Y Y jG) (zH Y (zr Y Y h3.row Y) (zH Y (ze Y Y h3.row Y j8) (zH Y (ze Y Y h3.row Y KR) (zH Y (wb (cs:=[_,_,_]) Y Y h3.row Y Y bL Y zax) (zH Y (zg Y Y hbx3 Y Y Y jG) (zH Y (zr Y Y h3.row Y) (zH Y (ze Y Y h3.row Y j8) (zH Y (ze Y Y h3.row Y kB) (zH Y (ze Y Y h3.row Y eX) (zH Y (zg Y Y h3.row Y Y Y lb) (zH Y (zM Y Y Y underlying23) ?_)))))))))))
    refine zH Y (vA Y Y Y ⟨by simp only[zL8];omega,by simp only[zL8];omega⟩) (Z ?_);refine zH Y (zM Y Y Y underlying46) (zH Y (zi (av:=[_,_,_]) Y rL sp55) ?_);refine Z9 ?_;refine zb (zg Y Y hbx3 Y Y Y jG) (zb (zr Y Y h3.row Y) (zb (ze Y Y h3.row Y rH) (zb (zg Y Y h3.row Y Y Y ki) ?_)));refine Z ?_;refine zb (vA Y Y Y ⟨by show _<=b.cost+(Wr.costI ⟨s.op,s.fr,s.mo⟩ ((s.code.fields.length:Int)+1) (l.length:Int));omega,by show b.cost+(Wr.costI ⟨s.op,s.fr,s.mo⟩ ((s.code.fields.length:Int)+1) (l.length:Int))<=_;omega⟩) ?_;refine zb (zr Y Y h3.row Y) (zb (ze Y Y h3.row Y rH) ?_);refine zm Y (zp Y Y Y h3.row Y Y (jT Y) ki rF bL) (Z3 ?_);refine zt (zd (mem':=bp s ((b.act (.ifc 263 (.agg [ei (i:Int),ei (d:Int),Wr.eCps l]))).put d ⟨(s.st[i]).pt,u,v⟩) ix (Wr.costI ⟨s.op,s.fr,s.mo⟩ ((s.code.fields.length:Int)+1) (l.length:Int)) (wG s (b.act (.ifc 263 (.agg [ei (i:Int),ei (d:Int),Wr.eCps l]))) ix d ⟨(s.st[i]).pt,u,v⟩ (qK s b ix (.ifc 263 (.agg [ei (i:Int),ei (d:Int),Wr.eCps l])) M))++[.row [[.pp ix.row 1 0 0]],.dead,.dead,.row [[I u,I v]],.row [[.pub (.v (.bool c))]]]) [] trivial (by exact QG h)) ?_
    refine Z5 ?_
    exact fun hz=>zR [_,_,_,_,_] Y (Ar ((h.act _).put d _) (bD (vK h hmk))) (by rw[gA,kb,jE];exact zLl _) (.inr Y) (by simp[EV.lt]) Y
end Bu
end Go.Av
namespace Go.Av
namespace Bu
open Go.Proofs Tryz
variable{G:Glob}{s:Hs.Sut}{b:BS}{ix:Ix}{M:TP}
def xp(br:Bool)(n:Nat)(bn bh:Bool):Int:=if br=true then(if n<60 then(if bn=true then(if bh=true then 0 else 7)else 6)else 6)else 2
theorem jA{br bn bh:Bool}{n:Nat}(h:xp br n bn bh=0):br=true/\n<60/\bn=true/\bh=true:=by
 by_cases hn:n<60<;>cases br<;>cases bn<;>cases bh<;>simp[xp,hn]at h⊢
section
variable{A B:TP}{t0:TypeId}{x0:AV}{R N H:EV}{br bn bh:Bool}
theorem de(hA:BuM s b ix A)(hB:BuM s b ix B)(hl:A.length=B.length)(hBk:zW A.length A->zW B.length B)(cR:CondQ G R A B br)(kN:∀m:TP,qn m N [N])(kH:∀m:TP,qn m H [H])
  (cN:br=true->CondQ G N B B bn) (cH:br=true->b.acts.length<60->bn=true->CondQ G H B B bh) (h:xp br b.acts.length bn bh≠0):
  zv tP G 96 [.pp ix.row 1 0 0,.pub (.ifc t0 x0),R,N,H] A (.ret (I (xp br b.acts.length bn bh)) B):=by
 cases er:br with
 |false=>exact Ff (bn:=false) (bh:=false) hA hB hl hBk cR kN kH er
 |true=>
  by_cases ha:b.acts.length<60
  ·cases en:bn with
   |false=>
    have:=Hi (bh:=false) (t0:=t0) (x0:=x0) hA hB hl hBk cR kN kH (cN er) er ha en;simpa[xp,ha]using this
   |true=>
    cases eh:bh with
    |false=>
     have:=B5 (t0:=t0) (x0:=x0) hA hB hl hBk cR kN kH (cN er) (cH er ha en) er ha en eh;simpa[xp,ha]using this
    |true=>exact absurd (by simp[xp,er,ha,en,eh]) h
  ·have:=Dc (bn:=false) (bh:=false) (t0:=t0) (x0:=x0) hA hB hl hBk cR kN kH er oM;simpa[xp,ha]using this
theorem da(hA:BuM s b ix A)(hB:BuM s b ix B)(hl:A.length=B.length)(hBk:zW A.length A->zW B.length B)(cR:CondQ G R A B br)(kN:∀m:TP,qn m N [N])(kH:∀m:TP,qn m H [H])
  (cN:br=true->CondQ G N B B bn) (cH:br=true->b.acts.length<60->bn=true->CondQ G H B B bh) (h:xp br b.acts.length bn bh=0):
  zv tP G 96 [.pp ix.row 1 0 0,.pub (.ifc t0 x0),R,N,H] A (.ret (I 0) (qK s b ix (.ifc t0 x0) B)):=by
 obtain⟨h1,h2,h3,h4⟩:=jA h;exact JM hA hB hl hBk cR kN kH (cN h1) (cH h1 h2 h3) h1 h2 h3 h4
end
theorem Xr(h:BuM s b ix M)(ys xs:TP):DV ((M++(.row [[.pp ix.row 1 0 0]]::ys))++xs) (.pp M.length 1 0 0) (.ptr [.ptr (eBu s b)]):=bz h.app.app (ql sI)
structure BI(s:Hs.Sut)(b:BS):Prop where
 ml:(b.maps.length:Int)=s.days
 sl:(b.ships.length:Int)=s.days
 m12:∀l∈b.maps,l.length<=12
 un:SdU b
 r12:b.reps.length<=12
 a60:b.acts.length<=60
 co:0<=b.cost/\b.cost<=1000000*(b.acts.length:Int)
def jw(b:BS)(d:Int):List Ct.Stn:=b.maps.getD d.toNat []
theorem yI{d:Nat}(hd:d<b.maps.length):jw b (d:Int)=b.maps[d]:=by simp[jw,hd]
theorem wJ(hI:BI s b){d:Int}(h:Hs.inB d 0 (s.days-1)=true):∃n:Nat,d=(n:Int)/\n<b.maps.length/\n<b.ships.length:=by
 rw[Hs.inB_iff]at h;have:=hI.ml;have:=hI.sl;exact⟨d.toNat,oM,oM,oM⟩
-- Report
def Va(r:Hs.Rep):AV:=.ifc 191 (.agg (Hs.eRep r))
def ee(s:Hs.Sut)(b:BS)(r:Hs.Rep):Int:=xp (Hs.okWtB (wR s [r])) b.acts.length (decide ((b.reps.length:Int)<9)) true
def wW(s:Hs.Sut)(b:BS)(r:Hs.Rep):BS:=if ee s b r=0 then(b.act (Va r)).rep r else b
theorem cf(h:BuM s b ix M)(r:Hs.Rep):Step G s 31 [.pp ix.row 1 0 0,.pub (.agg (Hs.eRep r))] b ix M (ee s b r) (wW s b r):=by
 have cR:CondQ G (.fnm 97 [] [.pp M.length 1 0 0,.pub (.ptr (Hs.eRep r))]) (M++[.row [[.pp ix.row 1 0 0]]]) (M++[.row [[.pp ix.row 1 0 0]]]) (Hs.okWtB (wR s [r])):=yk (f130 s b r) fun xs=>.cons (vW h xs) (.cons .r .nil);have cN:CondQ G (.fnm 99 [] [.pp M.length 1 0 0]) (M++[.row [[.pp ix.row 1 0 0]]]) (M++[.row [[.pp ix.row 1 0 0]]]) (decide ((b.reps.length:Int)<9)):=yk (f132 s b) fun xs=>.cons (vW h xs) .nil;have cH:CondQ G (.pub (.fn 100 [] [])) (M++[.row [[.pp ix.row 1 0 0]]]) (M++[.row [[.pp ix.row 1 0 0]]]) true:=Oa f133
 by_cases e:ee s b r=0
 ·have hr:=(jA e).2.2.1;simp only[zLd]at hr;rw[e,wW,zLc e];exact⟨ix,_,(h.act (Va r)).rep r,(xt h).trans (PE (h.act _)),Rm h r oM (da h.app h.app Y id cR cN.cell cH.cell (fun _=>cN) (fun _ _ _=>cH) e)⟩
 ·rw[wW,zLy e];exact⟨ix,M,h,Fr.refl,Rk h r e (de h.app h.app Y id cR cN.cell cH.cell (fun _=>cN) (fun _ _ _=>cH) e)⟩
-- Ship
def HY(n d pt lo hi:Int):AV:=.ifc 265 (.agg [ei n,ei d,ei pt,ei lo,ei hi])
def shR(s:Hs.Sut)(n d pt lo hi:Int):Bool:=Hs.inB n 0 99&&Hs.inB d 0 (s.days-1)&&Hs.inB pt 0 (s.wide*s.rows-1)&&decide (lo≥0)&&decide (lo<=hi)&&decide (hi<=99999)
def vC(b:BS)(d:Int):Bool:=decide (((jw b d).length:Int)<12)
def iz(s:Hs.Sut)(b:BS)(n d pt lo hi:Int):Int:=xp (shR s n d pt lo hi) b.acts.length (vC b d) (!decide (n∈b.ships.getD d.toNat [])&&drB (wiM s (jw b d) pt lo hi))
def aw(s:Hs.Sut)(b:BS)(n d pt lo hi:Int):BS:=if iz s b n d pt lo hi=0 then((b.act (HY n d pt lo hi)).put d.toNat ⟨pt,lo,hi⟩).ship d.toNat n else b
theorem am(h:BuM s b ix M)(hS:Hs.SuP s)(hI:BI s b)(n d pt lo hi:Int):Step G s 72 [.pp ix.row 1 0 0,I n,I d,I pt,.pub (.agg [ei lo,ei hi])] b ix M (iz s b n d pt lo hi) (aw s b n d pt lo hi):=by
 have cR:CondQ G (.fnm 158 [] [.pub (.ptr [ei n]),.pp M.length 1 0 0,.pub (.ptr [ei d]),.pub (.ptr [ei pt]),.pub (.ptr [ei lo,ei hi])]) (M++[.row [[.pp ix.row 1 0 0]]]) (M++[.row [[.pp ix.row 1 0 0]]]) (shR s n d pt lo hi):=
  yk (f223 s hS b n d pt lo hi) fun xs=>.cons .r (.cons (vW h xs) (.cons .r (.cons .r (.cons .r .nil))))
 have dy:shR s n d pt lo hi=true->Hs.inB d 0 (s.days-1)=true:=fun hh=>by simp only[shR,zLa]at hh;exact hh.1.1.1.1.2
 have cN:shR s n d pt lo hi=true->CondQ G (.fnm 160 [] [.pp M.length 1 0 0,.pub (.ptr [ei d])]) (M++[.row [[.pp ix.row 1 0 0]]]) (M++[.row [[.pp ix.row 1 0 0]]]) (vC b d):=fun hh=>by
  obtain⟨k,rfl,hk,_⟩:=wJ hI (dy hh);rw[vC,yI hk];exact yk (f224 s b k hk) fun xs=>.cons (vW h xs) (.cons .r .nil)
 have cH:shR s n d pt lo hi=true->b.acts.length<60->vC b d=true->CondQ G (.fnm 161 [] [.pp M.length 1 0 0,.pub (.ptr [ei d]),.pub (.ptr [ei n]),.pub (.ptr [ei pt]),.pub (.ptr [ei lo,ei hi])]) (M++[.row [[.pp ix.row 1 0 0]]]) (M++[.row [[.pp ix.row 1 0 0]]]) (!decide (n∈b.ships.getD d.toNat [])&&drB (wiM s (jw b d) pt lo hi)):=fun hh _ _=>by
  obtain⟨k,rfl,hk,hk2⟩:=wJ hI (dy hh);have hl:=hI.m12 _ (zLm hk);have e2:b.ships.getD ((k:Int)).toNat []=b.ships[k]:=by simp[hk2]
  rw[yI hk,e2];exact yk (f225 s b k hk oM hk2 n pt lo hi) fun xs=>.cons (vW h xs) (.cons .r (.cons .r (.cons .r (.cons .r .nil))))
 have k1:∀m:TP,qn m (.fnm 160 [] [.pp M.length 1 0 0,.pub (.ptr [ei d])]) [.fnm 160 [] [.pp M.length 1 0 0,.pub (.ptr [ei d])]]:=fun m=>rfl;have k2:∀m:TP,qn m (.fnm 161 [] [.pp M.length 1 0 0,.pub (.ptr [ei d]),.pub (.ptr [ei n]),.pub (.ptr [ei pt]),.pub (.ptr [ei lo,ei hi])]) [.fnm 161 [] [.pp M.length 1 0 0,.pub (.ptr [ei d]),.pub (.ptr [ei n]),.pub (.ptr [ei pt]),.pub (.ptr [ei lo,ei hi])]]:=fun m=>rfl
 by_cases e:iz s b n d pt lo hi=0
 ·obtain⟨e1,e2,e3,e4⟩:=jA e;obtain⟨k,rfl,hk,hk2⟩:=wJ hI (dy e1);have hl:=hI.m12 _ (zLm hk)
  have hn:n∉b.ships.getD k []:=by
   simp only[zLa,Bool.not_eq_true',decide_eq_false_iff_not]at e4;exact e4.1
  have hq:=da (t0:=265) (x0:=.agg [ei n,ei (k:Int),ei pt,ei lo,ei hi]) (h.app (xs:=[.row [[.pp ix.row 1 0 0]]])) h.app rfl id cR k1 k2 cN cH e;rw[e,aw,zLc e];exact⟨ix,_,((h.act (HY n k pt lo hi)).put k ⟨pt,lo,hi⟩).ship k n hk2,((xt h).trans (tl (h.act _))).trans (JZ ((h.act _).put k _) hk2),I0 h n k pt lo hi hk oM hk2 hn hq⟩
 ·rw[aw,zLy e];exact⟨ix,M,h,Fr.refl,KX h n d pt lo hi e (de h.app h.app Y id cR k1 k2 cN cH e)⟩
end Bu
end Go.Av
end
