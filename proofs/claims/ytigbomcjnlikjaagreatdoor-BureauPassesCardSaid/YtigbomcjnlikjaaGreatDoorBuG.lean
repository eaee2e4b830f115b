import Derived.Test.YtigbomcjnlikjaaGreatDoorBuF
set_option linter.unusedVariables false
set_option linter.unusedSimpArgs false
set_option maxRecDepth 100000
set_option maxHeartbeats 9000000
section
namespace Go.Av
namespace Bu
open Go.Proofs Tryz
variable{G:Glob}
theorem P5:vy tP 224 6 1=true:=nR
theorem UG:wL tP 224 1 [nZ,nZ,nZ,nZ,nZ,nZ]:=⟨_,_,Tryz.t3,underlying224,nR,nR,nR⟩
structure Ac where
 w:Int
 n:List Int
 c:TC
def eAc(a:Ac):TA:=[ei a.w,eI a.n,Wr.eCps a.c]
def cpB(g:TB):Bool:=decide (g.length<=6)&&g.all fun x=>decide (x.length<=8)
def foH(a:Ac):Bool:=decide (a.w<1)||decide (a.w>6)||decide ((a.c.length:Int)>5)||(decide (a.w≠2)&&decide ((a.c.length:Int)>0))||(decide (a.w=2)&&decide ((a.c.length:Int)=0))
def nmN(w:Int):Int:=if w=1 then 11 else if w=2 then 2 else if w=3 then 5 else if w=4 then 7 else if w=5 then 0 else 3
theorem UL{w:Int}(h:1<=w/\w<=6):[ei 11,ei 2,ei 5,ei 7,ei 0,ei 3][(w-1).toNat]?=some (ei (nmN w)):=by
 have:w=1∨w=2∨w=3∨w=4∨w=5∨w=6:=oM;rcases this with rfl|rfl|rfl|rfl|rfl|rfl<;>rfl
def nmB(a:Ac):Bool:=if a.w=5 then decide ((a.n.length:Int)≥3)&&decide ((a.n.length:Int)<=7)else decide ((a.n.length:Int)=nmN a.w)
def foB(a:Ac):Bool:=!foH a&&a.c.all cpB&&nmB a
theorem wN{α:Type}{f:α->Bool}{l:List α}{k:Nat}(h:k<l.length)(h1:(l.take k).all f=true)(h2:f l[k]=true):(l.take (k+1)).all f=true:=by
 rw[zLt h,List.all_append,h1];simp[h2]
theorem yM{α:Type}{f:α->Bool}{l:List α}{k:Nat}(h:k<l.length)(h2:f l[k]=false):l.all f=false:=by
 rw[List.all_eq_false];exact⟨l[k],zLm h,by simp[h2]⟩
theorem gu{α:Type}{f:α->Bool}{l:List α}(h1:(l.take l.length).all f=true):l.all f=true:=by rwa[List.take_length]at h1
theorem f64(a:Ac):ACall tP G 46 [.agg (eAc a)] (.v (.bool (foB a))):=by
 have hcl:(a.c.map fun g=>[Wr.eStrs g]).length=a.c.length:=sI;have hnl:(a.n.map fun n=>[ei n]).length=a.n.length:=sI;refine aC func46 ?_;refine Z20 ?_;refine zh Y (fun hg=>zM Y Y (zLc hg) underlying46) (Z6 ?_);refine zh Y (fun hg=>zX Y (zLc hg)) (zh (zx Y Y Y) (fun hg=>zf Y Y fe) (zh (zx Y Y Y) (fun hg=>zl Y (zLc hg) Y iu) (zh (zx Y Y Y) (fun hg=>zM Y Y (zLc hg) underlying46) (zh (zx Y Y Y) (fun hg=>yq Y (zLc hg) Y) (zh Y (fun hg=>vB Y (zLc hg) (jY hg) Y) ?_)))));refine Z5 ?_;refine zh Y (fun hg=>zX Y (zLc hg)) (zh (zx Y Y Y) (fun hg=>zf Y Y fe) (zh (zx Y Y Y) (fun hg=>zl Y (zLc hg) Y iu) (zh (zx Y Y Y) (fun hg=>zM Y Y (zLc hg) underlying46) (zh (zx Y Y Y) (fun hg=>vr Y (zLc hg) Y) (zh Y (fun hg=>vB Y (zLc hg) (jY hg) Y) ?_)))));refine Z3 ?_;refine nC ?_ ?_<;>intro h0
 ·skip;have hH:foH a=true:=by unfold foH;rw[hcl]at h0;simpa using h0
  refine Z7 ?_;exact⟨.inr Y,AVle.of (by simp[foB,hH])⟩
 ·skip;have hH:foH a=false:=by unfold foH;rw[hcl]at h0;simpa using h0
  have hw:1<=a.w/\a.w<=6:=by simp[foH]at hH;omega
  have hc5:a.c.length<=5:=by simp[foH]at hH;omega
  refine Z9 ?_;refine zD (ι:={i:Nat//i<=a.c.length/\(a.c.take i).all cpB=true}) (fun i=>⟨Tryz.f46.ntmps,frL [(1,.pub (.ptr (eAc a))),(3,I (i.1:Int))],[]⟩) (fun i=>a.c.length-i.1) (⟨0,⟨oM,sI⟩⟩) ?_ ?_
  ·exact zd _ rL (Y)
  ·rintro⟨i,hi⟩;dsimp only;have hiv:=hi;refine Z6 ?_;refine zb (zM Y Y Y underlying46) (Z3 ?_);refine nC ?_ ?_<;>intro h1
   ·skip;have hi:i<a.c.length:=by rw[hcl]at h1;simpa using h1
    have hgl:(a.c[i].map fun x=>[eS x]).length=a.c[i].length:=sI;refine Z10 ?_;refine zb (zc Y Y Y ii oM (by exact Hs.mp_at (e:=fun g=>[Wr.eStrs g]) hi) (Hs.mp_len fun _=>rfl)) ?_;refine Z ?_;refine zb (zM Y Y Y underlying108) (Z3 ?_);refine nC ?_ ?_<;>intro h2
    ·skip;have hno:cpB a.c[i]=false:=by rw[hgl]at h2;simp at h2;simp[cpB];intro h;omega
     refine Z12 ?_;exact⟨.inr Y,AVle.of (by simp[foB,yM hi hno])⟩
    ·skip;have h6:a.c[i].length<=6:=by rw[hgl]at h2;simp at h2;omega
     refine Z8 ?_;refine zD (ι:={k:Nat//k<=a.c[i].length/\(a.c[i].take k).all (fun x=>decide (x.length<=8))=true}) (fun k=>⟨Tryz.f46.ntmps,frL [(1,.pub (.ptr (eAc a))),(3,I (i:Int)),(4,I (k.1:Int))],[]⟩) (fun k=>a.c[i].length-k.1) (⟨0,⟨oM,sI⟩⟩) ?_ ?_
     ·exact zd _ rL (Y)
     ·rintro⟨k,hk⟩;dsimp only;have hkv:=hk;refine Z7 ?_;refine zb (zc Y Y Y ii oM (by exact Hs.mp_at (e:=fun g=>[Wr.eStrs g]) hi) (Hs.mp_len fun _=>rfl)) ?_;refine Z ?_;refine zb (zM Y Y Y underlying108) (Z3 ?_);refine nC ?_ ?_<;>intro h3
      ·skip;have hk:k<a.c[i].length:=by rw[hgl]at h3;simpa using h3
       refine Z9 ?_;refine zb (zc Y Y Y ii oM (by exact Hs.mp_at (e:=fun g=>[Wr.eStrs g]) hi) (Hs.mp_len fun _=>rfl)) ?_;refine Z2 ?_;refine zb (zc Y Y Y ib oM (by exact Hs.mp_at (e:=fun x=>[eS x]) hk) (Hs.mp_len fun _=>rfl)) ?_;refine Z ?_;refine zb (vt Y Y underlying9) (Z3 ?_);refine nC ?_ ?_<;>intro h4
       ·skip;have hno:cpB a.c[i]=false:=by simp only[cpB,Bool.and_eq_false_iff];exact .inr (yM hk (by simp at h4;simp;omega))
        refine Z15 ?_;exact⟨.inr Y,AVle.of (by simp[foB,yM hi hno])⟩
       ·skip;have h8:(a.c[i][k]).length<=8:=by simp at h4;omega
        refine Z8 ?_;exact⟨⟨k+1,⟨oM,wN hk hkv.2 (by simpa using h8)⟩⟩,by dsimp only;omega,zd _ rL (Y)⟩
      ·skip;have hge:k=a.c[i].length:=by rw[hgl]at h3;simp at h3;omega
       have hyes:cpB a.c[i]=true:=by simp only[cpB,zLa,zLd];exact⟨h6,gu (hge▸hkv.2)⟩
       refine Z11 ?_;exact⟨⟨i+1,⟨oM,wN hi hiv.2 hyes⟩⟩,by dsimp only;omega,zd _ rL (Y)⟩
   ·skip;have hge:i=a.c.length:=by rw[hcl]at h1;simp at h1;omega
    have hall:a.c.all cpB=true:=gu (hge▸hiv.2);refine Z7 ?_;refine zb (v8 (cs:=[_,_,_,_,_,_]) Y UG Y (zk (zk (zk (zk (zk (zk Y)))))) rF (by simp[ofV])) ?_;refine Z3 ?_;refine zb (qJ (c:=ei (nmN a.w)) rfl rfl rfl P5 (fun e he=>by rw[underlying224]at he;cases he;exact ki) oM oM (UL hw)) (Z11 ?_);refine nC ?_ ?_<;>intro h5
    ·skip;have hw5:a.w=5:=by simpa using h5
     refine Z4 ?_;refine zb (zM Y Y Y underlying24) (Z4 ?_);refine zh Y (fun hg=>zM Y Y (zLc hg) underlying24) (Z7 ?_);exact⟨.inr Y,AVle.of (by simp[foB,hH,hall,nmB,hw5])⟩
    ·skip;have hw5:¬a.w=5:=by simpa using h5
     refine Z6 ?_;refine zb (zM Y Y Y underlying24) (Z6 ?_);exact⟨.inr Y,AVle.of (by simp[foB,hH,hall,nmB,hw5];rfl)⟩
def brB(l:List Ac):Bool:=l.all foB&&decide ((l.length:Int)<=66)
theorem OI{l:List Ac}{i:Nat}(h:(l.take i).all foB=true)(h2:i<=l.length)(hg:i=l.length∨70<=i):AV.v (.bool (decide ((l.length:Int)<=66)))=.v (.bool (brB l)):=by
 rcases hg with e|e
 ·subst e;rw[brB,gu h];simp
 ·have:¬(l.length:Int)<=66:=oM;simp[brB,this]
theorem f19(l:List Ac):ACall tP G 13 [.sl (l.map eAc)] (.v (.bool (brB l))):=by
 have hl:(l.map eAc).length=l.length:=sI;refine aC func13 ?_;refine Z12 ?_;refine zD (ι:={i:Nat//(i<=l.length/\i<=70)/\(l.take i).all foB=true}) (fun i=>⟨Tryz.f13.ntmps,frL [(0,.pub (.sl (l.map eAc))),(3,I (i.1:Int))],[]⟩) (fun i=>l.length-i.1) (⟨0,⟨oM,sI⟩⟩) ?_ ?_
 ·exact zd _ rL (Y)
 ·rintro⟨i,hi⟩;dsimp only;have hiv:=hi;refine Z5 ?_;refine zb (zM Y Y Y underlying38) (Z7 ?_);refine nC ?_ ?_<;>intro h0
  ·skip;have hii:i<l.length/\i<70:=by rw[hl]at h0;simp at h0;omega
   have hi:=hii.1;refine Z8 ?_;refine zb (zc Y Y Y sA oM (by exact Hs.mp_at (e:=eAc) hi) (Hs.mp_len fun _=>rfl)) ?_;refine Z ?_;refine yc (f64 l[i]) ?_;refine Z3 ?_;refine nC ?_ ?_<;>intro h1
   ·skip;have hno:foB l[i]=false:=by simpa using h1
    refine Z11 ?_;exact⟨.inr Y,AVle.of (by simp[brB,yM hi hno])⟩
   ·skip;have hyes:foB l[i]=true:=by simpa using h1
    refine Z8 ?_;exact⟨⟨i+1,⟨oM,wN hi hiv.2 hyes⟩⟩,by dsimp only;omega,zd _ rL (Y)⟩
  ·skip;have hge:i=l.length∨70<=i:=by rw[hl]at h0;simp at h0;omega
   refine Z8 ?_;refine zb (zM Y Y Y underlying38) (Z5 ?_);exact⟨.inr Y,AVle.of (by rw[hl];exact OI hiv.2 oM hge)⟩
theorem f17(s:Hs.Sut):ACall tP G 11 [.agg (Hs.eSut s)] (.v (.bool (Hs.smB s))):=by
 have hm:(s.st.map Hs.eBSt).length=s.st.length:=sI;refine aC func11 ?_;refine Z13 ?_;refine zD (ι:={a:Nat//a<=6/\(s.st.take a).all (fun x:Hs.BSt=>decide ((x.g.ck.length:Int)<=15))=true}) (fun a=>⟨Tryz.f11.ntmps,frL [(1,.pub (.ptr (Hs.eSut s))),(3,I (a.1:Int))],[]⟩) (fun a=>6-a.1) (⟨0,oM,sI⟩) ?_ ?_
 ·exact zd _ rL (Y)
 ·rintro⟨a,ha⟩;dsimp only;refine Z6 ?_;refine zb (zM Y Y Y underlying22) (Z7 ?_);refine nC ?_ ?_<;>intro h0
  ·skip;have hlt:a<s.st.length/\a<6:=by simp at h0;omega
   refine Z9 ?_;refine zb (zc Y Y Y wu oM (by exact Hs.mp_at (k:=a) hlt.1) (Hs.mp_len fun _=>rfl)) ?_;refine Z3 ?_;refine zb (zM Y Y Y underlying64) (Z3 ?_);refine nC ?_ ?_<;>intro h1
   ·skip;have hbad:(s.st.take 6).all (fun x:Hs.BSt=>decide ((x.g.ck.length:Int)<=15))=false:=Hs.bad6 hlt.2 hlt.1 (by simp at h1;simp;omega);refine Z11 ?_;exact⟨.inr Y,AVle.of (by rw[Hs.smB,hbad];rfl)⟩
   ·skip;have hok:((fun x:Hs.BSt=>decide ((x.g.ck.length:Int)<=15))) s.st[a]=true:=by simp at h1;simp;omega
    refine Z8 ?_;exact⟨⟨a+1,oM,Hs.all_next hlt.1 ha.2 hok⟩,by dsimp only;omega,zd _ rL (Y)⟩
  ·skip;have hall:=Hs.take6 (p:=(fun x:Hs.BSt=>decide ((x.g.ck.length:Int)<=15))) ha.1 ha.2 (by simp at h0;omega);refine Z9 ?_;refine zb (zM Y Y Y underlying22) (Z5 ?_);refine zh Y (fun hg=>zM Y Y (zLc hg) underlying23) (Z6 ?_);refine zh Y (fun hg=>zM Y Y (zLc hg) underlying24) (Z6 ?_);refine zh Y (fun hg=>zM Y Y (zLc hg) underlying29) (Z6 ?_);refine zh Y (fun hg=>zM Y Y (zLc hg) underlying30) (Z6 ?_);refine zh Y (fun hg=>zM Y Y (zLc hg) underlying31) (Z5 ?_);refine zh Y (fun hg=>zM Y Y (zLc hg) underlying24) (Z6 ?_);exact⟨.inr Y,AVle.of (by rw[Hs.smB,hall];simp[Bool.and_assoc])⟩
theorem zaF:(tP.info? 75).bind (·.zero)=some (.agg #[nZ,nZ,nZ,nZ,nZ,nZ,nZ,nZ,nZ,nZ]):=nR
theorem f54(s:Hs.Sut)(b:BS):ACall tP G 39 [.ptr (eBu s b)] (.tup [ei b.cost,ei 0]):=by
 refine aC func39 ?_;refine Z10 ?_;refine yc (f94 s b) ?_;refine Z2 ?_;refine nC ?_ ?_<;>intro h0
 ·skip;exfalso;simp at h0
 ·skip;refine Z13 ?_;exact⟨.inr Y,⟨_,Y,⟨_,_,Y,AVle.refl _,⟨_,_,Y,AVle.refl _,Y⟩⟩⟩⟩
theorem f53(a b:Int):ACall tP G 38 [ei a,ei b] (.agg [ei a,ei b]):=by
 refine aC func38 ?_;refine Z2 ?_;refine zm Y (zE Y Y xa Y Y) (Z6 ?_);refine zb (zu (cs:=[_,_]) Y iV Y (zk (zk Y)) rF (by simp[ofV])) ?_;refine zm Y (zp Y Y Y Y Y Y cEx vd rF bL) (Z3 ?_);exact⟨.inr Y,jb Y (zQ Y Y Y Y vd Y (vwR (vwR Y)))⟩
theorem f120(l:List Int)(k:Nat)(hk:k+1<l.length)(h3:k<=100):ACall tP G 86 [eI l,ei (k:Int)] (.agg [ei (l[k]'oM),ei (l[k+1])]):=by
 have hm:(l.map fun n=>[ei n]).length=l.length:=sI;refine aC func86 ?_;refine Z2 ?_;refine zm Y (zE Y Y xa Y Y) (Z3 ?_);refine qd (fun _=>True) (fun k=>match k with|10=>.writes|_=>.here) mixed nR rfl nR trivial ?_;refine Z2 ?_;refine zK Y Y (zc Y Y Y zY oM (by exact zA (i:=k) oM) zn) (Z4 ?_);refine zK Y Y (zc Y Y Y zY oM (by exact zA (i:=k+1) hk) zn) (Z ?_);refine zK Y Y (zu (cs:=[_,_]) Y iV Y (zk (zk Y)) rF (by simp[ofV])) ?_;refine qw Y Y (zz Y Y Y Y Y Y cEx vd rF rF) trivial (Z3 ?_);exact⟨.inr Y,jb Y (zQ Y Y Y Y vd Y (vwR (vwR Y)))⟩
theorem f40(x0 x1 x2 x3 x4 x5 x6 x7 x8 x9 x10:Int):ACall tP G 24 [eI [x0,x1,x2,x3,x4,x5,x6,x7,x8,x9,x10]] (.agg (qF ⟨x1,x2,x3,x4,x5,x6,x7,x8,x9,x10⟩)):=by
 refine aC func24 ?_;refine Z2 ?_;refine zm Y (zE Y Y zaF Y Y) (Z3 ?_);refine qd (fun _=>True) (fun k=>match k with|19=>.writes|_=>.here) mixed nR rfl nR trivial ?_;refine Z ?_;refine zK Y Y (zc Y Y Y zY oM (by exact zA (i:=1) sI) zn) (Z2 ?_);refine zK Y Y (zc Y Y Y zY oM (by exact zA (i:=2) sI) zn) (Z2 ?_);refine zK Y Y (zc Y Y Y zY oM (by exact zA (i:=3) sI) zn) (Z2 ?_);refine zK Y Y (zc Y Y Y zY oM (by exact zA (i:=4) sI) zn) (Z2 ?_);refine zK Y Y (zi (av:=[_,_]) Y rL (f120 [x0,x1,x2,x3,x4,x5,x6,x7,x8,x9,x10] 5 sI oM)) (Z ?_);refine zK Y Y (zi (av:=[_,_]) Y rL (f120 [x0,x1,x2,x3,x4,x5,x6,x7,x8,x9,x10] 7 sI oM)) (Z ?_);refine zK Y Y (zi (av:=[_,_]) Y rL (f120 [x0,x1,x2,x3,x4,x5,x6,x7,x8,x9,x10] 9 sI oM)) ?_;refine zK Y Y (zu (cs:=[_,_,_,_,_,_,_,_,_,_]) Y X5 Y (zk (zk (zk (zk (zk (zk (zk Y))))))) rF (by simp[ofV])) ?_;refine qw Y Y (zz Y Y Y Y Y Y cEx SO rF rF) trivial (Z3 ?_);exact⟨.inr Y,jb Y (zQ Y Y Y Y SO Y (vwR (vwR (vwR (vwR (vwR (vwR (vwR (vwR (vwR (vwR Y)))))))))))⟩
theorem f42(x0 x1 x2 x3 x4 x5 x6:Int):ACall tP G 26 [eI [x0,x1,x2,x3,x4,x5,x6]] (.agg (Hs.eRep ⟨x0,x1,x2,x3,x4,x5,x6⟩)):=by
 refine aC func26 ?_;refine Z2 ?_;refine zm Y (zE Y Y I1 Y Y) (Z3 ?_);refine qd (fun _=>True) (fun k=>match k with|23=>.writes|_=>.here) mixed nR rfl nR trivial ?_;refine Z ?_;refine zK Y Y (zc Y Y Y zY oM (by exact zA (i:=0) sI) zn) (Z2 ?_);refine zK Y Y (zc Y Y Y zY oM (by exact zA (i:=1) sI) zn) (Z2 ?_);refine zK Y Y (zc Y Y Y zY oM (by exact zA (i:=2) sI) zn) (Z2 ?_);refine zK Y Y (zc Y Y Y zY oM (by exact zA (i:=3) sI) zn) (Z2 ?_);refine zK Y Y (zc Y Y Y zY oM (by exact zA (i:=4) sI) zn) (Z ?_);refine zK Y Y (zu (cs:=[_,_]) Y iV Y (zk (zk Y)) rF (by simp[ofV])) ?_;refine Z ?_;refine zK Y Y (zc Y Y Y zY oM (by exact zA (i:=5) sI) zn) (Z2 ?_);refine zK Y Y (zc Y Y Y zY oM (by exact zA (i:=6) sI) zn) (Z ?_);refine zK Y Y (zu (cs:=[_,_,_,_,_,_,_]) Y UU Y (zk (zk (zk (zk (zk (zk Y)))))) rF (by simp[ofV])) ?_;refine qw Y Y (zz Y Y Y Y Y Y cEx si rF rF) trivial (Z3 ?_);exact⟨.inr Y,jb Y (zQ Y Y Y Y si Y (vwR (vwR (vwR (vwR (vwR (vwR (vwR Y))))))))⟩
end Bu
end Go.Av
namespace Go.Av
namespace Bu
open Go.Proofs Tryz
variable{G:Glob}{s:Hs.Sut}{b:BS}{ix:Ix}{M:TP}
def dj(d n:Int)(l:List Int):AV:=.ifc 268 (.agg [ei d,ei n,eI l])
def stR(s:Hs.Sut)(d n:Int)(l:List Int):Bool:=Hs.inB d 0 (s.days-1)&&Hs.inB n 0 ((s.wts.length:Int)-1)&&decide ((l.length:Int)=s.cls)&&yi l
def stE(s:Hs.Sut)(b:BS)(d n:Int)(l:List Int):Int:=xp (stR s d n l) b.acts.length (jf b (d,n)).isNone true
def stB(s:Hs.Sut)(b:BS)(d n:Int)(l:List Int):BS:=if stE s b d n l=0 then(b.act (dj d n l)).state (d,n) l else b
theorem Xb(h:BuM s b ix M):∀j∈ix.sp,j<M.length:=fun j hj=>h.lt j (by simp only[Ix.all,List.mem_append];exact .inr hj)
theorem Qu{k:Nat}{l:List Int}:PO.okL k (.row [sdC (⟨l,0⟩:Std)]):=sJ
theorem kJ(h:BuM s b ix M)(hS:Hs.SuP s)(d n:Int)(l:List Int)(hl:l.length<=1000):Step G s 73 [.pp ix.row 1 0 0,I d,I n,.pub (eI l)] b ix M (stE s b d n l) (stB s b d n l):=by
 have cR:CondQ G (.fnm 163 [] [.pub (.ptr [eI l]),.pp M.length 1 0 0,.pub (.ptr [ei d]),.pub (.ptr [ei n])]) (M++[.row [[.pp ix.row 1 0 0]]]) (M++[.row [[.pp ix.row 1 0 0]]]) (stR s d n l):=
  yk (f227 s hS b l hl d n) fun xs=>.cons .r (.cons (vW h xs) (.cons .r (.cons .r .nil)))
 have cN:CondQ G (.fnm 165 [] [.pp M.length 1 0 0,.pub (.ptr [ei d,ei n])]) (M++[.row [[.pp ix.row 1 0 0]]]) (M++[.row [[.pp ix.row 1 0 0]]]) (jf b (d,n)).isNone:=
  yk (f229 s b (d,n)) fun xs=>.cons (vW h xs) (.cons .r .nil)
 have cH:CondQ G (.pub (.fn 166 [] [])) (M++[.row [[.pp ix.row 1 0 0]]]) (M++[.row [[.pp ix.row 1 0 0]]]) true:=Oa f230
 by_cases e:stE s b d n l=0
 ·have hs:jf b (d,n)=none:=by simpa using(jA e).2.2.1
  have hq:=da (t0:=268) (x0:=.agg [ei d,ei n,eI l]) (h.app (xs:=[.row [[.pp ix.row 1 0 0]]])) h.app rfl id cR cN.cell cH.cell (fun _=>cN) (fun _ _ _=>cH) e;have hm:=Ja h d n l hl hs hq;have h2:=h.app (xs:=[.row [[.pp ix.row 1 0 0]]])|>.act (dj d n l);have hlen:(qK s b ix (dj d n l) (M++[.row [[.pp ix.row 1 0 0]]])).length=M.length+1:=by rw[jE];simp
  have hN:(qK s b ix (dj d n l) (M++[.row [[.pp ix.row 1 0 0]]])++[PO.row [sdC (⟨l,0⟩:Std)]])[M.length+1]?=some (.row [sdC ⟨l,0⟩]):=by
   rw[zL4 oM,hlen];simp
  have hnew:M.length+1∉ix.all:=fun hk=>by have:=h.lt _ hk;omega
  rw[e,stB,zLc e];refine⟨ix.more (M.length+1),_,(h2.app (xs:=[PO.row [sdC (⟨l,0⟩:Std)]])).state (d,n) l hN hnew,⟨?_,fun j hj hn=>?_,fun j hj=>?_,Y,fun hk=>?_,fun j hj=>?_⟩,hm⟩
  ·rw[zL2,List.length_append,hlen];exact Nat.le_add_right_of_le (Nat.le_succ _)
  ·rw[zLn (fun e2=>hn (by rw[←e2];simp[Ix.all])),zLf oM,(xt (h.app (xs:=[.row [[.pp ix.row 1 0 0]]]))).old j (by simp;omega) hn,zLf hj]
  ·rw[Ez,List.mem_append]at hj;rcases hj with hj|hj
   ·exact .inl hj
   ·rw[zLh]at hj;exact .inr oM
  ·have a1:zW (M++[PO.row [[EV.pp ix.row 1 0 0]]]).length (M++[PO.row [[EV.pp ix.row 1 0 0]]]):=xy hk (by
    intro r hr x hx;rw[zLh]at hr;subst hr;rw[zLh]at hx;subst hx;have:=h.lt ix.row (by simp[Ix.all]);simp only[EV.lt];omega)
   have a2:=xy (vK (h.app (xs:=[.row [[.pp ix.row 1 0 0]]])) (a:=dj d n l) a1) (x:=PO.row [sdC (⟨l,0⟩:Std)]) Qu;rw[zL2];refine qY a2 (O9 fun j hj=>?_);rw[List.length_append,hlen];rcases List.mem_append.1 hj with hj|hj
   ·have:=Xb h j hj;simp;omega
   ·rw[zLh]at hj;simp;omega
  ·exact((rY (xs:=[PO.row [[EV.pp ix.row 1 0 0]]]) hj).trans ((xt (h.app (xs:=[PO.row [[EV.pp ix.row 1 0 0]]])) (a:=dj d n l)).lk j (by simp;omega))).trans ((rY oM).trans (yU (ql h2.said) j))
 ·rw[stB,zLy e];exact⟨ix,M,h,Fr.refl,I4 h d n l hl e (de h.app h.app Y id cR cN.cell cH.cell (fun _=>cN) (fun _ _ _=>cH) e)⟩
-- Came
def FV(d n c:Int):AV:=.ifc 270 (.agg [ei d,ei n,ei c])
def cmR(s:Hs.Sut)(d n c:Int):Bool:=Hs.inB d 0 (s.days-1)&&Hs.inB n 0 ((s.wts.length:Int)-1)&&Hs.inB c 1 (xc s.cls-1)
def cmN(b:BS)(p:Int × Int):Bool:=match jf b p with|none=>true|some e=>decide (e.came=0)
def cmE(s:Hs.Sut)(b:BS)(d n c:Int):Int:=xp (cmR s d n c) b.acts.length (cmN b (d,n)) (jf b (d,n)).isSome
def cmB(s:Hs.Sut)(b:BS)(d n c:Int):BS:=if cmE s b d n c=0 then(b.act (FV d n c)).came (d,n) c else b
theorem xN(h:BuM s b ix M)(hS:Hs.SuP s)(hu:SdU b)(d n c:Int):Step G s 74 [.pp ix.row 1 0 0,I d,I n,I c] b ix M (cmE s b d n c) (cmB s b d n c):=by
 have cR:CondQ G (.fnm 167 [] [.pp M.length 1 0 0,.pub (.ptr [ei d]),.pub (.ptr [ei n]),.pub (.ptr [ei c])]) (M++[.row [[.pp ix.row 1 0 0]]]) (M++[.row [[.pp ix.row 1 0 0]]]) (cmR s d n c):=
  yk (f231 s hS b d n c) fun xs=>.cons (vW h xs) (.cons .r (.cons .r (.cons .r .nil)))
 have cN:CondQ G (.fnm 168 [] [.pp M.length 1 0 0,.pub (.ptr [ei d,ei n])]) (M++[.row [[.pp ix.row 1 0 0]]]) (M++[.row [[.pp ix.row 1 0 0]]]) (cmN b (d,n)):=by
  unfold cmN;cases hs:jf b (d,n)with
  |none=>exact yk (CC s b (d,n) hs) fun xs=>.cons (vW h xs) (.cons .r .nil)
  |some e=>exact yk (CG s b (d,n) e hs) fun xs=>.cons (vW h xs) (.cons .r .nil)
 have cH:CondQ G (.fnm 169 [] [.pp M.length 1 0 0,.pub (.ptr [ei d,ei n])]) (M++[.row [[.pp ix.row 1 0 0]]]) (M++[.row [[.pp ix.row 1 0 0]]]) (jf b (d,n)).isSome:=
  yk (f233 s b (d,n)) fun xs=>.cons (vW h xs) (.cons .r .nil)
 by_cases e:cmE s b d n c=0
 ·obtain⟨x,hs⟩:=Option.isSome_iff_exists.1 (jA e).2.2.2;obtain⟨i,hi⟩:=Dk hs;have hil:i<ix.sp.length:=by rw[h.spl];exact(zLg hi).1
  have hk:ix.sp[i]?=some ix.sp[i]:=zLe hil;have hq:=da (t0:=270) (x0:=.agg [ei d,ei n,ei c]) (h.app (xs:=[.row [[.pp ix.row 1 0 0]]])) h.app rfl id cR cN.cell cH.cell (fun _=>cN) (fun _ _ _=>cH) e;have hkk:ix.sp[i]∈ix.sp:=zLm hil;rw[e,cmB,zLc e];refine⟨ix,_,(h.act (FV d n c)).came hu hi hk c,⟨?_,fun j hj hn=>?_,fun _ h=>.inl h,Y,fun hm=>?_,fun j hj=>?_⟩,Jr h d n c hu hi hk hq⟩
  ·rw[zL2,jE];exact zLl _
  ·rw[zLn (fun e2=>hn (by rw[←e2];simp only[Ix.all,List.mem_append];exact .inr hkk)),(xt h).old j hj hn]
  ·rw[zL2];exact qY (vK h hm) sJ
  ·exact((xt h).lk j hj).trans (yl ((h.act (FV d n c)).sp i _ _ hk hi) sI j)
 ·rw[cmB,zLy e];exact⟨ix,M,h,Fr.refl,IM h d n c e (de h.app h.app Y id cR cN.cell cH.cell (fun _=>cN) (fun _ _ _=>cH) e)⟩
def yO(s:Hs.Sut)(i:Int):Hs.BSt:=s.st.getD i.toNat ⟨⟨0,0,0,0,0,0,0,0,[]⟩,0⟩
theorem pu{i:Nat}(hi:i<s.st.length):yO s (i:Int)=s.st[i]:=by simp[yO,hi]
theorem pK{i:Int}(h:Hs.inB i 0 ((s.st.length:Int)-1)=true):∃n:Nat,i=(n:Int)/\n<s.st.length:=by
 rw[Hs.inB_iff]at h;exact⟨i.toNat,oM,oM⟩
def Nk(i:Int)(r:Rdg):AV:=.ifc 257 (.agg (ei i::qF r))
def rdR(s:Hs.Sut)(i:Int)(r:Rdg):Bool:=Hs.inB i 0 ((s.st.length:Int)-1)&&Hs.inB r.day 0 (s.days-1)&&rdB r
def gi(s:Hs.Sut)(i:Int)(r:Rdg):Int:=knL (yO s i).g r
def mw(s:Hs.Sut)(i:Int)(r:Rdg):Int:=min (knH (yO s i).g r) 99999
def rdE(s:Hs.Sut)(b:BS)(i:Int)(r:Rdg):Int:=xp (rdR s i r) b.acts.length (vC b r.day) (decide (gi s i r<=99999)&&drB (wiM s (jw b r.day) (yO s i).pt (gi s i r) (mw s i r)))
def rdS(s:Hs.Sut)(b:BS)(i:Int)(r:Rdg):BS:=if rdE s b i r=0 then(b.act (Nk i r)).put r.day.toNat ⟨(yO s i).pt,gi s i r,mw s i r⟩else b
theorem Ab{xs:TP}{X Y Z:PO}:((M++[X,Y])++xs).set (M.length+1) Z=(M++[X,Z])++xs:=by
 rw[jX sI,aS rfl];rfl
theorem VR(h:BuM s b ix M){k:Nat}:M.length+k∉ix.all:=fun hk=>by have:=h.lt _ hk;omega
theorem dT{xs ys:TP}{n:Nat}(h:zW n (M++xs))(hy:zW n ys):zW n (M++ys):=bB (dK h) hy
theorem Hn{n:Nat}(h:ix.row<n):PO.okL n (.row [[.pp ix.row 1 0 0]]):=fun r hr x hx=>by
 rw[zLh]at hr;subst hr;rw[zLh]at hx;subst hx;simpa only[EV.lt]using h
abbrev BXp(ix:Ix):PO:=.row [[.pp ix.row 1 0 0]]
abbrev SEp(u v:Int):PO:=.row [[I u,I v]]
theorem JB(h:BuM s b ix M)(hS:Hs.SuP s)(i:Int)(r:Rdg):∃u v:Int,(rdR s i r=true->u=gi s i r/\v=mw s i r)/\
  CondQ G (.fnm 146 [] [.pp M.length 1 0 0,.pub (.ptr [ei i]),.pub (.ptr (qF r)),.pp (M.length+1) 1 0 0]) (M++[BXp ix,SEp 0 0]) (M++[BXp ix,SEp u v]) (rdR s i r):=by
 cases h1:Hs.inB i 0 ((s.st.length:Int)-1)with
 |false=>
  have e:rdR s i r=false:=by simp[rdR,h1]
  refine⟨0,0,fun hh=>by(rw[e]at hh;cases hh),?_⟩;rw[e];exact⟨⟨146,[],_,⟨Y,Y,Y⟩,fun xs=>J9 (G:=G) (h.app (xs:=[BXp ix,SEp 0 0])|>.app (xs:=xs)) hS (q:=M.length+1) (ql (at_k (xs:=[BXp ix,SEp 0 0]) 0)) i r h1⟩,fun m=>rfl⟩
 |true=>
  cases h2:Hs.inB r.day 0 (s.days-1)with
  |false=>
   have e:rdR s i r=false:=by simp[rdR,h2]
   refine⟨0,0,fun hh=>by(rw[e]at hh;cases hh),?_⟩;rw[e];exact⟨⟨146,[],_,⟨Y,Y,Y⟩,fun xs=>KI (G:=G) (h.app (xs:=[BXp ix,SEp 0 0])|>.app (xs:=xs)) hS (q:=M.length+1) (ql (at_k (xs:=[BXp ix,SEp 0 0]) 0)) i r h1 h2⟩,fun m=>rfl⟩
  |true=>
   obtain⟨k,rfl,hk⟩:=pK h1;have hst:=hS.st _ (zLm hk);cases h3:rdB r with
   |false=>
    have e:rdR s (k:Int) r=false:=by simp[rdR,h3]
    refine⟨0,0,fun hh=>by(rw[e]at hh;cases hh),?_⟩;rw[e];refine⟨⟨146,[],_,⟨Y,Y,Y⟩,fun xs=>?_⟩,fun m=>rfl⟩;have:=S4 (G:=G) (h.app (xs:=[BXp ix,SEp 0 0])|>.app (xs:=xs)) hS (ql (at_k (xs:=[BXp ix,SEp 0 0]) 0)) (q:=M.length+1) (ql (at_k (xs:=[BXp ix,SEp 0 0]) 1)) (VR h) oM k hk r h2 (zbj hst.2.1 r h3);rw[Ab]at this;exact this
   |true=>
    have e:rdR s (k:Int) r=true:=by simp[rdR,h1,h2,h3]
    refine⟨gi s k r,mw s k r,fun _=>⟨Y,Y⟩,?_⟩;rw[e];refine⟨⟨146,[],_,⟨Y,Y,Y⟩,fun xs=>?_⟩,fun m=>rfl⟩;have:=S4 (G:=G) (h.app (xs:=[BXp ix,SEp 0 0])|>.app (xs:=xs)) hS (ql (at_k (xs:=[BXp ix,SEp 0 0]) 0)) (q:=M.length+1) (ql (at_k (xs:=[BXp ix,SEp 0 0]) 1)) (VR h) oM k hk r h2 (f39 hst.2.1 hst.2.2 r h3);rw[Ab]at this;unfold gi mw;rw[pu hk];exact this
theorem lS(h:BuM s b ix M)(hS:Hs.SuP s)(hI:BI s b)(i:Int)(r:Rdg):Step G s 70 [.pp ix.row 1 0 0,I i,.pub (.agg (qF r))] b ix M (rdE s b i r) (rdS s b i r):=by
 obtain⟨u,v,huv,cR⟩:=JB (G:=G) h hS i r;have hB:BuM s b ix (M++[BXp ix,SEp u v]):=h.app;have dR:rdR s i r=true->Hs.inB i 0 ((s.st.length:Int)-1)=true/\Hs.inB r.day 0 (s.days-1)=true:=fun hh=>by simp only[rdR,zLa]at hh;exact hh.1
 have hok:zW (M++[BXp ix,SEp 0 0]).length (M++[BXp ix,SEp 0 0])->zW (M++[BXp ix,SEp u v]).length (M++[BXp ix,SEp u v]):=fun hm=>by
  have e:(M++[BXp ix,SEp u v]).length=(M++[BXp ix,SEp 0 0]).length:=sI;rw[e];refine dT hm ⟨Hn ?_,nB,trivial⟩;have:=h.lt ix.row (by simp[Ix.all]);simp;omega
 have dv:∀xs:TP,DV ((M++[BXp ix,SEp u v])++xs) (.pp M.length 1 0 0) (.ptr [.ptr (eBu s b)]):=fun xs=>Xr h [SEp u v] xs;have dq:∀xs:TP,DV ((M++[BXp ix,SEp u v])++xs) (.pp (M.length+1) 1 0 0) (.ptr [ei u,ei v]):=fun xs=>.pp (ql (at_k 1)) rfl rfl (.cons .r (.cons .r .nil))
 have cN:rdR s i r=true->CondQ G (.fnm 148 [] [.pp M.length 1 0 0,.pub (.ptr (qF r))]) (M++[BXp ix,SEp u v]) (M++[BXp ix,SEp u v]) (vC b r.day):=fun hh=>by
  obtain⟨k,hd,hk,_⟩:=wJ hI (dR hh).2;rw[vC,hd,yI hk];exact yk (f213 s b k hk r hd) fun xs=>.cons (dv xs) (.cons .r .nil)
 have cH:rdR s i r=true->b.acts.length<60->vC b r.day=true->CondQ G (.fnm 150 [] [.pp (M.length+1) 1 0 0,.pp M.length 1 0 0,.pub (.ptr (qF r)),.pub (.ptr [ei i])]) (M++[BXp ix,SEp u v]) (M++[BXp ix,SEp u v]) (decide (gi s i r<=99999)&&drB (wiM s (jw b r.day) (yO s i).pt (gi s i r) (mw s i r))):=fun hh _ _=>by
  obtain⟨e1,e2⟩:=huv hh;obtain⟨k,hd,hk,_⟩:=wJ hI (dR hh).2;obtain⟨j,rfl,hj⟩:=pK (dR hh).1;have hl:=hI.m12 _ (zLm hk);rw[←e1,←e2,hd,yI hk,pu hj];exact yk (f215 s b k hk oM j hj r hd u v) fun xs=>.cons (dq xs) (.cons (dv xs) (.cons .r (.cons .r .nil)))
 have k1:∀m:TP,qn m (.fnm 148 [] [.pp M.length 1 0 0,.pub (.ptr (qF r))]) [.fnm 148 [] [.pp M.length 1 0 0,.pub (.ptr (qF r))]]:=fun m=>rfl;have k2:∀m:TP,qn m (.fnm 150 [] [.pp (M.length+1) 1 0 0,.pp M.length 1 0 0,.pub (.ptr (qF r)),.pub (.ptr [ei i])]) [.fnm 150 [] [.pp (M.length+1) 1 0 0,.pp M.length 1 0 0,.pub (.ptr (qF r)),.pub (.ptr [ei i])]]:=fun m=>rfl
 by_cases e:rdE s b i r=0
 ·obtain⟨e1,e2,e3,e4⟩:=jA e;obtain⟨k,hd,hk,_⟩:=wJ hI (dR e1).2;obtain⟨j,rfl,hj⟩:=pK (dR e1).1;have hl:=hI.m12 _ (zLm hk);have hq:=da (t0:=257) (x0:=.agg (ei (j:Int)::qF r)) (h.app (xs:=[BXp ix,SEp 0 0])) hB sI hok cR k1 k2 cN cH e;have hm:=Kz h j hj r k hd hk oM hq;obtain⟨u1,v1⟩:=huv e1;rw[e,rdS,zLc e,←u1,←v1,pu hj];have ed:r.day.toNat=k:=oM;rw[ed];exact⟨ix,_,(h.act (Nk (j:Int) r)).put k ⟨(s.st[j]).pt,u,v⟩,(xt h).trans (tl (h.act _)),hm⟩
 ·rw[rdS,zLy e];exact⟨ix,M,h,Fr.refl,Js h i r e (de (h.app (xs:=[BXp ix,SEp 0 0])) hB sI hok cR k1 k2 cN cH e)⟩
end Bu
end Go.Av
namespace Go.Av
namespace Bu
open Go.Proofs Tryz Go.Proofs.Wr
variable{G:Glob}{s:Hs.Sut}{b:BS}{ix:Ix}{M:TP}
def A3(i d:Int)(l:TC):AV:=.ifc 263 (.agg [ei i,ei d,Wr.eCps l])
def wrR(s:Hs.Sut)(i d:Int)(l:TC):Bool:=Hs.inB i 0 ((s.st.length:Int)-1)&&Hs.inB d 0 (s.days-1)&&(decide (Wr.fndE s.code l=0)||decide (Wr.fndE s.code l=5))
def wrV(s:Hs.Sut)(l:TC):Int × Int:=foV (Wr.fndL s.code l) (0,0) (Wr.fndL s.code l).length
def wrC(s:Hs.Sut)(l:TC):Int:=Wr.costI ⟨s.op,s.fr,s.mo⟩ ((s.code.fields.length:Int)+1) (l.length:Int)
def wrE(s:Hs.Sut)(b:BS)(i d:Int)(l:TC):Int:=xp (wrR s i d l) b.acts.length (vC b d) (decide (Wr.fndE s.code l=0)&&drB (wiM s (jw b d) (yO s i).pt (wrV s l).1 (wrV s l).2))
def wrS(s:Hs.Sut)(b:BS)(i d:Int)(l:TC):BS:=if wrE s b i d l=0 then((b.act (A3 i d l)).put d.toNat ⟨(yO s i).pt,(wrV s l).1,(wrV s l).2⟩).pay (wrC s l)else b
variable{c:Wr.Cod}
theorem Ft{l:TC}(hc:Wr.codB c=true):∀m∈Wr.fndL c l,0<m.length:=fun m hm=>by
 unfold Wr.fndL at hm
 by_cases h:Wr.askE c l=0
 ·rw[zLc h]at hm;obtain⟨h1,h2,h3,h4⟩:=Wr.askE_0 h;have:=Wr.msg_len ((Wr.mem_msgs h1 h2 h4).1 hm).1;have:=(Wr.cod_bd hc).1;omega
 ·rw[zLy h]at hm;simp at hm
theorem HE{l:TC}(h:Wr.fndE c l=0):1<=l.length/\l.length<=3:=by
 unfold Wr.fndE at h
 by_cases h0:Wr.askE c l=0
 ·obtain⟨_,h2,h3,_⟩:=Wr.askE_0 h0;exact⟨h3,h2⟩
 ·rw[zLy h0]at h;exact absurd h h0
abbrev CBp(c:Bool):PO:=.row [[.pub (.v (.bool c))]]
theorem EG{xs:TP}{X Y Z Y' Z':PO}:(((M++[X,.dead,.dead,Y,Z])++xs).set (M.length+3) Y').set (M.length+4) Z'=(M++[X,.dead,.dead,Y',Z'])++xs:=by
 rw[jX sI,aS rfl,jX sI,aS rfl];rfl
theorem Jz(h:BuM s b ix M)(hS:Hs.SuP s)(i d:Int)(l:TC)(hl:l.length<=1000)(hgl:∀c∈l,c.length<=1000):∃(u v:Int)(c:Bool),(wrR s i d l=true->(u,v)=wrV s l/\c=decide (Wr.fndE s.code l=0))/\
  CondQ G (.fnm 155 [] [.pp M.length 1 0 0,.pub (.ptr [ei i]),.pub (.ptr [ei d]),.pub (.ptr [Wr.eCps l]),.pp (M.length+3) 1 0 0,.pp (M.length+4) 1 0 0]) (M++[BXp ix,.dead,.dead,SEp 0 0,CBp false]) (M++[BXp ix,.dead,.dead,SEp u v,CBp c]) (wrR s i d l):=by
 have at0:∀xs:TP,((M++[BXp ix,.dead,.dead,SEp 0 0,CBp false])++xs)[M.length]?=some (BXp ix):=fun xs=>ql (at_k (xs:=[BXp ix,.dead,.dead,SEp 0 0,CBp false]) 0);cases h1:Hs.inB i 0 ((s.st.length:Int)-1)with
 |false=>
  have e:wrR s i d l=false:=by simp[wrR,h1]
  refine⟨0,0,false,fun hh=>by(rw[e]at hh;cases hh),?_⟩;rw[e];exact⟨⟨155,[],_,⟨Y,Y,Y⟩,fun xs=>Ji (G:=G) (h.app (xs:=[BXp ix,.dead,.dead,SEp 0 0,CBp false])|>.app (xs:=xs)) hS (q:=M.length+3) (at0 xs) i d l h1⟩,fun m=>rfl⟩
 |true=>
  cases h2:Hs.inB d 0 (s.days-1)with
  |false=>
   have e:wrR s i d l=false:=by simp[wrR,h2]
   refine⟨0,0,false,fun hh=>by(rw[e]at hh;cases hh),?_⟩;rw[e];exact⟨⟨155,[],_,⟨Y,Y,Y⟩,fun xs=>KQ (G:=G) (h.app (xs:=[BXp ix,.dead,.dead,SEp 0 0,CBp false])|>.app (xs:=xs)) hS (q:=M.length+3) (at0 xs) i d l h1 h2⟩,fun m=>rfl⟩
  |true=>
   have e:wrR s i d l=(decide (Wr.fndE s.code l=0)||decide (Wr.fndE s.code l=5)):=by simp[wrR,h1,h2]
   refine⟨(wrV s l).1,(wrV s l).2,decide (Wr.fndE s.code l=0),fun _=>⟨Y,Y⟩,?_⟩;rw[e];refine⟨⟨155,[],_,⟨Y,Y,Y⟩,fun xs=>?_⟩,fun m=>rfl⟩;have:=zbd (G:=G) (h.app (xs:=[BXp ix,.dead,.dead,SEp 0 0,CBp false])|>.app (xs:=xs)) hS (at0 xs) (q:=M.length+3) (x:=0) (y:=0) (ql (at_k (xs:=[BXp ix,.dead,.dead,SEp 0 0,CBp false]) 3)) (p:=M.length+4) (ql (at_k (xs:=[BXp ix,.dead,.dead,SEp 0 0,CBp false]) 4)) oM i d h1 h2 l hl hgl (Ft hS.code);rw[EG]at this;exact this
theorem xM(h:BuM s b ix M)(hS:Hs.SuP s)(hI:BI s b)(i d:Int)(l:TC)(hl:l.length<=1000)(hgl:∀c∈l,c.length<=1000):Step G s 71 [.pp ix.row 1 0 0,I i,I d,.pub (Wr.eCps l)] b ix M (wrE s b i d l) (wrS s b i d l):=by
 obtain⟨u,v,c,huv,cR⟩:=Jz (G:=G) h hS i d l hl hgl;have hB:BuM s b ix (M++[BXp ix,.dead,.dead,SEp u v,CBp c]):=h.app;have dR:wrR s i d l=true->Hs.inB i 0 ((s.st.length:Int)-1)=true/\Hs.inB d 0 (s.days-1)=true:=fun hh=>by simp only[wrR,zLa]at hh;exact hh.1
 have hok:zW (M++[BXp ix,.dead,.dead,SEp 0 0,CBp false]).length (M++[BXp ix,.dead,.dead,SEp 0 0,CBp false])->zW (M++[BXp ix,.dead,.dead,SEp u v,CBp c]).length (M++[BXp ix,.dead,.dead,SEp u v,CBp c]):=fun hm=>by
  have e:(M++[BXp ix,.dead,.dead,SEp u v,CBp c]).length=(M++[BXp ix,.dead,.dead,SEp 0 0,CBp false]).length:=sI;rw[e];refine dT hm ⟨Hn ?_,trivial,trivial,nB,?_,trivial⟩
  ·have:=h.lt ix.row (by simp[Ix.all]);simp;omega
  ·intro r hr x hx;rw[zLh]at hr;subst hr;rw[zLh]at hx;subst hx;simp[EV.lt]
 have dv:∀xs:TP,DV ((M++[BXp ix,.dead,.dead,SEp u v,CBp c])++xs) (.pp M.length 1 0 0) (.ptr [.ptr (eBu s b)]):=fun xs=>Xr h [.dead,.dead,SEp u v,CBp c] xs;have dq:∀xs:TP,DV ((M++[BXp ix,.dead,.dead,SEp u v,CBp c])++xs) (.pp (M.length+3) 1 0 0) (.ptr [ei u,ei v]):=fun xs=>.pp (ql (at_k 3)) rfl rfl (.cons .r (.cons .r .nil));have dp:∀xs:TP,DV ((M++[BXp ix,.dead,.dead,SEp u v,CBp c])++xs) (.pp (M.length+4) 1 0 0) (.ptr [.v (.bool c)]):=fun xs=>.pp (ql (at_k 4)) rfl rfl (.cons .r .nil)
 have cN:wrR s i d l=true->CondQ G (.fnm 156 [] [.pp M.length 1 0 0,.pub (.ptr [ei d])]) (M++[BXp ix,.dead,.dead,SEp u v,CBp c]) (M++[BXp ix,.dead,.dead,SEp u v,CBp c]) (vC b d):=fun hh=>by
  obtain⟨k,rfl,hk,_⟩:=wJ hI (dR hh).2;rw[vC,yI hk];exact yk (f221 s b k hk) fun xs=>.cons (dv xs) (.cons .r .nil)
 have cH:wrR s i d l=true->b.acts.length<60->vC b d=true->CondQ G (.fnm 157 [] [.pp (M.length+4) 1 0 0,.pp M.length 1 0 0,.pub (.ptr [ei d]),.pub (.ptr [ei i]),.pp (M.length+3) 1 0 0]) (M++[BXp ix,.dead,.dead,SEp u v,CBp c]) (M++[BXp ix,.dead,.dead,SEp u v,CBp c]) (decide (Wr.fndE s.code l=0)&&drB (wiM s (jw b d) (yO s i).pt (wrV s l).1 (wrV s l).2)):=fun hh _ _=>by
  obtain⟨e1,e2⟩:=huv hh;obtain⟨k,rfl,hk,_⟩:=wJ hI (dR hh).2;obtain⟨j,rfl,hj⟩:=pK (dR hh).1;have hlm:=hI.m12 _ (zLm hk);rw[←e1,←e2,yI hk,pu hj];exact yk (f222 s b k hk oM j hj c u v) fun xs=>.cons (dp xs) (.cons (dv xs) (.cons .r (.cons .r (.cons (dq xs) .nil))))
 have k1:∀m:TP,qn m (.fnm 156 [] [.pp M.length 1 0 0,.pub (.ptr [ei d])]) [.fnm 156 [] [.pp M.length 1 0 0,.pub (.ptr [ei d])]]:=fun m=>rfl;have k2:∀m:TP,qn m (.fnm 157 [] [.pp (M.length+4) 1 0 0,.pp M.length 1 0 0,.pub (.ptr [ei d]),.pub (.ptr [ei i]),.pp (M.length+3) 1 0 0]) [.fnm 157 [] [.pp (M.length+4) 1 0 0,.pp M.length 1 0 0,.pub (.ptr [ei d]),.pub (.ptr [ei i]),.pp (M.length+3) 1 0 0]]:=fun m=>rfl
 by_cases e:wrE s b i d l=0
 ·obtain⟨e1,e2,e3,e4⟩:=jA e;obtain⟨k,rfl,hk,_⟩:=wJ hI (dR e1).2;obtain⟨j,rfl,hj⟩:=pK (dR e1).1;have hlm:=hI.m12 _ (zLm hk);have hf:Wr.fndE s.code l=0:=by simp only[zLa,zLd]at e4;exact e4.1
  have hco:=hI.co;have ha:=hI.a60;have hq:=da (t0:=263) (x0:=.agg [ei (j:Int),ei (k:Int),Wr.eCps l]) (h.app (xs:=[BXp ix,.dead,.dead,SEp 0 0,CBp false])) hB sI hok cR k1 k2 cN cH e;have hm:=KH h l hl hgl hS (HE hf) j k hj hk oM oM hq;obtain⟨u1,c1⟩:=huv e1;rw[e,wrS,zLc e,←u1,pu hj];exact⟨ix,_,((h.act (A3 (j:Int) (k:Int) l)).put k ⟨(s.st[j]).pt,u,v⟩).pay (wrC s l),((xt h).trans (tl (h.act _))).trans (Oz ((h.act _).put k _)),hm⟩
 ·rw[wrS,zLy e];exact⟨ix,M,h,Fr.refl,II h l hl hgl i d e (de (h.app (xs:=[BXp ix,.dead,.dead,SEp 0 0,CBp false])) hB sI hok cR k1 k2 cN cH e)⟩
end Bu
end Go.Av
namespace Go.Av
namespace Bu
open Go.Proofs Tryz
variable{G:Glob}{s:Hs.Sut}{b:BS}{ix:Ix}{M:TP}
theorem BI.put{a:AV}{d:Int}{t:Ct.Stn}(hI:BI s b)(ha:b.acts.length<60)(hd:Hs.inB d 0 (s.days-1)=true)(hr:vC b d=true):BI s ((b.act a).put d.toNat t):=by
 obtain⟨k,rfl,hk,_⟩:=wJ hI hd;rw[vC,yI hk,zLd]at hr;have hc:=hI.co;refine⟨by simp[BS.put,BS.act];exact hI.ml,hI.sl,fun l hl=>?_,hI.un,hI.r12,by simp[BS.put,BS.act];omega,by simp[BS.put,BS.act];omega⟩;simp only[BS.put,BS.act,Int.toNat_natCast]at hl;rcases List.mem_or_eq_of_mem_set hl with h|h
 ·exact hI.m12 l h
 ·subst h;simp only[zLv,zLe hk,Option.getD_some,List.length_append,List.length_singleton];omega
theorem BI.read(hI:BI s b)(i:Int)(r:Rdg):BI s (rdS s b i r):=by
 unfold rdS;split
 ·rename_i e
  obtain⟨e1,e2,e3,_⟩:=jA e;simp only[rdR,zLa]at e1;exact hI.put e2 e1.1.2 e3
 ·exact hI
theorem BI.ship(hI:BI s b)(n d pt lo hi:Int):BI s (aw s b n d pt lo hi):=by
 unfold aw;split
 ·rename_i e
  obtain⟨e1,e2,e3,_⟩:=jA e;simp only[shR,zLa]at e1;have h:=hI.put (a:=HY n d pt lo hi) (t:=⟨pt,lo,hi⟩) e2 e1.1.1.1.1.2 e3;exact⟨h.ml,by simp only[BS.ship,zL2];exact h.sl,h.m12,h.un,h.r12,h.a60,h.co⟩
 ·exact hI
theorem BI.wire(hS:Hs.SuP s)(hI:BI s b)(i d:Int)(l:TC):BI s (wrS s b i d l):=by
 unfold wrS;split
 ·rename_i e
  obtain⟨e1,e2,e3,e4⟩:=jA e;simp only[wrR,zLa]at e1;simp only[zLa,zLd]at e4;have h:=hI.put (a:=A3 i d l) (t:=⟨(yO s i).pt,(wrV s l).1,(wrV s l).2⟩) e2 e1.1.2 e3;have hn:=HE e4.1;have hcd:=Wr.cod_bd hS.code;have hc:=mx (w:=(s.code.fields.length:Int)+1) (n:=(l.length:Int)) hS.tar oM oM;have h1:=hI.co;refine⟨h.ml,h.sl,h.m12,h.un,h.r12,h.a60,?_⟩;simp only[BS.pay,BS.put,BS.act,wrC,List.length_append,List.length_singleton];omega
 ·exact hI
theorem BI.rep(hI:BI s b)(r:Hs.Rep):BI s (wW s b r):=by
 unfold wW;split
 ·rename_i e
  obtain⟨e1,e2,e3,_⟩:=jA e;simp only[zLd]at e3;have h1:=hI.co;exact⟨hI.ml,hI.sl,hI.m12,hI.un,by simp[BS.rep,BS.act];omega,by simp[BS.rep,BS.act];omega,by simp[BS.rep,BS.act];omega⟩
 ·exact hI
theorem BI.state(hI:BI s b)(d n:Int)(l:List Int):BI s (stB s b d n l):=by
 unfold stB;split
 ·rename_i e
  obtain⟨e1,e2,e3,_⟩:=jA e;have h1:=hI.co;have hs:jf b (d,n)=none:=by simpa using e3
  refine⟨hI.ml,hI.sl,hI.m12,?_,hI.r12,by simp[BS.state,BS.act];omega,by simp[BS.state,BS.act];omega⟩;unfold SdU;simp only[BS.state,BS.act,List.map_append,List.map_cons,List.map_nil,List.nodup_append];refine⟨hI.un,sI,fun a ha c hc=>?_⟩;rw[zLh]at hc;subst hc;obtain⟨x,hx,rfl⟩:=zLj.1 ha;exact li hs x hx
 ·exact hI
theorem BI.came(hI:BI s b)(d n c:Int):BI s (cmB s b d n c):=by
 unfold cmB;split
 ·rename_i e
  obtain⟨e1,e2,e3,_⟩:=jA e;have h1:=hI.co;refine⟨hI.ml,hI.sl,hI.m12,?_,hI.r12,by simp[BS.came,BS.act];omega,by simp[BS.came,BS.act];omega⟩
  have:(kV (d,n) c b.said).map (·.1)=b.said.map (·.1):=by
   simp only[kV,List.map_map];exact List.map_congr_left fun x _=>by simp only[Function.comp];split<;>rfl
  unfold SdU;simp only[BS.came,BS.act];rw[this];exact hI.un
 ·exact hI
end Bu
end Go.Av
namespace Go.Av
namespace Bu
open Go.Proofs Tryz
variable{G:Glob}
theorem fG{fr:Nat->EV}{mem:TP}{o:Oper}{x:Operand}{x0 x1:Int}{l:List Int}(ho:o.op=.slice 24 x (some (.const (.int .i64 2))) none none)(hx:evO fr x=.pub (eI (x0::x1::l))):OpY tP G fr mem o (.pub (eI l)):=by
 have:=Bf (P:=tP) (G:=G) (mem:=mem) (rows:=(x0::x1::l).map fun n=>[ei n]) ho hx (rfl:nm fr (some (.const (.int .i64 2))) 0 2) (rfl:nm fr none _ _) zY zn oM (by simp;omega) oM
 have e:(((x0::x1::l).map fun n=>[ei n]).take ((((x0::x1::l).map fun n=>[ei n]).length:Int)).toNat).drop (2:Int).toNat=l.map fun n=>[ei n]:=by
  rw[Int.toNat_natCast,List.take_length];rfl
 rw[e]at this;exact this
variable{M M2:TP}{R:Nat}{e:Int}
theorem UW(hle:M.length<=M2.length)(hlk:∀l,l<M.length->Like M M2 l)(x0 x1 x2 x3 x4 x5 x6 x7 x8 x9 x10:Int)(c:TC)(hq:zv tP G 70 [.pp R 1 0 0,I x0,.pub (.agg (qF ⟨x1,x2,x3,x4,x5,x6,x7,x8,x9,x10⟩))] M (.ret (I e) M2)):zv tP G 20 [.pp R 1 0 0,.pub (.agg (eAc ⟨1,[x0,x1,x2,x3,x4,x5,x6,x7,x8,x9,x10],c⟩))] M (.ret (I e) M2):=by
 refine mW func20 (fun gh hold hmk=>?_);refine Z27 ?_;refine nC ?_ ?_<;>intro h0
 ·skip;refine Z ?_;refine qd (fun _=>True) (fun k=>match k with|1=>.stable|2=>.stable|4=>.stable|6=>.writes|7=>.stable|_=>.here) mixed nR rfl nR trivial ?_;refine Z2 ?_;refine zC Y Y (fun m hm=>zc Y Y Y zY oM (by exact zA (ds:=[x0,x1,x2,x3,x4,x5,x6,x7,x8,x9,x10]) (i:=0) sI) zn) (Z2 ?_);refine zK Y Y (zi (av:=[_]) Y rL (f40 x0 x1 x2 x3 x4 x5 x6 x7 x8 x9 x10)) (qw Y Y (qO (av:=[.pp R 1 0 0,I x0,.pub (.agg (qF ⟨x1,x2,x3,x4,x5,x6,x7,x8,x9,x10⟩))]) Y rL hq hle hlk) trivial ?_);refine Z6 ?_
  exact fun hz=>zR [] (List.append_nil _).symm hz hle (.inr Y) (by simp[EV.lt]) Y
 ·skip;exfalso;simp at h0
theorem RF(hle:M.length<=M2.length)(hlk:∀l,l<M.length->Like M M2 l)(x0 x1:Int)(c:TC)(hq:zv tP G 71 [.pp R 1 0 0,I x0,I x1,.pub (Wr.eCps c)] M (.ret (I e) M2)):zv tP G 20 [.pp R 1 0 0,.pub (.agg (eAc ⟨2,[x0,x1],c⟩))] M (.ret (I e) M2):=by
 refine mW func20 (fun gh hold hmk=>?_);refine Z27 ?_;refine nC ?_ ?_<;>intro h0
 ·skip;exfalso;simp at h0
 ·skip;refine Z6 ?_;refine nC ?_ ?_<;>intro h1
  ·skip;refine Z ?_;refine qd (fun _=>True) (fun k=>match k with|1=>.stable|2=>.stable|4=>.stable|5=>.stable|7=>.stable|9=>.writes|10=>.stable|_=>.here) mixed nR rfl nR trivial ?_;refine Z2 ?_;refine zC Y Y (fun m hm=>zc Y Y Y zY oM (by exact zA (ds:=[x0,x1]) (i:=0) sI) zn) (Z2 ?_);refine zC Y Y (fun m hm=>zc Y Y Y zY oM (by exact zA (ds:=[x0,x1]) (i:=1) sI) zn) (Z ?_);refine zC Y Y (fun m hm=>zf Y Y fe) (Z ?_);refine qw Y Y (qO (av:=[.pp R 1 0 0,I x0,I x1,.pub (Wr.eCps c)]) Y rL hq hle hlk) trivial (Z6 ?_)
   exact fun hz=>zR [] (List.append_nil _).symm hz hle (.inr Y) (by simp[EV.lt]) Y
  ·skip;exfalso;simp at h1
theorem UR(hle:M.length<=M2.length)(hlk:∀l,l<M.length->Like M M2 l)(x0 x1 x2 x3 x4:Int)(c:TC)(hq:zv tP G 72 [.pp R 1 0 0,I x0,I x1,I x2,.pub (.agg [ei x3,ei x4])] M (.ret (I e) M2)):zv tP G 20 [.pp R 1 0 0,.pub (.agg (eAc ⟨3,[x0,x1,x2,x3,x4],c⟩))] M (.ret (I e) M2):=by
 refine mW func20 (fun gh hold hmk=>?_);refine Z27 ?_;refine nC ?_ ?_<;>intro h0
 ·skip;exfalso;simp at h0
 ·skip;refine Z6 ?_;refine nC ?_ ?_<;>intro h1
  ·skip;exfalso;simp at h1
  ·skip;refine Z6 ?_;refine nC ?_ ?_<;>intro h2
   ·skip;refine Z ?_;refine qd (fun _=>True) (fun k=>match k with|1=>.stable|2=>.stable|4=>.stable|5=>.stable|7=>.stable|8=>.stable|10=>.stable|11=>.stable|12=>.stable|13=>.stable|14=>.stable|15=>.stable|17=>.writes|18=>.stable|_=>.here) mixed nR rfl nR trivial ?_;refine Z2 ?_;refine zC Y Y (fun m hm=>zc Y Y Y zY oM (by exact zA (ds:=[x0,x1,x2,x3,x4]) (i:=0) sI) zn) (Z2 ?_);refine zC Y Y (fun m hm=>zc Y Y Y zY oM (by exact zA (ds:=[x0,x1,x2,x3,x4]) (i:=1) sI) zn) (Z2 ?_);refine zC Y Y (fun m hm=>zc Y Y Y zY oM (by exact zA (ds:=[x0,x1,x2,x3,x4]) (i:=2) sI) zn) (Z2 ?_);refine zC Y Y (fun m hm=>zc Y Y Y zY oM (by exact zA (ds:=[x0,x1,x2,x3,x4]) (i:=3) sI) zn) (Z2 ?_);refine zC Y Y (fun m hm=>zc Y Y Y zY oM (by exact zA (ds:=[x0,x1,x2,x3,x4]) (i:=4) sI) zn) (Z ?_);refine zK Y Y (zi (av:=[_,_]) Y rL (f53 x3 x4)) (qw Y Y (qO (av:=[.pp R 1 0 0,I x0,I x1,I x2,.pub (.agg [ei x3,ei x4])]) Y rL hq hle hlk) trivial ?_)
    refine Z6 ?_
    exact fun hz=>zR [] (List.append_nil _).symm hz hle (.inr Y) (by simp[EV.lt]) Y
   ·skip;exfalso;simp at h2
theorem Sm(hle:M.length<=M2.length)(hlk:∀l,l<M.length->Like M M2 l)(x0 x1 x2 x3 x4 x5 x6:Int)(c:TC)(hq:zv tP G 31 [.pp R 1 0 0,.pub (.agg (Hs.eRep ⟨x0,x1,x2,x3,x4,x5,x6⟩))] M (.ret (I e) M2)):zv tP G 20 [.pp R 1 0 0,.pub (.agg (eAc ⟨4,[x0,x1,x2,x3,x4,x5,x6],c⟩))] M (.ret (I e) M2):=by
 refine mW func20 (fun gh hold hmk=>?_);refine Z27 ?_;refine nC ?_ ?_<;>intro h0
 ·skip;exfalso;simp at h0
 ·skip;refine Z6 ?_;refine nC ?_ ?_<;>intro h1
  ·skip;exfalso;simp at h1
  ·skip;refine Z6 ?_;refine nC ?_ ?_<;>intro h2
   ·skip;exfalso;simp at h2
   ·skip;refine Z6 ?_;refine nC ?_ ?_<;>intro h3
    ·skip;refine Z4 ?_;refine yc (f42 x0 x1 x2 x3 x4 x5 x6) ?_;refine mc hq ?_;refine Z6 ?_
     exact fun hz=>zR [] (List.append_nil _).symm hz hle (.inr Y) (by simp[EV.lt]) Y
    ·skip;exfalso;simp at h3
theorem Xc(hle:M.length<=M2.length)(hlk:∀l,l<M.length->Like M M2 l)(x0 x1:Int)(l:List Int)(c:TC)(hq:zv tP G 73 [.pp R 1 0 0,I x0,I x1,.pub (eI l)] M (.ret (I e) M2)):zv tP G 20 [.pp R 1 0 0,.pub (.agg (eAc ⟨5,(x0::x1::l),c⟩))] M (.ret (I e) M2):=by
 refine mW func20 (fun gh hold hmk=>?_);refine Z27 ?_;refine nC ?_ ?_<;>intro h0
 ·skip;exfalso;simp at h0
 ·skip;refine Z6 ?_;refine nC ?_ ?_<;>intro h1
  ·skip;exfalso;simp at h1
  ·skip;refine Z6 ?_;refine nC ?_ ?_<;>intro h2
   ·skip;exfalso;simp at h2
   ·skip;refine Z6 ?_;refine nC ?_ ?_<;>intro h3
    ·skip;exfalso;simp at h3
    ·skip;refine Z6 ?_;refine nC ?_ ?_<;>intro h4
     ·skip;refine Z ?_;refine qd (fun _=>True) (fun k=>match k with|1=>.stable|2=>.stable|4=>.stable|5=>.stable|7=>.stable|9=>.writes|10=>.stable|_=>.here) mixed nR rfl nR trivial ?_;refine Z2 ?_;refine zC Y Y (fun m hm=>zc Y Y Y zY oM (by exact zA (ds:=x0::x1::l) (i:=0) sI) zn) (Z2 ?_);refine zC Y Y (fun m hm=>zc Y Y Y zY oM (by exact zA (ds:=x0::x1::l) (i:=1) sI) zn) (Z2 ?_);refine zK Y Y (fG Y Y) (qw Y Y (qO (av:=[.pp R 1 0 0,I x0,I x1,.pub (eI l)]) Y rL hq hle hlk) trivial ?_);refine Z6 ?_
      exact fun hz=>zR [] (List.append_nil _).symm hz hle (.inr Y) (by simp[EV.lt]) Y
     ·skip;exfalso;simp at h4
theorem Sl(hle:M.length<=M2.length)(hlk:∀l,l<M.length->Like M M2 l)(x0 x1 x2:Int)(c:TC)(hq:zv tP G 74 [.pp R 1 0 0,I x0,I x1,I x2] M (.ret (I e) M2)):zv tP G 20 [.pp R 1 0 0,.pub (.agg (eAc ⟨6,[x0,x1,x2],c⟩))] M (.ret (I e) M2):=by
 refine mW func20 (fun gh hold hmk=>?_);refine Z27 ?_;refine nC ?_ ?_<;>intro h0
 ·skip;exfalso;simp at h0
 ·skip;refine Z6 ?_;refine nC ?_ ?_<;>intro h1
  ·skip;exfalso;simp at h1
  ·skip;refine Z6 ?_;refine nC ?_ ?_<;>intro h2
   ·skip;exfalso;simp at h2
   ·skip;refine Z6 ?_;refine nC ?_ ?_<;>intro h3
    ·skip;exfalso;simp at h3
    ·skip;refine Z6 ?_;refine nC ?_ ?_<;>intro h4
     ·skip;exfalso;simp at h4
     ·skip;refine Z4 ?_;refine qd (fun _=>True) (fun k=>match k with|1=>.stable|2=>.stable|4=>.stable|5=>.stable|7=>.stable|8=>.stable|10=>.writes|11=>.stable|_=>.here) mixed nR rfl nR trivial ?_;refine Z2 ?_;refine zC Y Y (fun m hm=>zc Y Y Y zY oM (by exact zA (ds:=[x0,x1,x2]) (i:=0) sI) zn) (Z2 ?_);refine zC Y Y (fun m hm=>zc Y Y Y zY oM (by exact zA (ds:=[x0,x1,x2]) (i:=1) sI) zn) (Z2 ?_);refine zC Y Y (fun m hm=>zc Y Y Y zY oM (by exact zA (ds:=[x0,x1,x2]) (i:=2) sI) zn) (Z ?_);refine qw Y Y (qO (av:=[.pp R 1 0 0,I x0,I x1,I x2]) Y rL hq hle hlk) trivial (Z4 ?_)
      exact fun hz=>zR [] (List.append_nil _).symm hz hle (.inr Y) (by simp[EV.lt]) Y
end Bu
end Go.Av
end
