import Derived.Test.YtigbomcjnlikjaaGreatDoorBuG
set_option linter.unusedVariables false
set_option linter.unusedSimpArgs false
set_option maxRecDepth 100000
set_option maxHeartbeats 9000000
section
namespace Go.Av
namespace Bu
open Go.Proofs Tryz
variable{G:Glob}{s:Hs.Sut}{b:BS}{ix:Ix}{M:TP}
def doS(s:Hs.Sut)(b:BS)(a:Ac):Int × BS:=
 if a.w=1 then(match a.n with
  |[x0,x1,x2,x3,x4,x5,x6,x7,x8,x9,x10]=>(rdE s b x0 ⟨x1,x2,x3,x4,x5,x6,x7,x8,x9,x10⟩,rdS s b x0 ⟨x1,x2,x3,x4,x5,x6,x7,x8,x9,x10⟩)
  |_=>(2,b))
 else if a.w=2 then(match a.n with
  |[x0,x1]=>(wrE s b x0 x1 a.c,wrS s b x0 x1 a.c)
  |_=>(2,b))
 else if a.w=3 then(match a.n with
  |[x0,x1,x2,x3,x4]=>(iz s b x0 x1 x2 x3 x4,aw s b x0 x1 x2 x3 x4)
  |_=>(2,b))
 else if a.w=4 then(match a.n with
  |[x0,x1,x2,x3,x4,x5,x6]=>(ee s b ⟨x0,x1,x2,x3,x4,x5,x6⟩,wW s b ⟨x0,x1,x2,x3,x4,x5,x6⟩)
  |_=>(2,b))
 else if a.w=5 then(match a.n with
  |x0::x1::l=>(stE s b x0 x1 l,stB s b x0 x1 l)
  |_=>(2,b))
 else(match a.n with
  |[x0,x1,x2]=>(cmE s b x0 x1 x2,cmB s b x0 x1 x2)
  |_=>(2,b))
theorem vm{a:Ac}(h:foB a=true):(1<=a.w/\a.w<=6)/\(a.c.length<=5/\∀g∈a.c,g.length<=6)/\(if a.w=5 then 3<=a.n.length/\a.n.length<=7 else(a.n.length:Int)=nmN a.w):=by
 simp only[foB,zLa,Bool.not_eq_true']at h;obtain⟨⟨h1,h2⟩,h3⟩:=h;refine⟨by simp[foH]at h1;omega,⟨by simp[foH]at h1;omega,fun g hg=>?_⟩,?_⟩
 ·have:=zLu.1 h2 g hg;simp only[cpB,zLa,zLd]at this;exact this.1
 ·unfold nmB at h3;split at h3
  ·rename_i h5;rw[zLc h5];simp at h3;omega
  ·rename_i h5;rw[zLy h5];simpa using h3
theorem kk{f:FuncId}{A B:TE}{e:Int}{b':BS}(hs:Step G s f A b ix M e b')(hd:∀M2:TP,M.length<=M2.length->(∀l,l<M.length->Like M M2 l)->zv tP G f A M (.ret (I e) M2)->zv tP G 20 B M (.ret (I e) M2)):Step G s 20 B b ix M e b':=by
 obtain⟨ix',M2,h1,h2,h3⟩:=hs;exact⟨ix',M2,h1,h2,hd M2 h2.le h2.lk h3⟩
theorem Jx(h:BuM s b ix M)(hS:Hs.SuP s)(hI:BI s b)(a:Ac)(hf:foB a=true):Step G s 20 [.pp ix.row 1 0 0,.pub (.agg (eAc a))] b ix M (doS s b a).1 (doS s b a).2:=by
 obtain⟨hw,⟨hc,hg⟩,hn⟩:=vm hf;obtain⟨w,n,c⟩:=a;simp only at hw hc hg hn;have hw2:w=1∨w=2∨w=3∨w=4∨w=5∨w=6:=oM;rcases hw2 with rfl|rfl|rfl|rfl|rfl|rfl
 ·match n,hn with
  |[x0,x1,x2,x3,x4,x5,x6,x7,x8,x9,x10],_=>exact kk (lS h hS hI x0 ⟨x1,x2,x3,x4,x5,x6,x7,x8,x9,x10⟩) fun M2 h1 h2 hq=>UW h1 h2 x0 x1 x2 x3 x4 x5 x6 x7 x8 x9 x10 c hq
 ·match n,hn with
  |[x0,x1],_=>exact kk (xM h hS hI x0 x1 c oM (fun g hh=>by have:=hg g hh;omega)) fun M2 h1 h2 hq=>RF h1 h2 x0 x1 c hq
 ·match n,hn with
  |[x0,x1,x2,x3,x4],_=>exact kk (am h hS hI x0 x1 x2 x3 x4) fun M2 h1 h2 hq=>UR h1 h2 x0 x1 x2 x3 x4 c hq
 ·match n,hn with
  |[x0,x1,x2,x3,x4,x5,x6],_=>exact kk (cf h ⟨x0,x1,x2,x3,x4,x5,x6⟩) fun M2 h1 h2 hq=>Sm h1 h2 x0 x1 x2 x3 x4 x5 x6 c hq
 ·match n,hn with
  |x0::x1::l,hn=>exact kk (kJ h hS x0 x1 l (by simp at hn;omega)) fun M2 h1 h2 hq=>Xc h1 h2 x0 x1 l c hq
 ·match n,hn with
  |[x0,x1,x2],_=>exact kk (xN h hS hI.un x0 x1 x2) fun M2 h1 h2 hq=>Sl h1 h2 x0 x1 x2 c hq
theorem BI.doS(hS:Hs.SuP s)(hI:BI s b)(a:Ac):BI s (doS s b a).2:=by
 unfold Bu.doS;split
 ·split
  ·exact hI.read _ _
  ·exact hI
 ·split
  ·split
   ·exact hI.wire hS _ _ _
   ·exact hI
  ·split
   ·split
    ·exact hI.ship _ _ _ _ _
    ·exact hI
   ·split
    ·split
     ·exact hI.rep _
     ·exact hI
    ·split
     ·split
      ·exact hI.state _ _ _
      ·exact hI
     ·split
      ·exact hI.came _ _ _
      ·exact hI
end Bu
end Go.Av
namespace Go.Av
namespace Bu
open Go.Proofs Tryz
variable{G:Glob}
theorem u9:qN tP 173 126 4 48:=⟨underlying173,Tryz.t126,_,nR,rfl,rfl,rfl,rfl,dE⟩
theorem uE:qN tP 174 204 1 8:=⟨underlying174,Tryz.t204,_,nR,rfl,rfl,rfl,rfl,dE⟩
theorem Uo:tP.info? 204=some Tryz.t204:=nR
theorem SE:zU tP 178 [(0,25),(25,1),(26,1),(27,1),(28,1),(29,1),(30,1)] [.slice none 0 0,.slice none 0 0,.slice none 0 0,nZ,nZ,nZ,nZ,nZ,nZ,nZ,nZ,.slice none 0 0,.slice none 0 0,.slice none 0 0,nZ,nZ,nZ,nZ,nZ,nZ,.slice none 0 0,nZ,nZ,nZ,nZ,.slice none 0 0,.slice none 0 0,.map none,nZ,.slice none 0 0,.bool false]:=⟨_,underlying178,nR,nR⟩
theorem uF:tP.info? 126=some Tryz.t126:=nR
def bRw(s:Hs.Sut)(d:Nat):TE:=Hs.cSu s 3 s.w.reps.length++[.psl 6 d,.psl 7 d,.mpv 4,I 0,.psl 8 0,.pub (.v (.bool true))]
theorem bsM{fr:Nat->EV}{mem:TP}{o:Oper}{x:Operand}{k l:Nat}{es:List (Value × EV)}(ho:o.op=.buildSlice 174 1 #[(0,x)])(hx:evO fr x=.mpv k)(hk:mem[k]?=some (.map es))(hml:mem[l]?=some (.row [])):
  OpB tP G fr mem o (.psl l 1) (mem.set l (.row [[.mpv k]])):=
 fun N fr2 he hd=>uq (P:=tP) (G:=G) (st:=⟨N,fr2,mem⟩) (rows:=[[.mpv k]]) (qs:=[(0,[.mpv k])]) (size:=1) ho hd underlying174 Uo rfl dE rfl dE ⟨_,_,rfl,ul ((he x (by simp[ho,Op.operands])).trans hx) hk,rfl⟩ rfl sI rfl dE sI hml
def mB(s:Hs.Sut):Nat->TP
 |1=>[.dead,.dead,.dead,.row (Hs.rRep s.w.reps),.map [],.row [bRw s 1],.row [mpC s []],.row [[.mpv 10]],.row [],.row [[.mpv 10]],.map []]
 |2=>[.dead,.dead,.dead,.row (Hs.rRep s.w.reps),.map [],.row [bRw s 2],.row [mpC s [],mpC s []],.row [[.mpv 10],[.mpv 12]],.row [],.row [[.mpv 10]],.map [],.row [[.mpv 12]],.map []]
 |3=>[.dead,.dead,.dead,.row (Hs.rRep s.w.reps),.map [],.row [bRw s 3],.row [mpC s [],mpC s [],mpC s []],.row [[.mpv 10],[.mpv 12],[.mpv 14]],.row [],.row [[.mpv 10]],.map [],.row [[.mpv 12]],.map [],.row [[.mpv 14]],.map []]
 |4=>[.dead,.dead,.dead,.row (Hs.rRep s.w.reps),.map [],.row [bRw s 4],.row [mpC s [],mpC s [],mpC s [],mpC s []],.row [[.mpv 10],[.mpv 12],[.mpv 14],[.mpv 16]],.row [],.row [[.mpv 10]],.map [],.row [[.mpv 12]],.map [],.row [[.mpv 14]],.map [],.row [[.mpv 16]],.map []]
 |_=>[]
theorem UO(s:Hs.Sut)(hsm:Hs.smB s=true)(hS:Hs.SuP s){D:Nat}(hD:s.days=(D:Int)):zv tP G 42 [.pub (.agg (Hs.eSut s))] [] (.ret (.tpl [.pp 5 1 0 0,I 0]) (mB s D)):=by
 have hdy:=hS.days;have sp51:ACall tP G 110 [.agg (Hs.eSut s)] (ei 0):=Hs.f51 s hsm hS fun x hx=>Hs.f135 (hS.st x hx).2.1 (hS.st x hx).2.2;refine jd func42 Y nR Y (fun gh hold hmk=>?_);refine Z11 ?_;refine yc sp51 ?_;refine Z9 ?_;refine nC ?_ ?_<;>intro h0
 ·skip;exfalso;simp at h0
 ·skip;refine Z5 ?_;refine mc (Hs.m52 s hsm) ?_;refine zm Y (vR Y Y) ?_;refine zb (rT (cs:=[_,_,_,_,_,_,_,_,_,_,_,_,_,_,_,_,_,_,_,_,_,_,_,_,_,_,_,_,_,_,_]) Y SE Y (zk (zk (zk Y))) rF (by simp[ofV])) ?_;refine zm Y (qI Y Y cEx) (Z5 ?_);refine zt (lR 0) ?_;refine zt (lR 1) ?_;refine zt (vL (k:=5) (i:=0) (j:=25) Y Y Y) ?_;refine zt (vL (k:=5) (i:=0) (j:=26) Y Y Y) ?_;refine zt (vL (k:=5) (i:=0) (j:=29) Y Y Y) ?_;refine Z7 ?_;refine zD (ι:={k:Nat//k<5/\(k:Int)<=s.days}) (fun k=>match k.1 with|0=>⟨⟨Tryz.f42.ntmps,[],gh,false,hold⟩,frL [(1,.pub (.ptr (Hs.eSut s))),(5,.pp 5 1 0 0),(17,I s.days),(18,I 0)],[.dead,.dead,.dead,.row (Hs.rRep s.w.reps),.map [],.row [bRw s 0],.row [],.row [],.row []]⟩|1=>⟨⟨Tryz.f42.ntmps,[],gh,false,hold⟩,frL [(1,.pub (.ptr (Hs.eSut s))),(5,.pp 5 1 0 0),(17,I s.days),(18,I 1)],[.dead,.dead,.dead,.row (Hs.rRep s.w.reps),.map [],.row [bRw s 1],.row [mpC s []],.row [[.mpv 10]],.row [],.row [[.mpv 10]],.map []]⟩|2=>⟨⟨Tryz.f42.ntmps,[],gh,false,hold⟩,frL [(1,.pub (.ptr (Hs.eSut s))),(5,.pp 5 1 0 0),(17,I s.days),(18,I 2)],[.dead,.dead,.dead,.row (Hs.rRep s.w.reps),.map [],.row [bRw s 2],.row [mpC s [],mpC s []],.row [[.mpv 10],[.mpv 12]],.row [],.row [[.mpv 10]],.map [],.row [[.mpv 12]],.map []]⟩|3=>⟨⟨Tryz.f42.ntmps,[],gh,false,hold⟩,frL [(1,.pub (.ptr (Hs.eSut s))),(5,.pp 5 1 0 0),(17,I s.days),(18,I 3)],[.dead,.dead,.dead,.row (Hs.rRep s.w.reps),.map [],.row [bRw s 3],.row [mpC s [],mpC s [],mpC s []],.row [[.mpv 10],[.mpv 12],[.mpv 14]],.row [],.row [[.mpv 10]],.map [],.row [[.mpv 12]],.map [],.row [[.mpv 14]],.map []]⟩|_=>⟨⟨Tryz.f42.ntmps,[],gh,false,hold⟩,frL [(1,.pub (.ptr (Hs.eSut s))),(5,.pp 5 1 0 0),(17,I s.days),(18,I 4)],[.dead,.dead,.dead,.row (Hs.rRep s.w.reps),.map [],.row [bRw s 4],.row [mpC s [],mpC s [],mpC s [],mpC s []],.row [[.mpv 10],[.mpv 12],[.mpv 14],[.mpv 16]],.row [],.row [[.mpv 10]],.map [],.row [[.mpv 12]],.map [],.row [[.mpv 14]],.map [],.row [[.mpv 16]],.map []]⟩) (fun k=>5-k.1) (⟨0,oM,oM⟩) ?_ ?_
  ·exact zd _ rL (Y)
  ·rintro⟨k,hk,hinv⟩;have hk3:k=0∨k=1∨k=2∨k=3∨k=4:=oM;rcases hk3 with rfl|rfl|rfl|rfl|rfl
   ·dsimp only;refine Z6 ?_;refine nC ?_ ?_<;>intro h1
    ·skip;refine Z4 ?_;refine zt qE ?_;refine bS (fun mm=>∃r,mm[5]?=some (PO.row [r])) (fun k=>match k with|0=>.stable|1=>.stable|2=>.stable|3=>.stable|4=>.stable|5=>.rd [5]|6=>.stable|7=>.stable|8=>.stable|9=>.rw [] (6)|10=>.stable|11=>.stable|12=>.stable|13=>.rd [5]|14=>.grow [] 10|15=>.rw [10] (9)|16=>.rw [9] (7)|17=>.stable|18=>.stable|19=>.writes|20=>.stable|21=>.stable|22=>.writes|_=>.here) mixed nR rfl nR ⟨_,rfl⟩ ?_;refine Z3 ?_;refine zC Y Y (fun m hm=>zr (rows:=[hm.choose]) Y Y hm.choose_spec Y) (zC Y Y (fun m hm=>ze (rows:=[hm.choose]) Y Y hm.choose_spec Y jv) ?_);refine wX [5] Y Y (fun m hm hC=>zg (rows:=[bRw s 0]) (r:=bRw s 0) Y Y (hm.one 5 Y) Y Y Y kT) ?_;refine Z ?_;refine zC Y Y (fun m hm=>zi (av:=[_]) Y rL (Hs.f53 s)) ?_;refine zC Y Y (fun m hm=>zw (size:=4) (rows:=[[_,_,_,_]]) Y underlying173 uF Y dE Y dE (zk Y) rF (by simp[ofV]) Y sI) ?_;refine ku rfl rfl (fun m hm hC=>⟨qz rfl rfl (hm.trans rfl) rfl rfl u9 (by intro r hr;simp at hr<;>first|(subst hr;rfl)|(rcases hr with rfl|rfl<;>rfl)|(rcases hr with rfl|rfl|rfl<;>rfl)) (by intro r hr;simp at hr;subst hr;rfl) (by simp) (by unfold maxLen;simp),hC.imp fun r hr=>(zLn (by decide)).trans hr⟩) ?_
     refine Z ?_;refine zC Y Y (fun m hm=>zr (rows:=[hm.choose]) Y Y hm.choose_spec Y) (zC Y Y (fun m hm=>ze (rows:=[hm.choose]) Y Y hm.choose_spec Y wO) ?_);refine wX [5] Y Y (fun m hm hC=>zg (rows:=[bRw s 0]) (r:=bRw s 0) Y Y (hm.one 5 Y) Y Y Y bR) ?_;refine rp [] Y Y Y (fun m hn hm hC=>⟨yv Y hn,hC.imp fun r hr=>ql hr⟩) ?_;refine vz [10] 9 Y Y (fun m hm hC=>⟨bsM Y Y ((hm 10 sI).trans Y) ((hm 9 sI).trans Y),hC.imp fun r hr=>(zLn dE).trans hr⟩) ?_;refine vz [9] 7 rfl rfl (fun m hm hC=>⟨qz rfl rfl ((hm 7 (by simp)).trans rfl) rfl ⟨(hm 9 (by simp)).trans rfl,rfl⟩ uE (by intro r hr;simp at hr<;>first|(subst hr;rfl)|(rcases hr with rfl|rfl<;>rfl)|(rcases hr with rfl|rfl|rfl<;>rfl)) (by intro r hr;simp at hr;subst hr;rfl) (by simp) (by unfold maxLen;simp),hC.imp fun r hr=>(zLn (by decide)).trans hr⟩) ?_;refine zC Y Y (fun m hm=>zr (rows:=[hm.choose]) Y Y hm.choose_spec Y) (zC Y Y (fun m hm=>ze (rows:=[hm.choose]) Y Y hm.choose_spec Y jv) ?_)
     refine qw Y Y (zz Y Y Y Y Y Y cEx kT rF rF) ⟨_,Y⟩ ?_;refine zC Y Y (fun m hm=>zr (rows:=[hm.choose]) Y Y hm.choose_spec Y) (zC Y Y (fun m hm=>ze (rows:=[hm.choose]) Y Y hm.choose_spec Y wO) ?_);refine qw Y Y (zz Y Y Y Y Y Y cEx bR rF rF) ⟨_,Y⟩ ?_;refine Z7 ?_;exact⟨⟨1,oM,by simp at h1;omega⟩,by dsimp only;omega,(by refine zd (mem':=[.dead,.dead,.dead,.row (Hs.rRep s.w.reps),.map [],.row [bRw s 1],.row [mpC s []],.row [[.mpv 10]],.row [],.row [[.mpv 10]],.map []]) [(1,.pub (.ptr (Hs.eSut s))),(5,.pp 5 1 0 0),(17,I s.days),(18,I 1)] ?_ ?_;exact rL;exact(Y))⟩
    ·skip;exfalso;simp at h1;omega
   ·dsimp only;refine Z6 ?_;refine nC ?_ ?_<;>intro h1
    ·skip;refine Z4 ?_;refine zt qE ?_;refine bS (fun mm=>∃r,mm[5]?=some (PO.row [r])) (fun k=>match k with|0=>.stable|1=>.stable|2=>.stable|3=>.stable|4=>.stable|5=>.rd [5]|6=>.stable|7=>.stable|8=>.stable|9=>.rw [] (6)|10=>.stable|11=>.stable|12=>.stable|13=>.rd [5]|14=>.grow [] 12|15=>.rw [12] (11)|16=>.rw [11] (7)|17=>.stable|18=>.stable|19=>.writes|20=>.stable|21=>.stable|22=>.writes|_=>.here) mixed nR rfl nR ⟨_,rfl⟩ ?_;refine Z3 ?_;refine zC Y Y (fun m hm=>zr (rows:=[hm.choose]) Y Y hm.choose_spec Y) (zC Y Y (fun m hm=>ze (rows:=[hm.choose]) Y Y hm.choose_spec Y jv) ?_);refine wX [5] Y Y (fun m hm hC=>zg (rows:=[bRw s 1]) (r:=bRw s 1) Y Y (hm.one 5 Y) Y Y Y kT) ?_;refine Z ?_;refine zC Y Y (fun m hm=>zi (av:=[_]) Y rL (Hs.f53 s)) ?_;refine zC Y Y (fun m hm=>zw (size:=4) (rows:=[[_,_,_,_]]) Y underlying173 uF Y dE Y dE (zk Y) rF (by simp[ofV]) Y sI) ?_;refine ku rfl rfl (fun m hm hC=>⟨qz rfl rfl (hm.trans rfl) rfl rfl u9 (by intro r hr;simp at hr<;>first|(subst hr;rfl)|(rcases hr with rfl|rfl<;>rfl)|(rcases hr with rfl|rfl|rfl<;>rfl)) (by intro r hr;simp at hr;subst hr;rfl) (by simp) (by unfold maxLen;simp),hC.imp fun r hr=>(zLn (by decide)).trans hr⟩) ?_
     refine Z ?_;refine zC Y Y (fun m hm=>zr (rows:=[hm.choose]) Y Y hm.choose_spec Y) (zC Y Y (fun m hm=>ze (rows:=[hm.choose]) Y Y hm.choose_spec Y wO) ?_);refine wX [5] Y Y (fun m hm hC=>zg (rows:=[bRw s 1]) (r:=bRw s 1) Y Y (hm.one 5 Y) Y Y Y bR) ?_;refine rp [] Y Y Y (fun m hn hm hC=>⟨yv Y hn,hC.imp fun r hr=>ql hr⟩) ?_;refine vz [12] 11 Y Y (fun m hm hC=>⟨bsM Y Y ((hm 12 sI).trans Y) ((hm 11 sI).trans Y),hC.imp fun r hr=>(zLn dE).trans hr⟩) ?_;refine vz [11] 7 rfl rfl (fun m hm hC=>⟨qz rfl rfl ((hm 7 (by simp)).trans rfl) rfl ⟨(hm 11 (by simp)).trans rfl,rfl⟩ uE (by intro r hr;simp at hr<;>first|(subst hr;rfl)|(rcases hr with rfl|rfl<;>rfl)|(rcases hr with rfl|rfl|rfl<;>rfl)) (by intro r hr;simp at hr;subst hr;rfl) (by simp) (by unfold maxLen;simp),hC.imp fun r hr=>(zLn (by decide)).trans hr⟩) ?_;refine zC Y Y (fun m hm=>zr (rows:=[hm.choose]) Y Y hm.choose_spec Y) (zC Y Y (fun m hm=>ze (rows:=[hm.choose]) Y Y hm.choose_spec Y jv) ?_)
     refine qw Y Y (zz Y Y Y Y Y Y cEx kT rF rF) ⟨_,Y⟩ ?_;refine zC Y Y (fun m hm=>zr (rows:=[hm.choose]) Y Y hm.choose_spec Y) (zC Y Y (fun m hm=>ze (rows:=[hm.choose]) Y Y hm.choose_spec Y wO) ?_);refine qw Y Y (zz Y Y Y Y Y Y cEx bR rF rF) ⟨_,Y⟩ ?_;refine Z7 ?_;exact⟨⟨2,oM,by simp at h1;omega⟩,by dsimp only;omega,(by refine zd (mem':=[.dead,.dead,.dead,.row (Hs.rRep s.w.reps),.map [],.row [bRw s 2],.row [mpC s [],mpC s []],.row [[.mpv 10],[.mpv 12]],.row [],.row [[.mpv 10]],.map [],.row [[.mpv 12]],.map []]) [(1,.pub (.ptr (Hs.eSut s))),(5,.pp 5 1 0 0),(17,I s.days),(18,I 2)] ?_ ?_;exact rL;exact(Y))⟩
    ·skip;have hDk:D=1:=by simp at h1;omega
     refine Z13 ?_
     exact fun hz=>qQ [] (by rw[hDk];rfl) (by rw[hDk];exact hz) sI (.inr Y) (by rw[hDk];simp[mB,EV.lt,EV.ltL,I]) ⟨dE,_,Y,_,_,Y,Y,_,_,Y,Y,Y⟩
   ·dsimp only;refine Z6 ?_;refine nC ?_ ?_<;>intro h1
    ·skip;refine Z4 ?_;refine zt qE ?_;refine bS (fun mm=>∃r,mm[5]?=some (PO.row [r])) (fun k=>match k with|0=>.stable|1=>.stable|2=>.stable|3=>.stable|4=>.stable|5=>.rd [5]|6=>.stable|7=>.stable|8=>.stable|9=>.rw [] (6)|10=>.stable|11=>.stable|12=>.stable|13=>.rd [5]|14=>.grow [] 14|15=>.rw [14] (13)|16=>.rw [13] (7)|17=>.stable|18=>.stable|19=>.writes|20=>.stable|21=>.stable|22=>.writes|_=>.here) mixed nR rfl nR ⟨_,rfl⟩ ?_;refine Z3 ?_;refine zC Y Y (fun m hm=>zr (rows:=[hm.choose]) Y Y hm.choose_spec Y) (zC Y Y (fun m hm=>ze (rows:=[hm.choose]) Y Y hm.choose_spec Y jv) ?_);refine wX [5] Y Y (fun m hm hC=>zg (rows:=[bRw s 2]) (r:=bRw s 2) Y Y (hm.one 5 Y) Y Y Y kT) ?_;refine Z ?_;refine zC Y Y (fun m hm=>zi (av:=[_]) Y rL (Hs.f53 s)) ?_;refine zC Y Y (fun m hm=>zw (size:=4) (rows:=[[_,_,_,_]]) Y underlying173 uF Y dE Y dE (zk Y) rF (by simp[ofV]) Y sI) ?_;refine ku rfl rfl (fun m hm hC=>⟨qz rfl rfl (hm.trans rfl) rfl rfl u9 (by intro r hr;simp at hr<;>first|(subst hr;rfl)|(rcases hr with rfl|rfl<;>rfl)|(rcases hr with rfl|rfl|rfl<;>rfl)) (by intro r hr;simp at hr;subst hr;rfl) (by simp) (by unfold maxLen;simp),hC.imp fun r hr=>(zLn (by decide)).trans hr⟩) ?_
     refine Z ?_;refine zC Y Y (fun m hm=>zr (rows:=[hm.choose]) Y Y hm.choose_spec Y) (zC Y Y (fun m hm=>ze (rows:=[hm.choose]) Y Y hm.choose_spec Y wO) ?_);refine wX [5] Y Y (fun m hm hC=>zg (rows:=[bRw s 2]) (r:=bRw s 2) Y Y (hm.one 5 Y) Y Y Y bR) ?_;refine rp [] Y Y Y (fun m hn hm hC=>⟨yv Y hn,hC.imp fun r hr=>ql hr⟩) ?_;refine vz [14] 13 Y Y (fun m hm hC=>⟨bsM Y Y ((hm 14 sI).trans Y) ((hm 13 sI).trans Y),hC.imp fun r hr=>(zLn dE).trans hr⟩) ?_;refine vz [13] 7 rfl rfl (fun m hm hC=>⟨qz rfl rfl ((hm 7 (by simp)).trans rfl) rfl ⟨(hm 13 (by simp)).trans rfl,rfl⟩ uE (by intro r hr;simp at hr<;>first|(subst hr;rfl)|(rcases hr with rfl|rfl<;>rfl)|(rcases hr with rfl|rfl|rfl<;>rfl)) (by intro r hr;simp at hr;subst hr;rfl) (by simp) (by unfold maxLen;simp),hC.imp fun r hr=>(zLn (by decide)).trans hr⟩) ?_;refine zC Y Y (fun m hm=>zr (rows:=[hm.choose]) Y Y hm.choose_spec Y) (zC Y Y (fun m hm=>ze (rows:=[hm.choose]) Y Y hm.choose_spec Y jv) ?_)
     refine qw Y Y (zz Y Y Y Y Y Y cEx kT rF rF) ⟨_,Y⟩ ?_;refine zC Y Y (fun m hm=>zr (rows:=[hm.choose]) Y Y hm.choose_spec Y) (zC Y Y (fun m hm=>ze (rows:=[hm.choose]) Y Y hm.choose_spec Y wO) ?_);refine qw Y Y (zz Y Y Y Y Y Y cEx bR rF rF) ⟨_,Y⟩ ?_;refine Z7 ?_;exact⟨⟨3,oM,by simp at h1;omega⟩,by dsimp only;omega,(by refine zd (mem':=[.dead,.dead,.dead,.row (Hs.rRep s.w.reps),.map [],.row [bRw s 3],.row [mpC s [],mpC s [],mpC s []],.row [[.mpv 10],[.mpv 12],[.mpv 14]],.row [],.row [[.mpv 10]],.map [],.row [[.mpv 12]],.map [],.row [[.mpv 14]],.map []]) [(1,.pub (.ptr (Hs.eSut s))),(5,.pp 5 1 0 0),(17,I s.days),(18,I 3)] ?_ ?_;exact rL;exact(Y))⟩
    ·skip;have hDk:D=2:=by simp at h1;omega
     refine Z13 ?_
     exact fun hz=>qQ [] (by rw[hDk];rfl) (by rw[hDk];exact hz) sI (.inr Y) (by rw[hDk];simp[mB,EV.lt,EV.ltL,I]) ⟨dE,_,Y,_,_,Y,Y,_,_,Y,Y,Y⟩
   ·dsimp only;refine Z6 ?_;refine nC ?_ ?_<;>intro h1
    ·skip;refine Z4 ?_;refine zt qE ?_;refine bS (fun mm=>∃r,mm[5]?=some (PO.row [r])) (fun k=>match k with|0=>.stable|1=>.stable|2=>.stable|3=>.stable|4=>.stable|5=>.rd [5]|6=>.stable|7=>.stable|8=>.stable|9=>.rw [] (6)|10=>.stable|11=>.stable|12=>.stable|13=>.rd [5]|14=>.grow [] 16|15=>.rw [16] (15)|16=>.rw [15] (7)|17=>.stable|18=>.stable|19=>.writes|20=>.stable|21=>.stable|22=>.writes|_=>.here) mixed nR rfl nR ⟨_,rfl⟩ ?_;refine Z3 ?_;refine zC Y Y (fun m hm=>zr (rows:=[hm.choose]) Y Y hm.choose_spec Y) (zC Y Y (fun m hm=>ze (rows:=[hm.choose]) Y Y hm.choose_spec Y jv) ?_);refine wX [5] Y Y (fun m hm hC=>zg (rows:=[bRw s 3]) (r:=bRw s 3) Y Y (hm.one 5 Y) Y Y Y kT) ?_;refine Z ?_;refine zC Y Y (fun m hm=>zi (av:=[_]) Y rL (Hs.f53 s)) ?_;refine zC Y Y (fun m hm=>zw (size:=4) (rows:=[[_,_,_,_]]) Y underlying173 uF Y dE Y dE (zk Y) rF (by simp[ofV]) Y sI) ?_;refine ku rfl rfl (fun m hm hC=>⟨qz rfl rfl (hm.trans rfl) rfl rfl u9 (by intro r hr;simp at hr<;>first|(subst hr;rfl)|(rcases hr with rfl|rfl<;>rfl)|(rcases hr with rfl|rfl|rfl<;>rfl)) (by intro r hr;simp at hr;subst hr;rfl) (by simp) (by unfold maxLen;simp),hC.imp fun r hr=>(zLn (by decide)).trans hr⟩) ?_
     refine Z ?_;refine zC Y Y (fun m hm=>zr (rows:=[hm.choose]) Y Y hm.choose_spec Y) (zC Y Y (fun m hm=>ze (rows:=[hm.choose]) Y Y hm.choose_spec Y wO) ?_);refine wX [5] Y Y (fun m hm hC=>zg (rows:=[bRw s 3]) (r:=bRw s 3) Y Y (hm.one 5 Y) Y Y Y bR) ?_;refine rp [] Y Y Y (fun m hn hm hC=>⟨yv Y hn,hC.imp fun r hr=>ql hr⟩) ?_;refine vz [16] 15 Y Y (fun m hm hC=>⟨bsM Y Y ((hm 16 sI).trans Y) ((hm 15 sI).trans Y),hC.imp fun r hr=>(zLn dE).trans hr⟩) ?_;refine vz [15] 7 rfl rfl (fun m hm hC=>⟨qz rfl rfl ((hm 7 (by simp)).trans rfl) rfl ⟨(hm 15 (by simp)).trans rfl,rfl⟩ uE (by intro r hr;simp at hr<;>first|(subst hr;rfl)|(rcases hr with rfl|rfl<;>rfl)|(rcases hr with rfl|rfl|rfl<;>rfl)) (by intro r hr;simp at hr;subst hr;rfl) (by simp) (by unfold maxLen;simp),hC.imp fun r hr=>(zLn (by decide)).trans hr⟩) ?_;refine zC Y Y (fun m hm=>zr (rows:=[hm.choose]) Y Y hm.choose_spec Y) (zC Y Y (fun m hm=>ze (rows:=[hm.choose]) Y Y hm.choose_spec Y jv) ?_)
     refine qw Y Y (zz Y Y Y Y Y Y cEx kT rF rF) ⟨_,Y⟩ ?_;refine zC Y Y (fun m hm=>zr (rows:=[hm.choose]) Y Y hm.choose_spec Y) (zC Y Y (fun m hm=>ze (rows:=[hm.choose]) Y Y hm.choose_spec Y wO) ?_);refine qw Y Y (zz Y Y Y Y Y Y cEx bR rF rF) ⟨_,Y⟩ ?_;refine Z7 ?_;exact⟨⟨4,oM,by simp at h1;omega⟩,by dsimp only;omega,(by refine zd (mem':=[.dead,.dead,.dead,.row (Hs.rRep s.w.reps),.map [],.row [bRw s 4],.row [mpC s [],mpC s [],mpC s [],mpC s []],.row [[.mpv 10],[.mpv 12],[.mpv 14],[.mpv 16]],.row [],.row [[.mpv 10]],.map [],.row [[.mpv 12]],.map [],.row [[.mpv 14]],.map [],.row [[.mpv 16]],.map []]) [(1,.pub (.ptr (Hs.eSut s))),(5,.pp 5 1 0 0),(17,I s.days),(18,I 4)] ?_ ?_;exact rL;exact(Y))⟩
    ·skip;have hDk:D=3:=by simp at h1;omega
     refine Z13 ?_
     exact fun hz=>qQ [] (by rw[hDk];rfl) (by rw[hDk];exact hz) sI (.inr Y) (by rw[hDk];simp[mB,EV.lt,EV.ltL,I]) ⟨dE,_,Y,_,_,Y,Y,_,_,Y,Y,Y⟩
   ·dsimp only;refine Z6 ?_;refine nC ?_ ?_<;>intro h1
    ·skip;exfalso;simp at h1;omega
    ·skip;have hDk:D=4:=by simp at h1;omega
     refine Z13 ?_
     exact fun hz=>qQ [] (by rw[hDk];rfl) (by rw[hDk];exact hz) sI (.inr Y) (by rw[hDk];simp[mB,EV.lt,EV.ltL,I]) ⟨dE,_,Y,_,_,Y,Y,_,_,Y,Y,Y⟩
end Bu
end Go.Av
namespace Go.Av
namespace Bu
open Go.Proofs Tryz
variable{G:Glob}{s:Hs.Sut}
def b0(s:Hs.Sut)(D:Nat):BS:=⟨s.w.reps,List.replicate D [],List.replicate D [],[],0,[]⟩
theorem bi0(hsm:Hs.smB s=true){D:Nat}(hD:s.days=(D:Int)):BI s (b0 s D):=by
 have h:=(Hs.sm_all hsm).1.2.2.2.1;refine⟨by simp[b0,hD],by simp[b0,hD],fun l hl=>?_,by simp[SdU,b0],h,by simp[b0],by simp[b0]⟩;rw[List.eq_of_mem_replicate hl];simp
theorem uA{D:Nat}{ks:List Nat}{M:TP}(h:∀k∈ks,M[k]?=some (.map [])):∀(d k:Nat)(l:List Int),ks[d]?=some k->(b0 s D).ships[d]?=some l->M[k]?=some (wM enI ((shL l).map fun p=>(p.1,.pub p.2))):=fun d k l h1 h2=>by
 have h3:=zLo h2;simp only[b0]at h3;rw[List.eq_of_mem_replicate h3,h k (zLo h1)];rfl
theorem m57(hsm:Hs.smB s=true)(hS:Hs.SuP s):∃M ix,BuM s (b0 s s.days.toNat) ix M/\ix.row=5/\zv tP G 42 [.pub (.agg (Hs.eSut s))] [] (.ret (.tpl [.pp 5 1 0 0,I 0]) M):=by
 have h:=hS.days;have h2:s.days.toNat=1∨s.days.toNat=2∨s.days.toNat=3∨s.days.toNat=4:=oM;have hm:=UO (G:=G) s hsm hS (D:=s.days.toNat) oM;generalize s.days.toNat=D at*;rcases h2 with rfl|rfl|rfl|rfl
 ·exact⟨_,⟨5,3,6,7,4,8,[10],[]⟩,⟨Y,Y,Y,Y,Y,uA (by simp[mB]),Y,Y,fun i k e h1 h2=>by simp at h1,Y,dE⟩,Y,hm⟩
 ·exact⟨_,⟨5,3,6,7,4,8,[10,12],[]⟩,⟨Y,Y,Y,Y,Y,uA (by simp[mB]),Y,Y,fun i k e h1 h2=>by simp at h1,Y,dE⟩,Y,hm⟩
 ·exact⟨_,⟨5,3,6,7,4,8,[10,12,14],[]⟩,⟨Y,Y,Y,Y,Y,uA (by simp[mB]),Y,Y,fun i k e h1 h2=>by simp at h1,Y,dE⟩,Y,hm⟩
 ·exact⟨_,⟨5,3,6,7,4,8,[10,12,14,16],[]⟩,⟨Y,Y,Y,Y,Y,uA (by simp[mB]),Y,Y,fun i k e h1 h2=>by simp at h1,Y,dE⟩,Y,hm⟩
theorem uc(hsm:Hs.smB s=true)(hS:Hs.SuP s):BI s (b0 s s.days.toNat):=bi0 hsm (by have:=hS.days;omega)
end Bu
end Go.Av
namespace Go.Av
namespace Bu
open Go.Proofs Tryz
variable{G:Glob}{s:Hs.Sut}{b:BS}{ix:Ix}{M:TP}
def ac0:Ac:=⟨0,[],[]⟩
def yg(s:Hs.Sut)(b:BS)(l:List Ac):Nat->BS
 |0=>b
 |k+1=>(doS s (yg s b l k) (l.getD k ac0)).2
def ja(s:Hs.Sut)(b:BS)(l:List Ac):Nat->List Ac
 |0=>[]
 |k+1=>if(doS s (yg s b l k) (l.getD k ac0)).1=0 then ja s b l k++[l.getD k ac0]else ja s b l k
def xk(s:Hs.Sut)(b:BS)(l:List Ac)(k:Nat):Int:=(doS s (yg s b l k) (l.getD k ac0)).1
theorem aM(hS:Hs.SuP s)(hI:BI s b)(l:List Ac):∀k,BI s (yg s b l k)
 |0=>hI
 |k+1=>(aM hS hI l k).doS hS _
theorem v7(s:Hs.Sut)(b:BS)(l:List Ac):∀k,(ja s b l k).length<=k
 |0=>by simp[ja]
 |k+1=>by
  have:=v7 s b l k;unfold ja;split<;>simp<;>omega
def rAc(l:List Ac):List (TE):=l.map fun a=>(eAc a).map .pub
variable{l:List Ac}{p:Ix × TP}
theorem jm:(rAc l).length=l.length:=by simp[rAc]
theorem lW:∀r∈rAc l,r.length=3:=fun r hr=>by
 obtain⟨q,_,rfl⟩:=zLj.1 hr;rfl
theorem F8{a:Ac}:rAc l++[(eAc a).map .pub]=rAc (l++[a]):=by simp[rAc]
structure At(s:Hs.Sut)(b:BS)(l:List Ac)(K k:Nat)(p:Ix × TP):Prop where
 bu:BuM s (yg s b l k) p.1 p.2
 row:p.1.row=5
 done:p.2[K]?=some (.row (rAc (ja s b l k)))
 out:K∉p.1.all
structure Nx(G:Glob)(s:Hs.Sut)(b:BS)(l:List Ac)(K k:Nat)(p q:Ix × TP):Prop where
 call:∃X:TP,p.2.length<=X.length/\X[K]?=some (.row (rAc (ja s b l k)))/\zv tP G 20 [.pp 5 1 0 0,.pub (.agg (eAc (l.getD k ac0)))] p.2 (.ret (I (xk s b l k)) X)/\q.2=if xk s b l k=0 then X.set K (.row (rAc (ja s b l (k+1))))else X
theorem next(hS:Hs.SuP s)(hI:BI s b)(hf:∀a∈l,foB a=true){K k:Nat}(hk:k<l.length)(h:At s b l K k p):∃q,At s b l K (k+1) q/\Nx G s b l K k p q:=by
 have ha:l.getD k ac0∈l:=by simp[hk]
 obtain⟨ix',X,h1,h2,h3⟩:=Jx (G:=G) h.bu hS (aM hS hI l k) (l.getD k ac0) (hf _ ha);rw[h.row]at h3;have hKl:K<p.2.length:=(zLg h.done).1;have hX:X[K]?=some (.row (rAc (ja s b l k))):=by rw[h2.old K hKl h.out];exact h.done
 have hKn:K∉ix'.all:=fun hm=>by
  rcases h2.new K hm with e|e
  ·exact h.out e
  ·omega
 by_cases e:xk s b l k=0
 ·have e2:ja s b l (k+1)=ja s b l k++[l.getD k ac0]:=by unfold xk at e;simp only[ja,e,if_true]
  refine⟨(ix',X.set K (.row (rAc (ja s b l (k+1))))),⟨h1.set hKn,h2.row.trans h.row,zj hX,hKn⟩,⟨X,h2.le,hX,h3,by rw[zLc e]⟩⟩
 ·have e2:ja s b l (k+1)=ja s b l k:=by unfold xk at e;simp only[ja,e,if_false]
  refine⟨(ix',X),⟨h1,h2.row.trans h.row,by rw[e2];exact hX,hKn⟩,⟨X,h2.le,hX,h3,by rw[zLy e]⟩⟩
theorem chain(hS:Hs.SuP s)(hI:BI s b)(hf:∀a∈l,foB a=true){K:Nat}(h:At s b l K 0 p):∀n,n<=l.length->∃f:Nat->Ix × TP,f 0=p/\(∀k,k<=n->At s b l K k (f k))/\∀k,k<n->Nx G s b l K k (f k) (f (k+1))
 |0,_=>⟨fun _=>p,rfl,fun k hk=>by rw[Nat.le_zero.1 hk];exact h,fun k hk=>absurd hk oM⟩
 |n+1,hn=>by
  obtain⟨f,f0,f1,f2⟩:=chain hS hI hf h n oM;obtain⟨q,q1,q2⟩:=next (G:=G) hS hI hf oM (f1 n (zLl _))
  refine⟨fun k=>if k<=n then f k else q,by simp[f0],fun k hk=>?_,fun k hk=>?_⟩
  ·by_cases e:k<=n
   ·simp only[zLc e];exact f1 k e
   ·have:k=n+1:=oM;subst this;simp only[zLy e];exact q1
  ·by_cases e:k+1<=n
   ·simp only[zLc (show k<=n by omega),zLc e];exact f2 k oM
   ·have:k=n:=oM;subst this;simp only[zLc (zLl k),zLy e];exact q2
end Bu
end Go.Av
namespace Go.Av
namespace Bu
open Go.Proofs Tryz
variable{G:Glob}
variable{s:Hs.Sut}{b:BS}{l:List Ac}{K k:Nat}
theorem rW(hk:k<l.length)(e:xk s b l k=0):ja s b l (k+1)=ja s b l k++[l[k]]:=by
 have hg:l.getD k ac0=l[k]:=by simp[hk]
 unfold xk at e;rw[hg]at e;simp only[ja,hg,e,if_true]
theorem Jy(e:¬xk s b l k=0):ja s b l (k+1)=ja s b l k:=by
 unfold xk at e;simp only[ja,e,if_false]
theorem Pm{X Y:TP}(hk:k<l.length)(e:xk s b l k=0)(h:Y=if xk s b l k=0 then X.set K (.row (rAc (ja s b l (k+1))))else X):X.set K (.row (rAc (ja s b l k)++[(eAc l[k]).map .pub]))=Y:=by
 rw[h,zLc e,rW hk e,F8]
theorem SQ{X Y:TP}(e:¬xk s b l k=0)(h:Y=if xk s b l k=0 then X.set K (.row (rAc (ja s b l (k+1))))else X):X=Y:=by rw[h,zLy e]
theorem Ot(hk:k<l.length)(e:xk s b l k=0):EV.psl K ((ja s b l k).length+1)=.psl K (ja s b l (k+1)).length:=by rw[rW hk e];simp
theorem V5(e:¬xk s b l k=0):EV.psl K (ja s b l k).length=.psl K (ja s b l (k+1)).length:=by rw[Jy e]
theorem m34{M0:TP}(h57:zv tP G 42 [.pub (.agg (Hs.eSut s))] [] (.ret (.tpl [.pp 5 1 0 0,I 0]) M0)){r5:TE}(h5:M0[5]?=some (.row [r5]))(hl:l.length<=66){f:Nat->Ix × TP}(hf0:(f 0).2=M0++[.row []])(hat:∀k,k<=l.length->At s b l M0.length k (f k))(hnx:∀k,k<l.length->Nx G s b l M0.length k (f k) (f (k+1))):zv tP G 15 [.pub (.agg (Hs.eSut s)),.pub (.sl (l.map eAc))] [] (.ret (.tpl [.pp 5 1 0 0,.psl M0.length (ja s b l l.length).length,.pub (.v (.bool true))]) (f l.length).2):=by
 have hll:(l.map eAc).length=l.length:=sI;have ha:=hat l.length (zLl _);have hz1:=ha.bu.lt 5 (by rw[←ha.row];simp[Ix.all]);have hz2:=(zLg ha.done).1;refine jd func15 Y nR Y (fun gh hold hmk=>?_);refine Z11 ?_;refine mc h57 ?_;refine Z13 ?_;refine qT (fun _ h=>by cases h) rfl (rfl) (OpY.toM (by exact e9 rfl rfl) (zo rfl)) ?_;refine qT (fun _ h=>by cases h) rfl (rfl) (OpY.toM (by exact oP rfl rfl h5 rfl underlying42) (zo rfl)) ?_;refine Z3 ?_;refine nC ?_ ?_<;>intro h0
 ·skip;exfalso;simp at h0
 ·skip;refine Z9 ?_;refine zt (yZ 9 Y) ?_;refine Z5 ?_;refine zD (ι:={k:Nat//k<=l.length}) (fun k=>⟨⟨Tryz.f15.ntmps,[],gh,false,hold⟩,frL [(1,.pub (.sl (l.map eAc))),(7,.pp 5 1 0 0),(9,.psl M0.length (ja s b l k.1).length),(10,I (k.1:Int))],(f k.1).2⟩) (fun k=>l.length-k.1) (⟨0,oM⟩) ?_ ?_
  ·exact zd _ rL (hf0.symm)
  ·rintro⟨k,hk⟩;dsimp only;refine Z5 ?_;refine zb (zM Y Y Y underlying38) (Z3 ?_);refine nC ?_ ?_<;>intro h1
   ·skip;have hlt:k<l.length:=by rw[hll]at h1;simpa using h1
    obtain⟨X,hX1,hX2,hX3,hX4⟩:=(hnx k hlt).call;have hgd:l.getD k ac0=l[k]:=by simp[hlt]
    refine Z9 ?_;refine zb (zc Y Y Y sA oM (by exact Hs.mp_at (e:=eAc) hlt) (Hs.mp_len fun _=>rfl)) ?_;refine Z ?_;refine zm Y (qS (f:=20) (fs:=[]) (cs:=[]) (av:=[.pp 5 1 0 0,.pub (.agg (eAc l[k]))]) Y Y ⟨Y,Y,Y⟩ rL (by rw[←hgd];exact hX3)) (Z3 ?_);refine nC ?_ ?_<;>intro h2
    ·skip;have he:xk s b l k=0:=by simpa using h2
     refine Z4 ?_;refine zb (zc Y Y Y sA oM (by exact Hs.mp_at (e:=eAc) hlt) (Hs.mp_len fun _=>rfl)) ?_;refine Z ?_;refine zb (zw (size:=3) (rows:=[[_,_,_]]) Y underlying38 OY Y dE Y dE ⟨_,_,Y,zF Y,Y⟩ rF (by simp[ofV,eI,Wr.eCps]) Y sI) ?_;refine zm Y (wn Y Y Y hX2 jm Y X0 lW (by intro r hr;simp at hr;subst hr;rfl) (by have:=v7 s b l k;simp;omega) (by have:=v7 s b l k;unfold maxLen;simp;omega)) (Z9 ?_);exact⟨⟨k+1,oM⟩,by dsimp only;omega,zd _ ⟨Y,Y,(Ot hlt he),Y,trivial⟩ ((Pm hlt he hX4))⟩
    ·skip;have he:¬xk s b l k=0:=by simpa using h2
     refine Z8 ?_;exact⟨⟨k+1,oM⟩,by dsimp only;omega,zd _ ⟨Y,Y,(V5 he),Y,trivial⟩ ((SQ he hX4))⟩
   ·skip;have hge:k=l.length:=by rw[hll]at h1;simp at h1;omega
    refine Z15 ?_
    exact fun hz=>qQ [] (by rw[hge];exact(List.append_nil _).symm) (by rw[hge]at hz;exact hz) sI (.inr Y) (by simp only[EV.lt,EV.ltL];exact⟨hz1,hz2,trivial,trivial⟩) ⟨dE,_,Y,_,_,Y,Y,_,_,Y,(by rw[hge];rfl),_,_,Y,Y,Y⟩
end Bu
end Go.Av
namespace Go.Av
namespace Bu
open Go.Proofs Tryz
variable{G:Glob}{s:Hs.Sut}{b:BS}{ix:Ix}{M:TP}
variable{l:List Ac}{a:Ac}
theorem fF(h:brB l=true):(∀a∈l,foB a=true)/\l.length<=66:=by
 simp only[brB,zLa,zLu,zLd]at h;exact⟨h.1,oM⟩
theorem eE(hsm:Hs.smB s=true)(hS:Hs.SuP s)(hb:brB l=true):∃M ix K,BuM s (yg s (b0 s s.days.toNat) l l.length) ix M/\ix.row=5/\M[K]?=some (.row (rAc (ja s (b0 s s.days.toNat) l l.length)))/\
  zv tP G 15 [.pub (.agg (Hs.eSut s)),.pub (.sl (l.map eAc))] [] (.ret (.tpl [.pp 5 1 0 0,.psl K (ja s (b0 s s.days.toNat) l l.length).length,.pub (.v (.bool true))]) M):=by
 obtain⟨M0,ix,h1,h2,h3⟩:=m57 (G:=G) hsm hS;obtain⟨hf,hl⟩:=fF hb;have hat:At s (b0 s s.days.toNat) l M0.length 0 (ix,M0++[.row []]):=⟨h1.app,h2,by simp[ja,rAc],rU h1⟩;obtain⟨f,f0,f1,f2⟩:=chain (G:=G) hS (uc hsm hS) hf hat l.length (zLl _);have h5:=h1.row;rw[h2]at h5;have hq:=m34 h3 h5 hl (by rw[f0]) f1 f2;have ha:=f1 l.length (zLl _);exact⟨_,_,_,ha.bu,ha.row,ha.done,hq⟩
def wcA(s:Hs.Sut)(a:Ac):Int:=if a.w=2 then wrC s a.c else 0
def yJ(s:Hs.Sut)(l:List Ac):Int:=l.foldl (fun x a=>x+wcA s a) 0
theorem Ak:yJ s (l++[a])=yJ s l+wcA s a:=by simp[yJ]
theorem Jb(hf:foB a=true):(doS s b a).2.cost=(if(doS s b a).1=0 then b.cost+wcA s a else b.cost)/\((doS s b a).1=0->a.w=2->1<=a.c.length/\a.c.length<=3):=by
 obtain⟨hw,⟨hc,hg⟩,hn⟩:=vm hf;obtain⟨w,n,c⟩:=a;simp only at hw hc hg hn;have hw2:w=1∨w=2∨w=3∨w=4∨w=5∨w=6:=oM;rcases hw2 with rfl|rfl|rfl|rfl|rfl|rfl
 ·match n,hn with
  |[x0,x1,x2,x3,x4,x5,x6,x7,x8,x9,x10],_=>
   refine⟨?_,fun _ h=>absurd h sI⟩;simp only[doS,rdS,wcA]
   by_cases e:rdE s b x0 ⟨x1,x2,x3,x4,x5,x6,x7,x8,x9,x10⟩=0<;>simp[e,BS.put,BS.act]
 ·match n,hn with
  |[x0,x1],_=>
   refine⟨?_,fun h _=>?_⟩
   ·simp only[doS,wrS,wcA]
    by_cases e:wrE s b x0 x1 c=0<;>simp[e,BS.put,BS.act,BS.pay]
   ·have e:wrE s b x0 x1 c=0:=by simpa[doS]using h
    have:=(jA e).2.2.2;simp only[zLa,zLd]at this;exact HE this.1
 ·match n,hn with
  |[x0,x1,x2,x3,x4],_=>
   refine⟨?_,fun _ h=>absurd h sI⟩;simp only[doS,aw,wcA]
   by_cases e:iz s b x0 x1 x2 x3 x4=0<;>simp[e,BS.put,BS.act,BS.ship]
 ·match n,hn with
  |[x0,x1,x2,x3,x4,x5,x6],_=>
   refine⟨?_,fun _ h=>absurd h sI⟩;simp only[doS,wW,wcA]
   by_cases e:ee s b ⟨x0,x1,x2,x3,x4,x5,x6⟩=0<;>simp[e,BS.act,BS.rep]
 ·match n,hn with
  |x0::x1::l,hn=>
   refine⟨?_,fun _ h=>absurd h sI⟩;simp only[doS,stB,wcA]
   by_cases e:stE s b x0 x1 l=0<;>simp[e,BS.act,BS.state]
 ·match n,hn with
  |[x0,x1,x2],_=>
   refine⟨?_,fun _ h=>absurd h sI⟩;simp only[doS,cmB,wcA]
   by_cases e:cmE s b x0 x1 x2=0<;>simp[e,BS.act,BS.came]
theorem pI(hf:∀a∈l,foB a=true):∀k,k<=l.length->(yg s b l k).cost=b.cost+yJ s (ja s b l k)/\∀a∈ja s b l k,a.w=2->1<=a.c.length/\a.c.length<=3
 |0,_=>⟨by simp[yg,ja,yJ],fun a ha=>by simp[ja]at ha⟩
 |k+1,hk=>by
  obtain⟨h1,h2⟩:=pI hf k oM;have ha:l.getD k ac0∈l:=by simp[show k<l.length by omega]
  obtain⟨d1,d2⟩:=Jb (s:=s) (b:=yg s b l k) (hf _ ha);simp only[yg,ja];rw[d1]
  by_cases e:(doS s (yg s b l k) (l.getD k ac0)).1=0
  ·rw[zLc e,zLc e];refine⟨by rw[Ak,h1];omega,fun a hm=>?_⟩;rcases List.mem_append.1 hm with hm|hm
   ·exact h2 a hm
   ·rw[zLh]at hm;subst hm;exact d2 e
  ·rw[zLy e,zLy e];exact⟨h1,h2⟩
theorem Vy(hS:Hs.SuP s)(h:a.w=2->1<=a.c.length/\a.c.length<=3):0<=wcA s a/\wcA s a<=1000000:=by
 unfold wcA;split
 ·rename_i e
  have hcd:=Wr.cod_bd hS.code;have:=h e;exact mx hS.tar oM oM
 ·omega
end Bu
end Go.Av
namespace Go.Av
namespace Bu
open Go.Proofs Tryz
variable{G:Glob}
variable{s:Hs.Sut}{l:List Ac}
theorem cZ{k:Nat}(h:k<l.length):yJ s (l.take k)+wcA s l[k]=yJ s (l.take (k+1)):=by
 rw[zLt h,Ak]
theorem nO(h:∀a∈l,0<=wcA s a/\wcA s a<=1000000):∀k,k<=l.length->0<=yJ s (l.take k)/\yJ s (l.take k)<=1000000*(k:Int)
 |0,_=>by simp[yJ]
 |k+1,hk=>by
  have h1:=nO h k oM;have h2:=h l[k] (zLm oM);rw[←cZ oM];omega
theorem K8{a:Ac}(h:a.w=2):wcA s a=wrC s a.c:=by unfold wcA;rw[zLc h]
theorem Xi{a:Ac}(h:¬a.w=2):wcA s a=0:=by unfold wcA;rw[zLy h]
theorem tB{G:Glob}(hsm:Hs.smB s=true)(hsu:Hs.suB s=true)(hb:brB l=true):Hs.SuP s/\l.length<=66/\∃(M:TP)(K:Nat)(b:BS)(D:List Ac),DV M (.pp 5 1 0 0) (.ptr (eBu s b))/\M[K]?=some (.row (rAc D))/\
  zv tP G 15 [.pub (.agg (Hs.eSut s)),.pub (.sl (l.map eAc))] [] (.ret (.tpl [.pp 5 1 0 0,.psl K D.length,.pub (.v (.bool true))]) M)/\b.cost=yJ s D/\(∀a∈D,a.w=2->1<=a.c.length/\a.c.length<=3)/\(∀a∈D,0<=wcA s a/\wcA s a<=1000000)/\D.length<=66/\(0<=yJ s D/\yJ s D<=1000000*(D.length:Int))/\(0<=b.cost/\b.cost<=1000000000)/\(1<=s.code.fields.length/\s.code.fields.length<=3):=by
 have hS:=Hs.suP hsu;obtain⟨hfo,hl⟩:=fF hb;obtain⟨M,ix,K,hbu,hrow,hdo,hq⟩:=eE (G:=G) hsm hS hb;obtain⟨hcost,hcn⟩:=pI (s:=s) (b:=b0 s s.days.toNat) hfo l.length (zLl _);have hc0:(b0 s s.days.toNat).cost=0:=rfl;have hwc:∀a∈ja s (b0 s s.days.toNat) l l.length,0<=wcA s a/\wcA s a<=1000000:=fun a ha=>Vy hS (hcn a ha);have hdl:=v7 s (b0 s s.days.toNat) l l.length;have hsb:=nO hwc _ (zLl _);rw[List.take_length]at hsb;have hdv:=hbu.dv;rw[hrow]at hdv;exact⟨hS,hl,M,K,_,_,hdv,hdo,hq,by rw[hcost,hc0];omega,hcn,hwc,oM,hsb,by rw[hcost,hc0];omega,(Wr.cod_bd hS.code).1⟩
theorem Gz{G:Glob}(s:Hs.Sut)(l:List Ac):∃(M:TP)(K:Nat)(b:BS)(D:List Ac),(Hs.smB s=true/\Hs.suB s=true/\brB l=true)->Hs.SuP s/\l.length<=66/\DV M (.pp 5 1 0 0) (.ptr (eBu s b))/\M[K]?=some (.row (rAc D))/\
  zv tP G 15 [.pub (.agg (Hs.eSut s)),.pub (.sl (l.map eAc))] [] (.ret (.tpl [.pp 5 1 0 0,.psl K D.length,.pub (.v (.bool true))]) M)/\b.cost=yJ s D/\(∀a∈D,a.w=2->1<=a.c.length/\a.c.length<=3)/\(∀a∈D,0<=wcA s a/\wcA s a<=1000000)/\D.length<=66/\(0<=yJ s D/\yJ s D<=1000000*(D.length:Int))/\(0<=b.cost/\b.cost<=1000000000)/\(1<=s.code.fields.length/\s.code.fields.length<=3):=by
 by_cases h:Hs.smB s=true/\Hs.suB s=true/\brB l=true
 ·obtain⟨hS,hl,M,K,b,D,h2⟩:=tB (G:=G) h.1 h.2.1 h.2.2;exact⟨M,K,b,D,fun _=>⟨hS,hl,h2⟩⟩
 ·exact⟨[],0,b0 s 0,[],fun h2=>absurd h2 h⟩
theorem mL{k:Nat}(h:k<l.length):(rAc l)[k]?=some [.pub (ei l[k].w),.pub (eI l[k].n),.pub (Wr.eCps l[k].c)]:=by simp[rAc,h,eAc]
theorem f9(h20:ACall tP G 14 [] (.v (.bool true)))(s:Hs.Sut)(l:List Ac):ACall tP G 7 [.agg (Hs.eSut s),.sl (l.map eAc)] (.v (.bool true)):=by
 obtain⟨M,K,b9,D9,hp⟩:=Gz (G:=G) s l;refine aC func7 ?_;refine Z10 ?_;refine yc (f17 s) ?_;refine Z3 ?_;refine zh Y (fun hg=>zi (av:=[_]) Y ⟨((by first|exact Y|exact(zLc hg))),trivial⟩ (Hs.f7 s (by simpa using hg))) ?_;refine zh Y (fun hg=>q0 Y ((zLc hg))) (zb (ju Y Y Y Y) ?_);refine Z2 ?_;refine zh Y (fun hg=>zi (av:=[_]) Y ⟨((by first|exact Y|exact(zLc hg))),trivial⟩ (f19 l)) ?_;refine zh Y (fun hg=>q0 Y ((zLc hg))) (zb (ju Y Y Y Y) ?_);refine Z2 ?_;refine nC ?_ ?_<;>intro h0
 ·skip;refine Z2 ?_;refine yc h20 ?_;refine Z5 ?_;exact aR
 ·skip;refine zt (zd (mem':=[]) [(1,.pub (.sl (l.map eAc))),(2,.pub (.ptr (Hs.eSut s)))] ?_ ?_) ?_
  ·exact rL
  ·exact Y
  have h0s:Hs.smB s=true/\Hs.suB s=true/\brB l=true:=by
   simp at h0;exact⟨h0.1.1,h0.1.2,h0.2⟩
  have hf:=hp h0s;have hS:=hf.1;have hl66:=hf.2.1;have hdv:=hf.2.2.1;have hdo:=hf.2.2.2.1;have hq:=hf.2.2.2.2.1;have hcost:=hf.2.2.2.2.2.1;have hcn:=hf.2.2.2.2.2.2.1;have hwc:=hf.2.2.2.2.2.2.2.1;have hdl:=hf.2.2.2.2.2.2.2.2.1;have hsb:=hf.2.2.2.2.2.2.2.2.2.1;have hcb:=hf.2.2.2.2.2.2.2.2.2.2.1;have hcd:=hf.2.2.2.2.2.2.2.2.2.2.2;refine Z6 ?_;refine mc hq ?_;refine Z16 ?_;refine nC ?_ ?_<;>intro h1
  ·skip;exfalso;simp at h1
  ·skip;refine Z5 ?_;refine zb (jc (av:=[.ptr (eBu s (b9))]) Y ⟨hdv,trivial⟩ Y (f54 s (b9))) (Z13 ?_);refine qT (fun _ h=>by cases h) rfl (rfl) (OpY.toM (by exact zX rfl rfl) (zo rfl)) ?_;refine qT (fun _ h=>by cases h) rfl (rfl) (OpY.toM (by exact y6 rfl rfl rfl) (zo rfl)) ?_;refine Z7 ?_;refine nC ?_ ?_<;>intro h2
   ·skip;exfalso;simp at h2;omega
   ·skip;refine Z14 ?_;refine zD (ι:={k:Nat//k<=(D9).length}) (fun k=>⟨Tryz.f7.ntmps,frL [(2,.pub (.ptr (Hs.eSut s))),(6,.psl K (D9).length),(8,I (b9).cost),(10,I (yJ s ((D9).take k.1))),(11,I (k.1:Int))],M⟩) (fun k=>(D9).length-k.1) (⟨0,oM⟩) ?_ ?_
    ·exact zd _ rL (Y)
    ·rintro⟨k,hk⟩;dsimp only;refine Z5 ?_;refine zb (jJ Y Y hdo jm underlying38) (Z3 ?_);refine nC ?_ ?_<;>intro h3
     ·skip;have hlt:k<(D9).length:=by simpa using h3
      have hpb:=nO hwc k oM;refine Z9 ?_;refine zb (qh Y Y Y hdo jm sA oM oM lW) (zb (ze Y Y hdo jm rh) (zb (zg Y Y hdo jm (mL hlt) Y ki) ?_));refine Z3 ?_;refine nC ?_ ?_<;>intro h4
      ·skip;have hw2:¬(D9)[k].w=2:=by simpa using h4
       refine Z9 ?_;exact⟨⟨k+1,oM⟩,by dsimp only;omega,zd _ ⟨Y,Y,Y,(zLz I (((Int.add_zero _).symm.trans (zLz (fun z=>yJ s ((D9).take k)+z) (Xi hw2).symm)).trans (cZ hlt))),Y,trivial⟩ (Y)⟩
      ·skip;have hw2:(D9)[k].w=2:=by simpa using h4
       have hn3:=hcn _ (zLm hlt) hw2;have hci:=hwc _ (zLm hlt);rw[K8 hw2]at hci
       have sp55:ACall tP G 40 [.agg [ei s.op,ei s.fr,ei s.mo],ei ((((s.code.fields.map Wr.eSpn).length:Nat):Int)+1),ei ((((D9)[k].c.map fun g=>[Wr.eStrs g]).length:Nat):Int)] (.tup [ei (wrC s (D9)[k].c),ei 0]):=by
        rw[zL8,zL8];exact Wr.f50_ok ⟨s.op,s.fr,s.mo⟩ _ _ hS.tar (by rw[Wr.inB_iff];omega) (by rw[Wr.inB_iff];omega)
       refine Z3 ?_;refine zN mixed nR Y ?_;refine Z5 ?_;refine zH Y (zM Y Y Y underlying23) ?_;refine zH Y (vA Y Y Y ⟨by simp only[zL8];omega,by simp only[zL8];omega⟩) (Z2 ?_);refine zH Y (qh Y Y Y hdo jm sA oM oM lW) (zH Y (ze Y Y hdo jm fe) (zH Y (zg Y Y hdo jm (mL hlt) Y iu) (zH Y (zM Y Y Y underlying46) (zH Y (zi (av:=[_,_,_]) Y rL sp55) ?_))));refine Z13 ?_;refine qT (fun _ h=>by cases h) rfl (rfl) (OpY.toM (by exact zX rfl rfl) (zo rfl)) ?_;refine qT (fun _ h=>by cases h) rfl (rfl) (OpY.toM (by exact y6 rfl rfl rfl) (zo rfl)) ?_;refine Z7 ?_;refine nC ?_ ?_<;>intro h5
       ·skip;exfalso;simp at h5;omega
       ·skip;refine Z5 ?_;refine zb (vA Y Y Y ⟨by show _<=yJ s ((D9).take k)+wrC s (D9)[k].c;omega,by show yJ s ((D9).take k)+wrC s (D9)[k].c<=_;omega⟩) ?_;refine Z9 ?_;exact⟨⟨k+1,oM⟩,by dsimp only;omega,zd _ ⟨Y,Y,Y,(zLz I ((zLz (fun z=>yJ s ((D9).take k)+z) (K8 hw2).symm).trans (cZ hlt))),Y,trivial⟩ (Y)⟩
     ·skip;have hge:k=(D9).length:=by simp at h3;omega
      refine Z11 ?_;refine yd Y (fun hg=>h20) ?_;refine Z5 ?_;exact⟨.inr Y,AVle.of (by rw[hge,List.take_length,hcost];simp)⟩
end Bu
end Go.Av
end
