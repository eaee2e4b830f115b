import Derived.Test.YtigbomcjnlikjaaGreatDoorExB
import Derived.Test.YtigbomcjnlikjaaGreatDoorPlatI
set_option linter.unusedVariables false
set_option linter.unusedSimpArgs false
set_option maxRecDepth 100000
set_option maxHeartbeats 9000000
section
namespace Go.Av
namespace Bu
open Go.Proofs Tryz
variable{G:Glob}
theorem dw:zS tP 46 false 1=true:=nR
theorem S7:zS tP 240 true 5=true:=nR
theorem FH:zO tP 240 1 1=true:=nR
theorem HZ:zO tP 240 2 2=true:=nR
theorem HU:zO tP 240 3 3=true:=nR
theorem RD:tP.info? 108=some Tryz.t108:=nR
theorem Qh{α:Type}:∀x:Option α,x=none∨∃y,x=some y
 |none=>.inl rfl
 |some y=>.inr ⟨y,rfl⟩
theorem oz{P:Program}{fn:Func}{st:ASt}{r r':AV}(h:r=r')(x:RetE P fn st r'):RetE P fn st r:=h▸x
theorem hd_at{t:List UInt8}:(wsT t).headD []=(wsT t)[0]'(xr t):=by
 have:∀(l:TB)(h:0<l.length),l.headD []=l[0]:=fun l h=>by
  cases l with
  |nil=>simp at h
  |cons a l=>rfl
 exact this _ _
def pX(cop:Bool)(many:Int)(ws:TB)(k:Nat):List Int:=((gP cop many ws k).getD ([],[])).1
def pL(cop:Bool)(many:Int)(ws:TB)(k:Nat):TC:=((gP cop many ws k).getD ([],[])).2
variable{act c0 cop is more:Bool}{many:Int}{ws:TB}{k:Nat}{F:AV}{x:List Int}{l:TC}
theorem Fh(h:(gP cop many ws k).isSome=true):gP cop many ws k=some (pX cop many ws k,pL cop many ws k):=by
 unfold pX pL;cases hg:gP cop many ws k with
 |none=>rw[hg]at h;cases h
 |some p=>rfl
theorem NJ{p:List Int × TC}(h:gP cop many ws k=some p):pX cop many ws k=p.1/\pL cop many ws k=p.2:=by unfold pX pL;rw[h];exact⟨rfl,rfl⟩
theorem zbI{s:List UInt8}(h:s.length<4294967281):ACall tP GB 234 [eS s,ofV (.string ⟨#[46]⟩)] (eStrs (qM 46 s)):=by
 have:=FT s 46 h;rwa[show eS [46]=ofV (.string ⟨#[46]⟩) from by simp[ofV]]at this
def rI(x:List Int):List (TE):=x.map fun n=>[I n]
def M6(F:AV)(many:Int)(more cop act is:Bool)(x:List Int)(l:TC):TP:=[.row [[.pub F,I many,B more,B cop,B act,.psl 2 x.length,.psl 3 l.length]],.row [[B is]],.row (rI x),.row (rCp l)]
theorem SS{m0:Int}{n:Int}(h:gP cop many ws (k+1)=some (pX cop many ws k++[n],pL cop many ws k)):
  [PO.row [[.pub F,I m0,B more,B c0,B act,.psl 2 ((pX cop many ws k).length+1),.psl 3 (pL cop many ws k).length]],.row [[B is]],.row (rI (pX cop many ws k)++[[I n]]),.row (rCp (pL cop many ws k))]=M6 F m0 more c0 act is (pX cop many ws (k+1)) (pL cop many ws (k+1)):=by
 obtain⟨h1,h2⟩:=NJ h;rw[h1,h2];simp[M6,rI]
theorem VD{m0:Int}{g:TB}(h:gP cop many ws (k+1)=some (pX cop many ws k,pL cop many ws k++[g])):
  [PO.row [[.pub F,I m0,B more,B c0,B act,.psl 2 (pX cop many ws k).length,.psl 3 ((pL cop many ws k).length+1)]],.row [[B is]],.row (rI (pX cop many ws k)),.row (rCp (pL cop many ws k)++[[.pub (eStrs g)]])]=M6 F m0 more c0 act is (pX cop many ws (k+1)) (pL cop many ws (k+1)):=by
 obtain⟨h1,h2⟩:=NJ h;rw[h1,h2];simp[M6,rCp];rfl
theorem Hy:(rI x).length=x.length:=by simp[rI]
theorem Oj:∀r∈rI x,r.length=1:=fun r hr=>by obtain⟨n,_,rfl⟩:=zLj.1 hr;rfl
theorem pn:(rCp l).length=l.length:=by simp[rCp]
theorem Pg:∀r∈rCp l,r.length=1:=fun r hr=>by obtain⟨n,_,rfl⟩:=zLj.1 hr;rfl
theorem Xy{mem:TP}(h:mem[k]?=some (.row (rI x))):uQ mem (.psl k x.length) (eI x):=⟨x.map fun n=>[ei n],by rw[h,rI,List.map_map];rfl,sI,rfl⟩
theorem XO{mem:TP}(h:mem[k]?=some (.row (rCp l))):uQ mem (.psl k l.length) (Wr.eCps l):=⟨l.map fun g=>[Wr.eStrs g],by rw[h,rCp,List.map_map];rfl,sI,rfl⟩
theorem Vm(h:hdC is many more cop (ws.length:Int)=true):rLn F many more cop act is ws=.tup [VQ,.v (.bool false)]:=zLc h
theorem NB(h:hdC is many more cop (ws.length:Int)=false)(hk:k<=ws.length)(hg:gP cop many ws k=none):rLn F many more cop act is ws=.tup [VQ,.v (.bool false)]:=by
 unfold rLn;rw[zLy (by rw[h];decide),Ao hg hk]
theorem zal(h:hdC is many more cop (ws.length:Int)=false)(hk:k=ws.length)(hg:(gP cop many ws k).isSome=true):rLn F many more cop act is ws=.tup [.agg [F,ei many,.v (.bool more),.v (.bool cop),.v (.bool act),eI (pX cop many ws k),Wr.eCps (pL cop many ws k)],.v (.bool true)]:=by
 have:=Fh hg;unfold rLn;rw[zLy (by rw[h];decide),←hk,this]
theorem f129(t:List UInt8)(hl:t.length<=100000)(hlk:(EV.pub (.tup [wY ((wsT t)[0]'(xr t)) (ofV (.agg #[.nilFunc,nZ,.bool false,.bool false,.bool false])) ordL,.v (.bool (aZ ((wsT t)[0]'(xr t)) ordL))]))=.pub (.tup [.agg [F,ei many,.v (.bool more),.v (.bool cop),.v (.bool act)],.v (.bool is)])):ACall tP GB 129 [eS t] (rLn F many more cop act is ((wsT t).drop 1)):=by
 have hwl:=fX 32 t;have hml:((qM 32 t).map fun s=>[eS s]).length=(qM 32 t).length:=sI;have hw1:0<(qM 32 t).length:=xr t;obtain⟨ws,hws⟩:∃ws,ws=(wsT t).drop 1:=⟨_,rfl⟩;rw[←hws];have hwn:(ws.length:Int)=((((qM 32 t).map fun s=>[eS s]).length:Nat):Int)-1:=by rw[hws,hml];simp only[List.length_drop,wsT];omega
 have hwm:(ws.map fun s=>[eS s]).length=ws.length:=sI;have hwe:∀w∈ws,w.length<=t.length:=fun w hw=>im 32 t w (List.mem_of_mem_drop (by rw[hws]at hw;exact hw));have hsl:EV.pub (.sl ((((qM 32 t).map fun s=>[eS s]).take (((qM 32 t).map fun s=>[eS s]).length:Int).toNat).drop (1:Int).toNat))=.pub (.sl (ws.map fun s=>[eS s])):=by rw[hws];simp only[wsT,List.map_drop,Int.toNat_natCast,List.take_length];rfl
 refine xU func129 Y nR Y ?_;refine Z2 ?_;refine zm Y (zE Y Y G8 Y Y) (zm Y (zE Y Y zB Y Y) ?_);refine Z5 ?_;refine bF Y Y Y Y ?_;refine Z5 ?_;refine yc (FT t 32 oM) ?_;refine Z4 ?_;refine qd (fun _=>True) (fun k=>match k with|7=>.stable|9=>.writes|10=>.writes|_=>.here) mixed nR rfl nR trivial ?_;refine zK Y Y (zi (av:=[]) Y trivial f235) (Z ?_);refine zK Y Y (zc Y Y Y ib oM (by exact Nl (k:=0) (xr t)) td) (Z ?_);refine zK Y Y (M1 (sh (enc:=enS) (a:=((wsT t)[0]'(xr t))) Y Y Y jr underlying335 keyS XF) hlk) (Z4 ?_);refine qw Y Y (zz Y Y Y Y Y Y cEx S7 rF rF) trivial ?_;refine qw Y Y (zz Y Y Y Y Y Y cEx ty4 rF rF) trivial (Z5 ?_);refine zb (zM Y Y Y underlying108) (Z ?_);refine Z ?_;refine Z ?_;refine Z ?_;refine Z ?_;refine Z ?_;refine Z ?_;refine Z ?_;refine Z ?_;refine Z ?_;refine Z ?_;refine Z ?_;refine Z ?_;refine Z ?_;refine Z ?_;refine Z ?_;refine Z ?_;refine Z ?_;refine Z ?_;refine Z ?_
 refine Z ?_;refine Z ?_;refine zh Y (fun hg=>zX Y (zLc hg)) (zh (zx Y Y Y) (fun hg=>ze Y Y Y Y iC) (zh (zx Y Y Y) (fun hg=>ze Y (zLc hg) Y Y HZ) (zh (zx Y Y Y) (fun hg=>zg Y (zLc hg) Y Y Y Y ty4) (zh (zx Y Y Y) (fun hg=>q0 Y (zLc hg)) (zh Y (fun hg=>vB Y (zLc hg) (jY hg) Y) (zh Y (fun hg=>zX Y (zLc hg)) (zh (zx Y Y Y) (fun hg=>ze Y Y Y Y iC) (zh (zx Y Y Y) (fun hg=>ze Y (zLc hg) Y Y HU) (zh (zx Y Y Y) (fun hg=>zg Y (zLc hg) Y Y Y Y ty4) (zh (zx Y Y Y) (fun hg=>q0 Y (zLc hg)) (zh Y (fun hg=>vB Y (zLc hg) (jY hg) Y) ?_)))))))))));refine Z ?_;refine Z ?_;refine Z ?_;refine Z ?_;refine Z ?_;refine zh Y (fun hg=>zX Y (zLc hg)) (zh (zx Y Y Y) (fun hg=>zX Y Y) (zh (zx Y Y Y) (fun hg=>ze Y Y Y Y iC) (zh (zx Y Y Y) (fun hg=>ze Y (zLc hg) Y Y FH) (zh (zx Y Y Y) (fun hg=>zg Y (zLc hg) Y Y Y Y ki) (zh (zx Y Y Y) (fun hg=>vr Y (zLc hg) (zLc hg)) (zh Y (fun hg=>vB Y (zLc hg) (jY hg) Y) ?_))))));refine Z3 ?_
 refine nC ?_ ?_<;>intro h0
 ·have hz:=Vm (F:=F) (act:=act) (by rw[hwn];exact h0);refine Z2 ?_;refine zb (zu (cs:=[_]) Y oS Y (zk Y) rF (by simp[ofV])) ?_;refine zb (zZ Y Y underlying332 Y) ?_;refine vY Y Y Y (fun u=>?_);refine qW ?_;exact .inr ⟨8,233,_,[.row [zQn],.row [[B false]]],_,Y,Y,(oz hz ⟨_,Y,⟨_,_,Y,(zQ Y Y Y Y dO Y (by exact(vwR (vwR (vwR (vwR (vwR (vwR (vwR Y))))))))),⟨_,_,Y,(jI Y Y Y Y ty4 Y (by exact AVle.refl _)),Y⟩⟩⟩),.inr ⟨u,_,Y,zL1 ..,cF ..⟩⟩
 ·have hb:hdC is many more cop (ws.length:Int)=false:=by rw[hwn];exact h0
  refine Z4 ?_;refine zt (l9 (k:=0) (i:=0) (j:=5) Y Y Y) ?_;refine zt (l9 (k:=0) (i:=0) (j:=6) Y Y Y) ?_;refine Z2 ?_;refine zb (M1 (Bf (l:=1) Y Y Y Y ib td oM oM oM) hsl) (zb (zM Y Y Y underlying108) ?_);refine Z4 ?_;refine zD (ι:={k:Nat//k<=ws.length/\(gP cop many ws k).isSome=true}) (fun k=>⟨⟨Tryz.f129.ntmps,[8],[],false,[]⟩,frL [(0,SL t),(2,.pp 0 1 0 0),(3,.pp 1 1 0 0),(8,.fnm 233 [] [.pp 0 1 0 0,.pp 1 1 0 0]),(67,.pub (.sl (ws.map fun s=>[eS s]))),(68,I (((ws.map fun s=>[eS s]).length:Nat):Int)),(69,I (k.1:Int))],M6 F many more cop act is (pX cop many ws k.1) (pL cop many ws k.1)⟩) (fun k=>ws.length-k.1) (⟨0,oM,Y⟩) ?_ ?_
  ·exact zd _ rL (Y)
  ·rintro⟨k,hk⟩;dsimp only;refine Z6 ?_;refine nC ?_ ?_<;>intro h1
   ·have hlt:k<ws.length:=by rw[hwm]at h1;simpa using h1
    have hgs:=Fh hk.2;have hgl:=Gx hgs;simp only at hgl;have hwk:=hwe _ (zLm hlt);have hgd:ws.getD k []=ws[k]:=by simp[hlt]
    refine Z7 ?_;refine zb (zc Y Y Y ib oM (by exact Nl hlt) td) (Z21 ?_);refine nC ?_ ?_<;>intro h2
    ·refine Z ?_;refine Or.elim (Qh (nmP ws[k])) (fun hx0=>?_) (fun hx0=>Exists.elim hx0 (fun y0 hx0=>?_))
     ·refine B6 pvW mixed nR Y [(2,.pp 0 1 0 0),(3,.pp 1 1 0 0),(8,.fnm 233 [] [.pp 0 1 0 0,.pp 1 1 0 0])] ⟨Y,Y,Y,trivial⟩ rF (fun u=>?_) ?_
      ·have hz:=NB (F:=F) (act:=act) hb (show k+1<=ws.length by omega) (by rw[sW hgs h2,hgd,hx0];rfl);refine qW ?_;refine qW ?_;refine yV ?_;refine qW ?_;refine qW ?_;refine yV ?_;refine qW ?_;exact .inr ⟨8,233,_,[.row [zQn],.row [[B false]],.row (rI (pX cop many ws k)),.row (rCp (pL cop many ws k))],_,Y,Y,(oz hz ⟨_,Y,⟨_,_,Y,(zQ Y Y Y Y dO Y (by exact(vwR (vwR (vwR (vwR (vwR (vwR (vwR Y))))))))),⟨_,_,Y,(jI Y Y Y Y ty4 Y (by exact AVle.refl _)),Y⟩⟩⟩),.inr ⟨u,_,Y,zL1 ..,cF ..⟩⟩
      refine tn Y (ze Y Y Y Y cg) ?_;refine tn Y (zg Y Y Y Y Y Y hU) ?_;refine tn Y (zX Y Y) ?_;refine Ho (av:=[_]) Y Y rL (XCall.none (UJ ws[k] oM) hx0) ?_;refine tn Y (Gq (i:=0) Y Y) ?_;refine tn Y (Gq (i:=1) Y Y) ?_;refine tn Y (ze Y Y Y Y cg) ?_;refine tn Y (Gq (i:=1) Y Y) ?_;exact PS (.inr ⟨88,Y⟩)
     ·have hst:=sW hgs h2;rw[hgd,hx0,Option.map_some]at hst;refine qd (fun _=>True) (fun k=>match k with|0=>.rd [0]|1=>.rd [0]|2=>.stable|3=>.stable|4=>.stable|5=>.rw [] (2)|6=>.rd [0]|7=>.writes|_=>.here) mixed nR rfl nR trivial ?_;refine wX [0] Y Y (fun m hm hC=>ze Y Y (hm.one 0 Y) Y cg) ?_;refine wX [0] Y Y (fun m hm hC=>zg (rows:=[[.pub F,I many,B more,B cop,B act,.psl 2 (pX cop many ws k).length,.psl 3 (pL cop many ws k).length]]) (r:=[.pub F,I many,B more,B cop,B act,.psl 2 (pX cop many ws k).length,.psl 3 (pL cop many ws k).length]) Y Y (hm.one 0 Y) Y Y Y hU) ?_;refine Z ?_;refine zC Y Y (fun m hm=>zi (av:=[_]) Y rL (XCall.some (UJ ws[k] oM) hx0)) ?_;refine zC Y Y (fun m hm=>zw (size:=1) (rows:=[[_]]) Y underlying24 Xs Y dE Y dE (zk Y) rF (by simp[ofV]) Y sI) ?_;refine Dm [] (2) Y Y (fun _=>trivial) (fun m hm=>qz Y Y ((hm 2 sI).trans Y) Hy Y Eb Oj (by intro r hr;simp at hr;subst hr;rfl) (by simp;omega) (by unfold maxLen;simp;omega)) ?_
      refine wX [0] Y Y (fun m hm hC=>ze Y Y (hm.one 0 Y) Y cg) ?_;refine qw Y Y (zz Y Y Y Y Y Y (jW Y Y (by simp[Hy])) hU rF rF) trivial (Z10 ?_);first|exact⟨⟨k+1,by omega,by rw[hst];rfl⟩,by dsimp only;omega,zd _ rL (SS hst)⟩|exact⟨⟨k+1,by omega,by rw[hst];rfl⟩,by dsimp only;omega,zd _ rL (VD hst)⟩
    ·refine Z6 ?_;refine zb (dD Y Y Y) (Z2 ?_);refine nC ?_ ?_<;>intro h3
     ·have hem:ws[k]=[]:=by simpa using h3
      have hz:=NB (F:=F) (act:=act) hb (show k+1<=ws.length by omega) (by rw[H2 hgs h2,hgd,zLc hem]);refine Z2 ?_;refine zb (zu (cs:=[_]) Y oS Y (zk Y) rF (by simp[ofV])) ?_;refine zb (zZ Y Y underlying332 Y) ?_;refine vY Y Y Y (fun u=>?_);refine qW ?_;refine yV ?_;refine qW ?_;refine qW ?_;refine yV ?_;refine qW ?_;exact .inr ⟨8,233,_,[.row [zQn],.row [[B false]],.row (rI (pX cop many ws k)),.row (rCp (pL cop many ws k))],_,Y,Y,(oz hz ⟨_,Y,⟨_,_,Y,(zQ Y Y Y Y dO Y (by exact(vwR (vwR (vwR (vwR (vwR (vwR (vwR Y))))))))),⟨_,_,Y,(jI Y Y Y Y ty4 Y (by exact AVle.refl _)),Y⟩⟩⟩),.inr ⟨u,_,Y,zL1 ..,cF ..⟩⟩
     ·have hem:¬ws[k]=[]:=by simpa using h3
      have hst:=H2 hgs h2;rw[hgd,zLy hem]at hst;refine Z2 ?_;refine qd (fun _=>True) (fun k=>match k with|0=>.rd [0]|1=>.rd [0]|2=>.stable|3=>.stable|4=>.stable|5=>.rw [] (3)|6=>.rd [0]|7=>.writes|_=>.here) mixed nR rfl nR trivial ?_;refine wX [0] Y Y (fun m hm hC=>ze Y Y (hm.one 0 Y) Y pU) ?_;refine wX [0] Y Y (fun m hm hC=>zg (rows:=[[.pub F,I many,B more,B cop,B act,.psl 2 (pX cop many ws k).length,.psl 3 (pL cop many ws k).length]]) (r:=[.pub F,I many,B more,B cop,B act,.psl 2 (pX cop many ws k).length,.psl 3 (pL cop many ws k).length]) Y Y (hm.one 0 Y) Y Y Y dw) ?_;refine Z ?_;refine zC Y Y (fun m hm=>zi (av:=[_,_]) Y rL (zbI oM)) ?_;refine zC Y Y (fun m hm=>zw (size:=1) (rows:=[[_]]) Y underlying46 RD Y dE Y dE (zk Y) rF (by simp[ofV]) Y sI) ?_;refine Dm [] (3) Y Y (fun _=>trivial) (fun m hm=>qz Y Y ((hm 3 sI).trans Y) pn Y XR Pg (by intro r hr;simp at hr;subst hr;rfl) (by simp;omega) (by unfold maxLen;simp;omega)) ?_
      refine wX [0] Y Y (fun m hm hC=>ze Y Y (hm.one 0 Y) Y pU) ?_;refine qw Y Y (zz Y Y Y Y Y Y (jW Y Y (by simp[pn])) dw rF rF) trivial (Z7 ?_);first|exact⟨⟨k+1,by omega,by rw[hst];rfl⟩,by dsimp only;omega,zd _ rL (SS hst)⟩|exact⟨⟨k+1,by omega,by rw[hst];rfl⟩,by dsimp only;omega,zd _ rL (VD hst)⟩
   ·have hge:k=ws.length:=by rw[hwm]at h1;simp at h1;omega
    have hz:=zal (F:=F) (act:=act) (is:=is) (more:=more) hb hge hk.2;refine Z8 ?_;refine zm Y (zp Y Y Y Y Y Y cEx dO rF bL) ?_;refine zm Y (zp Y Y Y Y Y Y cEx ty4 rF bL) (Z3 ?_);exact .inr ⟨8,233,_,_,_,Y,Y,(oz hz ⟨_,Y,⟨_,_,Y,(zQ Y Y Y Y dO Y (by exact(vwR (vwR (vwR (vwR (vwR ⟨_,_,Y,Xy Y,⟨_,_,Y,XO Y,Y⟩⟩))))))),⟨_,_,Y,(jI Y Y Y Y ty4 Y (by exact AVle.refl _)),Y⟩⟩⟩),.inl ⟨.inr Y,B0 _⟩⟩
end Bu
end Go.Av
end
