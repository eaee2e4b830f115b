import Derived.Test.YtigbomcjnlikjaaGreatDoorExA
import Derived.Test.YtigbomcjnlikjaaGreatDoorBuF
import Derived.Test.YtigbomcjnlikjaaGreatDoorPlatH
set_option linter.unusedVariables false
set_option linter.unusedSimpArgs false
set_option maxRecDepth 100000
set_option maxHeartbeats 9000000
section
namespace Go.Av
namespace Bu
open Go.Proofs Tryz
variable{G:Glob}
theorem yh:zU tP 240 [(0,1),(1,1),(2,1),(3,1),(4,1)] [.nilFunc,nZ,.bool false,.bool false,.bool false]:=⟨_,underlying240,nR,nR⟩
abbrev enS(l:List UInt8):Value:=.string ⟨l.toArray⟩
theorem keyS:KeyT tP 9 enS:=H9 underlying9
def ordL:List (List UInt8 × AV):=[([114,101,97,100],.agg [.fn 294 [] [],ei 11,.v (.bool false),.v (.bool false),.v (.bool true)]),([119,105,114,101],.agg [.fn 295 [] [],ei 2,.v (.bool false),.v (.bool true),.v (.bool true)]),([115,104,105,112],.agg [.fn 296 [] [],ei 5,.v (.bool false),.v (.bool false),.v (.bool true)]),([114,101,112,111,114,116],.agg [.fn 297 [] [],ei 7,.v (.bool false),.v (.bool false),.v (.bool true)]),([115,116,97,116,101],.agg [.fn 298 [] [],ei 3,.v (.bool true),.v (.bool false),.v (.bool true)]),([99,97,109,101],.agg [.fn 299 [] [],ei 3,.v (.bool false),.v (.bool false),.v (.bool true)]),([100,114,97,119],.agg [.fn 300 [] [],ei 1,.v (.bool false),.v (.bool false),.v (.bool false)]),([108,111,119],.agg [.fn 301 [] [],ei 3,.v (.bool false),.v (.bool false),.v (.bool false)]),([104,105,103,104],.agg [.fn 302 [] [],ei 3,.v (.bool false),.v (.bool false),.v (.bool false)]),([115,101,101],.agg [.fn 303 [] [],ei 0,.v (.bool false),.v (.bool false),.v (.bool false)]),([117,112],.agg [.fn 304 [] [],ei 2,.v (.bool false),.v (.bool false),.v (.bool false)]),([115,104,105,112,115],.agg [.fn 305 [] [],ei 1,.v (.bool false),.v (.bool false),.v (.bool false)]),([116,111,116,97,108],.agg [.fn 306 [] [],ei 0,.v (.bool false),.v (.bool false),.v (.bool false)]),([112,97,121],.agg [.fn 307 [] [],ei 0,.v (.bool false),.v (.bool false),.v (.bool false)]),([99,111,115,116],.agg [.fn 308 [] [],ei 0,.v (.bool false),.v (.bool false),.v (.bool false)])]
theorem f235:ACall tP G 235 [] (yo enS ordL):=by
 refine aC func235 ?_;refine Z7 ?_;refine zm Y (vR Y Y) ?_;refine zb (zu (cs:=[_,_,_,_,_]) Y yh Y (zk (zk (zk Y))) rF (by simp[ofV])) ?_;refine zm Y (qt (enc:=enS) (es:=[]) (a:=[114,101,97,100]) (.inr Y) Y Y Y Y jr underlying335 keyS Y) ?_;refine zb (zu (cs:=[_,_,_,_,_]) Y yh Y (zk (zk (zk (zk Y)))) rF (by simp[ofV])) ?_;refine zm Y (qt (enc:=enS) (a:=[119,105,114,101]) (.inr Y) Y Y Y Y jr underlying335 keyS Y) ?_;refine zb (zu (cs:=[_,_,_,_,_]) Y yh Y (zk (zk (zk Y))) rF (by simp[ofV])) ?_;refine zm Y (qt (enc:=enS) (a:=[115,104,105,112]) (.inr Y) Y Y Y Y jr underlying335 keyS Y) ?_;refine zb (zu (cs:=[_,_,_,_,_]) Y yh Y (zk (zk (zk Y))) rF (by simp[ofV])) ?_;refine zm Y (qt (enc:=enS) (a:=[114,101,112,111,114,116]) (.inr Y) Y Y Y Y jr underlying335 keyS Y) ?_;refine zb (zu (cs:=[_,_,_,_,_]) Y yh Y (zk (zk (zk (zk Y)))) rF (by simp[ofV])) ?_;refine zm Y (qt (enc:=enS) (a:=[115,116,97,116,101]) (.inr Y) Y Y Y Y jr underlying335 keyS Y) ?_
 refine zb (zu (cs:=[_,_,_,_,_]) Y yh Y (zk (zk (zk Y))) rF (by simp[ofV])) ?_;refine zm Y (qt (enc:=enS) (a:=[99,97,109,101]) (.inr Y) Y Y Y Y jr underlying335 keyS Y) ?_;refine zb (zu (cs:=[_,_,_,_,_]) Y yh Y (zk (zk Y)) rF (by simp[ofV])) ?_;refine zm Y (qt (enc:=enS) (a:=[100,114,97,119]) (.inr Y) Y Y Y Y jr underlying335 keyS Y) ?_;refine zb (zu (cs:=[_,_,_,_,_]) Y yh Y (zk (zk Y)) rF (by simp[ofV])) ?_;refine zm Y (qt (enc:=enS) (a:=[108,111,119]) (.inr Y) Y Y Y Y jr underlying335 keyS Y) ?_;refine zb (zu (cs:=[_,_,_,_,_]) Y yh Y (zk (zk Y)) rF (by simp[ofV])) ?_;refine zm Y (qt (enc:=enS) (a:=[104,105,103,104]) (.inr Y) Y Y Y Y jr underlying335 keyS Y) ?_;refine zb (zu (cs:=[_,_,_,_,_]) Y yh Y (zk Y) rF (by simp[ofV])) ?_;refine zm Y (qt (enc:=enS) (a:=[115,101,101]) (.inr Y) Y Y Y Y jr underlying335 keyS Y) ?_;refine zb (zu (cs:=[_,_,_,_,_]) Y yh Y (zk (zk Y)) rF (by simp[ofV])) ?_
 refine zm Y (qt (enc:=enS) (a:=[117,112]) (.inr Y) Y Y Y Y jr underlying335 keyS Y) ?_;refine zb (zu (cs:=[_,_,_,_,_]) Y yh Y (zk (zk Y)) rF (by simp[ofV])) ?_;refine zm Y (qt (enc:=enS) (a:=[115,104,105,112,115]) (.inr Y) Y Y Y Y jr underlying335 keyS Y) ?_;refine zb (zu (cs:=[_,_,_,_,_]) Y yh Y (zk Y) rF (by simp[ofV])) ?_;refine zm Y (qt (enc:=enS) (a:=[116,111,116,97,108]) (.inr Y) Y Y Y Y jr underlying335 keyS Y) ?_;refine zb (zu (cs:=[_,_,_,_,_]) Y yh Y (zk Y) rF (by simp[ofV])) ?_;refine zm Y (qt (enc:=enS) (a:=[112,97,121]) (.inr Y) Y Y Y Y jr underlying335 keyS Y) ?_;refine zb (zu (cs:=[_,_,_,_,_]) Y yh Y (zk Y) rF (by simp[ofV])) ?_;refine zm Y (qt (enc:=enS) (a:=[99,111,115,116]) (.inr Y) Y Y Y Y jr underlying335 keyS Y) ?_;refine wU (zd (mem':=[wM enS (ordL.map fun p=>(p.1,.pub p.2))]) [(1,.mpv 0)] ⟨Y,trivial⟩ rF) ?_;refine wU (dX (enc:=enS) (k:=0) (es:=ordL) [1] Y (by simp[frL])) ?_
 refine wU (zd (mem':=[.dead]) [(1,.pub (yo enS ordL))] ⟨Y,trivial⟩ Y) ?_;refine Z5 ?_;exact aR
theorem Vj:(tP.info? 332).bind (·.zero)=some (.agg #[.string ⟨#[]⟩]):=nR
theorem U6:zS tP 332 true 1=true:=nR
theorem Xu:zU tP 242 [(0,5),(5,1),(6,1)] [.nilFunc,nZ,.bool false,.bool false,.bool false,.slice none 0 0,.slice none 0 0]:=⟨_,underlying242,nR,nR⟩
def zQn:TE:=[.pub (.v .nilFunc),I 0,B false,B false,B false,.pub (.v (.slice none 0 0)),.pub (.v (.slice none 0 0))]
theorem B0(mem:TP):nH tP G 233 [.pp 0 1 0 0,.pp 1 1 0 0] none mem mem:=by
 refine bX func233 Y nR Y Y Y Y Y Y (fun gh=>?_);refine Z3 ?_;refine zb (Hf Y Y underlying20) (Z2 ?_);refine nC ?_ ?_<;>intro h0
 ·refine Z4 ?_;exact⟨.inl Y,Y,Y⟩
 ·exfalso;simp at h0
theorem cF(z:AV)(a b c d e f g x:EV)(rest:TP):nH tP G 233 [.pp 0 1 0 0,.pp 1 1 0 0] (some (.ifc 332 (.agg [z]))) (.row [[a,b,c,d,e,f,g]]::.row [[x]]::rest) (.row [zQn]::.row [[B false]]::rest):=by
 refine bX func233 Y nR Y Y Y Y Y Y (fun gh=>?_);refine Z3 ?_;refine zb (tr Y Y underlying20) (Z2 ?_);refine nC ?_ ?_<;>intro h0
 ·exfalso;simp at h0
 ·refine Z2 ?_;refine zb (cS Y Y underlying332 Y) (Z4 ?_);refine nC ?_ ?_<;>intro h1
  ·refine Z2 ?_;refine zI Y Y Y Y Y Y Y Vj U6 Y rF (zF Y) Y (Z3 ?_);refine zb (zu (cs:=[_,_,_,_,_,_,_]) Y Xu Y Y rF (by simp[ofV])) ?_;refine zm Y (zp Y Y Y Y Y Y cEx dO rF bL) ?_;refine zm Y (zp Y Y Y Y Y Y cEx ty4 rF bL) (Z2 ?_);exact⟨.inl Y,Y,Y⟩
  ·exfalso;simp at h1
structure Od where
 f:Nat
 many:Int
 more:Bool
 cop:Bool
 act:Bool
def odA(o:Od):AV:=.agg [.fn o.f [] [],ei o.many,.v (.bool o.more),.v (.bool o.cop),.v (.bool o.act)]
def odL:List (List UInt8 × Od):=[([114,101,97,100],⟨294,11,false,false,true⟩),([119,105,114,101],⟨295,2,false,true,true⟩),([115,104,105,112],⟨296,5,false,false,true⟩),([114,101,112,111,114,116],⟨297,7,false,false,true⟩),([115,116,97,116,101],⟨298,3,true,false,true⟩),([99,97,109,101],⟨299,3,false,false,true⟩),([100,114,97,119],⟨300,1,false,false,false⟩),([108,111,119],⟨301,3,false,false,false⟩),([104,105,103,104],⟨302,3,false,false,false⟩),([115,101,101],⟨303,0,false,false,false⟩),([117,112],⟨304,2,false,false,false⟩),([115,104,105,112,115],⟨305,1,false,false,false⟩),([116,111,116,97,108],⟨306,0,false,false,false⟩),([112,97,121],⟨307,0,false,false,false⟩),([99,111,115,116],⟨308,0,false,false,false⟩)]
theorem Oq:ordL=odL.map fun p=>(p.1,odA p.2):=rfl
def Po(w:List UInt8):Option Od:=(odL.find? fun p=>decide (p.1=w)).map (·.2)
theorem EZ{α:Type}{d:AV}(w:List UInt8)(g:α->AV):∀l:List (List UInt8 × α),(∀o,((l.find? fun p=>decide (p.1=w)).map (·.2))=some o->wY w d (l.map fun p=>(p.1,g p.2))=g o/\aZ w (l.map fun p=>(p.1,g p.2))=true)/\
  (((l.find? fun p=>decide (p.1=w)).map (·.2))=none->wY w d (l.map fun p=>(p.1,g p.2))=d/\aZ w (l.map fun p=>(p.1,g p.2))=false)
 |[]=>by simp[wY,aZ]
 |(k,x)::l=>by
  obtain⟨h1,h2⟩:=EZ w g l
  by_cases h:k=w
  ·simp[wY,aZ,h]
  ·simp only[List.find?_cons,h,decide_false,List.map_cons,wY,aZ,if_false];exact⟨h1,h2⟩
def wsT(t:List UInt8):TB:=qM 32 t
def hdC(is:Bool)(many:Int)(more cop:Bool)(n:Int):Bool:=((!is||decide (n<many))||((decide (many<n)&& !more)&& !cop))||(cop&&(n==many))
def gP(cop:Bool)(many:Int)(ws:TB):Nat->Option (List Int × TC)
 |0=>some ([],[])
 |k+1=>match gP cop many ws k with
  |none=>none
  |some p=>if(!cop||decide ((k:Int)<many))=true then(nmP (ws.getD k [])).map fun n=>(p.1++[n],p.2)else if ws.getD k []=[]then none else some (p.1,p.2++[qM 46 (ws.getD k [])])
def prP(t:List UInt8):Option (Od × List Int × TC):=match Po ((wsT t).headD [])with
 |none=>none
 |some o=>if hdC true o.many o.more o.cop (((wsT t).length:Int)-1)=true then none else(gP o.cop o.many ((wsT t).drop 1) ((wsT t).length-1)).map fun p=>(o,p)
variable{cop:Bool}{many:Int}{ws:TB}{k:Nat}{p:List Int × TC}
theorem MN(h:gP cop many ws k=none):∀m,gP cop many ws (k+m)=none
 |0=>h
 |m+1=>by show(match gP cop many ws (k+m)with|none=>none|some p=>_)=none;rw[MN h m]
theorem Ao{n:Nat}(h:gP cop many ws k=none)(hk:k<=n):gP cop many ws n=none:=by
 have:=MN h (n-k);rwa[show k+(n-k)=n by omega]at this
theorem sW(h:gP cop many ws k=some p)(hc:(!cop||decide ((k:Int)<many))=true):gP cop many ws (k+1)=(nmP (ws.getD k [])).map fun n=>(p.1++[n],p.2):=by
 show(match gP cop many ws k with|none=>none|some p=>_)=_;rw[h];simp only[hc,if_true]
theorem H2(h:gP cop many ws k=some p)(hc:(!cop||decide ((k:Int)<many))=false):gP cop many ws (k+1)=if ws.getD k []=[]then none else some (p.1,p.2++[qM 46 (ws.getD k [])]):=by
 show(match gP cop many ws k with|none=>none|some p=>_)=_;rw[h];simp only[hc,Bool.false_eq_true,if_false]
theorem Gx:∀{k:Nat}{p:List Int × TC},gP cop many ws k=some p->p.1.length<=k/\p.2.length<=k
 |0,p,h=>by injection h with h;subst h;simp
 |k+1,p,h=>by
  cases hq:gP cop many ws k with
  |none=>rw[Ao hq (Nat.le_succ k)]at h;cases h
  |some q=>
   have ih:=Gx hq;cases hc:(!cop||decide ((k:Int)<many))with
   |true=>
    rw[sW hq hc,zL7]at h;obtain⟨n,_,rfl⟩:=h;simp;omega
   |false=>
    rw[H2 hq hc]at h;split at h
    ·cases h
    ·injection h with h;subst h;simp;omega
def rLn(F:AV)(many:Int)(more cop act is:Bool)(ws:TB):AV:=if hdC is many more cop (ws.length:Int)=true then .tup [.agg [.v .nilFunc,ei 0,.v (.bool false),.v (.bool false),.v (.bool false),.v (.slice none 0 0),.v (.slice none 0 0)],.v (.bool false)]else match gP cop many ws ws.length with
 |none=>.tup [.agg [.v .nilFunc,ei 0,.v (.bool false),.v (.bool false),.v (.bool false),.v (.slice none 0 0),.v (.slice none 0 0)],.v (.bool false)]
 |some p=>.tup [.agg [F,ei many,.v (.bool more),.v (.bool cop),.v (.bool act),eI p.1,Wr.eCps p.2],.v (.bool true)]
def eLn(o:Od)(x:List Int)(l:TC):AV:=.agg [.fn o.f [] [],ei o.many,.v (.bool o.more),.v (.bool o.cop),.v (.bool o.act),eI x,Wr.eCps l]
abbrev VQ:AV:=.agg [.v .nilFunc,ei 0,.v (.bool false),.v (.bool false),.v (.bool false),.v (.slice none 0 0),.v (.slice none 0 0)]
theorem Nl{l:TB}(h:k<l.length):(l.map fun s=>[eS s])[k]?=some [eS l[k]]:=by simp[h]
theorem td{l:TB}:∀q∈l.map (fun s=>[eS s]),q.length=1:=sI
theorem M1{P:Program}{fr:Nat->EV}{m:TP}{o:Oper}{x y:EV}(h:OpY P G fr m o x)(e:x=y):OpY P G fr m o y:=e▸h
theorem XF:(tP.info? 240).bind (·.zero)=some (.agg #[.nilFunc,nZ,.bool false,.bool false,.bool false]):=nR
theorem fX(c:UInt8):∀l,(qM c l).length<=l.length+1
 |[]=>by simp[qM]
 |x::xs=>by
  have:=fX c xs;simp only[qM];split
  ·simp;omega
  ·split
   ·simp
   ·rename_i h;rw[h]at this;simp at this⊢;omega
theorem xr(t:List UInt8):0<(wsT t).length:=List.length_pos_iff.2 (Dp 32 t)
theorem im(c:UInt8):∀(l:List UInt8),∀w∈qM c l,w.length<=l.length
 |[],w,h=>by simp[qM]at h;subst h;simp
 |x::xs,w,h=>by
  have ih:=im c xs;simp only[qM]at h;split at h
  ·rcases List.mem_cons.1 h with rfl|h
   ·simp
   ·have:=ih w h;simp;omega
  ·split at h
   ·simp at h;subst h;simp
   ·rename_i p ps hp
    rcases List.mem_cons.1 h with rfl|h
    ·have:=ih p (by rw[hp];simp);simp;omega
    ·have:=ih w (by rw[hp];simp[h]);simp;omega
end Bu
end Go.Av
end
