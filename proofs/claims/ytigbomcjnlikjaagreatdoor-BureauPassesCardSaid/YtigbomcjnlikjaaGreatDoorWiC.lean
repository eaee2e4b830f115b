import Derived.Test.YtigbomcjnlikjaaGreatDoorPlatG
import Derived.Shelf.Slices.Clone
import Derived.Shelf.SlSortCmp.NoneTotal
import Derived.Test.YtigbomcjnlikjaaGreatDoorWiB
set_option linter.unusedVariables false
set_option linter.unusedSimpArgs false
set_option maxRecDepth 100000
set_option maxHeartbeats 9000000
section
namespace Go.Proofs
namespace Wr
open Go.Shelf
def Tryz.laysNm215_ren:Go.Shelf.Ren:=⟨fun|15=>261|n=>n,fun|22=>24|3=>3|4=>4|n=>n,fun|n=>n⟩
theorem Tryz.laysNm215:Go.Proofs.Lays2.n15 tP Tryz.laysNm215_ren:={
 mixed:=nR
 f15:=Tryz.func261.trans (zLz some nR)
 t3:=Tryz.underlying3
 a3:=Tryz.isAgg3
 z3:=Tryz.sizeOf3
 v3:=Tryz.zeroValue3
 t4:=Tryz.underlying4
 a4:=Tryz.isAgg4
 z4:=Tryz.sizeOf4
 v4:=Tryz.zeroValue4
 t22:=Tryz.underlying24
 a22:=Tryz.isAgg24
 z22:=Tryz.sizeOf24
 v22:=Tryz.zeroValue24
 i3:=by kernel_rfl}
def Tryz.laysSlF6_f139_ren:Go.Shelf.Ren:=⟨fun|6=>264|15=>222|14=>332|28=>286|29=>287|20=>362|21=>363|22=>364|23=>365|24=>366|25=>367|26=>368|27=>369|46=>388|47=>340|48=>341|49=>389|50=>390|57=>397|n=>n,fun|22=>77|24=>24|25=>361|3=>3|39=>319|0=>0|53=>377|55=>379|4=>4|46=>371|45=>370|50=>60|5=>5|9=>9|66=>403|70=>407|76=>426|77=>366|n=>n,fun|n=>n⟩
theorem Tryz.laysSlF6_f139:Go.Proofs.SlLaysF.n6 tP Tryz.laysSlF6_f139_ren:={
 mixed:=nR
 f6:=⟨Tryz.f264.name,dE,Tryz.func264.trans (zLz some nR)⟩
 f14:=⟨Tryz.f332.name,dE,Tryz.func332.trans (zLz some nR)⟩
 f15:=Tryz.func222.trans (zLz some nR)
 f20:=⟨Tryz.f362.name,dE,Tryz.func362.trans (zLz some nR)⟩
 f21:=⟨Tryz.f363.name,dE,Tryz.func363.trans (zLz some nR)⟩
 f22:=⟨Tryz.f364.name,dE,Tryz.func364.trans (zLz some nR)⟩
 f23:=⟨Tryz.f365.name,dE,Tryz.func365.trans (zLz some nR)⟩
 f24:=⟨Tryz.f366.name,dE,Tryz.func366.trans (zLz some nR)⟩
 f25:=⟨Tryz.f367.name,dE,Tryz.func367.trans (zLz some nR)⟩
 f26:=⟨Tryz.f368.name,dE,Tryz.func368.trans (zLz some nR)⟩
 f27:=⟨Tryz.f369.name,dE,Tryz.func369.trans (zLz some nR)⟩
 f28:=Tryz.func286.trans (zLz some nR)
 f29:=Tryz.func287.trans (zLz some nR)
 f46:=⟨Tryz.f388.name,dE,Tryz.func388.trans (zLz some nR)⟩
 f47:=Tryz.func340.trans (zLz some nR)
 f48:=Tryz.func341.trans (zLz some nR)
 f49:=⟨Tryz.f389.name,dE,Tryz.func389.trans (zLz some nR)⟩
 f50:=⟨Tryz.f390.name,dE,Tryz.func390.trans (zLz some nR)⟩
 f57:=⟨Tryz.f397.name,dE,Tryz.func397.trans (zLz some nR)⟩
 t0:=Tryz.underlying0
 a0:=Tryz.isAgg0
 z0:=Tryz.sizeOf0
 v0:=Tryz.zeroValue0
 t3:=Tryz.underlying3
 a3:=Tryz.isAgg3
 z3:=Tryz.sizeOf3
 v3:=Tryz.zeroValue3
 t4:=Tryz.underlying4
 a4:=Tryz.isAgg4
 z4:=Tryz.sizeOf4
 v4:=Tryz.zeroValue4
 t5:=Tryz.underlying5
 a5:=Tryz.isAgg5
 z5:=Tryz.sizeOf5
 v5:=Tryz.zeroValue5
 t9:=Tryz.underlying9
 a9:=Tryz.isAgg9
 z9:=Tryz.sizeOf9
 v9:=Tryz.zeroValue9
 t22:=Tryz.underlying77
 a22:=Tryz.isAgg77
 z22:=Tryz.sizeOf77
 v22:=Tryz.zeroValue77
 a24:=Tryz.isAgg24
 z24:=Tryz.sizeOf24
 t25:=Tryz.underlying361
 a25:=Tryz.isAgg361
 z25:=Tryz.sizeOf361
 v25:=Tryz.zeroValue361
 t39:=Tryz.underlying319
 a39:=Tryz.isAgg319
 z39:=Tryz.sizeOf319
 v39:=Tryz.zeroValue319
 t45:=Tryz.underlying370
 a45:=Tryz.isAgg370
 z45:=Tryz.sizeOf370
 v45:=Tryz.zeroValue370
 t46:=Tryz.underlying371
 a46:=Tryz.isAgg371
 z46:=Tryz.sizeOf371
 v46:=Tryz.zeroValue371
 t50:=Tryz.underlying60
 a50:=Tryz.isAgg60
 z50:=Tryz.sizeOf60
 v50:=Tryz.zeroValue60
 t53:=Tryz.underlying377
 a53:=Tryz.isAgg377
 z53:=Tryz.sizeOf377
 v53:=Tryz.zeroValue377
 t55:=Tryz.underlying379
 a55:=Tryz.isAgg379
 z55:=Tryz.sizeOf379
 v55:=Tryz.zeroValue379
 t66:=Tryz.underlying403
 a66:=Tryz.isAgg403
 z66:=Tryz.sizeOf403
 v66:=Tryz.zeroValue403
 t70:=Tryz.underlying407
 a70:=Tryz.isAgg407
 z70:=Tryz.sizeOf407
 v70:=Tryz.zeroValue407
 t76:=Tryz.underlying426
 a76:=Tryz.isAgg426
 z76:=Tryz.sizeOf426
 v76:=Tryz.zeroValue426
 t77:=Tryz.underlying366
 a77:=Tryz.isAgg366
 z77:=Tryz.sizeOf366
 v77:=Tryz.zeroValue366}
end Wr
end Go.Proofs
namespace Go.Av
namespace Wr
open Go.Proofs Go.Proofs.Wr
theorem n112(m:List Int)(hm:m.length<=1000000):NCall tP 261 [nums m] (nums m):=
 F6 ⟨_,Tryz.func261,rfl,rfl⟩ (fun b off n c zs w h1 h2 h3=>Any.slices_Clone_int Tryz.laysNm215 b off n c zs w h1 h2 h3) (fun a c w=>Any.slices_Clone_int_zero Tryz.laysNm215 a c w) (fun n c w=>Any.slices_Clone_int_nil Tryz.laysNm215 n c w) m hm
theorem za4(p:Int)(w:World):Calls tP 344 #[.int .i64 p] w fun e w'=>e=.returned (.bool false)/\w'=w:=by
 go_enter Tryz.func344,Tryz.ntmps344
 go_wp2
 go_ret
 simp
theorem zam(p q:Int)(w:World):Calls tP 333 #[.int .i64 p,.int .i64 q] w fun e w'=>e=.returned (.int .i64 (if p<q then -1 else if q<p then 1 else 0))/\w'=w:=by
 have e191:∀args w,(callFunc 344 args).run tP w=.ok (.enter 344 args) w:=fun args w=>Go.Av.enter_run ⟨_,Tryz.func344,rfl,rfl⟩ args w
 go_enter Tryz.func333,Tryz.ntmps333
 go_wp2_with (go_at_fn 344;refine(za4 _ _).mono ?_;rintro e w' ⟨rfl,rfl⟩)
 ·go_ret
  exact⟨Y,Y⟩
 ·go_ret
  exact⟨Y,Y⟩
 ·go_ret
  exact⟨Y,Y⟩
theorem Cc:∀{m m':List Int}{k:Nat},(∀j,j<k->m[j]?=m'[j]?)->k<=m.length->k<=m'.length->cmpL m m'=cmpL (m.drop k) (m'.drop k):=by
  intro m
  induction m with
  | nil => intro m' k _ h2 _; have : k = 0 := by simpa using h2
           subst this;simp
  |cons a m ih=>
    intro m' k h h2 h3;cases k with
    |zero=>simp
    |succ k=>
      cases m' with
      |nil=>simp at h3
      |cons b m'=>
        have h0:=h 0 oM;simp at h0;subst h0;simp only[List.drop_succ_cons];rw[←ih (fun j hj=>by have:=h (j+1) oM;simpa using this) (by simpa using h2) (by simpa using h3)];simp[cmpL]
theorem zaD:N9 tP 265:=by
  intro w a a' c c' m m' h h';have e169:∀args w,(callFunc 333 args).run tP w=.ok (.enter 333 args) w:=fun args w=>Go.Av.enter_run ⟨_,Tryz.func333,rfl,rfl⟩ args w
  go_enter Tryz.func265,Tryz.ntmps265
  go_wp2
  go_loop [5,6,7,8,11] (fun _ _ _ _ i=>∃k:Nat,k<=m.length/\k<=m'.length/\i=.int .i64 k/\∀j,j<k->m[j]?=m'[j]?) (fun _ _ _ _ i=>match i with| .int _ x=>m.length-x.toNat|_=>0)
  case atStart=>exact⟨0,Nat.zero_le _,Nat.zero_le _,rfl,fun j hj=>absurd hj (Nat.not_lt_zero _)⟩
  case round=>
    obtain⟨k,h1,h2,rfl,hne⟩:=hrel;have hm:=h.1;have hm':=h'.1;have hmx:maxLen=9223372036854775807:=rfl;have hcm:=Cc hne h1 h2
    by_cases hk:k<m.length
    · obtain⟨b,off,rfl,hcell⟩:=h.2 oM
      by_cases hk':k<m'.length
      · obtain⟨b',off',rfl,hcell'⟩:=h'.2 oM
        have hc1:=hcell k hk;have hc2:=hcell' k hk';rw[List.drop_eq_getElem_cons hk,List.drop_eq_getElem_cons hk']at hcm;simp only[cmpL]at hcm;generalize hpe:m[k]=p at hc1 hcm;generalize hqe:m'[k]=q at hc2 hcm;have e1:m[k]?=some p:=by rw[zLe hk,hpe]
        have e2:m'[k]?=some q:=by rw[zLe hk',hqe]
        clear hcell hcell' hpe hqe
        go_wp2_with (go_at_fn 333;refine(zam _ _ _).mono ?_;rintro e w' ⟨rfl,rfl⟩)
        all_goals first
          |(go_ret;exact⟨rfl,rfl⟩)
          | (rename_i ha hb
             rw[zLy oM,zLy oM]at ha;exact absurd ha dE)
          | (rename_i ha
             have hpq:p=q:=by
               by_cases x1:p<q
               · rw[zLc x1]at ha;exact absurd ha dE
               · by_cases x2:q<p
                 · rw[zLy x1,zLc x2]at ha;exact absurd ha dE
                 · omega
             refine⟨⟨k+1,oM,oM,sI,fun j hj=>?_⟩,by simp;omega⟩
             by_cases hjk:j=k
             · subst hjk
               rw[e1,e2,hpq]
             · exact hne j oM)
      · have hd : cmpL m m' = 1 := by
          rw[hcm,List.drop_eq_getElem_cons hk,List.drop_eq_nil_of_le (show m'.length<=k by omega)];rfl
        clear hcm;have hcell1:=hcell k hk;clear hcell
        go_wp2
        all_goals first
          |(go_ret;exact⟨rfl,rfl⟩)
          |(exfalso;omega)
    · have hkm:k=m.length:=oM
      have hd:cmpL m m'=if m.length<m'.length then -1 else 0:=by
        rw[hcm,List.drop_eq_nil_of_le (show m.length<=k by omega)]
        by_cases hl:m.length<m'.length
        · rw[zLc hl,List.drop_eq_getElem_cons oM];rfl
        · rw[zLy hl,List.drop_eq_nil_of_le oM];rfl
      clear hcm;subst hkm
      go_wp2
      all_goals first
        |(go_ret;exact⟨rfl,rfl⟩)
        |(exfalso;omega)
theorem zaL(w:World):Calls tP 264 #[.slice none 0 0,.func (.func 265) #[] #[]] w fun e w'=>e=.returned (.tuple #[])/\w'=w:=
 AnyF.slices_SortFunc_none (P:=tP) (ρ:=Tryz.laysSlF6_f139_ren) {Tryz.laysSlF6_f139 with} none 0 _ w
end Wr
end Go.Av
namespace Go.Av
namespace Wr
open Go.Proofs Go.Proofs.Wr
variable{G:Glob}
theorem EQ:zS tP 77 false 1=true:=nR
theorem PN:qN tP 77 24 1 24:=⟨Tryz.underlying77,Tryz.t24,_,nR,rfl,rfl,rfl,rfl,dE⟩
theorem zaA:tP.info? 24=some Tryz.t24:=nR
theorem VJ:zS tP 352 false 1=true:=nR
def vo(m:List Int):List (TE):=m.map fun x=>[I x]
def bT(ls:List (List Int)):List (TE):=ls.map fun m=>[EV.pub (nums m)]
theorem lN(m:List Int):vo m=(m.map fun n=>[AV.v (.int .i64 n)]).map (·.map .pub):=by simp[vo]
theorem BD(ls:List (List Int)):bT ls=(ls.map fun m=>[nums m]).map (·.map .pub):=by simp[bT]
theorem vP(m:List Int):(vo m).length=m.length:=by simp[vo]
variable{a fu j:Nat}{c:Cod}{l:TC}{now:List Int}{ls:List (List Int)}{n:Int × Int × Int}{L:List Nat}{sum:Int}
theorem cQ{m:List Int}(h:a<m.length):(vo m)[a]?=some [I (m.getD a 0)]:=by simp[vo,h]
theorem lD(m:List Int)(a:Nat)(x y:Int):(vo m).set a (putCells [I x] 0 [I y])=vo (m.set a y):=by simp[vo,putCells,List.map_set]
theorem cJ(m:List Int):∀q∈vo m,q.length=1:=by simp[vo]
theorem BG(ls:List (List Int)):∀q∈bT ls,q.length=1:=by simp[bT]
def lZ(c:Cod)(l:TC):TE:=[.pub (.ptr (jZ c l)),.pp 2 1 0 0,.pp 0 1 0 0,.pub (.ptr [ei (c.fields.length:Int)]),.pp 3 1 0 0]
def cG(c:Cod)(l:TC)(now:List Int)(ls:List (List Int)):TP:=[.row [[.psl 4 ls.length]],.row (vo now),.row [[.psl 1 c.fields.length]],.row [[.fnm 259 [] (lZ c l)]],.row (bT ls)]
theorem eF{n:Nat}{r1 r2:List (TE)}(h1:n=ls.length)(h2:r1=vo now)(h3:r2=bT ls):
  [PO.row [[.psl 4 n]],.row r1,.row [[.psl 1 c.fields.length]],.row [[.fnm 259 [] (lZ c l)]],.row r2]=cG c l now ls:=by subst h1;subst h2;subst h3;rfl
theorem xQ{now':List Int}{ls':List (List Int)}(h1:now=now')(h2:ls=ls'):cG c l now ls=cG c l now' ls':=by subst h1;subst h2;rfl
theorem bN(c:Cod)(l:TC)(now:List Int)(ls:List (List Int)):zW (cG c l now ls).length (cG c l now ls):=by
 refine⟨?_,?_,?_,?_,?_,trivial⟩
 ·intro r hr x hx;simp at hr;subst hr;simp at hx;subst hx;show 4<5;omega
 ·intro r hr x hx;obtain⟨y,_,rfl⟩:=zLj.1 hr;simp at hx;subst hx;trivial
 ·intro r hr x hx;simp at hr;subst hr;simp at hx;subst hx;show 1<5;omega
 ·intro r hr x hx;simp at hr;subst hr;simp at hx;subst hx;refine⟨trivial,trivial,?_,?_,trivial,?_,trivial⟩<;>(show _<5;omega)
 ·intro r hr x hx;obtain⟨y,_,rfl⟩:=zLj.1 hr;simp at hx;subst hx;trivial
def iT(now:List Int)(a:Nat)(L:List Nat):Nat->List Int
 |0=>now
 |j+1=>now.set a (10*now.getD a 0+((L.getD j 0:Nat):Int))
def lsJ(c:Cod)(l:TC)(fu pz a:Nat)(sum:Int)(n:Int × Int × Int)(now:List Int)(ls:List (List Int))(j:Nat):List (List Int):=
 ls++((kf c l a pz n).take j).flatMap fun(f:Nat)=>srch c l fu pz (a+1) (sum+(f:Int)) (plN l a pz (f:Int) n) (now.set a (10*now.getD a 0+(f:Int)))
theorem km(j:Nat):(iT now a L j).length=now.length:=by cases j<;>simp[iT]
theorem oV(j:Nat)(y:Int):(iT now a L j).set a y=now.set a y:=by cases j<;>simp[iT]
theorem CB{f:Nat}(h:L[j]?=some f):iT now a L (j+1)=now.set a (10*now.getD a 0+(f:Int)):=by simp[iT,h]
theorem lsJ_0{pz:Nat}:lsJ c l fu pz a sum n now ls 0=ls:=by simp[lsJ]
theorem pB{pz:Nat}{f:Nat}(h:(kf c l a pz n)[j]?=some f):
  lsJ c l fu pz a sum n now ls (j+1)=lsJ c l fu pz a sum n now ls j++srch c l fu pz (a+1) (sum+(f:Int)) (plN l a pz (f:Int) n) (now.set a (10*now.getD a 0+(f:Int))):=by
 simp[lsJ,List.take_add_one,h]
theorem Rw{pz:Nat}(j:Nat):
  (lsJ c l fu pz a sum n now ls j).length<=(ls++(kf c l a pz n).flatMap fun(f:Nat)=>srch c l fu pz (a+1) (sum+(f:Int)) (plN l a pz (f:Int) n) (now.set a (10*now.getD a 0+(f:Int)))).length:=by
 unfold lsJ
 conv=>rhs;rw[←List.take_append_drop j (kf c l a pz n),List.flatMap_append]
 simp only[List.length_append];omega
theorem uU{pz:Nat}(h:(kf c l a pz n).length=j):
  lsJ c l fu pz a sum n now ls j=ls++(kf c l a pz n).flatMap fun(f:Nat)=>srch c l fu pz (a+1) (sum+(f:Int)) (plN l a pz (f:Int) n) (now.set a (10*now.getD a 0+(f:Int))):=by
 unfold lsJ;rw[←h,List.take_length]
theorem iS(m:List Int)(a:Nat):m.set a (m.getD a 0)=m:=by
 by_cases h:a<m.length
 ·have e:m.getD a 0=m[a]:=by simp[h]
  rw[e,List.set_getElem_self]
 ·exact List.set_eq_of_length_le oM
theorem QI(c:Cod)(l:TC)(hc:codB c=true)(hl:l.length<=3)(hcp:∀g∈l,vu c g=true):∀(fu pz a:Nat)(sum:Int)(n:Int × Int × Int)(now:List Int)(ls:List (List Int)),pz<=5->a<=c.fields.length->(pz=5->a=0)->kj c.fields.length pz a<=fu->now.length=c.fields.length->sum=xn now a->dZ pz a now->pC n->ls.length+(srch c l fu pz a sum n now).length<=4000000->
  zv tP G 259 ([I (pz:Int),I (a:Int),I sum,.pub (.agg (eCn n))]++lZ c l) (cG c l now ls) (.ret (.pub (.tup [])) (cG c l now (ls++srch c l fu pz a sum n now))):=by
 intro fu
 induction fu with
 |zero=>intro pz a sum n now ls _ _ _ hfu;exfalso;unfold kj at hfu;omega
 |succ fu ih=>
 intro pz a sum n now ls hpl hat hpa hfu hnl hsu hno hcn hsz;have hcb:=cod_bd hc;have hsb:=KG now a;rw[←hsu]at hsb;refine y3 Tryz.func259 Y nR Y (fun gh hold=>?_);refine Z15 ?_;refine nC ?_ ?_<;>intro h0
 ·have hp5:pz=5:=by simp at h0;omega
  have hsr0:srch c l (fu+1) pz a sum n now=if kW c now then[now]else[]:=by simp[srch,hp5]
  refine Z6 ?_;refine zb (EL (av:=[.agg (eCod c),nums now]) Y ⟨AVle.refl _,⟨now.map fun n=>[AV.v (.int .i64 n)],zLz (fun z=>some (PO.row z)) (lN now),by simp[hnl],Y⟩,trivial⟩ Y (f117 c now oM)) ?_;refine Z2 ?_;refine nC ?_ ?_<;>intro h1
  ·have hmb:kW c now=true:=by simpa using h1
   have hsr:srch c l (fu+1) pz a sum n now=[now]:=by rw[hsr0,zLc hmb]
   refine qd (fun _=>True) (fun k=>match k with|0=>.rd [0]|1=>.rd [2]|2=>.rd [1]|4=>.rw [] 4|5=>.rw [4] 0|_=>.here) mixed nR rfl nR trivial ?_;refine wX [0] Y Y (fun m hm _=>zg Y Y ((hm.one 0 Y).trans Y) Y Y Y EQ) ?_;refine wX [2] Y Y (fun m hm _=>zg Y Y ((hm.one 2 Y).trans Y) Y Y Y lb) ?_;refine wX [1] Y Y (fun m hm _=>IV (av:=[nums now]) Y ⟨⟨now.map fun n=>[AV.v (.int .i64 n)],(hm.one 1 Y).trans (zLz (fun z=>some (PO.row z)) (lN now)),by simp[hnl],Y⟩,trivial⟩ (n112 now oM)) ?_;refine zK Y Y (zw (size:=1) (rows:=[[_]]) Y Tryz.underlying77 zaA Y dE Y dE (zk Y) rF (by simp[ofV]) Y sI) ?_;refine Dm [] 4 Y Y (fun _=>trivial) (fun m hm=>qz (ns:=[[EV.pub (nums now)]]) Y Y ((hm.one 4 Y).trans Y) (by simp[bT]) Y PN (BG ls) sI (by simp;omega) (by unfold maxLen;simp;omega)) ?_;refine Dm [4] 0 Y Y (fun _=>trivial) (fun m hm=>zz Y Y Y ((hm.one 0 Y).trans Y) Y Y (jW Y ((hm.one 4 Y).trans Y) (by simp[bT])) EQ rF rF) ?_
   refine Z4 ?_;exact zR [] (eF (by rw[hsr];simp) Y (by rw[hsr];simp[bT])) (bN ..) (by exact zLl _) (.inr Y) trivial ⟨[],Y,Y⟩
  ·have hmb:kW c now=false:=by simpa using h1
   have hsr:srch c l (fu+1) pz a sum n now=[]:=by rw[hsr0,hmb];rfl
   refine Z4 ?_;exact zR [] (xQ Y (by rw[hsr];simp)) (bN ..) (by exact zLl _) (.inr Y) trivial ⟨[],Y,Y⟩
 ·have hp5:¬pz=5:=by simp at h0;omega
  have hp4:pz<5:=oM;have hcn3:0<=n.1/\n.1<=1000/\0<=n.2.1/\n.2.1<=1000/\0<=n.2.2/\n.2.2<=1000:=by unfold pC at hcn;omega
  refine Z10 ?_;refine nC ?_ ?_<;>intro h2
  ·have hak:a=c.fields.length:=by simp at h2;omega
   have hsr0:srch c l (fu+1) pz a sum n now=if jQ c l a pz (sum % 10) n then srch c l fu (pz+1) 0 0 (plN l a pz (sum % 10) n) now else[]:=by rw[srch,zLy hp5,zLc hak]
   have hfu2:kj c.fields.length (pz+1) 0<=fu:=by
    have e:5-pz=(5-(pz+1))+1:=oM;unfold kj at hfu⊢;rw[e,Nat.add_mul]at hfu;omega
   have hno2:dZ (pz+1) 0 now:=sT hno oM;refine Z8 ?_;refine zb (fW Y Y Y ⟨oM,oM⟩) ?_;refine yc (f137 c l n a pz (sum % 10) hc hl hcp hat hp4 oM hcn3) ?_;refine Z3 ?_;refine zI Y Y Y Y Y Y Y rO jo Y rF (zF Y) Y (Z8 ?_);refine nC ?_ ?_<;>intro h3
   ·have hpk:jQ c l a pz (sum % 10) n=true:=by simpa using h3
    have hsr:srch c l (fu+1) pz a sum n now=srch c l fu (pz+1) 0 0 (plN l a pz (sum % 10) n) now:=by rw[hsr0,zLc hpk]
    have hcn2:=sF hc hpk hcn;refine zt (zd (mem':=cG c l now ls) [(4,.pub (.ptr (jZ c l))),(5,.pp 2 1 0 0),(6,.pp 0 1 0 0),(7,.pub (.ptr [ei (c.fields.length:Int)])),(8,.pp 3 1 0 0),(9,.pub (.ptr [ei (pz:Int)])),(10,.pub (.ptr [ei (a:Int)])),(11,.pub (.ptr [ei sum])),(12,.pub (.ptr (eCn n))),(13,.pub (.ptr (eCn (plN l a pz (sum % 10) n))))] ?_ ?_) ?_
    ·exact⟨Y,Y,Y,Y,Y,Y,Y,Y,Y,(zLz (fun z=>EV.pub (.ptr z)) (EC hpk)),trivial⟩
    ·exact(Y)
    refine Z5 ?_;refine zm Y (qS (f:=259) (fs:=[]) (cs:=lZ c l) (av:=[I ((pz+1:Nat):Int),I ((0:Nat):Int),I 0,.pub (.agg (eCn (plN l a pz (sum % 10) n)))]) Y Y ⟨Y,Y,Y⟩ rL (ih (pz+1) 0 0 (plN l a pz (sum % 10) n) now ls oM oM (fun _=>rfl) hfu2 hnl Y hno2 hcn2 (by rw[hsr]at hsz;exact hsz))) ?_;refine Z4 ?_;exact zR [] (xQ Y (by rw[hsr])) (bN ..) (by exact zLl _) (.inr Y) trivial ⟨[],Y,Y⟩
   ·have hpk:jQ c l a pz (sum % 10) n=false:=by simpa using h3
    have hsr:srch c l (fu+1) pz a sum n now=[]:=by rw[hsr0,hpk];rfl
    refine Z4 ?_;exact zR [] (xQ Y (by rw[hsr];simp)) (bN ..) (by exact zLl _) (.inr Y) trivial ⟨[],Y,Y⟩
  ·have hak:¬a=c.fields.length:=by simp at h2;omega
   have hal:a<now.length:=oM;have hgd:now.getD a 0=now[a]:=by simp[hal]
   have hnb:=FN hno hal hp4;rw[←hgd]at hnb;have hsr:srch c l (fu+1) pz a sum n now=(kf c l a pz n).flatMap fun(f:Nat)=>srch c l fu pz (a+1) (sum+(f:Int)) (plN l a pz (f:Int) n) (now.set a (10*now.getD a 0+(f:Int))):=by rw[srch,zLy hp5,zLy hak]
   have hfu3:kj c.fields.length pz (a+1)<=fu:=by unfold kj at hfu⊢;omega
   refine Z6 ?_;refine zb (qh Y Y Y Y (by rw[vP,hnl]) zY oM oM (cJ _)) ?_;refine zb (zg (c:=I (now.getD a 0)) Y Y Y (by rw[vP,hnl]) (cQ oM) Y ki) ?_;refine zI (cs:=[_]) Y Y Y Y Y Y Y zv3 ki Y rF cEx Y ?_;refine Z9 ?_;refine yc (f138 c l n (a:Int) (pz:Int)) ?_;refine Z3 ?_;refine jS (kf c l a pz n) (fun(f:Nat)=>[ei (f:Int),.agg (eCn (plN l a pz (f:Int) n))]) [4,5,6,7,8,9,10,11,12,15] (fun j=>True) (fun j=>(cG c l (iT now a (kf c l a pz n) j) (lsJ c l fu pz a sum n now ls j))) (trivial) Y (Uh c l n a pz hc hl hcp hat hp4 hcn3) (xQ Y lsJ_0.symm) (fun _=>rfl) Y Y ?_ ?_
   ·intro j f gh lp hd1 hd2 hq hV;have hf:=hq;have hfm:=oJ.1 (zLo hf);have hfb:0<=(f:Int)/\(f:Int)<=9:=oM;have hcn4:=sF hc hfm.2 hcn;have hno3:=tN hno hal hfb;rw[←hgd]at hno3;have hls:=Rw (c:=c) (l:=l) (fu:=fu) (pz:=pz) (a:=a) (sum:=sum) (n:=n) (now:=now) (ls:=ls) (j+1);rw[pB hf,←hsr]at hls;simp only[List.length_append]at hls;have hsz3:=zL6 hls hsz
    have hsu3:sum+(f:Int)=xn (now.set a (10*now.getD a 0+(f:Int))) (a+1):=by
     rw[lV (by simpa using hal),oQ,←hsu];simp;omega
    refine Z6 ?_;refine zI Y Y Y Y Y Y Y rO jo Y rF (zF Y) Y (Z ?_);refine⟨Y,Y,?_⟩;refine Z9 ?_;refine zb (qh Y Y Y Y (by rw[vP,km,hnl]) zY oM oM (cJ _)) ?_;refine zm Y (zp (r:=[I ((iT now a (kf c l a pz n) j).getD a 0)]) Y Y Y Y (by rw[vP,km,hnl]) (cQ (by rw[km];omega)) (jT Y) ki rF bL) (Z2 ?_);refine zt (zd (mem':=cG c l (now.set a (10*now.getD a 0+(f:Int))) (lsJ c l fu pz a sum n now ls j)) [(4,.pub (.ptr (jZ c l))),(5,.pp 2 1 0 0),(6,.pp 0 1 0 0),(7,.pub (.ptr [ei (c.fields.length:Int)])),(8,.pp 3 1 0 0),(9,.pub (.ptr [ei (pz:Int)])),(10,.pub (.ptr [ei (a:Int)])),(11,.pub (.ptr [ei sum])),(12,.pub (.ptr (eCn n))),(15,.pub (.ptr [ei (now.getD a 0)])),(16,I (f:Int)),(17,.pub (.ptr (eCn (plN l a pz (f:Int) n))))] ?_ ?_) ?_
    ·exact rL
    ·exact(eF Y ((lD _ _ _ _).trans (zLz vo (oV _ _))) Y)
    refine Z9 ?_;refine zm Y (qS (f:=259) (fs:=[]) (cs:=lZ c l) (av:=[I (pz:Int),I ((a+1:Nat):Int),I (sum+(f:Int)),.pub (.agg (eCn (plN l a pz (f:Int) n)))]) Y Y ⟨Y,Y,Y⟩ rL (ih pz (a+1) (sum+(f:Int)) (plN l a pz (f:Int) n) (now.set a (10*now.getD a 0+(f:Int))) (lsJ c l fu pz a sum n now ls j) hpl oM (fun h=>absurd h hp5) hfu3 (by simp[hnl]) hsu3 hno3 hcn4 hsz3)) (Z2 ?_);exact⟨Y,trivial,zd (mem':=(cG c l (iT now a (kf c l a pz n) (j+1)) (lsJ c l fu pz a sum n now ls (j+1)))) [] trivial (xQ (CB hf).symm (pB hf).symm)⟩
   ·intro hVn;refine Z6 ?_;refine zb (qh Y Y Y Y (by rw[vP,km,hnl]) zY oM oM (cJ _)) ?_;refine zm Y (zp (r:=[I ((iT now a (kf c l a pz n) (kf c l a pz n).length).getD a 0)]) Y Y Y Y (by rw[vP,km,hnl]) (cQ (by rw[km];omega)) (jT Y) ki rF bL) (Z ?_);exact zR [] (eF (by rw[hsr,uU Y]) ((lD _ _ _ _).trans (zLz vo ((oV _ _).trans (iS now a)))) (by rw[hsr,uU Y])) (bN ..) (by exact zLl _) (.inl Y) trivial ⟨[],Y,Y⟩
theorem XX:(tP.info? 77).bind (·.zero)=some (.slice none 0 0):=nR
theorem VE:(tP.info? 352).bind (·.zero)=some (.nilFunc):=nR
theorem Xf:wL tP 354 1 [nZ,nZ,nZ]:=⟨_,_,Tryz.t3,Tryz.underlying354,nR,nR,nR⟩
theorem Dz{k:Nat}(h:k<=3):kj k 0 0<=24:=by unfold kj;omega
theorem BW(k:Nat):List.replicate k [I 0]=vo (List.replicate k (0:Int)):=by simp[vo]
theorem f96(c:Cod)(l:TC)(hc:codB c=true)(hl:l.length<=3)(hl0:0<l.length)(hcp:∀g∈l,vu c g=true):ACall tP G 184 [.agg (jZ c l)] (eIntss (msgs c l)):=by
 have hcb:=cod_bd hc;have hfew:=rQ hc hl0 hcp;obtain⟨N,hN⟩:∃N,N=srch c l 24 0 0 0 (0,0,0) (List.replicate c.fields.length (0:Int)):=⟨_,rfl⟩;rw[←hN]at hfew;refine aC Tryz.func184 ?_;refine Z8 ?_;refine zm Y (zE Y Y XX Y Y) (Z7 ?_);refine zb (zM Y Y Y Tryz.underlying23) ?_;refine zI (cs:=[_]) Y Y Y Y Y Y Y zv3 ki Y rF cEx Y ?_;refine Z3 ?_;refine zt (zd (mem':=[.row [[wZ]]]) [(1,.pub (.ptr (jZ c l))),(3,.pp 0 1 0 0),(4,.pub (.ptr [ei (c.fields.length:Int)]))] ?_ ?_) ?_
 ·exact⟨Y,Y,(zLz (fun z:Nat=>EV.pub (.ptr [ei (z:Int)])) (zL8 ..)),trivial⟩
 ·exact(Y)
 refine Z2 ?_;refine zm Y (O0 Y Y Y Tryz.underlying24 Xs Y Y Y (zs:=[nZ]) Y Y Y dE oM oM dE) ?_;refine zm Y (zE Y Y Uw Y Y) ?_;refine zm Y (zp Y Y Y Y Y Y (jW Y Y sI) lb rF bL) (Z4 ?_);refine zm Y (zE Y Y VE Y Y) (Z5 ?_);refine zm Y (zp Y Y Y Y Y Y (ji Y) VJ rF bL) (Z3 ?_);refine zt (vL (k:=0) (i:=0) (j:=0) Y Y Y) ?_;refine zt (zd (mem':=cG c l (List.replicate c.fields.length (0:Int)) []) [(1,.pub (.ptr (jZ c l))),(3,.pp 0 1 0 0),(6,.pp 3 1 0 0)] ?_ ?_) ?_
 ·exact rL
 ·exact(eF Y (BW _) Y)
 refine Z2 ?_;refine zb (v8 (cs:=[_,_,_]) Y Xf Y Y rF (by simp[ofV])) ?_;refine zm Y (qS (f:=259) (fs:=[]) (cs:=lZ c l) (av:=[I ((0:Nat):Int),I ((0:Nat):Int),I 0,.pub (.agg (eCn (0,0,0)))]) Y Y ⟨Y,Y,Y⟩ rL (QI c l hc hl hcp 24 0 0 0 (0,0,0) (List.replicate c.fields.length (0:Int)) [] oM oM (fun _=>rfl) (Dz hcb.1.2) sI Y (Ko _) (by unfold pC;decide) (by rw[←hN];simpa using hfew))) ?_;refine Z3 ?_;refine zt (zd (mem':=cG c l (List.replicate c.fields.length (0:Int)) N) [(3,.pp 0 1 0 0)] ?_ ?_) ?_
 ·exact rL
 ·exact(xQ Y (by rw[hN];rfl))
 refine Z2 ?_;refine zm Y (Q4 (ls:=N) Tryz.laysSlF6_f139 Y Y Y Y Y Y Y oM ⟨_,Tryz.func264,Y,Y⟩ ⟨_,Tryz.func265,Y,Y⟩ zaD zaL) ?_;refine Z9 ?_;exact⟨.inr Y,jb Y ⟨(msgs c l).map fun m=>[nums m],(zLz (fun z=>some (PO.row z)) (show(sortL N).map (fun m=>[EV.pub (nums m)])=_ by rw[hN];exact BD (msgs c l))),by rw[zL8,msgs,(yp _).length_eq,hN],Y⟩⟩
theorem gv:(tP.info? 280).bind (·.zero)=some (.agg #[.slice none 0 0,.slice none 0 0,nZ,.slice none 0 0]):=nR
theorem Hg:zU tP 280 [(0,3),(3,1)] [.slice none 0 0,.slice none 0 0,nZ,.slice none 0 0]:=⟨_,Tryz.underlying280,nR,nR⟩
theorem f165(l:TC)(h:(TB)->Bool)(f:FuncId)(fs cs:TA)(hl:l.length<=1000)(hf:∀n∈l,ACall tP G f (fs++[eStrs n]++cs) (.v (.bool (h n)))):ACall tP G 323 [eCps l,.fn f fs cs] (.v (.int .i64 (ixF h l))):=by
 have hF:=Lib.hid hf;clear hf;refine aC Tryz.func323 ?_;refine Z9 ?_;refine zb (zM Y Y Y Tryz.underlying46) (Z4 ?_);refine zD (ι:={k:Nat//k<=l.length/\(l.take k).any h=false}) (fun k=>⟨Tryz.f323.ntmps,frL [(0,.pub (eCps l)),(1,.pub (.fn f fs cs)),(7,I (l.length:Int)),(8,I (k.1:Int))],[]⟩) (fun k=>l.length-k.1) (⟨0,sI⟩) ?_ ?_
 ·exact zd _ ⟨Y,Y,(zLz (fun x:Nat=>I (x:Int)) (zL8 _)),Y,trivial⟩ (Y)
 ·rintro⟨k,hk⟩;dsimp only;refine Z6 ?_;refine nC ?_ ?_<;>intro h0
  ·skip;have hlt:k<l.length:=by simpa using h0
   refine Z15 ?_;refine zb (zc Y Y Y ii oM (aJ hlt) kM) (Z ?_);refine zb (qD (av:=[_]) Y Y rL (hF.out _ (zLm hlt))) ?_;refine Z2 ?_;refine nC ?_ ?_<;>intro h1
   ·skip;refine Z12 ?_;exact⟨.inr Y,AVle.of (by rw[te hlt hk.2 h1])⟩
   ·skip;refine Z7 ?_;exact⟨⟨k+1,oM,y9 hk.2 hlt h1⟩,by dsimp only;omega,zd _ rL (Y)⟩
  ·skip;have hge:l.length<=k:=by simpa using h0
   refine Z11 ?_;exact⟨.inr Y,AVle.of (by rw[zLk hge]at hk;rw[mf hk.2])⟩
theorem f134(l:TC)(h:(TB)->Bool)(f:FuncId)(fs cs:TA)(hl:l.length<=1000)(hf:∀n∈l,ACall tP G f (fs++[eStrs n]++cs) (.v (.bool (h n)))):ACall tP G 256 [eCps l,.fn f fs cs] (.v (.bool (l.any h))):=by
 refine aC Tryz.func256 ?_;refine Z9 ?_;refine yc (f165 l h f fs cs hl hf) ?_;refine Z5 ?_;exact⟨.inr Y,AVle.of (by rw[←mT h l])⟩
theorem f135(c:Cod)(l:TB)(hl:l.length<=1000)(hc:c.fields.length<=1000):ACall tP G 257 [eStrs l,.ptr (eCod c)] (.v (.bool (!vu c l))):=by
 refine aC Tryz.func257 ?_;refine Z9 ?_;refine yc (f118 c l hl hc) ?_;refine Z5 ?_;exact aR
def iq(c:Cod)(l:TC):Bool:=codB c&&decide (0<l.length)&&l.all (vu c)
def askE(c:Cod)(l:TC):Int:=if 3<l.length then 3 else if iq c l then 0 else 2
theorem xz:iq c l=true↔codB c=true/\0<l.length/\∀g∈l,vu c g=true:=by
 simp[iq,and_assoc]
theorem askE_0(h:askE c l=0):codB c=true/\l.length<=3/\0<l.length/\∀g∈l,vu c g=true:=by
 unfold askE at h
 by_cases h3:3<l.length
 ·rw[zLc h3]at h;cases h
 ·rw[zLy h3]at h;cases hb:iq c l with
  |false=>rw[hb]at h;cases h
  |true=>have:=xz.1 hb;exact⟨this.1,oM,this.2⟩
theorem dJ{α:Type}(l:List α)(p:α->Bool):(l.any fun x=>!p x)= !l.all p:=by
 induction l with
 |nil=>rfl
 |cons a l ih=>simp only[List.any_cons,List.all_cons,ih];cases p a<;>simp
def fndE(c:Cod)(l:TC):Int:=if askE c l=0 then(if msgs c l=[]then 5 else 0)else askE c l
def fndL(c:Cod)(l:TC):List (List Int):=if askE c l=0 then msgs c l else[]
theorem Eo(c:Cod)(l:TC)(hc:c.fields.length<=1000/\c.turns.length<=1000)(hl:l.length<=1000)(hgl:∀g∈l,g.length<=1000)(h3:3<l.length):ACall tP G 183 [.agg (eCod c),eCps l] (.tup [.agg [.top,.top,.top,.top],ei 3]):=by
 refine aC Tryz.func183 ?_;refine Z3 ?_;refine zm Y (zE Y Y gv Y Y) (Z7 ?_);refine zb (zM Y Y Y Tryz.underlying46) (Z3 ?_);refine nC ?_ ?_<;>intro h0
 ·skip;refine Z2 ?_;refine zb (zu (cs:=[_,_,_,_]) Y Hg Y Y rF (by simp[ofV,eInts,eCps,eStrs])) ?_;refine zm Y (zp Y Y Y Y Y Y cEx aG rF bL) (Z5 ?_);exact⟨.inr Y,⟨_,Y,⟨_,_,Y,(zQ Y Y Y Y aG Y (vwT (vwT (vwT (vwT Y))))),⟨_,_,Y,AVle.refl _,Y⟩⟩⟩⟩
 ·skip;exfalso;simp[eCps]at h0;omega
theorem Ky(c:Cod)(l:TC)(hc:c.fields.length<=1000/\c.turns.length<=1000)(hl:l.length<=1000)(hgl:∀g∈l,g.length<=1000)(h3:l.length<=3)(hb:iq c l=false):ACall tP G 183 [.agg (eCod c),eCps l] (.tup [.agg [.top,.top,.top,.top],ei 2]):=by
 refine aC Tryz.func183 ?_;refine Z3 ?_;refine zm Y (zE Y Y gv Y Y) (Z7 ?_);refine zb (zM Y Y Y Tryz.underlying46) (Z3 ?_);refine nC ?_ ?_<;>intro h0
 ·skip;exfalso;simp[eCps]at h0;omega
 ·skip;refine Z6 ?_;refine yc (f116 c hc) ?_;refine Z2 ?_;refine zh Y (fun hg=>xF Y Y) (zh Y (fun hg=>zM Y Y (zLc hg) Tryz.underlying46) (zh Y (fun hg=>vr Y (zLc hg) Y) (zb (ju Y Y Y Y) ?_)));refine Z ?_;refine zh Y (fun hg=>xF Y Y) (zh Y (fun hg=>bf (fs:=[]) (cs:=[_]) Y Y Y) (zh Y (fun hg=>zi (av:=[_,_]) Y ⟨((zLc hg)),((zLc hg)),trivial⟩ (f134 l (fun g=>!vu c g) 257 [] [.ptr (eCod c)] hl (fun g hgm=>f135 c g (hgl g hgm) hc.1))) (zb (ju Y Y Y Y) ?_)));refine Z2 ?_;refine nC ?_ ?_<;>intro h1
  ·skip;refine Z2 ?_;refine zb (zu (cs:=[_,_,_,_]) Y Hg Y Y rF (by simp[ofV,eInts,eCps,eStrs])) ?_;refine zm Y (zp Y Y Y Y Y Y cEx aG rF bL) (Z5 ?_);exact⟨.inr Y,⟨_,Y,⟨_,_,Y,(zQ Y Y Y Y aG Y (vwT (vwT (vwT (vwT Y))))),⟨_,_,Y,AVle.refl _,Y⟩⟩⟩⟩
  ·skip;exfalso
   have hq:iq c l=true:=by
    simp[eCps,dJ]at h1;rw[xz];refine⟨h1.1.1,?_,h1.2⟩;cases l with
    |nil=>simp at h1
    |cons a t=>simp
   rw[hb]at hq;cases hq
theorem Ef(c:Cod)(l:TC)(hc:c.fields.length<=1000/\c.turns.length<=1000)(hl:l.length<=1000)(hgl:∀g∈l,g.length<=1000)(h3:l.length<=3)(hb:iq c l=true):ACall tP G 183 [.agg (eCod c),eCps l] (.tup [.agg (jZ c l),ei 0]):=by
 refine aC Tryz.func183 ?_;refine Z3 ?_;refine zm Y (zE Y Y gv Y Y) (Z7 ?_);refine zb (zM Y Y Y Tryz.underlying46) (Z3 ?_);refine nC ?_ ?_<;>intro h0
 ·skip;exfalso;simp[eCps]at h0;omega
 ·skip;refine Z6 ?_;refine yc (f116 c hc) ?_;refine Z2 ?_;refine zh Y (fun hg=>xF Y Y) (zh Y (fun hg=>zM Y Y (zLc hg) Tryz.underlying46) (zh Y (fun hg=>vr Y (zLc hg) Y) (zb (ju Y Y Y Y) ?_)));refine Z ?_;refine zh Y (fun hg=>xF Y Y) (zh Y (fun hg=>bf (fs:=[]) (cs:=[_]) Y Y Y) (zh Y (fun hg=>zi (av:=[_,_]) Y ⟨((zLc hg)),((zLc hg)),trivial⟩ (f134 l (fun g=>!vu c g) 257 [] [.ptr (eCod c)] hl (fun g hgm=>f135 c g (hgl g hgm) hc.1))) (zb (ju Y Y Y Y) ?_)));refine Z2 ?_;refine nC ?_ ?_<;>intro h1
  ·skip;exfalso;have hq:=xz.1 hb;have hz:l≠[]:=fun e=>by rw[e]at hq;simp at hq
   simp[eCps,dJ,hq.1,hz]at h1;obtain⟨g,hgm,hgc⟩:=h1;rw[hq.2.2 g hgm]at hgc;cases hgc
  ·skip;refine Z6 ?_;refine zb (zu (cs:=[_,_,_,_]) Y Hg Y (zk (zk Y)) rF (by simp[ofV,eInts,eCps,eStrs])) ?_;refine zm Y (zp Y Y Y Y Y Y cEx aG rF bL) (Z4 ?_);exact⟨.inr Y,⟨_,Y,⟨_,_,Y,(zQ Y Y Y Y aG Y (vwR (vwR (vwR (vwR Y))))),⟨_,_,Y,AVle.refl _,Y⟩⟩⟩⟩
theorem G0(c:Cod)(l:TC)(hc:c.fields.length<=1000/\c.turns.length<=1000)(hl:l.length<=1000)(hgl:∀g∈l,g.length<=1000)(h3:3<l.length):ACall tP G 87 [.agg (eCod c),eCps l] (.tup [.sl [],ei 3]):=by
 refine aC Tryz.func87 ?_;refine Z11 ?_;refine yc (Eo c l hc hl hgl h3) ?_;refine Z3 ?_;refine zI Y Y Y Y Y Y Y gv aG Y rF (zF Y) Y (Z10 ?_);refine nC ?_ ?_<;>intro h0
 ·skip;refine Z9 ?_;exact⟨.inr Y,⟨_,Y,⟨_,_,Y,AVle.nil,⟨_,_,Y,AVle.refl _,Y⟩⟩⟩⟩
 ·skip;exfalso;simp at h0
theorem JD(c:Cod)(l:TC)(hc:c.fields.length<=1000/\c.turns.length<=1000)(hl:l.length<=1000)(hgl:∀g∈l,g.length<=1000)(h3:l.length<=3)(hb:iq c l=false):ACall tP G 87 [.agg (eCod c),eCps l] (.tup [.sl [],ei 2]):=by
 refine aC Tryz.func87 ?_;refine Z11 ?_;refine yc (Ky c l hc hl hgl h3 hb) ?_;refine Z3 ?_;refine zI Y Y Y Y Y Y Y gv aG Y rF (zF Y) Y (Z10 ?_);refine nC ?_ ?_<;>intro h0
 ·skip;refine Z9 ?_;exact⟨.inr Y,⟨_,Y,⟨_,_,Y,AVle.nil,⟨_,_,Y,AVle.refl _,Y⟩⟩⟩⟩
 ·skip;exfalso;simp at h0
theorem HM(c:Cod)(l:TC)(hc:c.fields.length<=1000/\c.turns.length<=1000)(hl:l.length<=1000)(hgl:∀g∈l,g.length<=1000)(h3:l.length<=3)(hb:iq c l=true)(hm:msgs c l=[]):ACall tP G 87 [.agg (eCod c),eCps l] (.tup [.sl [],ei 5]):=by
 have hq:=xz.1 hb;refine aC Tryz.func87 ?_;refine Z11 ?_;refine yc (Ef c l hc hl hgl h3 hb) ?_;refine Z3 ?_;refine zI Y Y Y Y Y Y Y gv aG Y rF (zF Y) Y (Z10 ?_);refine nC ?_ ?_<;>intro h0
 ·skip;exfalso;simp at h0
 ·skip;refine Z5 ?_;refine yc (f96 c l hq.1 h3 hq.2.1 hq.2.2) ?_;refine Z7 ?_;refine zb (zM Y Y Y Tryz.underlying77) (Z3 ?_);refine nC ?_ ?_<;>intro h1
  ·skip;refine Z8 ?_;exact⟨.inr Y,⟨_,Y,⟨_,_,Y,AVle.nil,⟨_,_,Y,AVle.refl _,Y⟩⟩⟩⟩
  ·skip;exfalso;simp[hm]at h1
theorem G3(c:Cod)(l:TC)(hc:c.fields.length<=1000/\c.turns.length<=1000)(hl:l.length<=1000)(hgl:∀g∈l,g.length<=1000)(h3:l.length<=3)(hb:iq c l=true)(hm:msgs c l≠[]):ACall tP G 87 [.agg (eCod c),eCps l] (.tup [eIntss (msgs c l),ei 0]):=by
 have hq:=xz.1 hb;refine aC Tryz.func87 ?_;refine Z11 ?_;refine yc (Ef c l hc hl hgl h3 hb) ?_;refine Z3 ?_;refine zI Y Y Y Y Y Y Y gv aG Y rF (zF Y) Y (Z10 ?_);refine nC ?_ ?_<;>intro h0
 ·skip;exfalso;simp at h0
 ·skip;refine Z5 ?_;refine yc (f96 c l hq.1 h3 hq.2.1 hq.2.2) ?_;refine Z7 ?_;refine zb (zM Y Y Y Tryz.underlying77) (Z3 ?_);refine nC ?_ ?_<;>intro h1
  ·skip;exfalso;simp at h1;exact hm h1
  ·skip;refine Z10 ?_;exact⟨.inr Y,⟨_,Y,⟨_,_,Y,AVle.refl _,⟨_,_,Y,AVle.refl _,Y⟩⟩⟩⟩
theorem f85(c:Cod)(l:TC)(hc:c.fields.length<=1000/\c.turns.length<=1000)(hl:l.length<=1000)(hgl:∀g∈l,g.length<=1000):ACall tP G 87 [.agg (eCod c),eCps l] (.tup [eIntss (fndL c l),ei (fndE c l)]):=by
 by_cases h3:3<l.length
 ·have e:askE c l=3:=by unfold askE;rw[zLc h3]
  have:=G0 (G:=G) c l hc hl hgl h3;unfold fndE fndL;rw[e];exact this
 ·cases hb:iq c l with
  |false=>
   have e:askE c l=2:=by unfold askE;rw[zLy h3,hb];rfl
   have:=JD (G:=G) c l hc hl hgl oM hb;unfold fndE fndL;rw[e];exact this
  |true=>
   have e:askE c l=0:=by unfold askE;rw[zLy h3,hb];rfl
   unfold fndE fndL;rw[zLc e,zLc e]
   by_cases hm:msgs c l=[]
   ·rw[zLc hm,hm];exact HM c l hc hl hgl oM hb hm
   ·rw[zLy hm];exact G3 c l hc hl hgl oM hb hm
theorem f24(c:Cod)(l:TC)(hc:c.fields.length<=1000/\c.turns.length<=1000)(hl:l.length<=1000)(hgl:∀g∈l,g.length<=1000):ACall tP G 25 [.agg (eCod c),eCps l] (.tup [eIntss (fndL c l),ei (fndE c l)]):=by
 refine aC Tryz.func25 ?_;refine Z11 ?_;refine yc (f85 c l hc hl hgl) ?_;refine Z7 ?_;exact⟨.inr Y,⟨_,Y,⟨_,_,Y,AVle.refl _,⟨_,_,Y,AVle.refl _,Y⟩⟩⟩⟩
theorem Jf:zO tP 28 2 2=true:=nR
theorem IB:zO tP 28 1 1=true:=nR
def costI(t:Trf)(w n:Int):Int:=(t.opn+t.more*max 0 (w-t.free))+(n-1)*(((t.opn+t.more*max 0 (w-t.free))+1)/2)
def OQ(t:Trf):Bool:=(inB t.opn 0 10000&&inB t.more 0 10000)&&inB t.free 0 100
theorem f50_ok(t:Trf)(w n:Int)(h1:OQ t=true)(h2:inB w 0 100=true)(h3:inB n 1 3=true):ACall tP G 40 [.agg (zbZ t),ei w,ei n] (.tup [ei (costI t w n),ei 0]):=by
 have q1:=h1;simp only[OQ,zLa,inB_iff]at q1;have q2:=inB_iff.1 h2;have q3:=inB_iff.1 h3;obtain⟨M,hM⟩:∃M,M=max 0 (w-t.free):=⟨_,rfl⟩;have hM1:0<=M/\M<=100:=oM;have hM2:0<=t.more*M/\t.more*M<=1000000:=⟨Int.mul_nonneg oM oM,Int.le_trans (Int.mul_le_mul (show t.more<=10000 by omega) (show M<=100 by omega) oM oM) oM⟩;have hO:0<=t.opn+t.more*M/\t.opn+t.more*M<=1010000:=oM;have hH:0<=(t.opn+t.more*M+1)/2/\(t.opn+t.more*M+1)/2<=1010000:=oM;have hP:0<=(n-1)*((t.opn+t.more*M+1)/2)/\(n-1)*((t.opn+t.more*M+1)/2)<=2020000:=⟨Int.mul_nonneg oM oM,Int.le_trans (Int.mul_le_mul (show n-1<=2 by omega) hH.2 oM oM) oM⟩;rw[hM]at hM2 hO hH hP;refine aC Tryz.func40 ?_;refine Z12 ?_;refine yc (f107 _ _ _) ?_;refine Z2 ?_;refine zh Y (fun hg=>zf Y Y Jf) (zh Y (fun hg=>zl Y (zLc hg) Y ki) (zh Y (fun hg=>zi (av:=[_,_,_]) Y ⟨((zLc hg)),Y,Y,trivial⟩ (f107 _ _ _)) (zh Y (fun hg=>q0 Y (zLc hg)) (zb (ju Y Y Y Y) ?_))))
 refine Z ?_;refine zh Y (fun hg=>zf Y Y IB) (zh Y (fun hg=>zl Y (zLc hg) Y ki) (zh Y (fun hg=>zi (av:=[_,_,_]) Y ⟨((zLc hg)),Y,Y,trivial⟩ (f107 _ _ _)) (zh Y (fun hg=>q0 Y (zLc hg)) (zb (ju Y Y Y Y) ?_))));refine Z ?_;refine zh Y (fun hg=>zX Y Y) (zh Y (fun hg=>zi (av:=[_,_,_]) Y ⟨((zLc hg)),Y,Y,trivial⟩ (f107 _ _ _)) (zh Y (fun hg=>q0 Y (zLc hg)) (zb (ju Y Y Y Y) ?_)));refine Z ?_;refine zh Y (fun hg=>zX Y Y) (zh Y (fun hg=>zi (av:=[_,_,_]) Y ⟨((zLc hg)),Y,Y,trivial⟩ (f107 _ _ _)) (zh Y (fun hg=>q0 Y (zLc hg)) (zb (ju Y Y Y Y) ?_)));refine Z2 ?_;refine nC ?_ ?_<;>intro h0
 ·skip;exfalso;simp[OQ]at h1;simp[h1,h2,h3]at h0
 ·skip;refine Z25 ?_;refine zb (dH Y Y Y ⟨oM,oM,oM⟩) (Z7 ?_);exact⟨.inr Y,⟨_,Y,⟨_,_,Y,AVle.refl _,⟨_,_,Y,AVle.refl _,Y⟩⟩⟩⟩
end Wr
end Go.Av
end
