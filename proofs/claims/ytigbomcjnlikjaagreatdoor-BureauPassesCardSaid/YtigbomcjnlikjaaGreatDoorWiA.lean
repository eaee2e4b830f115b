import Derived.Test.YtigbomcjnlikjaaGreatDoorFc
import Derived.Test.YtigbomcjnlikjaaGreatDoorInsA
import Derived.Lib.Hide
set_option linter.unusedVariables false
set_option linter.unusedSimpArgs false
set_option maxRecDepth 100000
set_option maxHeartbeats 9000000
section
namespace Go.Av
namespace Wr
structure Cod where
 fields:List (Int × Int)
 turns:List Int
 most:Int
structure Trf where
 opn:Int
 free:Int
 more:Int
def ei(n:Int):AV:=.v (.int .i64 n)
def eSpn(p:Int × Int):TA:=[.v (.int .i64 p.1),.v (.int .i64 p.2)]
def eInts(l:List Int):AV:=.sl (l.map fun n=>[.v (.int .i64 n)])
def eIntss(l:List (List Int)):AV:=.sl (l.map fun m=>[eInts m])
def eStrs(l:TB):AV:=.sl (l.map fun s=>[eS s])
def eCps(l:TC):AV:=.sl (l.map fun g=>[eStrs g])
def eCod(c:Cod):TA:=[.sl (c.fields.map eSpn),eInts c.turns,.v (.int .i64 c.most)]
def zbZ(t:Trf):TA:=[.v (.int .i64 t.opn),.v (.int .i64 t.free),.v (.int .i64 t.more)]
end Wr
end Go.Av
namespace Go.Av
namespace Wr
open Go.Proofs Tryz
variable{G:Glob}
theorem wu:qV tP 23 2=true:=nR
theorem j8:zO tP 63 0 0=true:=nR
theorem jv:zO tP 63 1 1=true:=nR
theorem sV:zS tP 23 false 1=true:=nR
theorem lb:zS tP 24 false 1=true:=nR
theorem AX:zO tP 26 2 2=true:=nR
theorem NL:(tP.info? 63).bind (·.zero)=some (.agg #[nZ,nZ]):=nR
def inB(x lo hi:Int):Bool:=decide (lo<=x)&&decide (x<=hi)
theorem inB_iff{x lo hi:Int}:inB x lo hi=true↔lo<=x/\x<=hi:=by simp[inB]
variable{l s:List (Int × Int)}{k:Nat}{h:Int->Int × Int->Bool}
theorem uf(h:k<l.length):(l.map eSpn)[k]?=some (eSpn l[k]):=by simp[h]
theorem nl:∀q∈l.map eSpn,q.length=2:=fun q hq=>by obtain⟨p,_,rfl⟩:=zLj.1 hq;rfl
theorem zA{l:List Int}(h:k<l.length):(l.map fun n=>[AV.v (.int .i64 n)])[k]?=some [.v (.int .i64 l[k])]:=by simp[h]
theorem zn{l:List Int}:∀q∈l.map (fun n=>[AV.v (.int .i64 n)]),q.length=1:=sI
def ixF{α:Type}(h:α->Bool)(l:List α):Int:=match l.findIdx? h with
 |some k=>(k:Int)
 |none=>-1
theorem te{α:Type}{h:α->Bool}{l:List α}(hk:k<l.length)(h0:(l.take k).any h=false)(h1:h l[k]=true):ixF h l=(k:Int):=by
 have:l.findIdx? h=some k:=by
  rw[List.findIdx?_eq_some_iff_getElem];refine⟨hk,h1,fun j hj=>?_⟩;rw[List.any_eq_false]at h0;have:=h0 l[j] (by rw[List.mem_take_iff_getElem];exact⟨j,oM,rfl⟩);simpa using this
 simp[ixF,this]
theorem mf{α:Type}{h:α->Bool}{l:List α}(h0:l.any h=false):ixF h l=-1:=by
 have:l.findIdx? h=none:=by
  rw[List.findIdx?_eq_none_iff];intro x hx;rw[List.any_eq_false]at h0;simpa using h0 x hx
 simp[ixF,this]
theorem mT{α:Type}(h:α->Bool)(l:List α):decide (0<=ixF h l)=l.any h:=by
 cases ha:l.any h with
 |false=>rw[mf ha];rfl
 |true=>
  cases hf:l.findIdx? h with
  |some k=>simp only[ixF,hf];simp
  |none=>
   rw[List.findIdx?_eq_none_iff]at hf;rw[List.any_eq_true]at ha;obtain⟨x,hx,hh⟩:=ha;rw[hf x hx]at hh;cases hh
theorem y9{α:Type}{l:List α}{h:α->Bool}(h0:(l.take k).any h=false)(hk:k<l.length)(h1:h l[k]=false):(l.take (k+1)).any h=false:=by
 rw[zLt hk,List.any_append,h0];simp[h1]
theorem wN{α:Type}{p:α->Bool}{l:List α}(h:(l.take k).all p=true)(hk:k<l.length)(hp:p l[k]=true):(l.take (k+1)).all p=true:=by
 rw[zLt hk,List.all_append,h];simp[hp]
theorem yM{α:Type}{p:α->Bool}{l:List α}(hk:k<l.length)(hp:p l[k]=false):l.all p=false:=by
 rw[List.all_eq_false];exact⟨l[k],zLm hk,by simp[hp]⟩
def nf(p:Int × Int):Bool:=decide (p.1<0)||decide (p.2<p.1)||decide (99999<p.2)
def nc(n:Int):Bool:=!inB n 0 1023
def codB(c:Cod):Bool:=inB (c.fields.length:Int) 1 3&&((c.turns.length:Int)==10)&&inB c.most 0 2&& !(c.fields.any nf)&& !(c.turns.any nc)
def eqF{α β:Type}(h:α->β->Bool)(l:List α)(s:List β):Bool:=decide (l.length=s.length)&&(l.zip s).all fun p=>h p.1 p.2
def kW(c:Cod)(m:List Int):Bool:=eqF (fun n p=>inB n p.1 p.2) m c.fields
theorem f107(x lo hi:Int):ACall tP G 109 [.v (.int .i64 x),.v (.int .i64 lo),.v (.int .i64 hi)] (.v (.bool (inB x lo hi))):=by
 refine aC func109 ?_;refine Z11 ?_;refine zh Y (fun hg=>zX Y Y) (zh Y (fun hg=>zX Y Y) (zh Y (fun hg=>bE Y (zLc hg) (zLc hg)) ?_));refine Z5 ?_;exact aR
theorem f93(x lo hi:Int):ACall tP G 138 [.v (.int .i64 x),.v (.int .i64 lo),.v (.int .i64 hi)] (.v (.bool (inB x lo hi))):=by
 refine aC func138 ?_;refine Z11 ?_;refine zh Y (fun hg=>zX Y Y) (zh Y (fun hg=>zX Y Y) (zh Y (fun hg=>bE Y (zLc hg) (zLc hg)) ?_));refine Z5 ?_;exact aR
theorem f171(l:List (Int × Int))(h:(Int × Int)->Bool)(f:FuncId)(fs cs:TA)(hl:l.length<=1000)(hf:∀n∈l,ACall tP G f (fs++[.agg (eSpn n)]++cs) (.v (.bool (h n)))):ACall tP G 361 [.sl (l.map eSpn),.fn f fs cs] (.v (.int .i64 (ixF h l))):=by
 have hF:=Lib.hid hf;clear hf;refine aC func361 ?_;refine Z9 ?_;refine zb (zM Y Y Y underlying23) (Z4 ?_);refine zD (ι:={k:Nat//k<=l.length/\(l.take k).any h=false}) (fun k=>⟨Tryz.f361.ntmps,frL [(0,.pub (.sl (l.map eSpn))),(1,.pub (.fn f fs cs)),(7,I (l.length:Int)),(8,I (k.1:Int))],[]⟩) (fun k=>l.length-k.1) (⟨0,sI⟩) ?_ ?_
 ·exact zd _ ⟨Y,Y,(zLz (fun x:Nat=>I (x:Int)) (zL8 _)),Y,trivial⟩ (Y)
 ·rintro⟨k,hk⟩;dsimp only;refine Z6 ?_;refine nC ?_ ?_<;>intro h0
  ·skip;have hlt:k<l.length:=by simpa using h0
   refine Z15 ?_;refine zb (zc Y Y Y wu oM (uf hlt) nl) (Z ?_);refine zb (qD (av:=[_]) Y Y rL (hF.out _ (zLm hlt))) ?_;refine Z2 ?_;refine nC ?_ ?_<;>intro h1
   ·skip;refine Z12 ?_;exact⟨.inr Y,AVle.of (by rw[te hlt hk.2 h1])⟩
   ·skip;refine Z7 ?_;exact⟨⟨k+1,oM,y9 hk.2 hlt h1⟩,by dsimp only;omega,zd _ rL (Y)⟩
  ·skip;have hge:l.length<=k:=by simpa using h0
   refine Z11 ?_;exact⟨.inr Y,AVle.of (by rw[zLk hge]at hk;rw[mf hk.2])⟩
theorem f145(l:List (Int × Int))(h:(Int × Int)->Bool)(f:FuncId)(fs cs:TA)(hl:l.length<=1000)(hf:∀n∈l,ACall tP G f (fs++[.agg (eSpn n)]++cs) (.v (.bool (h n)))):ACall tP G 320 [.sl (l.map eSpn),.fn f fs cs] (.v (.bool (l.any h))):=by
 refine aC func320 ?_;refine Z9 ?_;refine yc (f171 l h f fs cs hl hf) ?_;refine Z5 ?_;exact⟨.inr Y,AVle.of (by rw[←mT h l])⟩
theorem f172(l:List Int)(h:Int->Bool)(f:FuncId)(fs cs:TA)(hl:l.length<=1000)(hf:∀n∈l,ACall tP G f (fs++[.v (.int .i64 n)]++cs) (.v (.bool (h n)))):ACall tP G 275 [eInts l,.fn f fs cs] (.v (.int .i64 (ixF h l))):=by
 have hF:=Lib.hid hf;clear hf;refine aC func275 ?_;refine Z9 ?_;refine zb (zM Y Y Y underlying24) (Z4 ?_);refine zD (ι:={k:Nat//k<=l.length/\(l.take k).any h=false}) (fun k=>⟨Tryz.f275.ntmps,frL [(0,.pub (eInts l)),(1,.pub (.fn f fs cs)),(7,I (l.length:Int)),(8,I (k.1:Int))],[]⟩) (fun k=>l.length-k.1) (⟨0,sI⟩) ?_ ?_
 ·exact zd _ ⟨Y,Y,(zLz (fun x:Nat=>I (x:Int)) (zL8 _)),Y,trivial⟩ (Y)
 ·rintro⟨k,hk⟩;dsimp only;refine Z6 ?_;refine nC ?_ ?_<;>intro h0
  ·skip;have hlt:k<l.length:=by simpa using h0
   refine Z15 ?_;refine zb (zc Y Y Y zY oM (zA hlt) zn) (Z ?_);refine zb (qD (av:=[_]) Y Y rL (hF.out _ (zLm hlt))) ?_;refine Z2 ?_;refine nC ?_ ?_<;>intro h1
   ·skip;refine Z12 ?_;exact⟨.inr Y,AVle.of (by rw[te hlt hk.2 h1])⟩
   ·skip;refine Z7 ?_;exact⟨⟨k+1,oM,y9 hk.2 hlt h1⟩,by dsimp only;omega,zd _ rL (Y)⟩
  ·skip;have hge:l.length<=k:=by simpa using h0
   refine Z11 ?_;exact⟨.inr Y,AVle.of (by rw[zLk hge]at hk;rw[mf hk.2])⟩
theorem f147(l:List Int)(h:Int->Bool)(f:FuncId)(fs cs:TA)(hl:l.length<=1000)(hf:∀n∈l,ACall tP G f (fs++[.v (.int .i64 n)]++cs) (.v (.bool (h n)))):ACall tP G 208 [eInts l,.fn f fs cs] (.v (.bool (l.any h))):=by
 refine aC func208 ?_;refine Z9 ?_;refine yc (f172 l h f fs cs hl hf) ?_;refine Z5 ?_;exact⟨.inr Y,AVle.of (by rw[←mT h l])⟩
theorem f146(p:Int × Int):ACall tP G 321 [.agg (eSpn p)] (.v (.bool (nf p))):=by
 refine aC func321 ?_;refine Z12 ?_;refine zh Y (fun hg=>zf Y Y j8) (zh Y (fun hg=>zl Y (zLc hg) Y ki) (zh Y (fun hg=>zf Y Y jv) (zh Y (fun hg=>zl Y (zLc hg) Y ki) (zh Y (fun hg=>yq Y (zLc hg) (zLc hg)) ?_))));refine Z2 ?_;refine zh Y (fun hg=>zf Y Y jv) (zh Y (fun hg=>zl Y (zLc hg) Y ki) (zh Y (fun hg=>yq Y (zLc hg) Y) ?_));refine Z5 ?_;exact aR
theorem f148(n:Int):ACall tP G 322 [.v (.int .i64 n)] (.v (.bool (nc n))):=by
 refine aC func322 ?_;refine Z8 ?_;refine yc (f107 _ _ _) ?_;refine Z5 ?_;exact aR
theorem f116(c:Cod)(hc:c.fields.length<=1000/\c.turns.length<=1000):ACall tP G 255 [.agg (eCod c)] (.v (.bool (codB c))):=by
 refine aC func255 ?_;refine Z10 ?_;refine zb (zM Y Y Y underlying23) ?_;refine yc (f107 _ _ _) ?_;refine Z ?_;refine zh Y (fun hg=>zf Y Y nz) (zh Y (fun hg=>zl Y (zLc hg) Y lb) (zh Y (fun hg=>zM Y Y (zLc hg) underlying24) (zh Y (fun hg=>vr Y (zLc hg) Y) ?_)));refine Z2 ?_;refine zh Y (fun hg=>zf Y Y AX) (zh Y (fun hg=>zl Y (zLc hg) Y ki) (zh Y (fun hg=>zi (av:=[_,_,_]) Y ⟨((zLc hg)),Y,Y,trivial⟩ (f107 _ _ _)) ?_));refine Z2 ?_;refine zh Y (fun hg=>zf Y Y eX) (zh Y (fun hg=>zl Y (zLc hg) Y sV) (zh Y (fun hg=>zi (av:=[_,_]) Y ⟨((zLc hg)),Y,trivial⟩ (f145 c.fields nf 321 [] [] hc.1 (fun p _=>f146 p))) (zh Y (fun hg=>q0 Y (zLc hg)) ?_)));refine Z2 ?_;refine zh Y (fun hg=>zf Y Y nz) (zh Y (fun hg=>zl Y (zLc hg) Y lb) (zh Y (fun hg=>zi (av:=[_,_]) Y ⟨((zLc hg)),Y,trivial⟩ (f147 c.turns nc 322 [] [] hc.2 (fun n _=>f148 n))) (zh Y (fun hg=>q0 Y (zLc hg)) ?_)));refine Z5 ?_;exact⟨.inr Y,AVle.of (by simp[codB,eInts])⟩
theorem f150(n:Int)(p:Int × Int):ACall tP G 329 [.v (.int .i64 n),.agg (eSpn p)] (.v (.bool (inB n p.1 p.2))):=by
 refine aC func329 ?_;refine Z13 ?_;refine yc (f107 _ _ _) ?_;refine Z4 ?_;exact aR
theorem mJ{l:List Int}(h0:((l.zip s).take k).all (fun p=>h p.1 p.2)=true)(hk:k<l.length)(hs:k<s.length)(h1:h l[k] s[k]=true):((l.zip s).take (k+1)).all (fun p=>h p.1 p.2)=true:=
 wN h0 (by simp;omega) (by simp[h1])
theorem t7{l:List Int}(hk:k<l.length)(hs:k<s.length)(h1:h l[k] s[k]=false):(l.zip s).all (fun p=>h p.1 p.2)=false:=
 yM (k:=k) (by simp;omega) (by simp[h1])
theorem f149(l:List Int)(s:List (Int × Int))(h:Int->Int × Int->Bool)(f:FuncId)(fs cs:TA)(hl:l.length<=1000)(hf:∀n p,ACall tP G f (fs++[.v (.int .i64 n),.agg (eSpn p)]++cs) (.v (.bool (h n p)))):ACall tP G 328 [eInts l,.sl (s.map eSpn),.fn f fs cs] (.v (.bool (eqF h l s))):=by
 have hF:=Lib.hid hf;clear hf;refine aC func328 ?_;refine Z9 ?_;refine zb (zM Y Y Y underlying24) (Z ?_);refine zb (zM Y Y Y underlying23) (Z3 ?_);refine nC ?_ ?_<;>intro h0
 ·skip;have hne:l.length≠s.length:=by simp[eInts]at h0;omega
  refine Z7 ?_;exact⟨.inr Y,AVle.of (by simp[eqF,hne])⟩
 ·skip;have hle:l.length=s.length:=by simp[eInts]at h0;omega
  refine Z6 ?_;refine zb (zM Y Y Y underlying24) (Z4 ?_);refine zD (ι:={k:Nat//k<=l.length/\((l.zip s).take k).all (fun p=>h p.1 p.2)=true}) (fun k=>⟨Tryz.f328.ntmps,frL [(1,.pub (.sl (s.map eSpn))),(2,.pub (.fn f fs cs)),(15,.pub (eInts l)),(16,I (l.length:Int)),(17,I (k.1:Int))],[]⟩) (fun k=>l.length-k.1) (⟨0,sI⟩) ?_ ?_
  ·exact zd _ ⟨Y,Y,Y,(zLz (fun x:Nat=>I (x:Int)) (zL8 _)),Y,trivial⟩ (Y)
  ·rintro⟨k,hk⟩;dsimp only;refine Z6 ?_;refine nC ?_ ?_<;>intro h1
   ·skip;have hlt:k<l.length:=by simpa using h1
    have hls:k<s.length:=oM;refine Z7 ?_;refine zb (zc Y Y Y zY oM (zA hlt) zn) (Z9 ?_);refine zb (zc Y Y Y wu oM (uf hls) nl) (Z ?_);refine zI Y Y Y Y Y Y Y NL vd Y rF (zF Y) Y (Z7 ?_);refine zb (qD (av:=[_,_]) Y Y rL (hF.out _ _)) ?_;refine Z3 ?_;refine nC ?_ ?_<;>intro h2
    ·skip;have hb:h l[k] s[k]=false:=by simpa using h2
     refine Z11 ?_;exact⟨.inr Y,AVle.of (by simp only[eqF,hle,decide_true,Bool.true_and,t7 hlt hls hb])⟩
    ·skip;have hb:h l[k] s[k]=true:=by simpa using h2
     refine Z7 ?_;exact⟨⟨k+1,oM,mJ hk.2 hlt hls hb⟩,by dsimp only;omega,zd _ rL (Y)⟩
   ·skip;have hge:l.length<=k:=by simpa using h1
    refine Z11 ?_;exact⟨.inr Y,AVle.of (by rw[zLk (by simp;omega)]at hk;simp only[eqF,hle,decide_true,Bool.true_and,hk.2])⟩
theorem f117(c:Cod)(m:List Int)(hm:m.length<=1000):ACall tP G 260 [.agg (eCod c),eInts m] (.v (.bool (kW c m))):=by
 refine aC func260 ?_;refine Z11 ?_;refine yc (f149 m c.fields (fun n p=>inB n p.1 p.2) 329 [] [] hm (fun n p=>f150 n p)) ?_;refine Z4 ?_;exact aR
theorem f31(c:Cod)(hc:c.fields.length<=1000/\c.turns.length<=1000):ACall tP G 59 [.agg (eCod c)] (.v (.bool (codB c))):=by
 refine aC func59 ?_;refine Z13 ?_;refine zD (ι:={k:Nat//k<=c.fields.length/\(c.fields.take k).any nf=false}) (fun k=>⟨Tryz.f59.ntmps,frL [(1,.pub (.ptr (eCod c))),(3,I (k.1:Int))],[]⟩) (fun k=>c.fields.length-k.1) (⟨0,sI⟩) ?_ ?_
 ·exact zd _ rL (Y)
 ·rintro⟨k,hk⟩;dsimp only;refine Z6 ?_;refine zb (zM Y Y Y underlying23) (Z3 ?_);refine nC ?_ ?_<;>intro h0
  ·skip;have hlt:k<c.fields.length:=by simpa using h0
   refine Z9 ?_;refine zb (zc Y Y Y wu oM (uf hlt) nl) (Z ?_);refine zI Y Y Y Y Y Y Y NL vd Y rF (zF Y) Y (Z8 ?_);refine zh Y (fun hg=>zf Y Y j8) (zh Y (fun hg=>zl Y (zLc hg) Y ki) (zh Y (fun hg=>zf Y Y jv) (zh Y (fun hg=>zl Y (zLc hg) Y ki) (zh Y (fun hg=>yq Y (zLc hg) (zLc hg)) ?_))));refine Z2 ?_;refine zh Y (fun hg=>zf Y Y jv) (zh Y (fun hg=>zl Y (zLc hg) Y ki) (zh Y (fun hg=>yq Y (zLc hg) Y) ?_));refine Z3 ?_;refine nC ?_ ?_<;>intro h1
   ·skip;have hb:nf c.fields[k]=true:=by simp[nf]at h1⊢;omega
    refine Z11 ?_;exact⟨.inr Y,AVle.of (by simp only[codB,List.any_eq_true.2 ⟨_,zLm hlt,hb⟩,Bool.not_true,Bool.and_false,Bool.false_and])⟩
   ·skip;have hb:nf c.fields[k]=false:=by simp[nf]at h1⊢;omega
    refine Z8 ?_;exact⟨⟨k+1,oM,y9 hk.2 hlt hb⟩,by dsimp only;omega,zd _ rL (Y)⟩
  ·skip;have hge:c.fields.length<=k:=by simpa using h0
   refine Z12 ?_;refine zD (ι:={j:Nat//j<=c.turns.length/\(c.turns.take j).any nc=false}) (fun j=>⟨Tryz.f59.ntmps,frL [(1,.pub (.ptr (eCod c))),(5,I (j.1:Int))],[]⟩) (fun j=>c.turns.length-j.1) (⟨0,sI⟩) ?_ ?_
   ·exact zd _ rL (Y)
   ·rintro⟨j,hj⟩;dsimp only;refine Z6 ?_;refine zb (zM Y Y Y underlying24) (Z3 ?_);refine nC ?_ ?_<;>intro h2
    ·skip;have hlt2:j<c.turns.length:=by simpa[eInts]using h2
     refine Z9 ?_;refine zb (zc Y Y Y zY oM (zA hlt2) zn) (Z ?_);refine yc (f93 _ _ _) ?_;refine Z3 ?_;refine nC ?_ ?_<;>intro h3
     ·skip;have hb2:nc c.turns[j]=true:=by simpa[nc]using h3
      refine Z11 ?_;exact⟨.inr Y,AVle.of (by simp only[codB,List.any_eq_true.2 ⟨_,zLm hlt2,hb2⟩,Bool.not_true,Bool.and_false])⟩
     ·skip;have hb2:nc c.turns[j]=false:=by simpa[nc]using h3
      refine Z8 ?_;exact⟨⟨j+1,oM,y9 hj.2 hlt2 hb2⟩,by dsimp only;omega,zd _ rL (Y)⟩
    ·skip;have hge2:c.turns.length<=j:=by simpa[eInts]using h2
     refine Z9 ?_;refine zb (zM Y Y Y underlying23) ?_;refine yc (f93 _ _ _) ?_;refine Z ?_;refine zh Y (fun hg=>zf Y Y nz) (zh Y (fun hg=>zl Y (zLc hg) Y lb) (zh Y (fun hg=>zM Y Y (zLc hg) underlying24) (zh Y (fun hg=>vr Y (zLc hg) Y) ?_)));refine Z2 ?_;refine zh Y (fun hg=>zf Y Y AX) (zh Y (fun hg=>zl Y (zLc hg) Y ki) (zh Y (fun hg=>zi (av:=[_,_,_]) Y ⟨((zLc hg)),Y,Y,trivial⟩ (f93 _ _ _)) ?_));refine Z5 ?_;exact⟨.inr Y,AVle.of (by rw[zLk hge]at hk;rw[zLk hge2]at hj;simp[codB,hk.2,hj.2,eInts])⟩
end Wr
end Go.Av
end
