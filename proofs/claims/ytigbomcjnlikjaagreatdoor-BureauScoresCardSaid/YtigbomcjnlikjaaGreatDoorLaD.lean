import Derived.Test.YtigbomcjnlikjaaGreatDoorLaC
set_option linter.unusedVariables false
set_option linter.unusedSimpArgs false
set_option maxRecDepth 100000
set_option maxHeartbeats 9000000
section
namespace Go.Av
namespace Bu
open Go.Proofs Tryz
variable{G:Glob}
structure ScP(G:Glob)(s:Hs.Sut)(l:List Ac)(pick:Int)(M:TP)(K:Nat)(b:BS)(D:List Ac):Prop where
 sp:Hs.SuP s
 p0:0<=pick
 l66:l.length<=66
 dv:DV M (.pp 5 1 0 0) (.ptr (eBu s b))
 dn:M[K]?=some (.row (rAc D))
 c15:zv tP G 15 [.pub (.agg (Hs.eSut s)),.pub (.sl (l.map eAc))] [] (.ret (.tpl [.pp 5 1 0 0,.psl K D.length,.pub (.v (.bool true))]) M)
 bi:BI s b
 ik:SI s b
 ru:RunI s pick b D
 fo:∀a∈D,foB a=true
 d66:D.length<=66
theorem Fv(s:Hs.Sut)(l:List Ac)(pick:Int):∃(M:TP)(K:Nat)(b:BS)(D:List Ac),(Hs.smB s=true/\Hs.suB s=true/\brB l=true/\0<=pick)->ScP G s l pick M K b D:=by
 by_cases h:Hs.smB s=true/\Hs.suB s=true/\brB l=true/\0<=pick
 ·obtain⟨hsm,hsu,hb,hp⟩:=h;have hS:=Hs.suP hsu;obtain⟨hfo,hl⟩:=fF hb;obtain⟨M,ix,K,hbu,hrow,hdo,hq⟩:=eE (G:=G) hsm hS hb;have hdl:=v7 s (b0 s s.days.toNat) l l.length;have h0:RunI s pick (b0 s s.days.toNat) []:=⟨rfl,rfl,fun a ha=>by cases ha⟩;exact⟨M,K,_,_,fun _=>⟨hS,hp,hl,by rw[←hrow];exact hbu.dv,hdo,hq,aM hS (uc hsm hS) l l.length,SI.run hS U0 hfo _ (zLl _),NY hS (uc hsm hS) U0 hp h0 hfo _ (zLl _),tA hfo _ (zLl _),oM⟩⟩
 ·exact⟨[],0,b0 s 0,[],fun h2=>absurd h2 h⟩
theorem V1{a:Ac}(hf:foB a=true):2<=a.n.length/\(a.w=6->a.n.length=3)/\(a.w=5->3<=a.n.length/\a.n.length<=7):=by
 obtain⟨hw,_,hn⟩:=vm hf;obtain⟨w,n,c⟩:=a;simp only at hw hn⊢;have hw2:w=1∨w=2∨w=3∨w=4∨w=5∨w=6:=oM;rcases hw2 with rfl|rfl|rfl|rfl|rfl|rfl<;>simp[nmN]at hn<;>omega
theorem G9{c:Int}{k:Nat}:c/2^k/2=c/2^(k+1):=by
 rw[Int.ediv_ediv_of_nonneg (Int.pow_nonneg oM),Int.pow_succ]
variable{l:List Int}
theorem gd{i:Nat}(h:i<l.length):l.getD i 0=l[i]:=by simp[h]
theorem UA{fr:Nat->EV}{mem:TP}{o:Oper}{x:Operand}(ho:o.op=.slice 24 x (some (.const (.int .i64 2))) none none)(hx:evO fr x=.pub (eI l))(hl:2<=l.length):OpY tP G fr mem o (.pub (eI (l.drop 2))):=by
 match l,hl with
 |x0::x1::l,_=>exact fG ho hx
theorem q34(x:Int):ACall tP G 34 [ei x] (.v (.bool (Hs.inB x (-100000000) 100000000))):=by
 refine aC func34 ?_;refine Z8 ?_;refine yc (Hs.f119 _ _ _) ?_;refine Z4 ?_;exact aR
theorem q35(c:Int)(k:Nat)(hc:0<=c/\c<=1000)(hk:k<=10):ACall tP G 35 [ei c,ei (k:Int)] (.v (.bool (yj c k))):=by
 refine aC func35 ?_;refine Z12 ?_;refine zD (ι:={i:Nat//i<=k}) (fun i=>⟨Tryz.f35.ntmps,frL [(0,I (c/2^i.1)),(1,I (k:Int)),(5,I (i.1:Int))],[]⟩) (fun i=>k-i.1) (⟨0,oM⟩) ?_ ?_
 ·exact zd _ ⟨(zLz I sI),Y,Y,trivial⟩ (Y)
 ·rintro⟨i,hi⟩;dsimp only;have hj:0<=c/2^i/\c/2^i<=1000:=⟨Int.ediv_nonneg hc.1 (Int.pow_nonneg oM),Int.le_trans (Int.ediv_le_self _ hc.1) hc.2⟩;refine Z8 ?_;refine nC ?_ ?_<;>intro h0
  ·skip;have hlt:i<k:=by simp at h0;omega
   refine Z6 ?_;refine zb (dH Y Y Y ⟨hj.1,oM,oM⟩) (Z9 ?_);exact⟨⟨i+1,oM⟩,by dsimp only;omega,zd _ ⟨(zLz I G9),Y,Y,trivial⟩ (Y)⟩
  ·skip;have hge:i=k:=by simp at h0;omega
   refine Z8 ?_;refine zb (fW Y Y Y ⟨hj.1,oM⟩) (Z5 ?_);exact⟨.inr Y,AVle.of (by rw[hge];rfl)⟩
end Bu
end Go.Av
end
