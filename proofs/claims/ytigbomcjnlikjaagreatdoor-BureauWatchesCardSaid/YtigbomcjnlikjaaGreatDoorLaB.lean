/- BureauWatches. -/
import Derived.Test.YtigbomcjnlikjaaGreatDoorLaA
set_option linter.unusedVariables false
set_option linter.unusedSimpArgs false
set_option maxRecDepth 100000
set_option maxHeartbeats 9000000
section
namespace Go.Av
namespace Bu
open Go.Proofs Tryz
variable{G:Glob}
theorem uH:zS tP 29 false 1=true:=nR
def wC(s:Hs.Sut)(e:EV):TE:=[I s.w.n,e,.pub (.sl (s.w.lnks.map Hs.eLnk)),.pub (.sl (s.w.prts.map Hs.ePrt)),I s.w.fall,I s.w.win,I s.w.hold,I s.w.dawn,I s.w.dusk]
abbrev mW(s:Hs.Sut)(M:TP)(rs:List Hs.Rep):TP:=M++[.row [wC s (.psl (M.length+1) rs.length)],.row (Hs.rRep rs)]
variable{M:TP}{v x y:PO}{s:Hs.Sut}{k:Nat}{b:BS}{D:List Ac}
theorem OW:(M++[x]).set M.length y=M++[y]:=sI
theorem JR:(M++[x]++[y])[(M++[x]).length]?=some y:=sI
theorem at0:(M++[x,y])[M.length]?=some x:=sI
theorem at1:(M++[x,y])[M.length+1]?=some y:=sI
theorem st01{z:PO}:((M++[x,y]).set (M.length+1) z).set M.length v=M++[v,z]:=by
 rw[List.set_append_right _ _ oM,Nat.add_sub_cancel_left,List.set_append_right _ _ oM,Nat.sub_self];rfl
theorem zbO:(M++[x]++[y]).set M.length v=M++[v,y]:=sI
theorem zbg{n:Nat}{rows:List (TE)}(hk:k=M.length+1)(hn:n=s.w.reps.length)(hr:rows=Hs.rRep s.w.reps)(hv:v=.row [wC s (.psl k n)]):(M++[x]++[PO.row rows]).set M.length v=mW s M s.w.reps:=by
 subst hk;subst hn;subst hr;subst hv;exact zbO
theorem Nw{rs:List Hs.Rep}:DV (mW s M rs) (.mix (wC s (.psl (M.length+1) rs.length))) (.agg (Hs.eWt (wR s rs))):=
 .mix (.cons .r (.cons (HC (l:=rs) at1) (.cons .r (.cons .r (.cons .r (.cons .r (.cons .r (.cons .r (.cons .r .nil)))))))))
theorem c26{a:Ac}(hf:foB a=true)(h4:a.w=4):ACall tP G 26 [eI a.n] (.agg (Hs.eRep (ra a.n))):=by
 obtain⟨hw,_,hn⟩:=vm hf;obtain⟨w,n,c⟩:=a;simp only at h4 hn;subst h4
 match n,hn with
 |[x0,x1,x2,x3,x4,x5,x6],_=>exact f42 x0 x1 x2 x3 x4 x5 x6
theorem c28(w:Hs.Wt):ACall tP G 28 [.agg (Hs.eWt w)] (.tup [ei (seA w),ei (seZ w),ei (seE w)]):=Hs.f63 w
theorem c30(w:Hs.Wt)(i t:Int):ACall tP G 30 [.agg (Hs.eWt w),ei i,ei t] (.tup [ei (upW w i t),ei (upE w i t)]):=Hs.f66 w i t
structure WaP(G:Glob)(s:Hs.Sut)(l:List Ac)(r:Hs.Rep)(M:TP)(K:Nat)(b:BS)(D:List Ac)(M2:TP):Prop where
 sp:Hs.SuP s
 l66:l.length<=66
 dv:DV M (.pp 5 1 0 0) (.ptr (eBu s b))
 dn:M[K]?=some (.row (rAc D))
 c15:zv tP G 15 [.pub (.agg (Hs.eSut s)),.pub (.sl (l.map eAc))] [] (.ret (.tpl [.pp 5 1 0 0,.psl K D.length,.pub (.v (.bool true))]) M)
 br:b.reps=s.w.reps++jL D
 ow:Hs.okWtB (wR s b.reps)=true
 fo:∀a∈D,foB a=true
 d66:D.length<=66
 r12:b.reps.length<=12
 dv2:DV M2 (.pp 5 1 0 0) (.ptr (eBu s (wW s b r)))
 c31:zv tP G 31 [.pp 5 1 0 0,.pub (.agg (Hs.eRep r))] (mW s M b.reps) (.ret (I (ee s b r)) M2)
theorem G1(s:Hs.Sut)(l:List Ac)(r:Hs.Rep):∃(M:TP)(K:Nat)(b:BS)(D:List Ac)(M2:TP),(Hs.smB s=true/\Hs.suB s=true/\brB l=true)->WaP G s l r M K b D M2:=by
 by_cases h:Hs.smB s=true/\Hs.suB s=true/\brB l=true
 ·obtain⟨hsm,hsu,hb⟩:=h;have hS:=Hs.suP hsu;obtain⟨hfo,hl⟩:=fF hb;obtain⟨M,ix,K,hbu,hrow,hdo,hq⟩:=eE (G:=G) hsm hS hb;obtain⟨h1,h2⟩:=sx (s:=s) (b:=b0 s s.days.toNat) hfo (by exact hS.w) l.length (zLl _);obtain⟨ix2,M2,g1,g2,g3⟩:=cf (G:=G) (hbu.app (xs:=[.row [wC s (.psl (M.length+1) (yg s (b0 s s.days.toNat) l l.length).reps.length)],.row (Hs.rRep (yg s (b0 s s.days.toNat) l l.length).reps)])) r;have hdl:=v7 s (b0 s s.days.toNat) l l.length;have hd2:=g1.dv;rw[g2.row,hrow]at hd2;rw[hrow]at g3;exact⟨M,K,_,_,M2,fun _=>⟨hS,hl,by rw[←hrow];exact hbu.dv,hdo,hq,h1,h2,tA hfo _ (zLl _),oM,(aM hS (uc hsm hS) l l.length).r12,hd2,g3⟩⟩
 ·exact⟨[],0,b0 s 0,[],[],fun h2=>absurd h2 h⟩
theorem zak(h:b.reps=s.w.reps++jL D)(h12:b.reps.length<=12)(k:Nat):(s.w.reps++jL (D.take k)).length<=12:=by
 have h1:(jL (D.take k)).length<=(jL D).length:=by
  unfold jL;simp only[zL8];exact(List.Sublist.filter _ (List.take_sublist k D)).length_le
 rw[h]at h12;simp only[List.length_append]at h12⊢;omega
theorem Gp(h:k<D.length)(h4:D[k].w=4):s.w.reps++jL (D.take k)++[ra D[k].n]=s.w.reps++jL (D.take (k+1)):=by
 rw[zLt h,gb,zLc h4,List.append_assoc]
theorem JK(h:k<D.length)(h4:¬D[k].w=4):s.w.reps++jL (D.take k)=s.w.reps++jL (D.take (k+1)):=by
 rw[zLt h,gb,zLy h4,List.append_nil]
theorem Qi{n:Nat}(h:k<D.length)(h4:D[k].w=4)(hn:n=(s.w.reps++jL (D.take k)).length+1):((mW s M (s.w.reps++jL (D.take k))).set (M.length+1) (.row (Hs.rRep (s.w.reps++jL (D.take k))++[(Hs.eRep (ra D[k].n)).map .pub]))).set M.length (.row [wC s (.psl (M.length+1) n)])=mW s M (s.w.reps++jL (D.take (k+1))):=by
 rw[st01,hn];unfold mW;rw[←Gp h h4];simp[Hs.rRep,Nat.add_assoc]
theorem SG(h:k<D.length)(h4:¬D[k].w=4):mW s M (s.w.reps++jL (D.take k))=mW s M (s.w.reps++jL (D.take (k+1))):=by rw[JK h h4]
theorem zbl:mW s M s.w.reps=mW s M (s.w.reps++jL (D.take 0)):=by simp[jL]
theorem Qw(hk:k=D.length)(h:b.reps=s.w.reps++jL D):mW s M (s.w.reps++jL (D.take k))=mW s M b.reps:=by rw[hk,List.take_length,h]
theorem QK{l:List Hs.Rep}:((l.map Hs.eRep).map (·.map .pub))=Hs.rRep l:=by simp[Hs.rRep]
theorem OS{r:Hs.Rep}(hw:Hs.okWtB (wR s b.reps)=true)(he:ee s b r=0):((seE (wB s (wW s b r))!=0&&seE (wB s (wW s b r))!=5)||(seE (wB s b)==0&&((seE (wB s (wW s b r))!=0||decide (seA (wB s (wW s b r))>seA (wB s b)))||(decide (seZ (wB s b)≥0)&&(decide (seZ (wB s (wW s b r))<0)||decide (seZ (wB s (wW s b r))>seZ (wB s b)))))))=false:=by
 have h1:=EW (s:=s) (b:=b) (r:=r) hw;have e:(wW s b r).reps=b.reps++[r]:=by unfold wW;rw[zLc he];rfl
 rw[e]at h1;have h2:=FI hw h1;unfold wB;rw[e];obtain⟨h3,h4⟩:=h2;generalize seE (wR s (b.reps++[r]))=i at*;generalize seE (wR s b.reps)=e at*;generalize seA (wR s (b.reps++[r]))=k at*;generalize seA (wR s b.reps)=m at*;generalize seZ (wR s (b.reps++[r]))=l at*;generalize seZ (wR s b.reps)=n at*
 by_cases he0:e=0
 ·obtain⟨rfl,h5,h6⟩:=h4 he0
  by_cases hn:0<=n
  ·have:=h6 hn;simp[he0,hn];omega
  ·simp[he0,hn];omega
 ·rcases h3 with rfl|rfl<;>simp[he0]
theorem f5(h14:ACall tP G 14 [] (.v (.bool true)))(s:Hs.Sut)(l:List Ac)(port mt:Int)(more:Hs.Rep):ACall tP G 5 [.agg (Hs.eSut s),.sl (l.map eAc),ei port,ei mt,.agg (Hs.eRep more)] (.v (.bool true)):=by
 obtain⟨M,K,b5,D5,M2,hp⟩:=G1 (G:=G) s l more;refine aC func5 ?_;refine Z10 ?_;refine zb (qk Y Y EP bL) ?_;refine yc (f17 s) ?_;refine Z2 ?_;refine zh Y (fun hg=>qk Y Y EP bL) ?_;refine zh Y (fun hg=>zi (av:=[_]) Y ⟨((by first|exact Y|exact(zLc hg))),trivial⟩ (Hs.f7 s (by simpa using hg))) ?_;refine zh Y (fun hg=>q0 Y ((zLc hg))) (zb (ju Y Y Y Y) ?_);refine Z2 ?_;refine zh Y (fun hg=>zi (av:=[_]) Y ⟨((by first|exact Y|exact(zLc hg))),trivial⟩ (f19 l)) ?_;refine zh Y (fun hg=>q0 Y ((zLc hg))) (zb (ju Y Y Y Y) ?_);refine Z2 ?_;refine nC ?_ ?_<;>intro h0
 ·skip;refine Z2 ?_;refine yc h14 ?_;refine Z5 ?_;exact aR
 ·skip;refine zt (zd (mem':=[]) [(1,.pub (.sl (l.map eAc))),(2,I port),(3,I mt),(5,.pub (.ptr (Hs.eSut s))),(9,.pub (.ptr (Hs.eRep more)))] ?_ ?_) ?_
  ·exact rL
  ·exact Y
  have h0s:Hs.smB s=true/\Hs.suB s=true/\brB l=true:=by
   simp at h0;exact⟨h0.1.1,h0.1.2,h0.2⟩
  have hf:=hp h0s;have hl66:=hf.l66;have hd66:=hf.d66;have hr12:=hf.r12;have hw12:s.w.reps.length<=12:=by have:=hf.r12;rw[hf.br]at this;simp at this;omega
  have hmw:(s.w.reps.map Hs.eRep).length=s.w.reps.length:=sI;refine Z4 ?_;refine zb (qk Y Y EP bL) (Z ?_);refine mc hf.c15 ?_;refine Z16 ?_;refine nC ?_ ?_<;>intro h1
  ·skip;exfalso;simp at h1
  ·skip;refine Z4 ?_;refine zb (zf Y Y vG) (zb (qk Y Y IU bL) (zm Y (zE Y Y UP Y Y) ?_));refine zm Y (zp Y Y Y at_end Y Y (zF Y) IU rF bL) (Z3 ?_);refine zt (zd (mem':=M++[.row [wC s (.pub (.sl (s.w.reps.map Hs.eRep)))]]) [(2,I port),(3,I mt),(5,.pub (.ptr (Hs.eSut s))),(9,.pub (.ptr (Hs.eRep more))),(11,.pp 5 1 0 0),(12,.psl K D5.length),(14,.pp M.length 1 0 0)] ?_ ?_) ?_
   ·exact rL
   ·exact OW
   refine Z ?_;refine zb (zf Y Y vG) (zb (zf Y Y kD) (zb (zl Y Y Y uH) ?_));refine zm Y (jF Y Y Y Y Y Qv (eB (Hs.mp_len fun _=>rfl)) (by simp;omega) (by unfold maxLen;simp;omega)) ?_;refine zb (ze Y Y (ql at_end) Y kD) ?_;refine zm Y (zp Y Y Y (ql at_end) Y Y (jW Y JR Y) uH rF bL) (Z4 ?_);refine zt (zd (mem':=mW s M s.w.reps) [(2,I port),(3,I mt),(9,.pub (.ptr (Hs.eRep more))),(11,.pp 5 1 0 0),(12,.psl K D5.length),(14,.pp M.length 1 0 0)] ?_ ?_) ?_
   ·exact rL
   ·exact zbg sI sI QK Y
   refine Z5 ?_;refine zD (ι:={k:Nat//k<=D5.length}) (fun k=>⟨Tryz.f5.ntmps,frL [(2,I port),(3,I mt),(9,.pub (.ptr (Hs.eRep more))),(11,.pp 5 1 0 0),(12,.psl K D5.length),(14,.pp M.length 1 0 0),(15,I (k.1:Int))],mW s M (s.w.reps++jL (D5.take k.1))⟩) (fun k=>D5.length-k.1) (⟨0,oM⟩) ?_ ?_
   ·exact zd _ rL (zbl)
   ·rintro⟨k,hk⟩;dsimp only;refine Z5 ?_;refine zb (jJ Y Y (ql hf.dn) jm underlying38) (Z3 ?_);refine nC ?_ ?_<;>intro h2
    ·skip;have hlt:k<D5.length:=by simpa using h2
     have hrk:=zak hf.br hf.r12 k;refine Z8 ?_;refine zb (qh Y Y Y (ql hf.dn) jm sA oM oM lW) (zb (ze Y Y (ql hf.dn) jm rh) (zb (zg Y Y (ql hf.dn) jm (mL hlt) Y ki) ?_));refine Z3 ?_;refine nC ?_ ?_<;>intro h3
     ·skip;have hw4:D5[k].w=4:=by simpa using h3
      refine bS (fun m=>∃r,m[M.length]?=some (PO.row [r])) (fun k=>match k with|9=>.writes|10=>.stable|11=>.writes|_=>.here) mixed nR rfl nR ⟨_,at0⟩ ?_;refine zK Y Y (ze Y Y at0 Y kD) (zK Y Y (zg Y Y at0 Y Y Y uH) ?_);refine Z2 ?_;refine zK Y Y (qh Y Y Y (ql hf.dn) jm sA oM oM lW) (zK Y Y (ze Y Y (ql hf.dn) jm pS) (zK Y Y (zg Y Y (ql hf.dn) jm (mL hlt) Y hU) (zK Y Y (zi (av:=[_]) Y rL (c26 (hf.fo _ (zLm hlt)) hw4)) ?_)));refine zK Y Y (zw (size:=7) (rows:=[Hs.eRep (ra D5[k].n)]) Y underlying29 NI Y dE Y dE ⟨_,_,Y,zF Y,Y⟩ rF (by simp[ofV,Hs.eRep]) Y (by simp[Hs.eRep])) ?_;refine qw Y Y (qz Y Y at1 Hs.rRep_len Y Qv Hs.rRep_7 (by intro r hr;simp at hr;subst hr;rfl) (by simp only[zL8,List.length_singleton];omega) (by simp only[zL8,List.length_singleton];unfold maxLen;omega)) (⟨_,zT oM at0⟩) ?_;refine zC Y Y (fun m hm=>ze (rows:=[hm.choose]) Y Y hm.choose_spec Y kD) ?_;refine qw Y Y (zz Y Y Y (zT oM at0) Y Y (jW Y (zj at1) (by simp[Hs.rRep,Nat.add_assoc])) uH rF rF) (⟨_,zj (zT oM at0)⟩) ?_
      refine Z8 ?_;exact⟨⟨k+1,oM⟩,by dsimp only;omega,zd _ rL ((Qi hlt hw4 Y))⟩
     ·skip;have hw4:¬D5[k].w=4:=by simpa using h3
      refine Z8 ?_;exact⟨⟨k+1,oM⟩,by dsimp only;omega,zd _ rL ((SG hlt hw4))⟩
    ·skip;have hge:k=D5.length:=by simp at h2;omega
     refine zt (zd (mem':=mW s M b5.reps) [(2,I port),(3,I mt),(9,.pub (.ptr (Hs.eRep more))),(11,.pp 5 1 0 0),(12,.psl K D5.length),(14,.pp M.length 1 0 0)] ?_ ?_) ?_
     ·exact rL
     ·exact(Qw hge hf.br)
     refine Z8 ?_;refine zb (jc (av:=[.ptr (eBu s b5)]) Y ⟨hf.dv.app,trivial⟩ Y (q27 s b5)) (Z11 ?_);refine zb (j7 Y Y at0 Y Y bL Y IU) (zb (jc (av:=[.agg (Hs.eWt (wR s b5.reps))]) Y ⟨Nw,trivial⟩ Y (c28 _)) ?_);refine Z14 ?_;refine zb (jc (av:=[.ptr (eBu s b5),_,_]) Y ⟨hf.dv.app,.r,.r,trivial⟩ Y (q29 s b5 port mt)) ?_;refine Z9 ?_;refine zb (j7 Y Y at0 Y Y bL Y IU) (Z2 ?_);refine zb (jc (av:=[.agg (Hs.eWt (wR s b5.reps)),_,_]) Y ⟨Nw,.r,.r,trivial⟩ Y (c30 _ port mt)) ?_;refine Z35 ?_;refine nC ?_ ?_<;>intro h4
     ·skip;exfalso;simp[wB]at h4
     ·skip;refine Z6 ?_;refine zb (qk Y Y si bL) ?_;refine mc hf.c31 ?_;refine Z3 ?_;refine nC ?_ ?_<;>intro h5
      ·skip;refine Z2 ?_;refine yc h14 ?_;refine Z5 ?_;exact aR
      ·skip;have he0:ee s b5 more=0:=by simpa using h5
       refine Z5 ?_;refine zb (jc (av:=[.ptr (eBu s (wW s b5 more))]) Y ⟨hf.dv2,trivial⟩ Y (q27 s (wW s b5 more))) (Z21 ?_);refine zh Y (fun hg=>zX Y (zLc hg)) (zh (zx Y Y Y) (fun hg=>zX Y Y) (zh (zx Y Y Y) (fun hg=>fM Y (zLc hg) Y) (zh (zx Y Y Y) (fun hg=>zX Y (zLc hg)) (zh (zx Y Y Y) (fun hg=>zX Y Y) (zh (zx Y Y Y) (fun hg=>zX Y Y) (zh (zx Y Y Y) (fun hg=>yq Y (zLc hg) (zLc hg)) (zh (zx Y Y Y) (fun hg=>ju Y (zLc hg) Y (jY hg)) (zh (zx Y Y Y) (fun hg=>zX Y (zLc hg)) (zh (zx Y Y Y) (fun hg=>zX Y Y) (zh (zx Y Y Y) (fun hg=>g9 Y (zLc hg) Y) (zh (zx Y Y Y) (fun hg=>zX Y (zLc hg)) ?_)))))))))));refine zh (zx Y Y Y) (fun hg=>zX Y Y) (zh (zx Y Y Y) (fun hg=>y6 Y (zLc hg) Y) (zh (zx Y Y Y) (fun hg=>zX Y (zLc hg)) (zh (zx Y Y Y) (fun hg=>zX Y Y) (zh (zx Y Y Y) (fun hg=>zX Y Y) (zh (zx Y Y Y) (fun hg=>yq Y (zLc hg) (zLc hg)) (zh (zx Y Y Y) (fun hg=>ju Y (zLc hg) Y (jY hg)) (zh (zx Y Y Y) (fun hg=>vB Y (zLc hg) (jY hg) Y) (zh (zx Y Y Y) (fun hg=>ju Y (zLc hg) Y (jY hg)) (zh Y (fun hg=>vB Y (zLc hg) (jY hg) Y) ?_)))))))))
       refine Z3 ?_;refine nC ?_ ?_<;>intro h6
       ·skip;exfalso;have hno:=OS hf.ow he0;simp at h6 hno;omega
       ·skip;refine Z4 ?_;refine yc h14 ?_;refine Z4 ?_;exact aR
end Bu
end Go.Av
end
