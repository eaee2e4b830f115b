import Derived.Test.YtigbomcjnlikjaaGreatDoorBuC
set_option linter.unusedVariables false
set_option linter.unusedSimpArgs false
set_option maxRecDepth 100000
set_option maxHeartbeats 9000000
section
namespace Go.Av
namespace Bu
open Go.Proofs Tryz
variable{G:Glob}
theorem I6{g:Hs.Gls}(h:Hs.stGB g=true):g.ck.length<=12:=(Hs.gls_ok h).2
variable{gl:Hs.Gls}{s:Hs.Sut}{b:BS}{ix:Ix}{M:TP}{q:Nat}{x y:PO}
theorem Vg(hs:Hs.stGB gl=true):ACall tP G 76 [.agg (Hs.eGls gl),.v (.bool false)] (.tup [.agg [ei 0,ei 0,ei 0,ei 0,ei 0,ei 0,ei 0,ei 0,.v (.slice none 0 0),.v (.map none)],ei 2]):=by
 refine aC func76 ?_;refine Z3 ?_;refine zm Y (zE Y Y uD Y Y) (Z7 ?_);refine yc (hs▸Hs.f267 gl (by have:=(I6 hs);omega)) ?_;refine Z2 ?_;refine qT (fun _ h=>by cases h) rfl (rfl) (OpY.toM (by exact zX rfl rfl) (zo rfl)) ?_;refine qT (fun _ h=>by cases h) rfl (rfl) (OpY.toM (by exact q0 rfl rfl) (zo rfl)) ?_;refine Z3 ?_;refine nC ?_ ?_<;>intro h0
 ·skip;refine Z2 ?_;refine zb (zu (cs:=[_,_,_,_,_,_,_,_,_,_]) Y Xp Y Y rF (by simp[ofV])) ?_;refine zm Y (zp Y Y Y Y Y Y cEx dY rF bL) (Z5 ?_);exact⟨.inr Y,⟨_,Y,⟨_,_,Y,(zQ Y Y Y Y dY Y (vwR (vwR (vwR (vwR (vwR (vwR (vwR (vwR (vwR (vwR Y))))))))))),⟨_,_,Y,AVle.refl _,Y⟩⟩⟩⟩
 ·skip;exfalso;simp at h0
theorem zbj(hs:Hs.stGB gl=true)(r:Rdg)(hr:rdB r=false):ACall tP G 23 [.agg (Hs.eGls gl),.agg (qF r)] (.tup [.agg [ei 0,ei 0,ei 0,ei 0,ei 0,ei 0],ei 2]):=by
 refine aC func23 ?_;refine Z4 ?_;refine zm Y (zE Y Y Pz Y Y) (Z4 ?_);refine zt qE ?_;refine qd (fun _=>True) (fun k=>match k with|0=>.stable|1=>.stable|2=>.stable|3=>.stable|4=>.stable|5=>.stable|6=>.stable|7=>.own 1|8=>.writes|9=>.stable|_=>.here) mixed nR rfl nR trivial ?_;refine Z2 ?_;refine zC Y Y (fun m hm=>zi (av:=[_]) Y rL (hr▸f111 r)) (zC Y Y (fun m hm=>zi (av:=[_,_]) Y rL (Vg hs)) ?_);refine Z3 ?_;refine ku Y Y (qX Y uD Y Y Y) ?_;refine qw Y Y (zz Y Y Y Y Y Y cEx dY rF rF) trivial (Z10 ?_);refine nC ?_ ?_<;>intro h0
 ·skip;refine Z2 ?_;refine zb (zu (cs:=[_,_,_,_,_,_]) Y RJ Y Y rF (by simp[ofV])) ?_;refine Z ?_;refine zm Y (zp Y Y Y Y Y Y cEx FR rF bL) (Z5 ?_);exact⟨.inr Y,⟨_,Y,⟨_,_,Y,(zQ Y Y Y Y FR Y (vwR (vwR (vwR (vwR (vwR (vwR Y))))))),⟨_,_,Y,AVle.refl _,Y⟩⟩⟩⟩
 ·skip;exfalso;simp at h0
theorem J9(h:BuM s b ix M)(hS:Hs.SuP s){k0:Nat}(hk0:M[k0]?=some (.row [[.pp ix.row 1 0 0]]))(i:Int)(r:Rdg)(hst:Hs.inB i 0 ((s.st.length:Int)-1)=false):zv tP G 146 [.pp k0 1 0 0,.pub (.ptr [ei i]),.pub (.ptr (qF r)),.pp q 1 0 0] M (.ret (.pub (.v (.bool false))) M):=by
 refine mW func146 (fun gh hold hmk=>?_);refine Z8 ?_;refine zb (zg Y Y hk0 Y Y Y jG) (Z ?_);refine zb (jc (av:=[.ptr (eBu s b),ei i]) Y ⟨h.dv,.r,trivial⟩ Y (hst▸f212 s hS b i)) ?_;refine Z2 ?_;refine yC Y Y (zo Y) ?_;refine yC Y Y (zo Y) ?_;refine yC Y Y (zo Y) ?_;refine yC Y Y (zo Y) ?_;refine yC Y Y (zo Y) ?_;refine zb (wm Y Y (fun _=>rfl) (fun h=>absurd h dE)) ?_;refine Z2 ?_;refine nC ?_ ?_<;>intro h0
 ·skip;refine Z7 ?_
  exact fun hz=>zR [] sI hmk (zLl _) (.inr Y) (by simp[EV.lt]) Y
 ·skip;exfalso;simp at h0
theorem KI(h:BuM s b ix M)(hS:Hs.SuP s){k0:Nat}(hk0:M[k0]?=some (.row [[.pp ix.row 1 0 0]]))(i:Int)(r:Rdg)(hst:Hs.inB i 0 ((s.st.length:Int)-1)=true)(hdy:Hs.inB r.day 0 (s.days-1)=false):zv tP G 146 [.pp k0 1 0 0,.pub (.ptr [ei i]),.pub (.ptr (qF r)),.pp q 1 0 0] M (.ret (.pub (.v (.bool false))) M):=by
 refine mW func146 (fun gh hold hmk=>?_);refine Z8 ?_;refine zb (zg Y Y hk0 Y Y Y jG) (Z ?_);refine zb (jc (av:=[.ptr (eBu s b),ei i]) Y ⟨h.dv,.r,trivial⟩ Y (hst▸f212 s hS b i)) ?_;refine Z2 ?_;refine qT (fun _ h=>by cases h) rfl (rfl) (OpY.toM (by exact zg rfl rfl hk0 rfl rfl rfl jG) (zo rfl)) ?_;refine qT (fun _ h=>by cases h) rfl (rfl) (OpY.toM (by exact zf rfl rfl nL) (zo rfl)) ?_;refine qT (fun _ h=>by cases h) rfl (rfl) (OpY.toM (by exact zl rfl rfl rfl ki) (zo rfl)) ?_;refine qT (fun _ h=>by cases h) rfl (rfl) (OpY.toM (by exact jc (av:=[.ptr (eBu s b),ei r.day]) rfl ⟨h.dv,.r,trivial⟩ rfl (hdy▸f190 s hS b r.day)) (zo rfl)) ?_;refine qT (fun _ h=>by cases h) rfl (rfl) (OpY.toM (by exact q0 rfl rfl) (zo rfl)) ?_;refine Z3 ?_;refine nC ?_ ?_<;>intro h0
 ·skip;refine Z7 ?_
  exact fun hz=>zR [] sI hmk (zLl _) (.inr Y) (by simp[EV.lt]) Y
 ·skip;exfalso;simp at h0
theorem EU{z:PO}:((M++[x]).set M.length y).set M.length z=M++[z]:=sI
theorem rU(h:BuM s b ix M):M.length∉ix.all:=fun hk=>absurd (h.lt _ hk) (Nat.lt_irrefl _)
theorem nB{k:Nat}{a c:Int}:PO.okL k (.row [[I a,I c]]):=fun r hr x hx=>by
 rw[zLh]at hr;subst hr;simp only[List.mem_cons,List.not_mem_nil,or_false]at hx;rcases hx with rfl|rfl<;>simp[EV.lt,I]
theorem S4(h:BuM s b ix M)(hS:Hs.SuP s){k0:Nat}(hk0:M[k0]?=some (.row [[.pp ix.row 1 0 0]])){x y:EV}(hq:M[q]?=some (.row [[x,y]]))(hqn:q∉ix.all)(hqk:q≠k0)(i:Nat)(hi:i<s.st.length)(r:Rdg)(hdy:Hs.inB r.day 0 (s.days-1)=true){a1 a2 a3 a4 a5 a6 e:Int}(hK:ACall tP G 23 [.agg (Hs.eGls (s.st[i]).g),.agg (qF r)] (.tup [.agg [ei a1,ei a2,ei a3,ei a4,ei a5,ei a6],ei e])):zv tP G 146 [.pp k0 1 0 0,.pub (.ptr [ei (i:Int)]),.pub (.ptr (qF r)),.pp q 1 0 0] M (.ret (.pub (.v (.bool (decide (e=0))))) (M.set q (.row [[I a3,I (min a4 99999)]]))):=by
 have hst:Hs.inB (i:Int) 0 ((s.st.length:Int)-1)=true:=by rw[Hs.inB_iff];omega
 have hnp:=rU h;have hkl:k0<M.length:=(zLg hk0).1;have hql:q<M.length:=(zLg hq).1;have hstl:(s.st.map Hs.eBSt).length=s.st.length:=sI;refine mW func146 (fun gh hold hmk=>?_);refine Z8 ?_;refine zb (zg Y Y hk0 Y Y Y jG) (Z ?_);refine zb (jc (av:=[.ptr (eBu s b),ei (i:Int)]) Y ⟨h.dv,.r,trivial⟩ Y (hst▸f212 s hS b (i:Int))) ?_;refine Z2 ?_;refine qT (fun _ h=>by cases h) rfl (rfl) (OpY.toM (by exact zg rfl rfl hk0 rfl rfl rfl jG) (zo rfl)) ?_;refine qT (fun _ h=>by cases h) rfl (rfl) (OpY.toM (by exact zf rfl rfl nL) (zo rfl)) ?_;refine qT (fun _ h=>by cases h) rfl (rfl) (OpY.toM (by exact zl rfl rfl rfl ki) (zo rfl)) ?_;refine qT (fun _ h=>by cases h) rfl (rfl) (OpY.toM (by exact jc (av:=[.ptr (eBu s b),ei r.day]) rfl ⟨h.dv,.r,trivial⟩ rfl (hdy▸f190 s hS b r.day)) (zo rfl)) ?_;refine qT (fun _ h=>by cases h) rfl (rfl) (OpY.toM (by exact q0 rfl rfl) (zo rfl)) ?_;refine Z3 ?_;refine nC ?_ ?_<;>intro h0
 ·skip;exfalso;simp at h0
 ·skip;refine Z3 ?_;refine zt qE ?_;refine qd (fun mm=>BuM s b ix mm/\mm[k0]?=some (PO.row [[.pp ix.row 1 0 0]])) (fun k=>match k with|0=>.stable|1=>.stable|2=>.stable|3=>.stable|4=>.stable|5=>.stable|6=>.stable|7=>.stable|8=>.stable|9=>.stable|10=>.stable|11=>.stable|12=>.stable|13=>.stable|14=>.own (M.length+0)|15=>.writes|16=>.stable|_=>.here) mixed nR rfl nR ⟨h.app,ql hk0⟩ ?_;refine zC Y Y (fun m hm=>zg Y Y hm.2 Y Y Y jG) (zC Y Y (fun m hm=>zr Y Y hm.1.row Y) (zC Y Y (fun m hm=>ze Y Y hm.1.row Y j8) (zC Y Y (fun m hm=>ze Y Y hm.1.row Y oG) (zC Y Y (fun m hm=>zg Y Y hm.1.row Y Y Y sV) ?_))));refine Z ?_;refine zC Y Y (fun m hm=>zc Y Y Y wu oM (by exact Hs.mp_at (e:=Hs.eBSt) hi) (Hs.mp_len fun _=>rfl)) ?_;refine zC Y Y (fun m hm=>zf Y Y IP) (Z2 ?_);refine zC Y Y (fun m hm=>zi (av:=[_,_]) Y rL hK) (Z3 ?_);refine ku Y Y ((fun m hml hC=>⟨(qX Y Pz Y Y at_end m hml trivial).1,⟨hC.1.set hnp,zT oM hC.2⟩⟩)) ?_
  refine qw Y Y (zz Y Y Y (zj at_end) Y Y (zF Y) FR rF rF) ⟨(h.app.set hnp).set hnp,zT oM (zT oM (ql hk0))⟩ (Z4 ?_);refine zt (zd (mem':=M++[.row [[I a1,I a2,I a3,I a4,I a5,I a6]]]) [(3,.pp q 1 0 0),(5,.pp M.length 1 0 0),(6,I e)] ?_ ?_) ?_
  ·exact rL
  ·exact EU
  refine Z ?_;refine zb (ze Y Y at_end Y AO) (zb (ze Y Y at_end Y ag) (zb (zg Y Y at_end Y Y Y ki) (zb (ze Y Y at_end Y AO) (zb (ze Y Y at_end Y xE) (zb (zg Y Y at_end Y Y Y ki) ?_)))));refine Z ?_;refine zb (zu (cs:=[_,_]) Y iV Y (zk (zk Y)) rF (by simp[ofV])) ?_;refine zm Y (zp Y Y Y (ql hq) Y Y (zF Y) vd rF bL) (Z10 ?_)
  exact fun hz=>zR [_] (jX hql) (by rw[zL2];exact qY hmk nB) (by rw[zL2];exact zLl _) (.inr Y) (by simp[EV.lt]) Y
theorem NH:zU tP 257 [(0,1),(1,10)] [nZ,nZ,nZ,nZ,nZ,nZ,nZ,nZ,nZ,nZ,nZ]:=⟨_,underlying257,nR,nR⟩
theorem G6:(M++[x,y])[M.length]?=some x:=sI
theorem VU:(M++[x,y])[M.length+1]?=some y:=sI
theorem O6{xs:TP}{a:AV}{d:Nat}{t:Ct.Stn}(h:BuM s b ix M):wG s (b.act a) ix d t (qK s b ix a (M++xs))=wG s (b.act a) ix d t (qK s b ix a M)++xs:=by
 rw[xo h,gx (h.act a)]
theorem Js(h:BuM s b ix M)(i:Int)(r:Rdg){u v:Int}{e:Int}(he:e≠0)(hq:zv tP G 96 [.pp ix.row 1 0 0,.pub (.ifc 257 (.agg (ei i::qF r))),.fnm 146 [] [.pp M.length 1 0 0,.pub (.ptr [ei i]),.pub (.ptr (qF r)),.pp (M.length+1) 1 0 0],.fnm 148 [] [.pp M.length 1 0 0,.pub (.ptr (qF r))],.fnm 150 [] [.pp (M.length+1) 1 0 0,.pp M.length 1 0 0,.pub (.ptr (qF r)),.pub (.ptr [ei i])]] (M++[.row [[.pp ix.row 1 0 0]],.row [[I 0,I 0]]]) (.ret (I e) (M++[.row [[.pp ix.row 1 0 0]],.row [[I u,I v]]]))):zv tP G 70 [.pp ix.row 1 0 0,I i,.pub (.agg (qF r))] M (.ret (I e) M):=by
 refine mW func70 (fun gh hold hmk=>?_);refine Z2 ?_;refine zm Y (qI Y Y (wE Y h.row Y)) (Z7 ?_);refine zm Y (zE Y Y xa Y Y) (Z4 ?_);refine zt (zd (mem':=(M++[.row [[.pp ix.row 1 0 0]],.row [[I 0,I 0]]])) [(3,.pp M.length 1 0 0),(4,.pub (.ptr [ei i])),(5,.pub (.ptr (qF r))),(7,.pp (M.length+1) 1 0 0)] ?_ ?_) ?_
 ·exact⟨Y,Y,Y,(by show EV.pp _ 1 0 0=_;simp),trivial⟩
 ·exact sI
 refine Z ?_;refine zb (zg Y Y G6 Y Y Y jG) (Z2 ?_);refine zb (zu (cs:=[_,_,_,_,_,_,_,_,_,_,_]) Y NH Y (zk (zk Y)) rF (by simp[ofV])) ?_;refine zb (zZ Y Y underlying257 Y) (Z3 ?_);refine mc hq ?_;refine Z9 ?_;refine nC ?_ ?_<;>intro h0
 ·skip;refine Z8 ?_
  exact fun hz=>zR [_,_] Y hmk (zLl _) (.inr Y) (by simp[EV.lt]) Y
 ·skip;exfalso;simp at h0;exact he h0
theorem Kz(h:BuM s b ix M)(i:Nat)(hi:i<s.st.length)(r:Rdg){u v:Int}(d:Nat)(hr:r.day=(d:Int))(hd:d<b.maps.length)(hl:(b.maps[d]).length<=1000)(hq:zv tP G 96 [.pp ix.row 1 0 0,.pub (.ifc 257 (.agg (ei (i:Int)::qF r))),.fnm 146 [] [.pp M.length 1 0 0,.pub (.ptr [ei (i:Int)]),.pub (.ptr (qF r)),.pp (M.length+1) 1 0 0],.fnm 148 [] [.pp M.length 1 0 0,.pub (.ptr (qF r))],.fnm 150 [] [.pp (M.length+1) 1 0 0,.pp M.length 1 0 0,.pub (.ptr (qF r)),.pub (.ptr [ei (i:Int)])]] (M++[.row [[.pp ix.row 1 0 0]],.row [[I 0,I 0]]]) (.ret (I 0) (qK s b ix (.ifc 257 (.agg (ei (i:Int)::qF r))) (M++[.row [[.pp ix.row 1 0 0]],.row [[I u,I v]]])))):zv tP G 70 [.pp ix.row 1 0 0,I (i:Int),.pub (.agg (qF r))] M (.ret (I 0) (wG s (b.act (.ifc 257 (.agg (ei (i:Int)::qF r)))) ix d ⟨(s.st[i]).pt,u,v⟩ (qK s b ix (.ifc 257 (.agg (ei (i:Int)::qF r))) M))):=by
 have h2:BuM s (b.act (.ifc 257 (.agg (ei (i:Int)::qF r)))) ix (qK s b ix (.ifc 257 (.agg (ei (i:Int)::qF r))) (M++[.row [[.pp ix.row 1 0 0]],.row [[I u,I v]]])):=h.app.act (.ifc 257 (.agg (ei (i:Int)::qF r)));have hne:=h.ne;have k1:=h.lt ix.row (by simp[Ix.all]);have k2:=h.lt ix.acts (by simp[Ix.all]);have k4:=h.lt ix.maps (by simp[Ix.all]);have hbx:(qK s b ix (.ifc 257 (.agg (ei (i:Int)::qF r))) (M++[.row [[.pp ix.row 1 0 0]],.row [[I u,I v]]]))[M.length]?=some (PO.row [[.pp ix.row 1 0 0]]):=zT oM (zT oM G6);have hsx:(qK s b ix (.ifc 257 (.agg (ei (i:Int)::qF r))) (M++[.row [[.pp ix.row 1 0 0]],.row [[I u,I v]]]))[M.length+1]?=some (PO.row [[I u,I v]]):=zT oM (zT oM VU);have hstl:(s.st.map Hs.eBSt).length=s.st.length:=sI;refine mW func70 (fun gh hold hmk=>?_);refine Z2 ?_;refine zm Y (qI Y Y (wE Y h.row Y)) (Z7 ?_);refine zm Y (zE Y Y xa Y Y) (Z4 ?_);refine zt (zd (mem':=(M++[.row [[.pp ix.row 1 0 0]],.row [[I 0,I 0]]])) [(3,.pp M.length 1 0 0),(4,.pub (.ptr [ei i])),(5,.pub (.ptr (qF r))),(7,.pp (M.length+1) 1 0 0)] ?_ ?_) ?_
 ·exact⟨Y,Y,Y,(by show EV.pp _ 1 0 0=_;simp),trivial⟩
 ·exact sI
 refine Z ?_;refine zb (zg Y Y G6 Y Y Y jG) (Z2 ?_);refine zb (zu (cs:=[_,_,_,_,_,_,_,_,_,_,_]) Y NH Y (zk (zk Y)) rF (by simp[ofV])) ?_;refine zb (zZ Y Y underlying257 Y) (Z3 ?_);refine mc hq ?_;refine Z9 ?_;refine nC ?_ ?_<;>intro h0
 ·skip;exfalso;simp at h0
 ·skip;refine Z3 ?_;refine Ap 13 13 rfl (fun _=>True) (fun k=>match k with|_=>.here) mixed nR nR rfl nR trivial ?_;refine zK Y Y (zg Y Y hbx Y Y Y jG) (zK Y Y (zf Y Y nL) (zK Y Y (zl Y Y Y ki) (zK Y Y (zg Y Y hbx Y Y Y jG) (zK Y Y (zr Y Y h2.row Y) (zK Y Y (ze Y Y h2.row Y j8) (zK Y Y (ze Y Y h2.row Y oG) (zK Y Y (zg Y Y h2.row Y Y Y sV) (zK Y Y (zl Y Y Y ki) ?_))))))));refine zK Y Y (zc Y Y Y wu oM (by exact Hs.mp_at (e:=Hs.eBSt) hi) (Hs.mp_len fun _=>rfl)) ?_;refine zK Y Y (zf Y Y AC) (zK Y Y (zl Y Y Y ki) (zK Y Y (wb (cs:=[_,_]) Y Y hsx Y Y bL Y vd) (GL (zm Y (qS (f:=152) (fs:=[]) (cs:=[]) (av:=[.pp ix.row 1 0 0,I (d:Int),I (s.st[i]).pt,.pub (.agg [ei u,ei v])]) Y Y ⟨Y,Y,Y⟩ ⟨Y,(zLz (fun z=>EV.pub (.v (.int .i64 z))) hr),Y,Y,trivial⟩ (Qn h2 d hd hl (s.st[i]).pt u v)) ?_))));refine Z3 ?_;refine zt (zd (mem':=wG s (b.act (.ifc 257 (.agg (ei (i:Int)::qF r)))) ix d ⟨(s.st[i]).pt,u,v⟩ (qK s b ix (.ifc 257 (.agg (ei (i:Int)::qF r))) M)++[.row [[.pp ix.row 1 0 0]],.row [[I u,I v]]]) [] trivial (O6 h)) ?_
  refine Z5 ?_
  exact fun hz=>zR [_,_] Y (bD (vK h hmk)) (by rw[kb,jE];exact zLl _) (.inr Y) (by simp[EV.lt]) Y
end Bu
end Go.Av
end
