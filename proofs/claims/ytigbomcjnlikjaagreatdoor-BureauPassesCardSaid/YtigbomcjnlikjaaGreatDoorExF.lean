import Derived.Test.YtigbomcjnlikjaaGreatDoorExE
import Derived.Test.YtigbomcjnlikjaaGreatDoorPlatK
set_option linter.unusedVariables false
set_option linter.unusedSimpArgs false
set_option maxRecDepth 100000
set_option maxHeartbeats 9000000
section
namespace Go.Av
namespace Bu
open Go.Proofs Tryz
variable{G:Glob}
theorem P6{n n':NS}{fr:Nat->EV}{mem:TP}(h:n=n'):Weak ⟨n,fr,mem⟩ ⟨n',fr,mem⟩:=h▸fun _ _ _ _ h=>h
variable{n:Int}{k:Nat}
theorem VK{mem:TP}(h:mem[k]?=some (.row (rI [n]))):kh mem (.psl k 1) (eI [n]):=Xy (x:=[n]) h
theorem Oc{b:BS}{d:Nat}(h:b.ships[d]?=some [n]):(b.ships.map fun l=>[yo enI (shL l)])[d]?=some [.mp [enI n] [.v (.bool true)]]:=by rw[zLq,h];rfl
theorem Ht{b:BS}:∀q∈b.ships.map (fun l=>[yo enI (shL l)]),q.length=1:=sI
theorem XA(n:Int)(blk off cap:Nat)(w:World)(h:Sort.Holds (Value.int .i64) w blk off #[n])(hb:blk<w.heap.size):Calls tP 113 #[.slice (some ⟨blk,off,none⟩) 1 cap] w fun e w'=>e=.returned (.tuple #[])/\∃m os,w'=Sort.grow (Sort.putRow (Value.int .i64) (Sort.ahead w m) blk off #[n]) os:=by
 have:=Tryz.slices_Sort_int blk off cap [n] w h hb sI;simpa using this
theorem rg1{i:Nat}(h1:i∉List.range k)(h2:i<[enI 0].length):k=0/\i=0:=by simp at h1 h2;omega
theorem rg2(hk:k<=1)(h:∀i,i<1->i∈List.range k):k=1:=by have:=h 0 oM;simp at this;omega
theorem q44(s:Hs.Sut)(hS:Hs.SuP s)(b:BS){d:Nat}(hd:d<b.maps.length)(hin:Hs.inB (d:Int) 0 (s.days-1)=true)(hs:b.ships[d]?=some [n]):ACall tP GB 44 [.ptr (eBu s b),ei d] (.tup [eI [n],ei 0]):=by
 refine aC func44 ?_;refine Z11 ?_;refine yc (sP s hS b hd hin) ?_;refine Z3 ?_;refine zI Y Y Y Y Y Y Y uM fL Y rF (zF Y) Y (Z9 ?_);refine nC ?_ ?_<;>intro h0
 ·skip;exfalso;simp at h0
 ·skip;refine Z9 ?_;refine zt (yZ 8 Y) ?_;refine Z3 ?_;first|refine jp rfl rfl (zf rfl rfl wO) ?_|refine jp rfl rfl (ze rfl rfl rfl rfl wO) ?_
  first|refine jp rfl rfl (zl rfl rfl rfl bR) ?_|refine jp rfl rfl (zg rfl rfl rfl rfl rfl rfl bR) ?_
  refine Z ?_;first|refine jp rfl rfl (zc rfl rfl rfl Gt (by omega) (by exact Oc hs) Ht) ?_|refine jp rfl rfl (qh rfl rfl rfl rfl rfl Gt (by omega) (by exact Oc hs) Ht) ?_
  first|refine jp rfl rfl (zl rfl rfl rfl FM) ?_|refine jp rfl rfl (zg rfl rfl rfl rfl rfl rfl FM) ?_
  refine lH Y Y Y Y underlying204 (fun bb gg cc hcc=>?_);refine Z3 ?_;refine zD (ι:={k:Nat//k<=1}) (fun k=>⟨((NS.of Tryz.f44.ntmps).itM bb gg cc (List.range k.1) [enI n] [.v (.bool true)]),frL [(8,.psl 0 k.1),(26,itP bb)],[.row (rI ([n].take k.1))]⟩) (fun k=>1-k.1) (⟨0,oM⟩) ?_ ?_
  ·exact zd _ rL (Y)
  ·rintro⟨k,hk⟩;dsimp only;refine Z2 ?_;refine pA (n:=NS.of Tryz.f44.ntmps) Y Y Y Y Y hcc Y (fun ch hch=>?_);refine zb (jD Y Y (XH _ _ ch)) ?_;refine Z3 ?_;refine nC ?_ ?_<;>intro h1
   ·skip;refine Exists.elim (E0 hch (by simpa using h1)) (fun i hi=>?_);have hki:=rg1 hi.2.1 hi.2.2;have hk0:=hki.1;subst hk0;refine zt (P6 (n':=((NS.of Tryz.f44.ntmps).itM bb gg cc [0] [enI n] [.v (.bool true)])) (zLz (fun z=>((NS.of Tryz.f44.ntmps).itM bb gg cc z [enI n] [.v (.bool true)])) (by rw[hi.1,hki.2];rfl))) ?_;refine Z5 ?_;refine ma (n:=NS.of Tryz.f44.ntmps) (i:=0) (seen:=[]) Y Y Y Y Y hcc Y Y ?_;refine Z7 ?_;refine zb (zw (size:=1) (rows:=[[_]]) Y underlying24 Xs Y dE Y dE ⟨_,_,Y,jT Y,Y⟩ rF (by simp[ofV]) Y sI) ?_;refine zm Y (wn Y Y Y Y (by simp[rI]) Y Eb Oj (by intro r hr;simp at hr;subst hr;rfl) sI (by unfold maxLen;simp)) (Z3 ?_);exact⟨⟨1,oM⟩,by dsimp only;omega,zd _ rL (Y)⟩
   ·skip;have hge:k=1:=rg2 hk (Gu hch (by simpa using h1));subst hge;refine Z8 ?_;refine zb ((Kr Y Y Y ⟨_,func113,nR,Y⟩ (XA n))) ?_;refine Z10 ?_;exact⟨.inr Y,⟨_,Y,⟨_,_,Y,(by exact VK (n:=n) Y),⟨_,_,Y,AVle.refl _,Y⟩⟩⟩⟩
theorem MO:(tP.info? 63).bind (·.zero)=some (.agg #[nZ,nZ]):=nR
theorem E4:zO tP 35 1 1=true:=nR
theorem sr:zO tP 35 2 2=true:=nR
theorem pM:zO tP 35 0 0=true:=nR
def dB(a b c x:Int):Int:=max c (a+b*x/10000)
theorem Rl(n:Int):(n.tmod 10000<0->n.tdiv 10000-1=n/10000)/\(¬n.tmod 10000<0->n.tdiv 10000=n/10000):=by
 by_cases h:0<=n
 ·rw[Int.tmod_eq_emod_of_nonneg h,Int.tdiv_eq_ediv_of_nonneg h];omega
 ·obtain⟨m,hm,rfl⟩:∃m:Int,0<=m/\n=-m:=⟨-n,oM,oM⟩;rw[Int.neg_tmod,Int.neg_tdiv,Int.tmod_eq_emod_of_nonneg hm,Int.tdiv_eq_ediv_of_nonneg hm];omega
theorem zaZ(n:Int)(h:-100000000000<=n/\n<=100000000000):-10000000<=n.tdiv 10000/\n.tdiv 10000<=10000000:=by
 by_cases h0:0<=n
 ·rw[Int.tdiv_eq_ediv_of_nonneg h0];omega
 ·obtain⟨m,hm,rfl⟩:∃m:Int,0<=m/\n=-m:=⟨-n,oM,oM⟩;rw[Int.neg_tdiv,Int.tdiv_eq_ediv_of_nonneg hm];omega
theorem V6{a b c x:Int}(hp:Hs.papB a b c=true)(hx:-100000000<=x/\x<=100000000):(0<=a/\a<=100000)/\-100000000000<=b*x/\b*x<=100000000000:=by
 simp only[Hs.papB,zLa,Hs.inB_iff]at hp;obtain⟨⟨h1,h2⟩,h3⟩:=hp;refine⟨h1,?_⟩
 by_cases h0:0<=x
 ·have h4:=Int.mul_le_mul h3.2 hx.2 h0 oM;have h5:=Int.mul_nonneg h3.1 h0;omega
 ·have h4:=Int.mul_le_mul h3.2 (show -x<=100000000 by omega) oM oM;have h5:=Int.mul_nonneg h3.1 (show 0<=-x by omega);rw[Int.mul_neg]at h4 h5;omega
theorem zaH(a b c x:Int)(hp:Hs.papB a b c=true)(hx:-100000000<=x/\x<=100000000):ACall tP G 108 [.agg [ei a,ei b,ei c],ei x] (ei (dB a b c x)):=by
 have hb:=V6 hp hx;have hf:=Rl (b*x);have hq:=zaZ (b*x) hb.2;refine aC func108 ?_;refine Z8 ?_;refine zb (zf Y Y E4) (zb (zl Y Y Y ki) ?_);refine Z8 ?_;refine zb (Ik Y Y Y ⟨oM,oM⟩) (Z7 ?_);refine zb (Ha Y Y Y oM) (Z3 ?_);refine nC ?_ ?_<;>intro h0
 ·skip;have hn:(b*x).tmod 10000<0:=by simpa using h0
  refine Z8 ?_;refine zb (zf Y Y sr) (zb (zl Y Y Y ki) (zb (zf Y Y pM) (zb (zl Y Y Y ki) ?_)));refine Z7 ?_;exact⟨.inr Y,(AVle.of (by unfold dB;rw[hf.1 hn]))⟩
 ·skip;have hn:¬(b*x).tmod 10000<0:=by simpa using h0
  refine Z4 ?_;refine zb (zf Y Y sr) (zb (zl Y Y Y ki) (zb (zf Y Y pM) (zb (zl Y Y Y ki) ?_)));refine Z7 ?_;exact⟨.inr Y,(AVle.of (by unfold dB;rw[hf.2 hn]))⟩
theorem q37(a b c x:Int)(hp:Hs.papB a b c=true)(hx:-100000000<=x/\x<=100000000):ACall tP G 37 [.agg [ei a,ei b,ei c],ei x] (.tup [ei (dB a b c x),ei 0]):=by
 refine aC func37 ?_;refine Z10 ?_;refine zb (qk Y Y A7 bL) ?_;refine yc (Hs.f208 a b c) ?_;refine Z3 ?_;refine yd Y (fun hg=>(Hs.f209 _ _ _)) ?_;refine Z4 ?_;refine nC ?_ ?_<;>intro h0
 ·skip;exfalso;simp[hp,Hs.inB]at h0;omega
 ·skip;refine Z4 ?_;refine zb (qk Y Y A7 bL) (Z ?_);refine yc (zaH a b c x hp hx) ?_;refine Z5 ?_;exact⟨.inr Y,⟨_,Y,⟨_,_,Y,AVle.refl _,⟨_,_,Y,AVle.refl _,Y⟩⟩⟩⟩
theorem q33(s:Hs.Sut)(b:BS){A ZZ:Int}(hp:Hs.papB s.pb s.pr s.pl=true)(hA0:-100000000<=A/\A<=100000000)(hZ0:-100000000<=ZZ/\ZZ<=100000000)(h32:ACall tP G 32 [.ptr (eBu s b)] (.tup [.agg [ei A,ei ZZ],ei 0])):ACall tP G 33 [.ptr (eBu s b)] (.tup [.agg [ei (dB s.pb s.pr s.pl A),ei (dB s.pb s.pr s.pl ZZ)],ei 0]):=by
 refine aC func33 ?_;refine Z2 ?_;refine zm Y (zE Y Y MO Y Y) (Z6 ?_);refine yc h32 ?_;refine Z3 ?_;refine zI Y Y Y Y Y Y Y MO vd Y rF (zF Y) Y (Z10 ?_);refine nC ?_ ?_<;>intro h0
 ·skip;exfalso;simp at h0
 ·skip;refine Z3 ?_;refine zN mixed nR Y ?_;refine Z2 ?_;refine zH Y (zf Y Y lC) (zH Y (zf Y Y pN) (zH Y (qk Y Y A7 bL) (zH Y (zf Y Y ag) (zH Y (zl Y Y Y ki) (zH Y (zi (av:=[_,_]) Y rL (q37 s.pb s.pr s.pl A hp hA0)) ?_)))));refine Z8 ?_;refine zN mixed nR Y ?_;refine Z2 ?_;refine zH Y (zf Y Y lC) (zH Y (zf Y Y pN) (zH Y (qk Y Y A7 bL) (zH Y (zf Y Y xE) (zH Y (zl Y Y Y ki) (zH Y (zi (av:=[_,_]) Y rL (q37 s.pb s.pr s.pl ZZ hp hZ0)) ?_)))));refine Z14 ?_;refine zh Y (fun hg=>fM Y (Y) Y) (zb (ju Y Y Y Y) ?_);refine Z2 ?_;refine nC ?_ ?_<;>intro h1
  ·skip;exfalso;simp at h1
  ·skip;refine Z6 ?_;refine zb (zu (cs:=[_,_]) Y iV Y (zk (zk Y)) rF (by simp[ofV])) ?_;refine zm Y (zp Y Y Y Y Y Y cEx vd rF bL) (Z4 ?_);exact⟨.inr Y,⟨_,Y,⟨_,_,Y,(zQ Y Y Y Y vd Y (vwR (vwR Y))),⟨_,_,Y,AVle.refl _,Y⟩⟩⟩⟩
end Bu
end Go.Av
namespace Go.Av
namespace Bu
open Go.Proofs Tryz
theorem CW{P:Program}{G:Glob}{f:FuncId}{args:TE}{mem m:TP}{a b:AV}(h:zv P G f args mem (.ret (.tpl [.pub a,.pub b]) m)):zv P G f args mem (.ret (.pub (.tup [a,b])) m):=
 ⟨h.1,fun w0 ok0 ok bs w vs gh hold hG hok hO hf=>(h.2 w0 ok0 ok bs w vs gh hold hG hok hO hf).mono fun e w' ⟨ok',bs',hO',u,he,hu⟩=>⟨ok',bs',hO',u,he,by
  simp only[FitsE,FitsEL]at hu;obtain⟨vs,rfl,u1,us,rfl,h1,u2,us2,rfl,h2,rfl⟩:=hu;simp only[FitsE,Fits,FitsL];exact⟨_,Y,u1,_,Y,h1,u2,_,Y,h2,Y⟩⟩⟩
variable{b:BS}{out t:List UInt8}{s:Hs.Sut}{e:Int}{p:Ix × TP}{bs:Nat->BS}{er:Nat->Int}
theorem KN{ix:Ix}{M:TP}(h:BuM s b ix M)(hq:ACall tP GB 52 [.ptr (eBu s b),eS t] (.tup [eS out,ei e])):zv tP GB 52 [.pp ix.row 1 0 0,.pub (eS t)] M (.ret (.pub (.tup [eS out,ei e])) M):=
 hq.d (.cons h.dv (.cons .r .nil)) rfl
def Ln(s:Hs.Sut)(t:List UInt8)(b b':BS)(out:List UInt8)(e:Int):Prop:=
 ∀(ix:Ix)(M:TP),BuM s b ix M->∃ix' M',BuM s b' ix' M'/\Fr ix ix' M M'/\zv tP GB 52 [.pp ix.row 1 0 0,.pub (eS t)] M (.ret (.pub (.tup [eS out,ei e])) M')
theorem wz{b':BS}{o:Od}{x:List Int}{l:TC}(hl:t.length<=200)(hp:prP t=some (o,x,l))
  (h:∀(ix:Ix)(M:TP),BuM s b ix M->∃ix' M',BuM s b' ix' M'/\Fr ix ix' M M'/\zv tP GB o.f [.pp ix.row 1 0 0,.pub (eI x),.pub (Wr.eCps l)] M (.ret (.tpl [.pub (.v (.slice none 0 0)),I e]) M')):Ln s t b b' [] e:=fun ix M hB=>by
 obtain⟨ix',M',h1,h2,h3⟩:=h ix M hB;exact⟨ix',M',h1,h2,CW (mdo t hl hp hB h2.le h3)⟩
theorem eg(h:ACall tP GB 52 [.ptr (eBu s b),eS t] (.tup [eS out,ei e])):Ln s t b b out e:=fun ix M hB=>⟨ix,M,hB,Fr.refl,KN hB h⟩
structure Cs(s:Hs.Sut)(b:BS)(K:Nat)(bt:List UInt8)(p:Ix × TP):Prop where
 bu:BuM s b p.1 p.2
 row:p.1.row=5
 c0:p.2[K]?=some (.row [[.pp 5 1 0 0]])
 c1:∃A,(A=.pub (.v (.pointer none))∨A=.pp (K+1) 1 0 0)/\p.2[K+1]?=some (.row [[A,.pslT (K+2) bt.length 5]])
 c2:p.2[K+2]?=some (.row (jz bt))
 out:∀j,K<=j->j<=K+2->j∉p.1.all
structure Cx2(K:Nat)(t:List UInt8)(bt bt' out:List UInt8)(e:Int)(p:Ix × TP)(D:TP)(q:Ix × TP):Prop where
 do_:zv tP GB 52 [.pp 5 1 0 0,.pub (eS t)] p.2 (.ret (.pub (.tup [eS out,ei e])) D)
 d1:∃A,(A=.pub (.v (.pointer none))∨A=.pp (K+1) 1 0 0)/\D[K+1]?=some (.row [[A,.pslT (K+2) bt.length 5]])
 d2:D[K+2]?=some (.row (jz bt))
 nx:q.2=(D.set (K+2) (.row (jz bt'))).set (K+1) (.row [[.pp (K+1) 1 0 0,.pslT (K+2) bt'.length 5]])
theorem JU{b':BS}{K:Nat}{bt:List UInt8}(h:Cs s b K bt p)(hl:Ln s t b b' out e):∃D q,Cs s b' K (bt++rpT out e) q/\Cx2 K t bt (bt++rpT out e) out e p D q:=by
 obtain⟨ix',D,h1,h2,h3⟩:=hl p.1 p.2 h.bu;rw[h.row]at h3;obtain⟨A,hA,hc1⟩:=h.c1;have lt:∀j{x:PO},p.2[j]?=some x->j<p.2.length:=fun j x hx=>(zLg hx).1;have d0:D[K]?=some (.row [[.pp 5 1 0 0]]):=by rw[h2.old K (lt _ h.c0) (h.out K oM oM)];exact h.c0
 have d1:D[K+1]?=some (.row [[A,.pslT (K+2) bt.length 5]]):=by rw[h2.old (K+1) (lt _ hc1) (h.out (K+1) oM oM)];exact hc1
 have d2:D[K+2]?=some (.row (jz bt)):=by rw[h2.old (K+2) (lt _ h.c2) (h.out (K+2) oM oM)];exact h.c2
 have ho:∀j,K<=j->j<=K+2->j∉ix'.all:=fun j hj1 hj2 hm=>by
  rcases h2.new j hm with e|e
  ·exact h.out j hj1 hj2 e
  ·have:=lt _ h.c2;omega
 have k2:(D.set (K+2) (.row (jz (bt++rpT out e))))[K+1]?=some (.row [[A,.pslT (K+2) bt.length 5]]):=(wx oM).trans d1;have k3:(D.set (K+2) (.row (jz (bt++rpT out e))))[K+2]?=some (.row (jz (bt++rpT out e))):=zT d2
 exact⟨D,(ix',(D.set (K+2) (.row (jz (bt++rpT out e)))).set (K+1) (.row [[.pp (K+1) 1 0 0,.pslT (K+2) (bt++rpT out e).length 5]])),
  ⟨(h1.set (ho _ oM oM)).set (ho _ oM oM),h2.row.trans h.row,((wx oM).trans (wx oM)).trans d0,⟨_,.inr rfl,zT k2⟩,(wx oM).trans k3,ho⟩,
  ⟨h3,⟨A,hA,d1⟩,d2,rfl⟩⟩
theorem sE{out:Nat->List UInt8}{L:Nat->List UInt8}{K:Nat}(h:Cs s (bs 0) K [] p):∀n,(∀k,k<n->Ln s (L k) (bs k) (bs (k+1)) (out k) (er k))->
  ∃(f:Nat->Ix × TP)(D:Nat->TP),f 0=p/\(∀k,k<=n->Cs s (bs k) K (btT out er k) (f k))/\∀k,k<n->Cx2 K (L k) (btT out er k) (btT out er (k+1)) (out k) (er k) (f k) (D k) (f (k+1))
 |0,_=>⟨fun _=>p,fun _=>[],rfl,fun k hk=>by rw[Nat.le_zero.1 hk];exact h,fun k hk=>absurd hk oM⟩
 |n+1,hn=>by
  obtain⟨f,D,f0,f1,f2⟩:=sE h n (fun k hk=>hn k oM);obtain⟨Dn,q,q1,q2⟩:=JU (f1 n (zLl _)) (hn n oM);refine⟨fun k=>if k<=n then f k else q,fun k=>if k<n then D k else Dn,by simp[f0],fun k hk=>?_,fun k hk=>?_⟩
  ·by_cases e:k<=n
   ·simp only[zLc e];exact f1 k e
   ·have:k=n+1:=oM;subst this;simp only[zLy e];exact q1
  ·by_cases e:k+1<=n
   ·simp only[zLc (show k<=n by omega),zLc e,zLc (show k<n by omega)];exact f2 k oM
   ·have:k=n:=oM;subst this;simp only[zLl,if_true,zLy e,zLy (Nat.lt_irrefl _)];exact q2
theorem JA(hsm:Hs.smB s=true)(hS:Hs.SuP s){n:Nat}{out:Nat->List UInt8}(hl:t.length<=12000)(hn:1<=n)(hne:∀k,k<n->rsN t k≠[])(hne1:∀k,k<n->(vH (rsN t k)).1≠[])(hnil:rsN t n=[])
  (h0:bs 0=b0 s s.days.toNat) (hL:∀k,k<n->Ln s (vH (rsN t k)).1 (bs k) (bs (k+1)) (out k) (er k)) (hsz:∀k,k<=n->(btT out er k).length<=90000000) (heb:∀k,k<n->-9223372036854775808<=er k/\er k<=9223372036854775807) (hrl:∀k,k<n->(rpT (out k) (er k)).length<=1000000):
  ACall tP GB 64 [.agg (Hs.eSut s),eS t] (.tup [eS (btT out er n),ei 0]):=by
 obtain⟨M0,ix,hB,hr,h42⟩:=m57 (G:=GB) hsm hS;obtain⟨r5,h5⟩:∃r,M0[5]?=some (.row [r]):=by rw[←hr];exact⟨_,hB.row⟩
 obtain⟨f,D,f0,f1,f2⟩:=sE (s:=s) (bs:=bs) (K:=M0.length) (p:=(ix,M0++[.row [[.pp 5 1 0 0]],.row [[.pub (.v (.pointer none)),.pslT (M0.length+2) 0 5]],.row []]))
  ⟨by rw[h0];exact hB.app,hr,sI,⟨_,.inl rfl,sI⟩,by simp[jz],fun j hj1 hj2 hm=>by have:=hB.lt j hm;omega⟩ n hL
 refine q64 s hl hn h42 h5 (F:=fun k=>(f k).2) (D:=D) ⟨hne,hne1,hnil,by rw[f0],fun k hk=>(f2 k hk).do_,fun k hk=>(f1 k oM).c0,fun k hk=>?_,fun k hk=>(f2 k hk).d1,fun k hk=>(f2 k hk).d2,fun k hk=>(f2 k hk).nx,?_,(f1 n (zLl _)).c2,hsz,heb,hrl⟩
 ·have:=(f1 k oM);rw[←this.row];exact⟨_,this.bu.row⟩
 ·obtain⟨A,_,h⟩:=(f1 n (zLl _)).c1;exact⟨A,h⟩
end Bu
end Go.Av
namespace Go.Av
namespace Bu
open Go.Proofs Tryz
variable{G:Glob}
theorem UT:(tP.info? 63).bind (·.zero)=some (.agg #[nZ,nZ]):=nR
theorem P4:zU tP 206 [(0,1),(1,2)] [nZ,nZ,nZ]:=⟨_,underlying206,nR,nR⟩
theorem PZ:tP.info? 206=some Tryz.t206:=nR
theorem VM:zU tP 66 [(0,2),(2,2),(4,1),(5,1),(6,1),(7,1),(8,1)] [nZ,nZ,nZ,nZ,nZ,nZ,nZ,nZ,.slice none 0 0]:=⟨_,underlying66,nR,nR⟩
theorem Nz:(tP.info? 66).bind (·.zero)=some (.agg #[nZ,nZ,nZ,nZ,nZ,nZ,nZ,nZ,.slice none 0 0]):=nR
theorem HL:zO tP 66 3 5=true:=nR
theorem Nn:zU tP 68 [(0,9),(9,1)] [nZ,nZ,nZ,nZ,nZ,nZ,nZ,nZ,.slice none 0 0,nZ]:=⟨_,underlying68,nR,nR⟩
theorem UK:tP.info? 68=some Tryz.t68:=nR
theorem RG:tP.info? 63=some Tryz.t63:=nR
theorem Xd:zU tP 26 [(0,1),(1,1),(2,1)] [.slice none 0 0,.slice none 0 0,nZ]:=⟨_,underlying26,nR,nR⟩
theorem Xj:zU tP 28 [(0,1),(1,1),(2,1)] [nZ,nZ,nZ]:=⟨_,underlying28,nR,nR⟩
theorem Oy:zU tP 210 [(0,2),(2,1),(3,1)] [nZ,nZ,nZ,nZ]:=⟨_,underlying210,nR,nR⟩
theorem OF:tP.info? 210=some Tryz.t210:=nR
theorem VN:zU tP 33 [(0,1),(1,1),(2,1),(3,1),(4,1),(5,1),(6,1),(7,1),(8,1)] [nZ,.slice none 0 0,.slice none 0 0,.slice none 0 0,nZ,nZ,nZ,nZ,nZ]:=⟨_,underlying33,nR,nR⟩
theorem UF:zU tP 35 [(0,1),(1,1),(2,1)] [nZ,nZ,nZ]:=⟨_,underlying35,nR,nR⟩
theorem Sz:zU tP 37 [(0,1),(1,3),(4,3),(7,1),(8,1),(9,1),(10,9),(19,1),(20,1),(21,3),(24,1)] [.slice none 0 0,.slice none 0 0,.slice none 0 0,nZ,nZ,nZ,nZ,nZ,nZ,nZ,nZ,.slice none 0 0,.slice none 0 0,.slice none 0 0,nZ,nZ,nZ,nZ,nZ,nZ,.slice none 0 0,nZ,nZ,nZ,nZ]:=⟨_,underlying37,nR,nR⟩
def sK:Hs.Sut:={st:=[⟨⟨0,0,0,0,0,5,0,0,[⟨0,0,0⟩]⟩,0⟩,⟨⟨0,0,0,0,0,0,0,0,[⟨0,0,0⟩]⟩,3⟩],code:=⟨[⟨73000,78000⟩,⟨0,35999⟩],[0,128,0,256,0,0,0,2,8,0],1⟩,op:=100,fr:=2,mo:=31,wide:=2,rows:=2,slope:=100,w:=⟨2,[],[],[⟨15,45,8000,3000⟩],300,360,600,360,1080⟩,cls:=3,wts:=[1,2],pb:=500,pr:=30,pl:=400,days:=2}
theorem q38(a b:Int):ACall tP G 38 [ei a,ei b] (.agg [ei a,ei b]):=by
 refine aC func38 ?_;refine Z2 ?_;refine zm Y (zE Y Y UT Y Y) (Z6 ?_);refine zb (zu (cs:=[_,_]) Y iV Y (zk (zk Y)) rF (by simp[ofV])) ?_;refine zm Y (zp Y Y Y Y Y Y cEx vd rF bL) (Z3 ?_);exact⟨.inr Y,jb Y (zQ Y Y Y Y vd Y (vwR (vwR Y)))⟩
theorem q65:ACall tP G 65 [] (.agg (Hs.eSut sK)):=by
 refine aC func65 ?_;refine Z2 ?_;refine zm Y (zE Y Y Vu Y Y) (Z4 ?_);refine zb (zu (cs:=[_,_,_]) Y P4 Y Y rF (by simp[ofV])) ?_;refine zb (zw (size:=3) (rows:=[[_,_,_]]) Y underlying64 PZ Y dE Y dE (zk Y) rF (by simp[ofV]) Y sI) ?_;refine zb (zu (cs:=[_,_,_,_,_,_,_,_,_]) Y VM Y (zk Y) rF (by simp[ofV])) ?_;refine zI Y Y Y Y Y Y Y Nz rM Y rF (zF Y) Y (Z4 ?_);refine zb (qk Y Y rM bL) (zm Y (zE Y Y Nz Y Y) ?_);refine zm Y (zp Y Y Y Y Y Y cEx rM rF bL) (Z4 ?_);refine zb (ze Y Y Y Y HL) ?_;refine zm Y (zp Y Y Y Y Y Y cEx ki rF bL) (Z3 ?_);refine qd (fun _=>True) (fun k=>match k with|18=>.writes|_=>.here) mixed nR rfl nR trivial ?_;refine zK Y Y (wb (cs:=[_,_,_,_,_,_,_,_,_]) Y Y Y Y Y bL Y rM) ?_;refine zK Y Y (zu (cs:=[_,_,_,_,_,_,_,_,_,_]) Y Nn Y (zk Y) rF (by simp[ofV])) ?_;refine zK Y Y (qk Y Y rM bL) ?_;refine zK Y Y (zu (cs:=[_,_,_,_,_,_,_,_,_,_]) Y Nn Y (zk (zk Y)) rF (by simp[ofV])) ?_
 refine zK Y Y (zw (size:=10) (rows:=[[_,_,_,_,_,_,_,_,_,_],[_,_,_,_,_,_,_,_,_,_]]) Y underlying22 UK Y dE Y dE (zk (zk Y)) rF (by simp[ofV]) Y sI) ?_;refine zK Y Y (zi (av:=[_,_]) Y rL (q38 _ _)) (zK Y Y (zi (av:=[_,_]) Y rL (q38 _ _)) ?_);refine zK Y Y (zw (size:=2) (rows:=[[_,_],[_,_]]) Y underlying23 RG Y dE Y dE (zk (zk Y)) rF (by simp[ofV]) Y sI) ?_;refine zK Y Y (zw (size:=1) (rows:=[[_],[_],[_],[_],[_],[_],[_],[_],[_],[_]]) Y underlying24 Xs Y dE Y dE (zk (zk (zk (zk (zk (zk (zk (zk (zk (zk Y)))))))))) rF (by simp[ofV]) Y sI) ?_;refine zK Y Y (zu (cs:=[_,_,_]) Y Xd Y (zk (zk (zk Y))) rF (by simp[ofV])) ?_;refine zK Y Y (zu (cs:=[_,_,_]) Y Xj Y (zk (zk (zk Y))) rF (by simp[ofV])) ?_;refine zK Y Y (zi (av:=[_,_]) Y rL (q38 _ _)) ?_;refine zK Y Y (zu (cs:=[_,_,_,_]) Y Oy Y (zk (zk (zk Y))) rF (by simp[ofV])) ?_;refine zK Y Y (zw (size:=4) (rows:=[[_,_,_,_]]) Y underlying31 OF Y dE Y dE (zk Y) rF (by simp[ofV]) Y sI) ?_
 refine zK Y Y (zu (cs:=[_,_,_,_,_,_,_,_,_]) Y VN Y (zk (zk (zk (zk (zk (zk (zk Y))))))) rF (by simp[ofV])) ?_;refine zK Y Y (zw (size:=1) (rows:=[[_],[_]]) Y underlying24 Xs Y dE Y dE (zk (zk Y)) rF (by simp[ofV]) Y sI) ?_;refine zK Y Y (zu (cs:=[_,_,_]) Y UF Y (zk (zk (zk Y))) rF (by simp[ofV])) ?_;refine zK Y Y (zu (cs:=[_,_,_,_,_,_,_,_,_,_,_,_,_,_,_,_,_,_,_,_,_,_,_,_,_]) Y Sz Y (zk (zk (zk (zk (zk (zk (zk (zk (zk (zk (zk Y))))))))))) rF (by simp[ofV])) ?_;refine qw Y Y (zz Y Y Y Y Y Y cEx EP rF rF) trivial (Z3 ?_);exact⟨.inr Y,jb Y (zQ Y Y Y Y EP Y (vwR (vwR (vwR (vwR (vwR (vwR (vwR (vwR (vwR (vwR (vwR ⟨_,_,Y,AVle.nil,⟨_,_,Y,AVle.nil,(vwR (vwR (vwR (vwR (vwR (vwR (vwR (vwR (vwR (vwR (vwR (vwR Y))))))))))))⟩⟩))))))))))))⟩
def tK:List UInt8:=[114,101,97,100,32,48,32,48,32,52,56,48,32,49,32,55,54,48,48,48,32,48,32,48,32,48,32,48,32,48,32,48,10,100,114,97,119,32,48,10,119,105,114,101,32,49,32,48,32,55,53,51,49,48,46,50,55,48,51,48,46,57,50,56,52,48,10,100,114,97,119,32,48,10,119,105,114,101,32,49,32,48,32,55,53,51,49,48,46,50,55,48,51,48,46,57,50,51,52,48,10,119,105,114,101,32,49,32,48,32,55,53,51,49,48,46,50,55,48,51,48,46,57,50,56,52,48,32,55,53,56,49,48,46,50,55,48,51,48,46,57,50,56,52,48,10,115,104,105,112,32,49,55,32,48,32,49,32,55,53,57,48,48,32,55,53,57,48,53,10,115,104,105,112,32,49,55,32,48,32,50,32,55,53,57,48,48,32,55,53,57,48,53,10,115,104,105,112,32,49,55,32,49,32,50,32,55,53,57,48,48,32,55,53,57,48,53,10,100,114,97,119,32,48,10,115,104,105,112,115,32,48,10,99,111,115,116,10,114,101,112,111,114,116,32,48,32,52,56,48,32,55,53,53,48,48,32,50,48,32,54,48,32,49,48,32,53,10,115,101,101,10,114,101,112,111,114,116,32,48,32,56,52,48,32,55,53,49,53,48,32,49,48,32,53,48,32,49,48,32,52,10,115,101,101,10,117,112,32,48,32,56,54,53,10,117,112,32,48,32,57,51,53,10,115,116,97,116,101,32,48,32,48,32,55,48,32,50,48,32,49,48,10,115,116,97,116,101,32,48,32,48,32,49,48,48,32,48,32,48,10,99,97,109,101,32,48,32,49,32,51,10,115,116,97,116,101,32,48,32,49,32,53,48,32,53,48,32,48,10,99,97,109,101,32,48,32,48,32,49,10,99,97,109,101,32,48,32,49,32,51,10,116,111,116,97,108,10,112,97,121,10,108,111,119,32,48,32,51,32,55,53,57,48,48,10]
def anK:List UInt8:=[111,107,10,55,54,48,48,48,32,55,54,48,48,48,32,55,54,48,48,48,32,55,54,48,48,48,10,111,107,10,55,54,48,48,48,32,55,53,57,48,50,32,55,53,57,48,50,32,55,53,56,48,50,10,101,114,114,111,114,32,55,10,111,107,10,111,107,10,101,114,114,111,114,32,55,10,111,107,10,55,54,48,48,48,32,55,53,57,48,50,32,55,53,57,48,50,32,55,53,56,49,48,10,49,55,10,51,50,56,10,111,107,10,101,114,114,111,114,32,53,10,111,107,10,56,53,48,32,56,57,48,10,50,10,51,10,111,107,10,101,114,114,111,114,32,54,10,101,114,114,111,114,32,55,10,111,107,10,111,107,10,111,107,10,49,56,54,48,48,32,49,56,54,48,48,10,53,53,53,32,53,53,53,10,49,10]
def liK(k:Nat):List UInt8:=(vH (rsN tK k)).1
theorem zbo:rsN tK 27=[]:=nR
theorem zbR:Nat.ble tK.length 12000=true:=nR
theorem neK:(List.range 27).all (fun k=>!(rsN tK k).isEmpty&& !(liK k).isEmpty&&Nat.ble (liK k).length 200)=true:=nR
end Bu
end Go.Av
namespace Go.Av
namespace Bu
open Go.Proofs Tryz
variable{c:Wr.Cod}{l:TC}{L:List (List Int)}{s:Hs.Sut}
theorem fi(h:Wr.srch c l 24 0 0 0 (0,0,0) (List.replicate c.fields.length 0)=L)(hs:L.Pairwise fun a b=>leL a b=true):Wr.msgs c l=L:=by
 unfold Wr.msgs sortL;rw[h];exact List.mergeSort_of_pairwise hs
def lW1:TC:=[qM 46 [55,53,51,49,48,46,50,55,48,51,48,46,57,50,56,52,48]]
def lW2:TC:=[qM 46 [55,53,51,49,48,46,50,55,48,51,48,46,57,50,51,52,48]]
def lW3:TC:=[qM 46 [55,53,51,49,48,46,50,55,48,51,48,46,57,50,56,52,48],qM 46 [55,53,56,49,48,46,50,55,48,51,48,46,57,50,56,52,48]]
theorem mW1:Wr.msgs sK.code lW1=[[75310,27030],[75810,27030]]:=fi nR dE
theorem mW2:Wr.msgs sK.code lW2=[[75310,27030]]:=fi nR dE
theorem mW3:Wr.msgs sK.code lW3=[[75810,27030]]:=fi nR dE
theorem aW:Wr.askE sK.code lW1=0/\Wr.askE sK.code lW2=0/\Wr.askE sK.code lW3=0:=⟨nR,nR,nR⟩
theorem AL(h:Wr.msgs c l=L)(ha:Wr.askE c l=0)(hL:L.isEmpty=false):Wr.fndE c l=0/\Wr.fndL c l=L:=by
 unfold Wr.fndE Wr.fndL;rw[zLc ha,zLc ha,h];cases L with
 |nil=>cases hL
 |cons a l=>exact⟨zLy sI,rfl⟩
theorem mM{b:BS}{i d:Int}(h:Wr.msgs s.code l=L)(ha:Wr.askE s.code l=0)(hL:L.isEmpty=false):
  wrE s b i d l=xp (Hs.inB i 0 ((s.st.length:Int)-1)&&Hs.inB d 0 (s.days-1)) b.acts.length (vC b d) (drB (wiM s (jw b d) (yO s i).pt (foV L (0,0) L.length).1 (foV L (0,0) L.length).2)):=by
 obtain⟨h1,h2⟩:=AL h ha hL;unfold wrE wrR wrV;rw[h1,h2];simp
def tL(s:Hs.Sut)(b:BS)(i d:Int)(L:List (List Int)):Int:=xp (Hs.inB i 0 ((s.st.length:Int)-1)&&Hs.inB d 0 (s.days-1)) b.acts.length (vC b d) (drB (wiM s (jw b d) (yO s i).pt (foV L (0,0) L.length).1 (foV L (0,0) L.length).2))
def GQ(s:Hs.Sut)(b:BS)(i d:Int)(l:TC)(L:List (List Int)):BS:=if tL s b i d L=0 then((b.act (A3 i d l)).put d.toNat ⟨(yO s i).pt,(foV L (0,0) L.length).1,(foV L (0,0) L.length).2⟩).pay (wrC s l)else b
theorem cX{b:BS}{i d:Int}(h:Wr.msgs s.code l=L)(ha:Wr.askE s.code l=0)(hL:L.isEmpty=false):wrS s b i d l=GQ s b i d l L:=by
 have he:=mM (b:=b) (i:=i) (d:=d) h ha hL;unfold wrS GQ wrV;rw[he,(AL h ha hL).2];rfl
def k0:BS:=b0 sK 2
def k1:BS:=rdS sK k0 0 ⟨0,480,1,76000,0,0,0,0,0,0⟩
def k2:BS:=GQ sK k1 1 0 lW1 [[75310,27030],[75810,27030]]
def k3:BS:=GQ sK k2 1 0 lW2 [[75310,27030]]
def k4:BS:=GQ sK k3 1 0 lW3 [[75810,27030]]
def k5:BS:=aw sK k4 17 0 1 75900 75905
def k6:BS:=aw sK k5 17 0 2 75900 75905
def k7:BS:=aw sK k6 17 1 2 75900 75905
def k8:BS:=wW sK k7 ⟨0,480,75500,20,60,10,5⟩
def k9:BS:=wW sK k8 ⟨0,840,75150,10,50,10,4⟩
def k10:BS:=stB sK k9 0 0 [70,20,10]
def k11:BS:=stB sK k10 0 0 [100,0,0]
def k12:BS:=cmB sK k11 0 1 3
def k13:BS:=stB sK k12 0 1 [50,50,0]
def k14:BS:=cmB sK k13 0 0 1
def k15:BS:=cmB sK k14 0 1 3
theorem ek0:rdE sK k0 0 ⟨0,480,1,76000,0,0,0,0,0,0⟩=0:=nR
theorem ek1:tL sK k1 1 0 [[75310,27030],[75810,27030]]=0:=nR
theorem ek2:tL sK k2 1 0 [[75310,27030]]=7:=nR
theorem ek3:tL sK k3 1 0 [[75810,27030]]=0:=nR
theorem ek4:iz sK k4 17 0 1 75900 75905=0:=nR
theorem ek5:iz sK k5 17 0 2 75900 75905=7:=nR
theorem ek6:iz sK k6 17 1 2 75900 75905=0:=nR
theorem ek7:ee sK k7 ⟨0,480,75500,20,60,10,5⟩=0:=nR
theorem ek8:ee sK k8 ⟨0,840,75150,10,50,10,4⟩=0:=nR
theorem ek9:stE sK k9 0 0 [70,20,10]=0:=nR
theorem zaC:stE sK k10 0 0 [100,0,0]=6:=nR
theorem zaW:cmE sK k11 0 1 3=7:=nR
theorem zbM:stE sK k12 0 1 [50,50,0]=0:=nR
theorem zbB:cmE sK k13 0 0 1=0:=nR
theorem zaq:cmE sK k14 0 1 3=0:=nR
end Bu
end Go.Av
namespace Go.Av
namespace Bu
open Go.Proofs Tryz
variable{G:Glob}
theorem suK:Hs.SuP sK:=Hs.suP nR
theorem smK:Hs.smB sK=true:=nR
theorem Vr:BI sK k0:=uc smK suK
theorem pA0:prP (liK 0)=some (⟨294,11,false,false,true⟩,[0,0,480,1,76000,0,0,0,0,0,0],[]):=nR
theorem Xa:BI sK k1:=BI.read Vr _ _
theorem la0:Ln sK (liK 0) k0 k1 [] 0:=wz dE pA0 fun ix M hB=>by
 obtain⟨ix',M',h1,h2,h3⟩:=lS hB suK Vr 0 ⟨0,480,1,76000,0,0,0,0,0,0⟩;rw[ek0]at h3;exact⟨ix',M',h1,h2,zas h2.le h2.lk 0 0 480 1 76000 0 0 0 0 0 0 [] h3⟩
theorem pA1:prP (liK 2)=some (⟨295,2,false,true,true⟩,[1,0],lW1):=nR
theorem Uf:BI sK k2:=by have h:=BI.wire suK Xa 1 0 lW1;rwa[cX mW1 aW.1 rfl]at h
theorem la1:Ln sK (liK 2) k1 k2 [] 0:=wz dE pA1 fun ix M hB=>by
 obtain⟨ix',M',h1,h2,h3⟩:=xM hB suK Xa 1 0 lW1 dE dE;rw[cX mW1 aW.1 rfl]at h1;rw[mM mW1 aW.1 rfl]at h3;have he:=ek1;unfold tL at he;rw[he]at h3;exact⟨ix',M',h1,h2,PW h2.le h2.lk 1 0 lW1 h3⟩
theorem pA2:prP (liK 4)=some (⟨295,2,false,true,true⟩,[1,0],lW2):=nR
theorem R1:BI sK k3:=by have h:=BI.wire suK Uf 1 0 lW2;rwa[cX mW2 aW.2.1 rfl]at h
theorem la2:Ln sK (liK 4) k2 k3 [] 7:=wz dE pA2 fun ix M hB=>by
 obtain⟨ix',M',h1,h2,h3⟩:=xM hB suK Uf 1 0 lW2 dE dE;rw[cX mW2 aW.2.1 rfl]at h1;rw[mM mW2 aW.2.1 rfl]at h3;have he:=ek2;unfold tL at he;rw[he]at h3;exact⟨ix',M',h1,h2,PW h2.le h2.lk 1 0 lW2 h3⟩
theorem pA3:prP (liK 5)=some (⟨295,2,false,true,true⟩,[1,0],lW3):=nR
theorem V9:BI sK k4:=by have h:=BI.wire suK R1 1 0 lW3;rwa[cX mW3 aW.2.2 rfl]at h
theorem la3:Ln sK (liK 5) k3 k4 [] 0:=wz dE pA3 fun ix M hB=>by
 obtain⟨ix',M',h1,h2,h3⟩:=xM hB suK R1 1 0 lW3 dE dE;rw[cX mW3 aW.2.2 rfl]at h1;rw[mM mW3 aW.2.2 rfl]at h3;have he:=ek3;unfold tL at he;rw[he]at h3;exact⟨ix',M',h1,h2,PW h2.le h2.lk 1 0 lW3 h3⟩
theorem pA4:prP (liK 6)=some (⟨296,5,false,false,true⟩,[17,0,1,75900,75905],[]):=nR
theorem Ui:BI sK k5:=BI.ship V9 17 0 1 75900 75905
theorem la4:Ln sK (liK 6) k4 k5 [] 0:=wz dE pA4 fun ix M hB=>by
 obtain⟨ix',M',h1,h2,h3⟩:=am hB suK V9 17 0 1 75900 75905;rw[ek4]at h3;exact⟨ix',M',h1,h2,O3 h2.le h2.lk 17 0 1 75900 75905 [] h3⟩
theorem pA5:prP (liK 7)=some (⟨296,5,false,false,true⟩,[17,0,2,75900,75905],[]):=nR
theorem RA:BI sK k6:=BI.ship Ui 17 0 2 75900 75905
theorem la5:Ln sK (liK 7) k5 k6 [] 7:=wz dE pA5 fun ix M hB=>by
 obtain⟨ix',M',h1,h2,h3⟩:=am hB suK Ui 17 0 2 75900 75905;rw[ek5]at h3;exact⟨ix',M',h1,h2,O3 h2.le h2.lk 17 0 2 75900 75905 [] h3⟩
theorem pA6:prP (liK 8)=some (⟨296,5,false,false,true⟩,[17,1,2,75900,75905],[]):=nR
theorem zbt:BI sK k7:=BI.ship RA 17 1 2 75900 75905
theorem la6:Ln sK (liK 8) k6 k7 [] 0:=wz dE pA6 fun ix M hB=>by
 obtain⟨ix',M',h1,h2,h3⟩:=am hB suK RA 17 1 2 75900 75905;rw[ek6]at h3;exact⟨ix',M',h1,h2,O3 h2.le h2.lk 17 1 2 75900 75905 [] h3⟩
theorem pA7:prP (liK 12)=some (⟨297,7,false,false,true⟩,[0,480,75500,20,60,10,5],[]):=nR
theorem za7:BI sK k8:=BI.rep zbt _
theorem la7:Ln sK (liK 12) k7 k8 [] 0:=wz dE pA7 fun ix M hB=>by
 obtain⟨ix',M',h1,h2,h3⟩:=cf hB ⟨0,480,75500,20,60,10,5⟩;rw[ek7]at h3;exact⟨ix',M',h1,h2,VC h2.le h2.lk 0 480 75500 20 60 10 5 [] h3⟩
theorem pA8:prP (liK 14)=some (⟨297,7,false,false,true⟩,[0,840,75150,10,50,10,4],[]):=nR
theorem zbe:BI sK k9:=BI.rep za7 _
theorem la8:Ln sK (liK 14) k8 k9 [] 0:=wz dE pA8 fun ix M hB=>by
 obtain⟨ix',M',h1,h2,h3⟩:=cf hB ⟨0,840,75150,10,50,10,4⟩;rw[ek8]at h3;exact⟨ix',M',h1,h2,VC h2.le h2.lk 0 840 75150 10 50 10 4 [] h3⟩
theorem pA9:prP (liK 18)=some (⟨298,3,true,false,true⟩,[0,0,70,20,10],[]):=nR
theorem Vt:BI sK k10:=BI.state zbe _ _ _
theorem la9:Ln sK (liK 18) k9 k10 [] 0:=wz dE pA9 fun ix M hB=>by
 obtain⟨ix',M',h1,h2,h3⟩:=kJ hB suK 0 0 [70,20,10] dE;rw[ek9]at h3;exact⟨ix',M',h1,h2,Qc h2.le h2.lk 0 0 [70,20,10] [] h3⟩
theorem zbw:prP (liK 19)=some (⟨298,3,true,false,true⟩,[0,0,100,0,0],[]):=nR
theorem bi11K:BI sK k11:=BI.state Vt _ _ _
theorem zbH:Ln sK (liK 19) k10 k11 [] 6:=wz dE zbw fun ix M hB=>by
 obtain⟨ix',M',h1,h2,h3⟩:=kJ hB suK 0 0 [100,0,0] dE;rw[zaC]at h3;exact⟨ix',M',h1,h2,Qc h2.le h2.lk 0 0 [100,0,0] [] h3⟩
theorem zbV:prP (liK 20)=some (⟨299,3,false,false,true⟩,[0,1,3],[]):=nR
theorem U7:BI sK k12:=BI.came bi11K _ _ _
theorem zb3:Ln sK (liK 20) k11 k12 [] 7:=wz dE zbV fun ix M hB=>by
 obtain⟨ix',M',h1,h2,h3⟩:=xN hB suK bi11K.un 0 1 3;rw[zaW]at h3;exact⟨ix',M',h1,h2,P0 h2.le h2.lk 0 1 3 [] h3⟩
theorem zaB:prP (liK 21)=some (⟨298,3,true,false,true⟩,[0,1,50,50,0],[]):=nR
theorem bi13K:BI sK k13:=BI.state U7 _ _ _
theorem X4:Ln sK (liK 21) k12 k13 [] 0:=wz dE zaB fun ix M hB=>by
 obtain⟨ix',M',h1,h2,h3⟩:=kJ hB suK 0 1 [50,50,0] dE;rw[zbM]at h3;exact⟨ix',M',h1,h2,Qc h2.le h2.lk 0 1 [50,50,0] [] h3⟩
theorem zba:prP (liK 22)=some (⟨299,3,false,false,true⟩,[0,0,1],[]):=nR
theorem bi14K:BI sK k14:=BI.came bi13K _ _ _
theorem zb4:Ln sK (liK 22) k13 k14 [] 0:=wz dE zba fun ix M hB=>by
 obtain⟨ix',M',h1,h2,h3⟩:=xN hB suK bi13K.un 0 0 1;rw[zbB]at h3;exact⟨ix',M',h1,h2,P0 h2.le h2.lk 0 0 1 [] h3⟩
theorem zbE:prP (liK 23)=some (⟨299,3,false,false,true⟩,[0,1,3],[]):=nR
theorem zaf:Ln sK (liK 23) k14 k15 [] 0:=wz dE zbE fun ix M hB=>by
 obtain⟨ix',M',h1,h2,h3⟩:=xN hB suK bi14K.un 0 1 3;rw[zaq]at h3;exact⟨ix',M',h1,h2,P0 h2.le h2.lk 0 1 3 [] h3⟩
theorem zaP:prP (liK 11)=some (⟨308,0,false,false,false⟩,[],[]):=nR
theorem zbf:Ln sK (liK 11) k7 k7 (Lib.join ([328].map Lib.itoa) [32]) 0:=by
 have h:=f54 (G:=GB) sK k7;rw[show k7.cost=328 from nR]at h;exact eg (qdo (liK 11) dE zaP (f94 sK k7) (zay h []) dE dE (zLb nR))
theorem zar:prP (liK 15)=some (⟨303,0,false,false,false⟩,[],[]):=nR
theorem zaS:Ln sK (liK 15) k9 k9 (Lib.join ([850,890].map Lib.itoa) [32]) 0:=by
 have h:=q27 (G:=GB) sK k9;rw[show seA (wB sK k9)=850 from nR,show seZ (wB sK k9)=890 from nR,show seE (wB sK k9)=0 from nR]at h;exact eg (qdo (liK 15) dE zar (f94 sK k9) (SA h []) dE dE (zLb nR))
theorem X7:prP (liK 16)=some (⟨304,2,false,false,false⟩,[0,865],[]):=nR
theorem zbS:Ln sK (liK 16) k9 k9 (Lib.join ([2].map Lib.itoa) [32]) 0:=by
 have h:=q29 (G:=GB) sK k9 0 865;rw[show upW (wB sK k9) 0 865=2 from nR,show upE (wB sK k9) 0 865=0 from nR]at h;exact eg (qdo (liK 16) dE X7 (f94 sK k9) (Us 0 865 h []) dE dE (zLb nR))
theorem za3:prP (liK 17)=some (⟨304,2,false,false,false⟩,[0,935],[]):=nR
theorem XU:Ln sK (liK 17) k9 k9 (Lib.join ([3].map Lib.itoa) [32]) 0:=by
 have h:=q29 (G:=GB) sK k9 0 935;rw[show upW (wB sK k9) 0 935=3 from nR,show upE (wB sK k9) 0 935=0 from nR]at h;exact eg (qdo (liK 17) dE za3 (f94 sK k9) (Us 0 935 h []) dE dE (zLb nR))
theorem X9:prP (liK 10)=some (⟨305,1,false,false,false⟩,[0],[]):=nR
theorem zbU:Ln sK (liK 10) k7 k7 (Lib.join ([17].map Lib.itoa) [32]) 0:=by
 have h:=q44 sK suK k7 (d:=0) (n:=17) dE dE nR;exact eg (qdo (liK 10) dE X9 (f94 sK k7) (zbY 0 h []) dE dE (zLb nR))
theorem QA:zS tP 238 false 1=true:=nR
theorem BJ:zO tP 240 0 0=true:=nR
theorem zb2(t:List UInt8)(hl:t.length<=200){o:Od}{x:List Int}{l:TC}(hp:prP t=some (o,x,l)){BB R:AV}{e:Int}(he:e≠0)(h88:ACall tP GB 88 [BB] (.v (.bool false)))(hq:ACall tP GB o.f [BB,eI x,Wr.eCps l] (.tup [R,ei e])):ACall tP GB 52 [BB,eS t] (.tup [eS [],ei e]):=by
 refine aC func52 ?_;refine Z10 ?_;refine yc h88 ?_;refine Z2 ?_;refine nC ?_ ?_<;>intro h0
 ·skip;exfalso;simp at h0
 ·skip;refine Z6 ?_;refine zb (vt Y Y underlying9) (Z3 ?_);refine nC ?_ ?_<;>intro h1
  ·skip;exfalso;simp at h1;omega
  ·skip;refine Z5 ?_;refine yc (OE t oM hp) ?_;refine Z3 ?_;refine zI Y Y Y Y Y Y Y G8 dO Y rF (zF Y) Y (Z10 ?_);refine nC ?_ ?_<;>intro h2
   ·skip;exfalso;simp at h2
   ·skip;refine Z4 ?_;refine zb (zf Y Y iC) (zb (zf Y Y BJ) (zb (zl Y Y Y QA) ?_));refine Z ?_;refine zb (zf Y Y cg) (zb (zl Y Y Y hU) (zb (zf Y Y pU) (zb (zl Y Y Y iu) (zb (m9 Y Y (av:=[_,_,_]) Y hq) ?_))));refine Z14 ?_;refine nC ?_ ?_<;>intro h3
    ·skip;refine Z9 ?_;exact⟨.inr Y,⟨_,Y,⟨_,_,Y,AVle.refl _,⟨_,_,Y,AVle.refl _,Y⟩⟩⟩⟩
    ·skip;exfalso;simp at h3;exact he h3
theorem zbA:prP (liK 13)=some (⟨303,0,false,false,false⟩,[],[]):=nR
theorem zbp:Ln sK (liK 13) k8 k8 [] 5:=by
 have h:=q27 (G:=GB) sK k8;rw[show seE (wB sK k8)=5 from nR]at h;exact eg (zb2 (liK 13) dE zbA dE (f94 sK k8) (SA h []))
theorem G2{b:BS}{m:Ct.Mp}{F:Ct.Fld}(hd:0<b.maps.length)(hm:m=mpD sK (b.maps.getD 0 []))(h:ACall tP G 75 [.agg (Ct.eMp m)] (.tup [.agg (Ct.eFld F),ei 0])):ACall tP G 21 [.ptr (eBu sK b),ei 0] (.tup [.agg (Ct.eFld F),ei 0]):=
 DT sK suK b (d:=0) hd nR (by rw[hm]at h;simpa[hd]using h)
def m1K:Ct.Mp:=mpD sK (k1.maps.getD 0 [])
theorem zbh:Ct.clashOf m1K=none:=nR
theorem zbL:Ct.mapB m1K=true:=nR
theorem zae:(Ct.drawF m1K).vals=[76000,76000,76000,76000]:=nR
theorem pQ1:prP (liK 1)=some (⟨300,1,false,false,false⟩,[0],[]):=nR
theorem zbx:ACall tP G 300 [.ptr (eBu sK k1),eI [0],Wr.eCps []] (.tup [eI [76000,76000,76000,76000],ei 0]):=by
 have h:=Rj (G:=G) 0 (G2 (zLb nR) rfl (Ct.f22_ok m1K ((Ct.okM_iff _).1 zbL) zbh):ACall tP G 21 [.ptr (eBu sK k1),ei 0] _) [];rw[zae]at h;exact h
theorem lq1:Ln sK (liK 1) k1 k1 (Lib.join ([76000,76000,76000,76000].map Lib.itoa) [32]) 0:=
 eg (qdo (liK 1) dE pQ1 (f94 sK k1) zbx dE dE (zLb nR))
def m2K:Ct.Mp:=mpD sK (k2.maps.getD 0 [])
theorem zaM:Ct.clashOf m2K=none:=nR
theorem zaz:Ct.mapB m2K=true:=nR
theorem zb1:(Ct.drawF m2K).vals=[76000,75902,75902,75802]:=nR
theorem pQ3:prP (liK 3)=some (⟨300,1,false,false,false⟩,[0],[]):=nR
theorem XK:ACall tP G 300 [.ptr (eBu sK k2),eI [0],Wr.eCps []] (.tup [eI [76000,75902,75902,75802],ei 0]):=by
 have h:=Rj (G:=G) 0 (G2 (zLb nR) rfl (Ct.f22_ok m2K ((Ct.okM_iff _).1 zaz) zaM):ACall tP G 21 [.ptr (eBu sK k2),ei 0] _) [];rw[zb1]at h;exact h
theorem lq3:Ln sK (liK 3) k2 k2 (Lib.join ([76000,75902,75902,75802].map Lib.itoa) [32]) 0:=
 eg (qdo (liK 3) dE pQ3 (f94 sK k2) XK dE dE (zLb nR))
def m7K:Ct.Mp:=mpD sK (k7.maps.getD 0 [])
theorem zbv:Ct.clashOf m7K=none:=nR
theorem zag:Ct.mapB m7K=true:=nR
theorem zbz:(Ct.drawF m7K).vals=[76000,75902,75902,75810]:=nR
theorem pQ9:prP (liK 9)=some (⟨300,1,false,false,false⟩,[0],[]):=nR
theorem zbN:ACall tP G 300 [.ptr (eBu sK k7),eI [0],Wr.eCps []] (.tup [eI [76000,75902,75902,75810],ei 0]):=by
 have h:=Rj (G:=G) 0 (G2 (zLb nR) rfl (Ct.f22_ok m7K ((Ct.okM_iff _).1 zag) zbv):ACall tP G 21 [.ptr (eBu sK k7),ei 0] _) [];rw[zbz]at h;exact h
theorem lq9:Ln sK (liK 9) k7 k7 (Lib.join ([76000,75902,75902,75810].map Lib.itoa) [32]) 0:=
 eg (qdo (liK 9) dE pQ9 (f94 sK k7) zbN dE dE (zLb nR))
end Bu
end Go.Av
end
