import Derived.Test.YtigbomcjnlikjaaGreatDoorLaC
import Derived.Test.YtigbomcjnlikjaaGreatDoorPlatN
set_option linter.unusedVariables false
set_option linter.unusedSimpArgs false
set_option maxRecDepth 100000
set_option maxHeartbeats 9000000
section
namespace Go.Av
namespace Ct
open Go.Proofs Tryz
theorem BH{p:Nat->Nat->Bool}{n:Nat}(h:vb p n=none){a b:Nat}(hab:a<b)(hb:b<n):p a b=false:=by
 unfold vb at h;rw[List.findSome?_eq_none_iff]at h;have h1:=h a (List.mem_range.2 oM);rw[Option.map_eq_none_iff,List.find?_range_eq_none]at h1;have h2:=h1 b hb;simpa[hab]using h2
theorem mX(w a:Int):jC w a a=0:=by unfold jC eC;simp
theorem uJ(w a b:Int):jC w a b=jC w b a:=by unfold jC eC;omega
variable{s:Stn}{l:List Stn}
theorem NP{m:Mp}(hm:okM m)(hc:clashOf m=none){t:Stn}(hs:s∈m.st)(ht:t∈m.st):s.lo-m.slope*jC m.wide s.pt t.pt<=t.hi:=by
 obtain⟨a,ha,rfl⟩:=List.getElem_of_mem hs;obtain⟨b,hb,rfl⟩:=List.getElem_of_mem ht
 have key:∀x y:Nat,(hx:x<m.st.length)->(hy:y<m.st.length)->x<y->m.st[x].lo-m.slope*jC m.wide m.st[x].pt m.st[y].pt<=m.st[y].hi/\m.st[y].lo-m.slope*jC m.wide m.st[x].pt m.st[y].pt<=m.st[x].hi:=fun x y hx hy hxy=>by
  have:=BH hc hxy hy;rw[hZ hx hy]at this;unfold apartB at this;simp only[Bool.or_eq_false_iff,decide_eq_false_iff_not]at this;omega
 rcases Nat.lt_trichotomy a b with h|h|h
 ·exact(key a b ha hb h).1
 ·subst h;rw[mX];have:=hm.2.2.2.2.2.2.2 _ hs;omega
 ·have:=(key b a hb ha h).2;rw[uJ];exact this
theorem XY{w sl p lo hi:Int}(hs:s∈l)(e:s.pt=p)(hlo:s.lo=lo)(h0:0<=hi)(h:∀t∈l,t.lo-sl*jC w p t.pt<=hi):lo<=kE w sl p l/\kE w sl p l<=hi:=by
 subst e;subst hlo;refine⟨?_,w9 _ (fun b=>b<=hi) l 0 h0 fun b t ht hb=>by have:=h t ht;omega⟩;unfold kE
 have key:∀(l:List Stn)(b:Int),b<=l.foldl (fun a t=>max a (t.lo-sl*jC w s.pt t.pt)) b:=fun l=>by
  induction l with
  |nil=>intro b;exact Int.le_refl _
  |cons t l ih=>intro b;exact Int.le_trans (Int.le_max_left _ _) (ih _)
 have key2:∀(l:List Stn)(b:Int),s∈l->s.lo<=l.foldl (fun a t=>max a (t.lo-sl*jC w s.pt t.pt)) b:=fun l=>by
  induction l with
  |nil=>intro b h;cases h
  |cons t l ih=>
   intro b h;rcases List.mem_cons.1 h with rfl|h
   ·refine Int.le_trans ?_ (key l _);have:=mX w s.pt;show s.lo<=max b (s.lo-sl*jC w s.pt s.pt);rw[this];omega
   ·exact ih _ h
 exact key2 l 0 hs
theorem zbs{w sl p lo hi:Int}(hs:s∈l)(e:s.pt=p)(hhi:s.hi=hi)(h0:lo<=99999)(h:∀t∈l,lo<=t.hi+sl*jC w p t.pt):lo<=kF w sl p l/\kF w sl p l<=hi:=by
 subst e;subst hhi;refine⟨w9 _ (fun b=>lo<=b) l 99999 h0 fun b t ht hb=>by have:=h t ht;omega,?_⟩;unfold kF
 have key:∀(l:List Stn)(b:Int),l.foldl (fun a t=>min a (t.hi+sl*jC w s.pt t.pt)) b<=b:=fun l=>by
  induction l with
  |nil=>intro b;exact Int.le_refl _
  |cons t l ih=>intro b;exact Int.le_trans (ih _) (Int.min_le_left _ _)
 have key2:∀(l:List Stn)(b:Int),s∈l->l.foldl (fun a t=>min a (t.hi+sl*jC w s.pt t.pt)) b<=s.hi:=fun l=>by
  induction l with
  |nil=>intro b h;cases h
  |cons t l ih=>
   intro b h;rcases List.mem_cons.1 h with rfl|h
   ·refine Int.le_trans (key l _) ?_;have:=mX w s.pt;show min b (s.hi+sl*jC w s.pt s.pt)<=s.hi;rw[this];omega
   ·exact ih _ h
 exact key2 l 99999 hs
theorem draw_st{m:Mp}(hm:okM m)(hc:clashOf m=none)(hs:s∈m.st):s.pt.toNat<(drawF m).vals.length/\s.lo<=(drawF m).vals.getD s.pt.toNat 0/\(drawF m).vals.getD s.pt.toNat 0<=s.hi:=by
 have h8:=hm.2.2.2.2.2.2.2 s hs;have hn:=kO hm;have hp:s.pt.toNat<npt m:=oM;have e:((s.pt.toNat:Nat):Int)=s.pt:=oM;have h1:=XY (w:=m.wide) (sl:=m.slope) hs rfl rfl (by omega:0<=s.hi) fun t ht=>by have:=NP hm hc ht hs;rw[uJ];exact this
 have h2:=zbs (w:=m.wide) (sl:=m.slope) hs rfl rfl (by omega:s.lo<=99999) fun t ht=>by have:=NP hm hc hs ht;omega
 have hv:(drawF m).vals.getD s.pt.toNat 0=(kE m.wide m.slope s.pt m.st+kF m.wide m.slope s.pt m.st)/2:=by
  simp only[drawF,lG];rw[zLv,zLq,List.getElem?_range hp];simp[e]
 refine⟨by simp[drawF,lG,hp],?_⟩;rw[hv];omega
end Ct
namespace Bu
open Go.Proofs Tryz
variable{s:Hs.Sut}{b:BS}
def stnA(s:Hs.Sut)(a:Ac):Ct.Stn:=
 if a.w=3 then⟨a.n.getD 2 0,a.n.getD 3 0,a.n.getD 4 0⟩
 else if a.w=1 then⟨(yO s (a.n.getD 0 0)).pt,gi s (a.n.getD 0 0) (rdgA a.n),mw s (a.n.getD 0 0) (rdgA a.n)⟩
 else⟨(yO s (a.n.getD 0 0)).pt,(wrV s a.c).1,(wrV s a.c).2⟩
where rdgA (n:List Int):Rdg:=⟨n.getD 1 0,n.getD 2 0,n.getD 3 0,n.getD 4 0,n.getD 5 0,n.getD 6 0,n.getD 7 0,n.getD 8 0,n.getD 9 0,n.getD 10 0⟩
structure OnA(s:Hs.Sut)(b:BS)(a:Ac):Prop where
 day:Hs.inB (a.n.getD 1 0) 0 (s.days-1)=true
 mem:stnA s a∈jw b (a.n.getD 1 0)
 ix:a.w≠3->Hs.inB (a.n.getD 0 0) 0 ((s.st.length:Int)-1)=true
 rd:a.w=1->rdB (stnA.rdgA a.n)=true
 wr:a.w=2->Wr.fndE s.code a.c=0
structure PI(s:Hs.Sut)(b:BS)(D:List Ac):Prop where
 on:∀a∈D,a.w<=3->OnA s b a
 ok:∀l∈b.maps,l≠[]->drB (mpD s l)=true
variable{b':BS}{a:Ac}{d:Nat}{D:List Ac}
theorem OnA.mono(h:OnA s b a)(hm:∀x∈jw b (a.n.getD 1 0),x∈jw b' (a.n.getD 1 0)):OnA s b' a:=⟨h.day,hm _ h.mem,h.ix,h.rd,h.wr⟩
theorem Rq(t:Ct.Stn)(hd:d<b.maps.length)(k:Int):jw (b.put d t) k=if k.toNat=d then jw b d++[t]else jw b k:=by
 by_cases e:k.toNat=d
 ·rw[zLc e,yI hd];unfold jw BS.put;rw[e];simp[hd]
 ·rw[zLy e];unfold jw BS.put;rw[zLv,zLn oM,zLv]
theorem PI.same(h:PI s b D)(e:b'.maps=b.maps)(h3:¬a.w<=3):PI s b' (D++[a]):=by
 refine⟨fun x hx hw=>?_,by rw[e];exact h.ok⟩;rcases List.mem_append.1 hx with hx|hx
 ·exact(h.on x hx hw).mono (by unfold jw;rw[e];exact fun _ h=>h)
 ·rw[zLh]at hx;subst hx;exact absurd hw h3
theorem PI.put(h:PI s b D)(hd:d<b.maps.length)(ed:(a.n.getD 1 0).toNat=d){t:Ct.Stn}(et:stnA s a=t)(e:b'.maps=(b.put d t).maps)(hdr:drB (wiM s (jw b d) t.pt t.lo t.hi)=true)
  (h1:Hs.inB (a.n.getD 1 0) 0 (s.days-1)=true) (h2:a.w≠3->Hs.inB (a.n.getD 0 0) 0 ((s.st.length:Int)-1)=true) (h3:a.w=1->rdB (stnA.rdgA a.n)=true) (h4:a.w=2->Wr.fndE s.code a.c=0):PI s b' (D++[a]):=by
 have em:∀k:Int,jw b' k=if k.toNat=d then jw b d++[t]else jw b k:=fun k=>by
  rw[←Rq t hd k];unfold jw;rw[e]
 refine⟨fun x hx hw=>?_,fun l hl hn=>?_⟩
 ·rcases List.mem_append.1 hx with hx|hx
  ·refine(h.on x hx hw).mono fun y hy=>?_;rw[em];split
   ·rename_i e2
    refine List.mem_append_left _ ?_;unfold jw at hy⊢;rw[e2]at hy;simpa using hy
   ·exact hy
  ·rw[zLh]at hx;subst hx;exact⟨h1,by rw[em,zLc ed,et];simp,h2,h3,h4⟩
 ·rw[e]at hl;simp only[BS.put]at hl;rcases List.mem_or_eq_of_mem_set hl with hl|hl
  ·exact h.ok l hl hn
  ·subst hl;simpa[wiM,jw]using hdr
theorem PI.do(hI:BI s b)(h:PI s b D)(hf:foB a=true)(h0:(doS s b a).1=0):PI s (doS s b a).2 (D++[a]):=by
 obtain⟨hw,⟨hc,hg⟩,hn⟩:=vm hf;obtain⟨w,n,c⟩:=a;simp only at hw hc hg hn;have hw2:w=1∨w=2∨w=3∨w=4∨w=5∨w=6:=oM;rcases hw2 with rfl|rfl|rfl|rfl|rfl|rfl
 ·match n,hn with
  |[x0,x1,x2,x3,x4,x5,x6,x7,x8,x9,x10],_=>
   have e:rdE s b x0 ⟨x1,x2,x3,x4,x5,x6,x7,x8,x9,x10⟩=0:=by simpa[doS]using h0
   obtain⟨e1,_,_,e4⟩:=jA e;simp only[rdR,zLa,zLd]at e1 e4;obtain⟨k,hk,hk2,_⟩:=wJ hI e1.1.2;have hk:x1=(k:Int):=hk;subst hk;refine h.put (d:=k) (t:=⟨(yO s x0).pt,gi s x0 ⟨k,x2,x3,x4,x5,x6,x7,x8,x9,x10⟩,mw s x0 ⟨k,x2,x3,x4,x5,x6,x7,x8,x9,x10⟩⟩) hk2 sI Y ?_ e4.2 e1.1.2 (fun _=>e1.1.1) (fun _=>e1.2) (fun h=>by simp at h);show(rdS s b x0 ⟨k,x2,x3,x4,x5,x6,x7,x8,x9,x10⟩).maps=_;unfold rdS;rw[zLc e];simp[BS.put,BS.act]
 ·match n,hn with
  |[x0,x1],_=>
   have e:wrE s b x0 x1 c=0:=by simpa[doS]using h0
   obtain⟨e1,_,_,e4⟩:=jA e;simp only[wrR,zLa,zLd]at e1 e4;obtain⟨k,hk,hk2,_⟩:=wJ hI e1.1.2;subst hk;refine h.put (d:=k) (t:=⟨(yO s x0).pt,(wrV s c).1,(wrV s c).2⟩) hk2 sI Y ?_ e4.2 e1.1.2 (fun _=>e1.1.1) (fun h=>by simp at h) (fun _=>e4.1);show(wrS s b x0 k c).maps=_;unfold wrS;rw[zLc e];simp[BS.put,BS.act,BS.pay]
 ·match n,hn with
  |[x0,x1,x2,x3,x4],_=>
   have e:iz s b x0 x1 x2 x3 x4=0:=by simpa[doS]using h0
   obtain⟨e1,_,_,e4⟩:=jA e;simp only[shR,zLa,zLd]at e1 e4;obtain⟨k,hk,hk2,_⟩:=wJ hI e1.1.1.1.1.2;subst hk;refine h.put (d:=k) (t:=⟨x2,x3,x4⟩) hk2 sI Y ?_ e4.2 e1.1.1.1.1.2 (fun h=>absurd Y h) (fun h=>by simp at h) (fun h=>by simp at h);show(aw s b x0 k x2 x3 x4).maps=_;unfold aw;rw[zLc e];simp[BS.put,BS.act,BS.ship]
 ·match n,hn with
  |[x0,x1,x2,x3,x4,x5,x6],_=>
   refine h.same ?_ sI;show(wW s b ⟨x0,x1,x2,x3,x4,x5,x6⟩).maps=b.maps;unfold wW;split<;>rfl
 ·match n,hn with
  |x0::x1::l,hn=>
   refine h.same ?_ sI;show(stB s b x0 x1 l).maps=b.maps;unfold stB;split<;>rfl
 ·match n,hn with
  |[x0,x1,x2],_=>
   refine h.same ?_ sI;show(cmB s b x0 x1 x2).maps=b.maps;unfold cmB;split<;>rfl
theorem PI.run(hS:Hs.SuP s)(hI:BI s b)(h:PI s b []){l:List Ac}(hf:∀a∈l,foB a=true):∀k,k<=l.length->PI s (yg s b l k) (ja s b l k)
 |0,_=>h
 |k+1,hk=>by
  have h1:=PI.run hS hI h hf k oM;have ha:foB (l.getD k ac0)=true:=hf _ (by simp[show k<l.length by omega]);show PI s (doS s (yg s b l k) (l.getD k ac0)).2 _;simp only[ja];split
  ·rename_i e;exact h1.do (aM hS hI l k) ha e
  ·rename_i e;rw[AU ha e];exact h1
theorem zaG:PI s (b0 s d) []:=⟨fun a ha=>by simp at ha,fun l hl hn=>by simp only[b0]at hl;exact absurd (List.eq_of_mem_replicate hl) hn⟩
theorem PI.draw(hI:BI s b)(h:PI s b D)(ha:a∈D)(hw:a.w<=3):∃d:Nat,a.n.getD 1 0=(d:Int)/\∃hd:d<b.maps.length,Hs.inB (d:Int) 0 (s.days-1)=true/\Ct.okM (mpD s b.maps[d])/\Ct.clashOf (mpD s b.maps[d])=none/\
  (stnA s a).pt.toNat<(Ct.drawF (mpD s b.maps[d])).vals.length/\0<=(stnA s a).pt/\(stnA s a).lo<=(Ct.drawF (mpD s b.maps[d])).vals.getD (stnA s a).pt.toNat 0/\(Ct.drawF (mpD s b.maps[d])).vals.getD (stnA s a).pt.toNat 0<=(stnA s a).hi:=by
 have ho:=h.on a ha hw;obtain⟨d,e,hd,_⟩:=wJ hI ho.day;have hm:=ho.mem;rw[e,yI hd]at hm;have hk:=h.ok _ (zLm hd) (List.ne_nil_of_mem hm);simp only[drB,zLa,Option.isNone_iff_eq_none]at hk;have hok:=(Ct.okM_iff _).1 hk.1;obtain⟨h1,h2,h3⟩:=Ct.draw_st hok hk.2 (s:=stnA s a) hm;exact⟨d,e,hd,e▸ho.day,hok,hk.2,h1,(hok.2.2.2.2.2.2.2 _ hm).1,h2,h3⟩
end Bu
end Go.Av
namespace Go.Av
namespace Bu
open Go.Proofs Tryz
theorem Jq{a b:List Int}(h:ltL b a=false)(ha:0<a.length)(hb:0<b.length):a.getD 0 0<=b.getD 0 0:=by
 match a,b,ha,hb with
 |x::xs,y::ys,_,_=>
  simp only[ltL]at h
  by_cases e:y=x
  ·simp[e]
  ·rw[zLy e]at h;simp at h⊢;omega
variable{L:List (List Int)}
theorem HH(hs:vJ L)(hn:∀m∈L,0<m.length){i j:Nat}(hij:i<=j)(hj:j<L.length):h0L L i<=h0L L j:=by
 by_cases e:i=j
 ·subst e;exact Int.le_refl _
 ·have h1:=(List.pairwise_iff_getElem.1 hs) i j oM hj oM;have:=Jq h1 (hn _ (zLm _)) (hn _ (zLm _));simpa[h0L,show i<L.length by omega,hj]using this
theorem Xx{z:Int × Int}(hs:vJ L)(hn:∀m∈L,0<m.length):∀n,n<L.length->h0L L 0<=(foV L z (n+1)).1/\(foV L z (n+1)).2<=h0L L n
 |0,_=>by simp only[foV,if_true];omega
 |n+1,h=>by
  obtain⟨h1,h2⟩:=Xx (z:=z) hs hn n oM;have h3:=HH hs hn (i:=0) (j:=n+1) oM h;have h4:=HH hs hn (i:=n) (j:=n+1) oM h;simp only[foV]at h1 h2⊢;rw[zLy oM];omega
theorem Jk{s:Hs.Sut}(hc:Wr.codB s.code=true){l:TC}(h:Wr.fndE s.code l=0):
  0<(Wr.fndL s.code l).length/\(∀m∈Wr.fndL s.code l,0<m.length)/\h0L (Wr.fndL s.code l) 0<=(wrV s l).1/\(wrV s l).2<=h0L (Wr.fndL s.code l) ((Wr.fndL s.code l).length-1):=by
 have hn:=Ft (l:=l) hc
 have h0:Wr.fndL s.code l=Wr.msgs s.code l/\Wr.msgs s.code l≠[]:=by
  unfold Wr.fndE at h
  by_cases h0:Wr.askE s.code l=0
  ·rw[zLc h0]at h;refine⟨by unfold Wr.fndL;rw[zLc h0],fun e=>?_⟩;rw[zLc e]at h;cases h
  ·rw[zLy h0]at h;exact absurd h h0
 have hs:vJ (Wr.fndL s.code l):=by rw[h0.1];exact cC _
 have hp:0<(Wr.fndL s.code l).length:=by rw[h0.1];exact List.length_pos_iff.2 h0.2
 have:=Xx (z:=(0,0)) hs hn ((Wr.fndL s.code l).length-1) oM;refine⟨hp,hn,?_⟩;unfold wrV;rw[show(Wr.fndL s.code l).length-1+1=(Wr.fndL s.code l).length by omega]at this;exact this
end Bu
end Go.Av
namespace Go.Av
namespace Bu
open Go.Proofs Tryz
variable{G:Glob}
theorem Pq:zS tP 48 true 3=true:=nR
def onB(a:Ac):Bool:=decide (a.w<=3)
def onL(l:List Ac):List Ac:=l.filter onB
variable{l:List Ac}{k:Nat}{s:Hs.Sut}{L:List (List Int)}
theorem Ie(h:k<l.length):onL (l.take (k+1))=onL (l.take k)++(if l[k].w<=3 then[l[k]]else[]):=by
 unfold onL;rw[zLt h,List.filter_append]
 by_cases e:l[k].w<=3<;>simp[onB,e]
theorem Iw(k:Nat):(onL (l.take k)).length<=k:=zL6 (List.length_filter_le _ _) (by rw[List.length_take];omega)
theorem Ro(h:k<l.length)(e:l[k].w<=3):PO.row (rAc (onL (l.take k))++[(eAc l[k]).map .pub])=.row (rAc (onL (l.take (k+1)))):=by
 rw[Ie h,zLc e,F8]
theorem NK(h:k<l.length)(e:¬l[k].w<=3):onL (l.take k)=onL (l.take (k+1)):=by
 rw[Ie h,zLy e,List.append_nil]
theorem NF{M:TP}{K:Nat}(h:M[K]?=some (.row (rAc l))):DV M (.psl K l.length) (.sl (l.map eAc)):=
 .psl h jm (by rw[show rAc l=(l.map eAc).map (·.map .pub) from by rw[List.map_map];rfl];exact DVR.pubs _)
theorem RB(h:k<l.length)(e:l[k].w<=3):(onL (l.take k)).length+1=(onL (l.take (k+1))).length:=by
 rw[Ie h,zLc e,List.length_append];rfl
theorem f16(l:List Ac)(hl:l.length<=1000):ACall tP G 16 [.sl (l.map eAc)] (.sl ((onL l).map eAc)):=by
 have hll:(l.map eAc).length=l.length:=sI;refine aC func16 ?_;refine Z12 ?_;refine zt (yZ 3 Y) ?_;refine Z5 ?_;refine zD (ι:={k:Nat//k<=l.length}) (fun k=>⟨Tryz.f16.ntmps,frL [(0,.pub (.sl (l.map eAc))),(3,.psl 0 (onL (l.take k.1)).length),(4,I (k.1:Int))],[.row (rAc (onL (l.take k.1)))]⟩) (fun k=>l.length-k.1) (⟨0,oM⟩) ?_ ?_
 ·exact zd _ rL (Y)
 ·rintro⟨k,hk⟩;dsimp only;refine Z5 ?_;refine zb (zM Y Y Y underlying38) (Z3 ?_);refine nC ?_ ?_<;>intro h0
  ·skip;have hlt:k<l.length:=by rw[hll]at h0;simpa using h0
   refine Z8 ?_;refine zb (zc Y Y Y sA oM (by exact Hs.mp_at (e:=eAc) hlt) (Hs.mp_len fun _=>rfl)) ?_;refine zb (zf Y Y rh) (zb (zl Y Y Y ki) ?_);refine Z3 ?_;refine nC ?_ ?_<;>intro h1
   ·skip;have h3:l[k].w<=3:=by simpa using h1
    refine Z4 ?_;refine zb (zc Y Y Y sA oM (by exact Hs.mp_at (e:=eAc) hlt) (Hs.mp_len fun _=>rfl)) ?_;refine zb (qk Y Y Pq bL) ?_;refine zb (zw (size:=3) (rows:=[[_,_,_]]) Y underlying38 OY Y dE Y dE ⟨_,_,Y,zF Y,Y⟩ rF (by simp[ofV,Wr.eCps]) Y (by simp[Wr.eCps])) ?_;refine zm Y (wn Y Y Y Y jm Y X0 lW (by intro r hr;simp at hr;subst hr;rfl) (by have:=Iw (l:=l) k;simp;omega) (by have:=Iw (l:=l) k;unfold maxLen;simp;omega)) (Z9 ?_);exact⟨⟨k+1,oM⟩,by dsimp only;omega,zd _ ⟨Y,(zLz (EV.psl 0) (RB hlt h3)),Y,trivial⟩ ((zLz (fun x=>[x]) (Ro hlt h3)))⟩
   ·skip;have h3:¬l[k].w<=3:=by simpa using h1
    refine Z8 ?_;exact⟨⟨k+1,oM⟩,by dsimp only;omega,zd _ ⟨Y,(zLz (EV.psl 0) (zLz List.length (NK hlt h3))),Y,trivial⟩ ((zLz (fun x=>[PO.row (rAc x)]) (NK hlt h3)))⟩
  ·skip;have hge:k=l.length:=by rw[hll]at h0;simp at h0;omega
   refine Z6 ?_;refine zt (zd [(3,.psl 0 (onL l).length)] ⟨(by show EV.psl 0 (onL (l.take k)).length=_;rw[hge,List.take_length]),trivial⟩ (by show[PO.row (rAc (onL (l.take k)))]=_;rw[hge,List.take_length])) ?_;refine zt (yH (l:=[(3,.psl 0 (onL l).length)]) (mem:=[.row (rAc (onL l))]) (l':=[(3,.sl ((onL l).map eAc))]) ⟨Y,NF Y,trivial⟩) ?_;refine Z6 ?_;exact aR
theorem f22(w:Int)(vs:List Int)(p:Int)(h0p:0<=p)(hp:p.toNat<vs.length):ACall tP G 22 [.agg [ei w,eI vs],ei p] (.tup [ei vs[p.toNat],.v (.bool true)]):=by
 have hvl:(vs.map fun n=>[ei n]).length=vs.length:=sI;refine aC func22 ?_;refine Z14 ?_;refine zh Y (fun hg=>zf Y Y uT) (zh Y (fun hg=>zl Y (zLc hg) Y hU) (zh Y (fun hg=>zM Y Y (zLc hg) underlying24) ?_));refine Z4 ?_;refine nC ?_ ?_<;>intro h0
 ·skip;exfalso;simp at h0;omega
 ·skip;refine Z4 ?_;refine zb (zf Y Y uT) (zb (zl Y Y Y hU) ?_);refine Z ?_;refine zb (zc Y Y Y zY oM (by exact zA (ds:=vs) (i:=p.toNat) oM) zn) ?_;refine zb (zl Y Y Y ki) (Z5 ?_);exact⟨.inr Y,⟨_,Y,⟨_,_,Y,AVle.refl _,⟨_,_,Y,AVle.refl _,Y⟩⟩⟩⟩
theorem Aq:qV tP 22 10=true:=nR
theorem tY:zS tP 22 false 1=true:=nR
def dvL(s:Hs.Sut)(b:BS)(a:Ac):List Int:=(Ct.drawF (mpD s (jw b (a.n.getD 1 0)))).vals
structure PaP(G:Glob)(s:Hs.Sut)(b:BS)(a:Ac):Prop where
 n2:2<=a.n.length
 n5:a.w=3->a.n.length=5
 n11:a.w=1->a.n.length=11
 w:a.w=1∨a.w=2∨a.w=3
 cp:a.c.length<=1000/\∀g∈a.c,g.length<=1000
 h21:ACall tP G 21 [.ptr (eBu s b),ei (a.n.getD 1 0)] (.tup [.agg [ei s.wide,eI (dvL s b a)],ei 0])
 p0:0<=(stnA s a).pt
 pl:(stnA s a).pt.toNat<(dvL s b a).length
 lo:(stnA s a).lo<=(dvL s b a).getD (stnA s a).pt.toNat 0
 hi:(dvL s b a).getD (stnA s a).pt.toNat 0<=(stnA s a).hi
 on:OnA s b a
theorem UX(hS:Hs.SuP s){b:BS}(hI:BI s b){D:List Ac}(h:PI s b D)(hf:∀a∈D,foB a=true)(h3:∀a∈D,a.w<=3){a:Ac}(ha:a∈D):PaP G s b a:=by
 obtain⟨hw,⟨hc,hg⟩,hn⟩:=vm (hf a ha);have hw3:=h3 a ha;obtain⟨d,e,hd,hin,hok,hcl,h1,h2,h4,h5⟩:=h.draw hI ha hw3;have em:jw b (a.n.getD 1 0)=b.maps[d]:=by rw[e,yI hd]
 have hw5:¬a.w=5:=oM;rw[zLy hw5]at hn;refine⟨?_,fun w=>?_,fun w=>?_,oM,⟨oM,fun g hg2=>by have:=hg g hg2;omega⟩,?_,h2,?_,?_,?_,h.on a ha hw3⟩
 ·unfold nmN at hn;split at hn<;>(try split at hn)<;>(try split at hn)<;>(try split at hn)<;>omega
 ·rw[w]at hn;simp[nmN]at hn;omega
 ·rw[w]at hn;simp[nmN]at hn;omega
 ·have hq:=DT (G:=G) s hS b hd hin (Ct.f22_ok _ hok hcl);rw[e];unfold dvL;rw[em];exact hq
 ·unfold dvL;rw[em];exact h1
 ·unfold dvL;rw[em];exact h4
 ·unfold dvL;rw[em];exact h5
structure PsP(G:Glob)(s:Hs.Sut)(l:List Ac)(M:TP)(K:Nat)(b:BS)(D:List Ac):Prop where
 sp:Hs.SuP s
 l66:l.length<=66
 dv:DV M (.pp 5 1 0 0) (.ptr (eBu s b))
 dn:M[K]?=some (.row (rAc D))
 c15:zv tP G 15 [.pub (.agg (Hs.eSut s)),.pub (.sl ((onL l).map eAc))] [] (.ret (.tpl [.pp 5 1 0 0,.psl K D.length,.pub (.v (.bool true))]) M)
 pa:∀a∈D,PaP G s b a
 d66:D.length<=66
theorem hY{b:BS}:∀k,k<=l.length->∀a∈ja s b l k,a∈l
 |0,_,a,ha=>by simp[ja]at ha
 |k+1,hk,a,ha=>by
  have hm:l.getD k ac0∈l:=by simp[show k<l.length by omega]
  simp only[ja]at ha;split at ha
  ·rcases List.mem_append.1 ha with ha|ha
   ·exact hY k oM a ha
   ·rw[zLh]at ha;subst ha;exact hm
  ·exact hY k oM a ha
theorem JH(s:Hs.Sut)(l:List Ac):∃(M:TP)(K:Nat)(b:BS)(D:List Ac),(Hs.smB s=true/\Hs.suB s=true/\brB l=true)->PsP G s l M K b D:=by
 by_cases h:Hs.smB s=true/\Hs.suB s=true/\brB l=true
 ·obtain⟨hsm,hsu,hb⟩:=h;have hS:=Hs.suP hsu;obtain⟨hfo,hl⟩:=fF hb
  have hon:∀a∈onL l,a∈l/\a.w<=3:=fun a ha=>by
   obtain⟨h1,h2⟩:=List.mem_filter.1 ha;exact⟨h1,by simpa[onB]using h2⟩
  have hol:(onL l).length<=l.length:=List.length_filter_le _ _
  have hb2:brB (onL l)=true:=by
   simp only[brB,zLa,zLu,zLd];exact⟨fun a ha=>hfo a (hon a ha).1,oM⟩
  have hfo2:∀a∈onL l,foB a=true:=fun a ha=>hfo a (hon a ha).1;obtain⟨M,ix,K,hbu,hrow,hdo,hq⟩:=eE (G:=G) hsm hS hb2;have hdl:=v7 s (b0 s s.days.toNat) (onL l) (onL l).length;have hpi:=PI.run hS (uc hsm hS) zaG hfo2 (onL l).length (zLl _);have hmm:=hY (s:=s) (b:=b0 s s.days.toNat) (l:=onL l) (onL l).length (zLl _);exact⟨M,K,_,_,fun _=>⟨hS,hl,by rw[←hrow];exact hbu.dv,hdo,hq,fun a ha=>UX hS (aM hS (uc hsm hS) _ _) hpi (fun a ha=>hfo2 a (hmm a ha)) (fun a ha=>(hon a (hmm a ha)).2) ha,oM⟩⟩
 ·exact⟨[],0,b0 s 0,[],fun h2=>absurd h2 h⟩
theorem gd0{l:List Int}{i:Nat}(h:i<l.length):l.getD i 0=l[i]:=by simp[h]
theorem XW{n:List Int}(h:n.length=11):ACall tP G 24 [eI n] (.agg (qF (stnA.rdgA n))):=by
 match n,h with
 |[x0,x1,x2,x3,x4,x5,x6,x7,x8,x9,x10],_=>exact f40 x0 x1 x2 x3 x4 x5 x6 x7 x8 x9 x10
theorem M7(h:0<L.length):(L.map fun m=>[Wr.eInts m])[((((L.map fun m=>[Wr.eInts m]).length:Nat):Int)-1).toNat]?=some [Wr.eInts (L[L.length-1]'oM)]:=by
 have e:((((L.map fun m=>[Wr.eInts m]).length:Nat):Int)-1).toNat=L.length-1:=sI;rw[e,zLq,zLe oM];rfl
theorem RQ(hk:k<L.length)(hp:0<(L[k]).length):h0L L k=(L[k])[0]:=by simp[h0L,hk,hp]
theorem O8{i:Int}(h:Hs.inB i 0 ((s.st.length:Int)-1)=true):0<=i/\∃h:i.toNat<s.st.length,yO s i=s.st[i.toNat]:=by
 rw[Hs.inB_iff]at h;exact⟨h.1,oM,by unfold yO;simp[show i.toNat<s.st.length by omega]⟩
theorem f4(h14:ACall tP G 14 [] (.v (.bool true)))(s:Hs.Sut)(l:List Ac):ACall tP G 4 [.agg (Hs.eSut s),.sl (l.map eAc)] (.v (.bool true)):=by
 obtain⟨M,K,b5,D5,hp⟩:=JH (G:=G) s l;refine aC func4 ?_;refine Z9 ?_;refine zb (qk Y Y EP bL) ?_;refine yc (f17 s) ?_;refine Z2 ?_;refine zh Y (fun hg=>qk Y Y EP bL) ?_;refine zh Y (fun hg=>zi (av:=[_]) Y ⟨((by first|exact Y|exact(zLc hg))),trivial⟩ (Hs.f7 s (by simpa using hg))) ?_;refine zh Y (fun hg=>q0 Y ((zLc hg))) (zb (ju Y Y Y Y) ?_);refine Z2 ?_;refine zh Y (fun hg=>zi (av:=[_]) Y ⟨((by first|exact Y|exact(zLc hg))),trivial⟩ (f19 l)) ?_;refine zh Y (fun hg=>q0 Y ((zLc hg))) (zb (ju Y Y Y Y) ?_);refine Z2 ?_;refine nC ?_ ?_<;>intro h0
 ·skip;refine Z2 ?_;refine yc h14 ?_;refine Z5 ?_;exact aR
 ·skip;refine zt (zd (mem':=[]) [(1,.pub (.sl (l.map eAc))),(2,.pub (.ptr (Hs.eSut s)))] ?_ ?_) ?_
  ·exact rL
  ·exact Y
  have h0s:Hs.smB s=true/\Hs.suB s=true/\brB l=true:=by
   simp at h0;exact⟨h0.1.1,h0.1.2,h0.2⟩
  have hf:=hp h0s;have hl66:=hf.l66;have hd66:=hf.d66
  have hcd:s.code.fields.length<=1000/\s.code.turns.length<=1000:=by
   have h1:=(Wr.cod_bd hf.sp.code).1;have h2:=hf.sp.code;simp only[Wr.codB,zLa,zLd,beq_iff_eq]at h2;omega
  refine Z3 ?_;refine qd (fun _=>True) (fun k=>match k with|1=>.stable|3=>.writes|4=>.stable|5=>.stable|6=>.stable|7=>.stable|8=>.stable|9=>.stable|10=>.stable|_=>.here) mixed nR rfl nR trivial ?_;refine zK Y Y (qk Y Y EP bL) (Z ?_);refine zK Y Y (zi (av:=[_]) Y rL (f16 l oM)) (qw Y Y (vS (av:=[.pub (.agg (Hs.eSut s)),.pub (.sl ((onL l).map eAc))]) Y rL hf.c15 (Nat.zero_le _) (fun l h=>absurd h (Nat.not_lt_zero _))) trivial ?_);refine Z11 ?_;refine zt (zd [(1,.pub (.sl (l.map eAc))),(2,.pub (.ptr (Hs.eSut s))),(5,.pp 5 1 0 0),(6,.psl K D5.length),(7,.pub (.v (.bool true)))] ⟨Y,Y,Y,Y,Y,trivial⟩ Y) ?_;refine zt (yH (l:=[(1,.pub (.sl (l.map eAc))),(2,.pub (.ptr (Hs.eSut s))),(5,.pp 5 1 0 0),(6,.psl K D5.length),(7,.pub (.v (.bool true)))]) (mem:=M) (l':=[(1,.sl (l.map eAc)),(2,.ptr (Hs.eSut s)),(5,.ptr (eBu s b5)),(6,.sl (D5.map eAc)),(7,.v (.bool true))]) ⟨Y,.r,Y,.r,Y,hf.dv,Y,NF hf.dn,Y,.r,trivial⟩) ?_
  refine Z5 ?_;refine nC ?_ ?_<;>intro h1
  ·skip;exfalso;simp at h1
  ·skip;refine Z9 ?_;refine zD (ι:={k:Nat//k<=D5.length}) (fun k=>⟨Tryz.f4.ntmps,frL [(1,.pub (.sl (l.map eAc))),(2,.pub (.ptr (Hs.eSut s))),(5,.pub (.ptr (eBu s b5))),(6,.pub (.sl (D5.map eAc))),(8,I (k.1:Int))],[]⟩) (fun k=>D5.length-k.1) (⟨0,oM⟩) ?_ ?_
   ·exact zd _ rL (Y)
   ·rintro⟨k,hk⟩;dsimp only;refine Z5 ?_;refine zb (zM Y Y Y underlying38) (Z3 ?_);refine nC ?_ ?_<;>intro h2
    ·skip;have hlt:k<D5.length:=by simpa using h2
     have hpa:=hf.pa _ (zLm hlt);have hn2:=hpa.n2;have h21:=hpa.h21;rw[gd0 oM]at h21;refine Z8 ?_;refine zb (zc Y Y Y sA oM (by exact Hs.mp_at (e:=eAc) hlt) (Hs.mp_len fun _=>rfl)) ?_;refine zb (zf Y Y pS) (zb (zl Y Y Y hU) ?_);refine Z7 ?_;refine zb (zc Y Y Y zY oM (by exact zA (ds:=D5[k].n) (i:=1) oM) zn) ?_;refine zb (zl Y Y Y ki) ?_;refine yc h21 ?_;refine Z3 ?_;refine zI Y Y Y Y Y Y Y IC tw Y rF (zF Y) Y (Z10 ?_);refine nC ?_ ?_<;>intro h3
     ·skip;exfalso;simp at h3
     ·skip;refine Z7 ?_;refine zb (zc Y Y Y sA oM (by exact Hs.mp_at (e:=eAc) hlt) (Hs.mp_len fun _=>rfl)) ?_;refine zb (zf Y Y rh) (zb (zl Y Y Y ki) ?_);refine Z3 ?_;refine nC ?_ ?_<;>intro h4
      ·skip;have hw3:D5[k].w=3:=by simpa using h4
       have hn5:=hpa.n5 hw3;have e3:stnA s D5[k]=⟨D5[k].n[2],D5[k].n[3],D5[k].n[4]⟩:=by unfold stnA;rw[zLc hw3,gd0 oM,gd0 oM,gd0 oM]
       have z1:=hpa.p0;have z2:=hpa.pl;have z3:=hpa.lo;have z4:=hpa.hi;rw[e3]at z1 z2 z3 z4;dsimp only at z1 z2 z3 z4;rw[gd0 z2]at z3 z4;refine Z ?_;refine zN mixed nR Y ?_;refine zH Y (qk Y Y tw bL) (Z ?_);refine zH Y (zc Y Y Y zY oM (by exact zA (ds:=D5[k].n) (i:=2) oM) zn) ?_;refine zH Y (zl Y Y Y ki) (zH Y (zi (av:=[_,_]) Y rL (f22 s.wide (dvL s b5 D5[k]) D5[k].n[2] z1 z2)) ?_);refine Z15 ?_;refine zh Y (fun hg=>zc Y (Y) Y zY oM (by exact zA (ds:=D5[k].n) (i:=3) oM) zn) ?_;refine zh Y (fun hg=>zl Y (Y) Y ki) (zh Y (fun hg=>y6 Y (Y) (Y)) (zb (ju Y Y Y Y) ?_));refine Z3 ?_;refine zh Y (fun hg=>zc Y ((zLc hg)) Y zY oM (by exact zA (ds:=D5[k].n) (i:=4) oM) zn) ?_;refine zh Y (fun hg=>zl Y ((zLc hg)) Y ki) (zh Y (fun hg=>yq Y ((zLc hg)) ((zLc hg))) (zb (ju Y Y Y Y) ?_));refine Z2 ?_;refine nC ?_ ?_<;>intro h5
       ·skip;exfalso;simp at h5;omega
       ·skip;refine Z11 ?_;exact⟨⟨k+1,oM⟩,by dsimp only;omega,zd _ rL (Y)⟩
      ·skip;have hw3:¬D5[k].w=3:=by simpa using h4
       have hix0:=O8 (hpa.on.ix hw3);rw[gd0 oM]at hix0;have hi0:=hix0.1;have hix:D5[k].n[0].toNat<s.st.length:=by obtain⟨h,_⟩:=hix0.2;exact h
       have hst:yO s (D5[k].n[0])=s.st[D5[k].n[0].toNat]:=by obtain⟨_,h⟩:=hix0.2;exact h
       have ept:(stnA s D5[k]).pt=(s.st[D5[k].n[0].toNat]).pt:=by unfold stnA;rw[zLy hw3,gd0 oM,hst];split<;>rfl
       have z1:=hpa.p0;have z2:=hpa.pl;have z3:=hpa.lo;have z4:=hpa.hi;rw[ept]at z1 z2 z3 z4;rw[gd0 z2]at z3 z4;refine Z4 ?_;refine zN mixed nR Y ?_;refine Z ?_;refine zH Y (zc Y Y Y zY oM (by exact zA (ds:=D5[k].n) (i:=0) oM) zn) ?_;refine zH Y (zl Y Y Y ki) (Z3 ?_);refine zq Y (fun hg=>zc Y ((zLc hg)) Y zY oM (by exact zA (ds:=D5[k].n) (i:=0) oM) zn) ?_;refine zq Y (fun hg=>zl Y ((zLc hg)) Y ki) (zq Y (fun hg=>zf Y Y oG) (zq Y (fun hg=>zl Y ((zLc hg)) Y tY) (zq Y (fun hg=>zM Y Y ((zLc hg)) underlying22) (zq Y (fun hg=>g9 Y ((zLc hg)) ((zLc hg))) (zH Y (ju Y Y Y Y) ?_)))));refine Z2 ?_;refine nC ?_ ?_<;>intro h6
       ·skip;exfalso;simp at h6;omega
       ·skip;refine Z3 ?_;refine zN mixed nR Y ?_;refine zH Y (qk Y Y tw bL) (zH Y (zf Y Y oG) (zH Y (zl Y Y Y tY) ?_));refine Z ?_;refine zH Y (zc Y Y Y zY oM (by exact zA (ds:=D5[k].n) (i:=0) oM) zn) ?_;refine zH Y (zl Y Y Y ki) ?_;refine zH Y (zc Y Y Y Aq oM (by exact Hs.mp_at (e:=Hs.eBSt) hix) (Hs.mp_len fun _=>rfl)) ?_;refine zH Y (zf Y Y AC) (zH Y (zl Y Y Y ki) (zH Y (zi (av:=[_,_]) Y rL (f22 s.wide (dvL s b5 D5[k]) (s.st[D5[k].n[0].toNat]).pt z1 z2)) ?_));refine Z14 ?_;refine nC ?_ ?_<;>intro h7
        ·skip;exfalso;simp at h7
        ·skip;refine Z7 ?_;refine zb (zc Y Y Y sA oM (by exact Hs.mp_at (e:=eAc) hlt) (Hs.mp_len fun _=>rfl)) ?_;refine zb (zf Y Y rh) (zb (zl Y Y Y ki) ?_);refine Z3 ?_;refine nC ?_ ?_<;>intro h8
         ·skip;have hw1:D5[k].w=1:=by simpa using h8
          have hn11:=hpa.n11 hw1;have hx9:=hf.sp.st _ (zLm hix);have hgl:=hx9.2.1;have hcb:=hx9.2.2;have hrd:=hpa.on.rd hw1;have e1:(stnA s D5[k]).lo=knL (s.st[D5[k].n[0].toNat]).g (stnA.rdgA D5[k].n)/\(stnA s D5[k]).hi=min (knH (s.st[D5[k].n[0].toNat]).g (stnA.rdgA D5[k].n)) 99999:=by unfold stnA;rw[zLy hw3,zLc hw1,gd0 oM];unfold gi mw;rw[hst];exact⟨rfl,rfl⟩
          rw[e1.1]at z3;rw[e1.2]at z4;refine Z ?_;refine zt qE ?_;refine qd (fun _=>True) (fun k=>match k with|0=>.stable|1=>.stable|2=>.stable|3=>.stable|4=>.stable|5=>.stable|6=>.stable|7=>.stable|8=>.stable|9=>.stable|10=>.stable|11=>.stable|12=>.stable|13=>.stable|14=>.own 0|15=>.writes|16=>.stable|_=>.here) mixed nR rfl nR trivial ?_;refine zC Y Y (fun m hm=>zf Y Y oG) (zC Y Y (fun m hm=>zl Y Y Y tY) ?_);refine Z ?_;refine zC Y Y (fun m hm=>zc Y Y Y zY oM (by exact zA (ds:=D5[k].n) (i:=0) oM) zn) ?_;refine zC Y Y (fun m hm=>zl Y Y Y ki) ?_;refine zC Y Y (fun m hm=>zc Y Y Y Aq oM (by exact Hs.mp_at (e:=Hs.eBSt) hix) (Hs.mp_len fun _=>rfl)) ?_;refine zC Y Y (fun m hm=>zf Y Y IP) (zC Y Y (fun m hm=>qk Y Y rM bL) ?_);refine Z ?_;refine zC Y Y (fun m hm=>zi (av:=[_]) Y rL (XW hn11)) (zC Y Y (fun m hm=>zi (av:=[_,_]) Y rL (f39 hgl hcb _ hrd)) ?_);refine Z3 ?_;refine ku Y Y (qX Y Pz Y Y Y) ?_
          refine qw Y Y (zz Y Y Y Y Y Y cEx FR rF rF) trivial (Z5 ?_);refine zt (zd [(1,.pub (.sl (l.map eAc))),(2,.pub (.ptr (Hs.eSut s))),(5,.pub (.ptr (eBu s b5))),(6,.pub (.sl (D5.map eAc))),(8,I (k:Int)),(14,I (dvL s b5 D5[k])[(s.st[D5[k].n[0].toNat]).pt.toNat]),(16,.pp 0 1 0 0),(17,I 0)] ⟨Y,Y,Y,Y,Y,Y,Y,Y,trivial⟩ Y) ?_;refine zt (yH (l:=[(1,.pub (.sl (l.map eAc))),(2,.pub (.ptr (Hs.eSut s))),(5,.pub (.ptr (eBu s b5))),(6,.pub (.sl (D5.map eAc))),(8,I (k:Int)),(14,I (dvL s b5 D5[k])[(s.st[D5[k].n[0].toNat]).pt.toNat]),(16,.pp 0 1 0 0),(17,I 0)]) (mem:=[.row [(knA (s.st[D5[k].n[0].toNat]).g (stnA.rdgA D5[k].n)).map .pub]]) (l':=[(1,.sl (l.map eAc)),(2,.ptr (Hs.eSut s)),(5,.ptr (eBu s b5)),(6,.sl (D5.map eAc)),(8,ei (k:Int)),(14,ei (dvL s b5 D5[k])[(s.st[D5[k].n[0].toNat]).pt.toNat]),(16,.ptr (knA (s.st[D5[k].n[0].toNat]).g (stnA.rdgA D5[k].n))),(17,ei 0)]) ⟨Y,.r,Y,.r,Y,.r,Y,.r,Y,.r,Y,.r,Y,.pp Y Y Y (.cons .r (.cons .r (.cons .r (.cons .r (.cons .r (.cons .r .nil)))))),Y,.r,trivial⟩) ?_
          refine Z5 ?_;refine zh Y (fun hg=>zf Y Y AO) (zh Y (fun hg=>zf Y (Y) ag) (zh Y (fun hg=>zl Y (Y) Y ki) (zh Y (fun hg=>y6 Y (Y) (Y)) (zb (ju Y Y Y Y) ?_))));refine Z2 ?_;refine zh Y (fun hg=>zf Y Y AO) (zh Y (fun hg=>zf Y ((zLc hg)) xE) (zh Y (fun hg=>zl Y ((zLc hg)) Y ki) (zh Y (fun hg=>yq Y ((zLc hg)) ((zLc hg))) (zb (ju Y Y Y Y) ?_))));refine Z2 ?_;refine nC ?_ ?_<;>intro h9
          ·skip;exfalso;simp at h9;omega
          ·skip;refine Z11 ?_;exact⟨⟨k+1,oM⟩,by dsimp only;omega,zd _ rL (Y)⟩
         ·skip;have hw1:¬D5[k].w=1:=by simpa using h8
          have hw2:D5[k].w=2:=by have:=hpa.w;omega
          have hwf:=hpa.on.wr hw2;have hwe:=Jk hf.sp.code hwf;have hL0:=hwe.1;have hsz:=(Wr.fndL_sz s.code D5[k].c).1;have hLm:((Wr.fndL s.code D5[k].c).map fun m=>[Wr.eInts m]).length=(Wr.fndL s.code D5[k].c).length:=sI;have hLa:=hwe.2.1 _ (zLm hL0);have hLb:=hwe.2.1 _ (zLm (show(Wr.fndL s.code D5[k].c).length-1<(Wr.fndL s.code D5[k].c).length by omega));have q1:=hwe.2.2.1;have q2:=hwe.2.2.2;rw[RQ hL0 hLa]at q1;rw[RQ oM hLb]at q2;have e1:(stnA s D5[k]).lo=(wrV s D5[k].c).1/\(stnA s D5[k]).hi=(wrV s D5[k].c).2:=by unfold stnA;rw[zLy hw3,zLy hw1];exact⟨rfl,rfl⟩
          rw[e1.1]at z3;rw[e1.2]at z4;have y0:=List.ne_nil_of_length_pos hL0;have ya:=List.ne_nil_of_length_pos hLa;have yb:=List.ne_nil_of_length_pos hLb;have z5:=Int.le_trans q1 z3;have z6:=Int.le_trans z4 q2;refine Z3 ?_;refine zN mixed nR Y ?_;refine zH Y (zf Y Y kB) (zH Y (qk Y Y XL bL) ?_);refine Z2 ?_;refine zH Y (zc Y Y Y sA oM (by exact Hs.mp_at (e:=eAc) hlt) (Hs.mp_len fun _=>rfl)) ?_;refine zH Y (zf Y Y fe) (zH Y (zl Y Y Y iu) (zH Y (zi (av:=[_,_]) Y rL (Wr.f24 s.code D5[k].c hcd hpa.cp.1 hpa.cp.2)) ?_));refine Z13 ?_;refine zh Y (fun hg=>zM Y Y ((zLc hg)) underlying77) (zh Y (fun hg=>vr Y ((zLc hg)) Y) (zb (ju Y Y Y Y) ?_));refine Z2 ?_;refine zh Y (fun hg=>zc Y ((zLc hg)) Y eN oM (by exact Hs.mp_at (e:=fun m=>[Wr.eInts m]) (k:=0) hL0) (Hs.mp_len fun _=>rfl)) ?_;refine zh Y (fun hg=>zl Y ((zLc hg)) Y hU) (zh Y (fun hg=>zM Y Y ((zLc hg)) underlying24) (zh Y (fun hg=>vr Y ((zLc hg)) Y) (zb (ju Y Y Y Y) ?_)))
          refine Z3 ?_;refine zh Y (fun hg=>zM Y Y ((zLc hg)) underlying77) ?_;refine zh Y (fun hg=>j4 Y ((zLc hg)) Y ⟨(by first|omega|(simp at hg;omega)),(by first|omega|(simp at hg;omega))⟩) ?_;refine zh Y (fun hg=>zc Y ((zLc hg)) ((zLc hg)) eN oM (by exact M7 hL0) (Hs.mp_len fun _=>rfl)) ?_;refine zh Y (fun hg=>zl Y ((zLc hg)) Y hU) (zh Y (fun hg=>zM Y Y ((zLc hg)) underlying24) (zh Y (fun hg=>vr Y ((zLc hg)) Y) (zb (ju Y Y Y Y) ?_)));refine Z3 ?_;refine zh Y (fun hg=>zc Y ((zLc hg)) Y eN oM (by exact Hs.mp_at (e:=fun m=>[Wr.eInts m]) (k:=0) hL0) (Hs.mp_len fun _=>rfl)) ?_;refine zh Y (fun hg=>zl Y ((zLc hg)) Y hU) ?_;refine zh Y (fun hg=>zc Y ((zLc hg)) Y zY oM (by exact zA (ds:=(Wr.fndL s.code D5[k].c)[0]) (i:=0) oM) zn) ?_;refine zh Y (fun hg=>zl Y ((zLc hg)) Y ki) (zh Y (fun hg=>y6 Y ((zLc hg)) ((zLc hg))) (zb (ju Y Y Y Y) ?_));refine Z4 ?_;refine zh Y (fun hg=>zM Y Y ((zLc hg)) underlying77) ?_
          refine zh Y (fun hg=>j4 Y ((zLc hg)) Y ⟨(by first|omega|(simp at hg;omega)),(by first|omega|(simp at hg;omega))⟩) ?_;refine zh Y (fun hg=>zc Y ((zLc hg)) ((zLc hg)) eN oM (by exact M7 hL0) (Hs.mp_len fun _=>rfl)) ?_;refine zh Y (fun hg=>zl Y ((zLc hg)) Y hU) ?_;refine zh Y (fun hg=>zc Y ((zLc hg)) Y zY oM (by exact zA (ds:=(Wr.fndL s.code D5[k].c)[(Wr.fndL s.code D5[k].c).length-1]) (i:=0) oM) zn) ?_;refine zh Y (fun hg=>zl Y ((zLc hg)) Y ki) (zh Y (fun hg=>yq Y ((zLc hg)) ((zLc hg))) (zb (ju Y Y Y Y) ?_));refine Z2 ?_;refine nC ?_ ?_<;>intro h10
          ·skip;exfalso;simp[hwf,y0,ya,yb]at h10;omega
          ·skip;refine Z8 ?_;exact⟨⟨k+1,oM⟩,by dsimp only;omega,zd _ rL (Y)⟩
    ·skip;have hge:k=D5.length:=by simp at h2;omega
     refine Z7 ?_;refine yc h14 ?_;refine Z4 ?_;exact aR
end Bu
end Go.Av
end
