import Derived.Test.YtigbomcjnlikjaaGreatDoorPlatJ
import Derived.Test.YtigbomcjnlikjaaGreatDoorExD
import Derived.Test.YtigbomcjnlikjaaGreatDoorBuH
set_option linter.unusedVariables false
set_option linter.unusedSimpArgs false
set_option maxRecDepth 100000
set_option maxHeartbeats 9000000
section
namespace Go.Av
namespace Bu
open Go.Proofs Tryz
variable{G:Glob}
theorem mi:zS tP 212 false 1=true:=nR
theorem xT:zO tP 215 0 0=true:=nR
theorem Ov:qN tP 213 5 1 1:=⟨nR,Tryz.t5,.int .u8 0,nR,rfl,rfl,rfl,rfl,dE⟩
theorem sG:tP.info? 215=some Tryz.t215:=nR
theorem Hq:liesAt tP tP.depth 215 (2/tP.cellsOf 215) 0 215 1=true:=nR
variable{k:Nat}{M:TP}{Y:EV}
theorem SV(hk:M[k]?=some (.row [[.pub (.v (.pointer none)),Y]])):zv tP G 223 [.ppT k 1 215] M (.ret (.tpl []) (M.set k (.row [[.pp k 1 0 0,Y]]))):=by
 refine jd func223 rfl nR rfl (fun gh hold hmk=>?_);refine Z3 ?_;refine wU (wI 2 rfl) ?_;refine jp rfl rfl (zr rfl rfl hk rfl) (jp rfl rfl (ze rfl rfl hk rfl xT) (jp rfl rfl (zg rfl rfl hk rfl rfl rfl mi) (jp rfl rfl (sY rfl rfl underlying212) ?_)));refine Z2 ?_;refine nC ?_ ?_<;>intro h0
 ·skip;refine Z3 ?_;refine jp rfl rfl (sO rfl rfl hk rfl ⟨_,zLh.2 rfl,rfl⟩ underlying212 underlying380 sG rfl) ?_;refine jp rfl rfl (tG rfl rfl func288 rfl rfl nR nR) ?_;refine jp rfl rfl (mC rfl rfl hk rfl ⟨_,zLh.2 rfl,rfl⟩ underlying380 underlying212 sG Hq) ?_;refine wU (wI 7 rfl) ?_;refine jp rfl rfl (zr rfl rfl hk rfl) ?_;refine wU (wI 11 rfl) ?_;refine jp rfl rfl (ze rfl rfl hk rfl xT) ?_;refine zm rfl (zp rfl rfl rfl hk rfl rfl (wE rfl hk rfl) mi rF bL) (Z ?_)
  exact fun hz=>qQ [] (List.append_nil _).symm hz sI (.inl rfl) (by simp[EV.lt,EV.ltL]) ⟨dE,_,rfl,rfl⟩
 ·skip;exfalso;simp at h0
theorem Um(hk:M[k]?=some (.row [[.pp k 1 0 0,Y]])):zv tP G 223 [.ppT k 1 215] M (.ret (.tpl []) M):=by
 refine jd func223 rfl nR rfl (fun gh hold hmk=>?_);refine Z3 ?_;refine wU (wI 2 rfl) ?_;refine jp rfl rfl (zr rfl rfl hk rfl) (jp rfl rfl (ze rfl rfl hk rfl xT) (jp rfl rfl (zg rfl rfl hk rfl rfl rfl mi) (jp rfl rfl (oP rfl rfl hk rfl underlying212) ?_)));refine Z2 ?_;refine nC ?_ ?_<;>intro h0
 ·skip;exfalso;simp at h0
 ·skip;refine Z3 ?_;refine wU (wI 14 rfl) ?_;refine jp rfl rfl (zr rfl rfl hk rfl) (jp rfl rfl (ze rfl rfl hk rfl xT) (jp rfl rfl (zg rfl rfl hk rfl rfl rfl mi) ?_));refine Z ?_;refine wU (wI 18 rfl) ?_;refine jp rfl rfl (Qj rfl rfl rfl hk rfl underlying212 sG) (Z2 ?_);refine nC ?_ ?_<;>intro h1
  ·skip;exfalso;simp at h1
  ·skip;refine Z ?_
   exact fun hz=>qQ [] (List.append_nil _).symm hz sI (.inl rfl) (by simp[EV.lt,EV.ltL]) ⟨dE,_,rfl,rfl⟩
variable{m:Nat}{X:PO}{bs l:List UInt8}
theorem zau{Y Z:PO}:((M.set k X).set m Y).set k Z=(M.set m Y).set k Z:=by
 by_cases h:k=m
 ·subst h;simp
 ·rw[List.set_comm _ _ h,List.set_set,List.set_comm _ _ (Ne.symm h)]
theorem wx(h:k≠m):(M.set k X)[m]?=M[m]?:=zLn h
theorem zT{Y:PO}(h:M[k]?=some Y):(M.set k X)[k]?=some X:=zLi (zLg h).1
theorem XM{A:EV}(hk:M[k]?=some (.row [[A,.pslT m bs.length 5]]))(hm:M[m]?=some (.row (jz bs)))(hkm:k≠m)(hl0:l≠[])(hln:bs.length+l.length<=100000000)(hq:zv tP G 223 [.ppT k 1 215] M (.ret (.tpl []) (M.set k (.row [[.pp k 1 0 0,.pslT m bs.length 5]])))):zv tP G 114 [.ppT k 1 215,.pub (eS l)] M (.ret (.tpl [I (l.length:Int),.pub (.v .nilIface)]) (((M.set k (.row [[.pp k 1 0 0,.pslT m bs.length 5]])).set m (.row (jz bs++jz l))).set k (.row [[.pp k 1 0 0,.pslT m (bs.length+l.length) 5]]))):=by
 have hk1:(M.set k (.row [[.pp k 1 0 0,.pslT m bs.length 5]]))[k]?=some (.row [[.pp k 1 0 0,.pslT m bs.length 5]]):=zT hk;have hm1:(M.set k (.row [[.pp k 1 0 0,.pslT m bs.length 5]]))[m]?=some (.row (jz bs)):=(wx hkm).trans hm;have hk2:((M.set k (.row [[.pp k 1 0 0,.pslT m bs.length 5]])).set m (.row (jz bs++jz l)))[k]?=some (.row [[.pp k 1 0 0,.pslT m bs.length 5]]):=(wx (Ne.symm hkm)).trans hk1;have hm2:((M.set k (.row [[.pp k 1 0 0,.pslT m bs.length 5]])).set m (.row (jz bs++jz l)))[m]?=some (.row (jz bs++jz l)):=zT hm1;refine jd func114 Y nR Y (fun gh hold hmk=>?_);refine Z9 ?_;refine mc hq ?_;refine Z6 ?_;refine wU (wI 9 Y) ?_;refine zb (zr Y Y hk1 Y) (zb (ze Y Y hk1 Y lY) (zb (zg Y Y hk1 Y Y Y GF) ?_));refine Z ?_;refine zm Y (Dy Y Y Y hm1 (by simp[jz]) Y Ov underlying9 oH hl0 oM (by unfold maxLen;omega)) ?_;refine wU (wI 8 Y) ?_;refine zb (zr Y Y hk2 Y) (zb (ze Y Y hk2 Y lY) ?_);refine zm Y (zp Y Y Y hk2 Y Y (IL Y hm2 (by simp[jz])) GF rF bL) (Z5 ?_)
 first|refine jp rfl rfl (vt rfl rfl underlying9) ?_|refine jp rfl rfl (kl rfl rfl underlying9) ?_
 refine Z5 ?_
 exact fun hz=>qQ [] (List.append_nil _).symm hz sI (.inr Y) (by simp[EV.lt,EV.ltL,I]) ⟨dE,_,Y,_,_,Y,Y,_,_,Y,Y,Y⟩
theorem zaR{A:EV}(hA:A=.pub (.v (.pointer none))∨A=.pp k 1 0 0)(hk:M[k]?=some (.row [[A,.pslT m bs.length 5]]))(hm:M[m]?=some (.row (jz bs)))(hkm:k≠m)(hl0:l≠[])(hln:bs.length+l.length<=100000000):zv tP G 114 [.ppT k 1 215,.pub (eS l)] M (.ret (.tpl [I (l.length:Int),.pub (.v .nilIface)]) ((M.set m (.row (jz (bs++l)))).set k (.row [[.pp k 1 0 0,.pslT m (bs++l).length 5]]))):=by
 have h:=XM (G:=G) hk hm hkm hl0 hln (by
  rcases hA with rfl|rfl
  ·exact SV hk
  ·have:=Um (G:=G) hk
   rwa[show M.set k (.row [[.pp k 1 0 0,.pslT m bs.length 5]])=M from by
    apply List.ext_getElem?;intro t
    by_cases e:k=t
    ·subst e;rw[zT hk,hk]
    ·rw[zLn e]])
 rwa[zau,FS,←List.length_append]at h
end Bu
end Go.Av
namespace Go.Av
namespace Bu
open Go.Proofs Tryz
variable{G:Glob}
theorem zac:tP.cellsOf 5=1:=nR
variable{k:Nat}{M:TP}
theorem zbk{mb:Nat}{bs:List UInt8}{A:EV}(hk:M[k]?=some (.row [[A,.pslT mb bs.length 5]]))(hmb:M[mb]?=some (.row (jz bs)))(hkm:k≠mb)(h0:bs≠[])(hn:bs.length<=100000000):zv tP G 116 [.ppT k 1 215] M (.ret (.pub (eS bs)) (M.set mb .dead)):=by
 refine mW func116 (fun gh hold hmk=>?_);refine Z6 ?_;refine zt (wI 0 rF) ?_;refine qd (fun m=>m[k]?=some (.row [[A,.pslT mb bs.length 5]])) (fun k=>match k with|0=>.stable|1=>.stable|2=>.stable|3=>.stable|5=>.stable|6=>.stable|7=>.stable|8=>.stable|10=>.writes|11=>.stable|_=>.here) mixed nR rfl nR hk ?_;refine Z ?_;refine zC Y Y (fun m hm=>zr Y Y hm Y) (zC Y Y (fun m hm=>ze Y Y hm Y lY) (zC Y Y (fun m hm=>zg Y Y hm Y Y Y GF) ?_));refine zK Y Y (po Y Y hmb (by simp[jz]) (List.length_pos_iff.2 h0) oH) (Z ?_);refine zC Y Y (fun m hm=>zr Y Y hm Y) (zC Y Y (fun m hm=>ze Y Y hm Y lY) (zC Y Y (fun m hm=>zg Y Y hm Y Y Y GF) ?_));refine zK Y Y (tu Y Y hmb (by simp[jz]) underlying213) ?_;refine qw Y Y (dC Y Y Y hmb Y h0 underlying322 zac oM) ((wx (Ne.symm hkm)).trans hk) (Z4 ?_)
 exact fun hz=>zR [] (List.append_nil _).symm hz sI (.inr Y) (by simp[EV.lt]) Y
end Bu
end Go.Av
namespace Go.Av
namespace Bu
open Go.Proofs Tryz
variable{G:Glob}
theorem OV:(tP.info? 215).bind (·.zero)=some (.agg #[.pointer none,.slice none 0 0]):=nR
theorem SC:(tP.info? 42).bind (·.zero)=some (.pointer none):=nR
def rpT(o:List UInt8)(e:Int):List UInt8:=(if e=0 then(if o=[]then[111,107]else o)else[101,114,114,111,114,32]++Lib.itoa e)++[10]
def btT(out:Nat->List UInt8)(er:Nat->Int):Nat->List UInt8
 |0=>[]
 |k+1=>btT out er k++rpT (out k) (er k)
variable{out:Nat->List UInt8}{er:Nat->Int}
theorem UI{n:Nat}(h:1<=n):btT out er n≠[]:=by
 cases n with
 |zero=>omega
 |succ n=>simp[btT,rpT]
theorem QR{M0:TP}{a b x:PO}{A:EV}(X:TP)(hX:X=(M0++[a]).set M0.length b++[x]):X.set (M0.length+1) (.row [[A,.pslT X.length 0 5]])++[.row []]=M0++[b,.row [[A,.pslT (M0.length+2) 0 5]],.row []]:=by
 have h1:(M0++[a]).set M0.length b=M0++[b]:=by rw[List.set_append_right _ _ (zLl _)];simp
 subst hX;rw[h1];have h2:(M0++[b]++[x]).length=M0.length+2:=sI;rw[h2,List.append_assoc,List.set_append_right _ _ oM];simp
theorem Qd(o:List UInt8)(e:Int):rpT o e≠[]:=by simp[rpT]
structure Cn(t:List UInt8)(n:Nat)(M0:TP)(out:Nat->List UInt8)(er:Nat->Int)(F D:Nat->TP):Prop where
 ne:∀k,k<n->rsN t k≠[]
 ne1:∀k,k<n->(vH (rsN t k)).1≠[]
 nil:rsN t n=[]
 f0:F 0=M0++[.row [[.pp 5 1 0 0]],.row [[.pub (.v (.pointer none)),.pslT (M0.length+2) 0 5]],.row []]
 do_:∀k,k<n->zv tP GB 52 [.pp 5 1 0 0,.pub (eS (vH (rsN t k)).1)] (F k) (.ret (.pub (.tup [eS (out k),ei (er k)])) (D k))
 c0:∀k,k<n->(F k)[M0.length]?=some (.row [[.pp 5 1 0 0]])
 c5:∀k,k<n->∃r,(F k)[5]?=some (.row [r])
 bd:∀k,k<n->∃A,(A=.pub (.v (.pointer none))∨A=.pp (M0.length+1) 1 0 0)/\(D k)[M0.length+1]?=some (.row [[A,.pslT (M0.length+2) (btT out er k).length 5]])
 by_:∀k,k<n->(D k)[M0.length+2]?=some (.row (jz (btT out er k)))
 nx:∀k,k<n->F (k+1)=((D k).set (M0.length+2) (.row (jz (btT out er (k+1))))).set (M0.length+1) (.row [[.pp (M0.length+1) 1 0 0,.pslT (M0.length+2) (btT out er (k+1)).length 5]])
 en:∃A,(F n)[M0.length+1]?=some (.row [[A,.pslT (M0.length+2) (btT out er n).length 5]])
 ey:(F n)[M0.length+2]?=some (.row (jz (btT out er n)))
 sm:∀k,k<=n->(btT out er k).length<=90000000
 eb:∀k,k<n->-9223372036854775808<=er k/\er k<=9223372036854775807
 rl:∀k,k<n->(rpT (out k) (er k)).length<=1000000
theorem zaj(t:List UInt8):ACall tP GB 128 [eS t] (.fn 231 [] [.ptr [eS t]]):=by
 refine aC func128 ?_;refine Z13 ?_;exact aR
theorem q64(s:Hs.Sut){t:List UInt8}{n:Nat}{M0:TP}{F D:Nat->TP}(hl:t.length<=12000)(hn:1<=n)(h42:zv tP GB 42 [.pub (.agg (Hs.eSut s))] [] (.ret (.tpl [.pp 5 1 0 0,I 0]) M0)){r5:TE}(h5:M0[5]?=some (.row [r5]))(h:Cn t n M0 out er F D):ACall tP GB 64 [.agg (Hs.eSut s),eS t] (.tup [eS (btT out er n),ei 0]):=by
 refine aC func64 ?_;refine Z11 ?_;first|refine jp rfl rfl (vt rfl rfl underlying9) ?_|refine jp rfl rfl (kl rfl rfl underlying9) ?_
 refine Z3 ?_;refine nC ?_ ?_<;>intro h0
 ·skip;exfalso;simp at h0;omega
 ·skip;refine Z4 ?_;first|refine jp rfl rfl (qk rfl rfl EP (by exact zLb rfl)) ?_|refine jp rfl rfl (wb (cs:=[_,_,_,_,_,_,_,_,_,_,_,_,_,_,_,_,_,_,_,_,_,_,_,_,_]) rfl rfl rfl rfl rfl (by exact zLb rfl) rfl EP) ?_|refine jp rfl rfl (j7 rfl rfl rfl rfl rfl (by exact zLb rfl) rfl EP) ?_
  refine mc h42 ?_;refine Z3 ?_;refine zm Y (zE Y Y SC Y Y) ?_;refine zm Y (zp Y Y Y (by exact at_end) Y Y (wE Y (ql h5) Y) jG rF bL) (Z10 ?_);refine nC ?_ ?_<;>intro h1
  ·skip;exfalso;simp at h1
  ·skip;refine Z4 ?_;refine zm Y (Fj Y Y OV Y Y Y) (Z4 ?_);refine zt (s7 (k:=M0.length+1) (i:=0) (j:=1) (rows:=[[.pub (.v (.pointer none)),.pub (.v (.slice none 0 0))]]) (r:=[.pub (.v (.pointer none)),.pub (.v (.slice none 0 0))]) 5 sI Y Y) ?_;refine zt (zd (mem':=F 0) [(1,SL t),(6,.pp M0.length 1 0 0),(8,.ppT (M0.length+1) 1 215)] ?_ ?_) ?_
   ·refine⟨Y,Y,?_,trivial⟩;have e:((M0++[PO.row [[.pub (.v (.pointer none))]]]).set M0.length (.row [putCells [.pub (.v (.pointer none))] 0 [.pp 5 1 0 0]])).length=M0.length+1:=sI;refine Eq.trans (b:=EV.ppT ((M0++[PO.row [[.pub (.v (.pointer none))]]]).set M0.length (.row [putCells [.pub (.v (.pointer none))] 0 [.pp 5 1 0 0]])).length 1 215) Y ?_;rw[e]
   ·exact(QR _ Y).trans h.f0.symm
   refine Z2 ?_;refine yc (zaj t) ?_;refine Z3 ?_;refine jS (List.range n) (lnQ t) [6,8] (fun k=>True) (fun k=>F k) (trivial) Y (UE t n oM h.ne h.nil) Y (fun _=>rfl) Y Y ?_ ?_
   ·intro k x gh lp hd1 hd2 hq hV;have hk:k<n:=by have:=(zLg hq).1;simpa using this
    have hx:k=x:=by simpa[hk]using hq
    subst hx;refine Exists.elim (h.bd k hk) (fun A hAA=>?_);have hA:=hAA.1;have hbd:=hAA.2;have hw:=zaR (G:=GB) (k:=M0.length+1) hA hbd (h.by_ k hk) oM (Qd (out k) (er k)) (by have:=h.sm k oM;have:=h.rl k hk;omega);have hlen:=h.rl k hk;refine Z3 ?_;refine⟨Y,Y,?_⟩;refine Z5 ?_;refine zb (dD Y Y Y) (Z2 ?_);refine nC ?_ ?_<;>intro h2
    ·skip;exfalso;simp at h2;exact absurd (by simpa using h2) (h.ne1 k hk)
    ·skip;refine Z4 ?_;refine zb (zg Y Y (h.c0 k hk) Y Y Y jG) (Z ?_);refine mc (h.do_ k hk) ?_;refine Z16 ?_;refine nC ?_ ?_<;>intro h3
     ·skip;have he:er k≠0:=by simpa using h3
      have hr:rpT (out k) (er k)=([101,114,114,111,114,32]++Lib.itoa (er k))++[10]:=by rw[rpT,zLy he]
      have hpe:SL (([101,114,114,111,114,32]++Lib.itoa (er k))++[10])=SL (rpT (out k) (er k)):=zLz SL hr.symm;rw[hr]at hlen;simp at hlen;refine Z2 ?_;refine yc (uN (er k) (h.eb k hk)) ?_;refine zb (nJ Y Y Y (by simp;omega)) (Z6 ?_);refine zb (nJ Y Y Y (by first|(simp;done)|(simp;omega))) ?_;refine zm Y (qS (f:=114) (fs:=[]) (cs:=[]) (av:=[.ppT (M0.length+1) 1 215,.pub (eS (rpT (out k) (er k)))]) Y Y ⟨Y,Y,Y⟩ ⟨Y,hpe,trivial⟩ hw) (Z2 ?_);exact⟨Y,trivial,zd (mem':=F (k+1)) [] trivial ((h.nx k hk).symm)⟩
     ·skip;have he:er k=0:=by simpa using h3
      refine Z3 ?_;refine zb (dD Y Y Y) (Z3 ?_);refine nC ?_ ?_<;>intro h4
      ·skip;have ho:out k=[]:=by simpa using h4
       have hr:rpT (out k) (er k)=[111,107]++[10]:=by rw[rpT,zLc he,zLc ho]
       have hpe:SL ([111,107]++[10])=SL (rpT (out k) (er k)):=zLz SL hr.symm;refine Z7 ?_;refine zb (nJ Y Y Y (by first|(simp;done)|(simp;omega))) ?_;refine zm Y (qS (f:=114) (fs:=[]) (cs:=[]) (av:=[.ppT (M0.length+1) 1 215,.pub (eS (rpT (out k) (er k)))]) Y Y ⟨Y,Y,Y⟩ ⟨Y,hpe,trivial⟩ hw) (Z2 ?_);exact⟨Y,trivial,zd (mem':=F (k+1)) [] trivial ((h.nx k hk).symm)⟩
      ·skip;have ho:out k≠[]:=by simpa using h4
       have hr:rpT (out k) (er k)=out k++[10]:=by rw[rpT,zLc he,zLy ho]
       have hpe:SL (out k++[10])=SL (rpT (out k) (er k)):=zLz SL hr.symm;rw[hr]at hlen;simp at hlen;refine Z5 ?_;refine zb (nJ Y Y Y (by first|(simp;done)|(simp;omega))) ?_;refine zm Y (qS (f:=114) (fs:=[]) (cs:=[]) (av:=[.ppT (M0.length+1) 1 215,.pub (eS (rpT (out k) (er k)))]) Y Y ⟨Y,Y,Y⟩ ⟨Y,hpe,trivial⟩ hw) (Z2 ?_);exact⟨Y,trivial,zd (mem':=F (k+1)) [] trivial ((h.nx k hk).symm)⟩
   ·intro hVn;refine Exists.elim h.en (fun A hA=>?_);have hs:=zbk (G:=GB) (k:=M0.length+1) hA h.ey oM (UI hn) (by have:=h.sm n oM;omega);refine Z3 ?_;refine zt (zd (mem':=F n) [(8,.ppT (M0.length+1) 1 215)] ⟨Y,trivial⟩ (by rw[List.length_range])) ?_;refine Z ?_;refine mc hs ?_;refine Z5 ?_;exact⟨.inr Y,⟨_,Y,⟨_,_,Y,AVle.refl _,⟨_,_,Y,AVle.refl _,Y⟩⟩⟩⟩
end Bu
end Go.Av
end
