import Derived.Test.YtigbomcjnlikjaaGreatDoorPlatD
import Derived.Shelf.SlSortCmp.Whole1
set_option linter.unusedVariables false
set_option linter.unusedSimpArgs false
set_option maxRecDepth 100000
set_option maxHeartbeats 9000000
section
namespace Go.Av
open Go.RowKit Go.Proofs
section
variable{P:Program}{G:Glob}{st:ASt}{o:Oper}
theorem IZ{α:Type}(f:α->List Int):Sort.SWO (ltOf fun x y:α=>cmpL (f x) (f y)):=by
 have e:∀x y:α,ltOf (fun x y:α=>cmpL (f x) (f y)) x y=ltL (f x) (f y):=fun x y=>og _ _;refine⟨fun x=>by rw[e];exact aY _,fun x y z h1 h2=>?_,fun x y z h1 h2=>?_⟩
 ·rw[e]at*;exact xK h1 h2
 ·rw[e]at*;exact iF h1 h2
theorem kR{α:Type}[Inhabited α](enc:α->Value)(w:World)(blk off m:Nat)(dk:Array α)(os:Array Obj){k:Nat}(hk:k<w.heap.size)(hne:k≠blk):(sortWorld enc w blk off m dk os).heap[k]?=w.heap[k]?:=by
 unfold sortWorld;rw[Sort.heap_grow_old _ _ (by simpa[Sort.putRow,Sort.mapBlock,Sort.ahead]using hk)];simp[Sort.putRow,Sort.mapBlock,Sort.ahead,Array.getElem?_modify,Ne.symm hne]
theorem lg{α:Type}[Inhabited α](enc:α->Value)(w:World)(blk off m:Nat)(dk:Array α)(os:Array Obj){c:Array Value}{e:TypeId}{z:Nat × Nat}(h:w.heap[blk]?=some (.cells c e z)):
  (sortWorld enc w blk off m dk os).heap[blk]?=some (.cells (Sort.putCells enc off dk c) e z):=by
 have hlt:=(zLr.1 h).1;unfold sortWorld;rw[Sort.heap_grow_old _ _ (by simpa[Sort.putRow,Sort.mapBlock,Sort.ahead]using hlt)];simp[Sort.putRow,Sort.mapBlock,Sort.ahead,Array.getElem?_modify,h,Sort.onCells]
theorem Q4{ρ:Go.Shelf.Ren}(L:SlLaysF.n6 P ρ){x y:Operand}{tys:Array TypeId}{k n:Nat}{ls:List (List Int)}{g f:FuncId}(ho:o.op=.call {callee:=.value (.func f),args:=#[x,y],argTypes:=tys})(hf:ρ.f 6=f)(hd:qB o st.n=true)
  (hx:evO st.fr x=.psl k n) (hy:evO st.fr y=.pub (.fn g [] [])) (hm:st.mem[k]?=some (.row (ls.map fun m=>[.pub (nums m)]))) (hn:ls.length=n) (hlen:ls.length<=1000000000)
  (hef:Enters P f) (heg:Enters P g) (hcmp:N9 P g) (hnil:∀w,Calls P f #[.slice none 0 0,.func (.func g) #[] #[]] w fun e w'=>e=.returned (.tuple #[])/\w'=w):
  OpM P G st o ⟨st.n,qc st.fr o.dst (.pub (.tup [])),st.mem.set k (.row ((sortL ls).map fun m=>[.pub (nums m)]))⟩:=by
 subst hf;intro w0 ok0 a w hG hok hs K Q hK;obtain⟨h0,h1,h2,ok,bs,h3,h4,h5,h6⟩:=hs;have hxe:=qg (fr:=st.fr) (a:=a) (x:=x) fun t _=>h6.1 t;rw[hx]at hxe;simp only[FitsE]at hxe;obtain⟨b,hb,hxe⟩:=hxe;have hxv:=(hxe _ hm).2 (by simpa using hn);have hye:=qg (fr:=st.fr) (a:=a) (x:=y) fun t _=>h6.1 t;rw[hy]at hye;simp only[FitsE,Fits,FitsL]at hye;obtain⟨us,vs,hyv,rfl,rfl⟩:=hye;have hrow:=h5.row k b _ hb hm
 have hef':(execOp a.eval o).run P w=.ok (.enter (ρ.f 6) #[b.sl n,.func (.func g) #[] #[]]) w:=by
  rw[jt (us:=[]) (vs:=[]) ho hef rfl];simp[hxv,hyv]
 unfold Oper.wp;rw[hef'];simp only[Oper.upon];cases hbk:b.blk with
 |none=>
  have hls:ls=[]:=by simpa using hrow.nil hbk
  subst hls;have hn0:n=0:=by simpa using hn.symm
  subst hn0;have hsl:b.sl 0=.slice none 0 0:=by unfold PB.sl;rw[hbk]
  rw[hsl];refine(hnil w).mono fun en w' ⟨e1,e2⟩=>?_;subst e1;subst e2
  have hsame:st.mem.set k (PO.row ((sortL []).map fun m=>[EV.pub (nums m)]))=st.mem:=by
   apply List.ext_getElem?;intro t
   by_cases ht:k=t
   ·subst ht;rw[hm];simp[(zLg hm).1,sortL]
   ·rw[zLn ht]
  have hfin:Sit w0 ok0 ⟨st.n,qc st.fr o.dst (.pub (.tup [])),st.mem⟩ (a.put o.dst (.tuple #[])) w':=Sit.put (n:=st.n) h0 h1 h2 h3 h4 h5 h6 (Below.refl _ _) (by simp[FitsE,Fits,FitsL]) (zo hd);rw[←hsame]at hfin;exact hK _ _ hfin
 |some bg=>
  obtain⟨cur,hc,hcs,hcl,hcm,hcell⟩:=hrow.blk bg hbk;have hown:=h5.own k b _ bg hb hm hbk;have hpos:=hrow.pos bg hbk;have hlp:0<ls.length:=by simpa using hpos
  have hsz1:b.size=1:=by
   have:=hrow.size [.pub (nums ls[0])] (zLj.2 ⟨ls[0],zLm hlp,rfl⟩);simpa using this.symm
  have hlt:=(zLr.1 hc).1
  -- the elements, with what stands in them
  let α:Type:={p:List Int × Value//p.2.oneCell'=true/\Fits ok w (nums p.1) p.2}
  have hel:∀i(h:i<ls.length),∃u,cur[i]?=some u/\u.oneCell'=true/\Fits ok w (nums ls[i]) u:=fun i h=>by
   obtain⟨u,hu,h8,h9⟩:=hcell i 0 [.pub (nums ls[i])] (.pub (nums ls[i])) (by simp[h]) rfl;rw[hsz1]at hu;exact⟨u,by simpa using hu,h8,by simpa only[FitsE]using h9⟩
  have hinh:Inhabited α:=⟨⟨(ls[0],Classical.choose (hel 0 hlp)),(Classical.choose_spec (hel 0 hlp)).2⟩⟩;let val:(i:Nat)->i<ls.length->α:=fun i h=>⟨(ls[i],Classical.choose (hel i h)),(Classical.choose_spec (hel i h)).2⟩;let d:Array α:=((List.finRange ls.length).map fun i=>val i.1 i.2).toArray;have hds:d.size=ls.length:=by simp[d]
  have hdi:∀i(h:i<ls.length),d[i]! =val i h:=fun i h=>by
   rw[getElem!_pos d i (by rw[hds];exact h)];simp[d]
  let enc:α->Value:=fun p=>p.1.2;let key:α->List Int:=fun p=>p.1.1
  have hdk:d.toList.map key=ls:=by
   refine List.ext_getElem (by simp[hds]) fun i hi1 hi2=>?_;simp[d,key,val]
  have hH:Sort.Holds enc w bg 0 d:=fun j hj=>by
   rw[hds]at hj;have hv:=Classical.choose_spec (hel j hj);rw[hdi j hj,Nat.zero_add];have hjc:j<cur.size:=(zLr.1 hv.1).1;refine⟨?_,?_⟩
   ·show w.cell? _=some (Classical.choose (hel j hj));simp only[World.cell?,hc];simpa using hv.1
   ·simp only[World.frozen?,hc];rcases b.elem.free cur.size with h|h
    ·rw[h];simp
    ·simp;omega
  have hsl:b.sl n=.slice (some ⟨bg,0,none⟩) d.size b.cap:=by unfold PB.sl;rw[hbk,hds,hn]
  rw[hsl]
  have hcmp':CmpLays1 P g #[] enc (fun x y:α=>cmpL (key x) (key y)) bg 0 d.size w:=fun m os dk hsk x' y'=>by
   obtain⟨ax,cx,hx1,hx2,hx3⟩:=cP x'.2.2;obtain⟨ay,cy,hy1,hy2,hy3⟩:=cP y'.2.2;have hblk:∀t,ok t->(sortWorld enc w bg 0 m dk os).heap[t]?=w.heap[t]?:=fun t ht=>kR _ _ _ _ _ _ _ (h5.lt t ht) (fun e=>hown.2 (e▸ht));have:=hcmp (sortWorld enc w bg 0 m dk os) ax ay cx cy _ _ (hx2.same hx3 hblk) (hy2.same hy3 hblk);have e1:enc x'=.slice ax x'.1.1.length cx:=hx1;have e2:enc y'=.slice ay y'.1.1.length cy:=hy1;rw[e1,e2];exact this.mono fun e w' ⟨q1,q2⟩=>⟨q1,0,#[],by rw[q2,Sort.grow_empty];rfl⟩
  have hsort:=Any.slices_SortFunc L enc (fun x=>x.2.1) (fun x y:α=>cmpL (key x) (key y)) (IZ key) g #[] bg 0 b.cap d w (fun args w=>enter_run heg args w) hcmp' hH hlt (by rw[hds];omega);refine hsort.mono fun en w' ⟨e1,d',nn,os,hperm,hsorted,e2⟩=>?_;subst e1;have hds':d'.size=d.size:=hperm.1
  have hp:(d'.toList.map key).Perm ls:=by
   rw[←hdk];refine List.Perm.map _ ?_;have h:=hperm.2.2;rw[←hds']at h;have e1:(d'.extract 0 d'.size).toList=d'.toList:=sI;have e2:(d.extract 0 d'.size).toList=d.toList:=by rw[hds'];simp
   rwa[e1,e2]at h
  have hs:vJ (d'.toList.map key):=by
   rw[vJ,List.pairwise_iff_getElem];intro i j hi hj hij;have hi':i<d'.size:=by simpa using hi
   have hj':j<d'.size:=by simpa using hj
   have:=hsorted i j (Nat.zero_le _) hij oM;rw[getElem!_pos d' i hi',getElem!_pos d' j hj']at this;have e:ltOf (fun x y:α=>cmpL (key x) (key y)) d'[j] d'[i]=ltL (key d'[j]) (key d'[i]):=og _ _;rw[e]at this;simpa using this
  have hfin:d'.toList.map key=sortL ls:=FO hp hs;have hsl2:(sortL ls).length=ls.length:=(yp ls).length_eq
  have hother:∀t,t<w.heap.size->some t≠b.blk->w'.heap[t]?=w.heap[t]?:=fun t ht hne=>by
   rw[e2];exact kR _ _ _ _ _ _ _ ht (fun e=>hne (by rw[e,hbk]))
  have hrow':w'.heap[bg]?=some (.cells (Sort.putCells enc 0 d' cur) b.elem.t (b.elem.fzp cur.size)):=by rw[e2];exact lg _ _ _ _ _ _ _ hc
  have hpc:(Sort.putCells enc 0 d' cur).size=cur.size:=by simp[Sort.putCells]
  have hgrow:w.heap.size<=w'.heap.size:=by rw[e2];unfold sortWorld;simp[Sort.putRow,Sort.mapBlock,Sort.ahead]
  have hturn:=h5.turn (w':=w') (b':=b) (rows':=(sortL ls).map fun m=>[.pub (nums m)]) hb hm hgrow hother (by simp[hsl2]) (fun _=>rfl) (fun g' hg'=>.inl hg') h2.size (fun hfit=>by
   refine⟨fun r hr=>?_,fun hnone=>(by rw[hbk]at hnone;cases hnone),fun g' hg'=>(by simp[hsl2];omega),fun g' hg'=>?_⟩
   ·obtain⟨m,_,rfl⟩:=zLj.1 hr;simp[hsz1]
   ·have:g'=bg:=by rw[hbk]at hg';injection hg' with hg';exact hg'.symm
    subst this;refine⟨_,by rw[hpc];exact hrow',by rw[hpc];exact hcs,by simpa[hsl2]using hcl,hcm,fun i j r z hr hz=>?_⟩
    have hi:i<(sortL ls).length:=by
     have:=(zLg hr).1;simpa using this
    have hr2:r=[.pub (nums (sortL ls)[i])]:=by
     rw[zLq,zLe hi]at hr;simpa using hr.symm
    subst hr2
    have hj0:j=0:=by
     have:=(zLg hz).1;simpa using this
    subst hj0;have hz2:z=.pub (nums (sortL ls)[i]):=by simpa using hz.symm
    subst hz2;have hid:i<d'.size:=oM
    have hkey:(sortL ls)[i]=key d'[i]:=by
     have:(d'.toList.map key)[i]'(by simpa using hid)=key d'[i]:=sI;rw[←this];simp only[hfin]
    refine⟨enc d'[i],?_,d'[i].2.1,?_⟩
    ·rw[hsz1]
     have hic:i<cur.size:=by
      rw[hcs,hsz1];have:ls.length<=b.cap:=by simpa using hcl
      omega
     simp only[Sort.putCells,Nat.mul_one,Nat.add_zero,Array.getElem?_mapIdx,zL5 hic,Option.map_some];rw[zLc ⟨Nat.zero_le _,oM⟩,Nat.sub_zero,getElem!_pos d' i hid]
    ·rw[hkey];exact hfit (.pub (nums (key d'[i]))) (enc d'[i]) (by simpa only[FitsE]using d'[i].2.2))
  obtain⟨hm',hf'⟩:=hturn
  have hbs:bs.set k b=bs:=by
   apply List.ext_getElem?;intro t
   by_cases ht:k=t
   ·subst ht;rw[hb];simp[(zLg hb).1]
   ·rw[zLn ht]
  rw[hbs]at hm' hf';refine hK _ _ ⟨(size_put ..).trans h0,h1.put ?_ (zo hd),?_,ok,bs,h3,h4,hm',?_⟩
  ·exact .of_cells hc hgrow (fun t ht hne=>hother t ht (fun e=>hne (by rw[hbk]at e;injection e)))
  ·refine h2.trans ⟨?_,?_,?_,hgrow,fun t ht=>hother t (Nat.lt_of_lt_of_le ht h2.size) (fun e=>?_)⟩
   ·rw[e2];rfl
   ·rw[e2];rfl
   ·rw[e2];rfl
   ·have:=(h5.own k b _ t hb hm e.symm).1;omega
  ·exact qP (h6.map hf') (by simp[FitsE,Fits,FitsL]) (fun d e=>by rw[h0];exact(zo hd d e).1)
end
end Go.Av
end
