import Derived.Test.YtgmbdadkbominaaGreatDoorPlatH
import Derived.Test.YtgmbdadkbominaaGreatDoorPlatJ
import Derived.Shelf.SlSortCmp.Whole1
import Derived.Laws.AppendOwn
set_option linter.unusedVariables false
set_option linter.unusedSimpArgs false
section
namespace Go.Av
open Go.RowKit Go.Proofs
def HoldsI (w:World) (a:Option Addr) (m:List Int):Prop:=m.length <= maxLen /\ (0 < m.length -> ∃ b off, a = some ⟨b, off, none⟩ /\ ∀ j (h:j < m.length), w.cell? ⟨b, off + j, none⟩ = some (.int .i64 m[j]))
def zrh (P:Program) (g:FuncId):Prop:=∀ (w:World) (a a':Option Addr) (c c':Nat) (m m':List Int), HoldsI w a m -> HoldsI w a' m' ->
 Calls P g #[.slice a m.length c, .slice a' m'.length c'] w fun e w'=>e = .returned (.int .i64 (cmpL m m')) /\ w' = w
def nums (m:List Int):AV:=.sl (m.map fun n=>[AV.v (.int .i64 n)])
section
variable {P:Program} {G:Glob} {st:ASt} {o:Oper}
theorem zdY {ok:Nat -> Prop} {w:World} {m:List Int} {u:Value} (h:Fits ok w (nums m) u):∃ (a:Option Addr) (c:Nat), u = .slice a m.length c /\ HoldsI w a m /\ (0 < m.length -> ∃ b off, a = some ⟨b, off, none⟩ /\ ok b):=by
 unfold nums at h
 simp only[Fits, List.length_map] at h
 obtain ⟨a, c, size, e, h1, h2, h3, h4⟩:=h
 refine ⟨a, c, e, ⟨Nat.le_trans h1 h2, fun hn=>?_⟩, fun hn=>?_⟩
 ·obtain ⟨b, off, ea, hb, hr⟩:=h4 hn
  refine ⟨b, off, ea, fun j hj=>?_⟩
  have hsz:size = 1:=by
   have:=h3 [AV.v (.int .i64 m[0])] (List.mem_map.2 ⟨m[0], List.getElem_mem hn, rfl⟩)
   simpa using this.symm
  subst hsz
  have:=FitsR.get (i:=j) (r:=[AV.v (.int .i64 m[j])]) hr h3 (by simp [hj])
  simp only[FitsC, Fits, Nat.mul_one] at this
  obtain ⟨⟨u, h5, _, h6, _⟩, _⟩:=this
  rw [h5, h6]
 ·obtain ⟨b, off, ea, hb, hr⟩:=h4 hn
  exact ⟨b, off, ea, hb⟩
theorem HoldsI.same {w w':World} {ok:Nat -> Prop} {a:Option Addr} {m:List Int} (h:HoldsI w a m) (hok:0 < m.length -> ∃ b off, a = some ⟨b, off, none⟩ /\ ok b) (hw:∀ b, ok b -> w'.heap[b]? = w.heap[b]?):HoldsI w' a m:=by
 refine ⟨h.1, fun hn=>?_⟩
 obtain ⟨b, off, e, hc⟩:=h.2 hn
 obtain ⟨b', off', e', hb⟩:=hok hn
 rw [e] at e'
 injection e' with e'
 injection e' with e1 e2 e3
 subst e1
 exact ⟨b, off, e, fun j hj=>by rw [World.cell?_of_block (w:=w) (hw b hb)]; exact hc j hj⟩
theorem zqz {α:Type} (f:α -> List Int):Sort.SWO (ltOf fun x y:α=>cmpL (f x) (f y)):=by
 have e:∀ x y:α, ltOf (fun x y:α=>cmpL (f x) (f y)) x y = ltL (f x) (f y):=fun x y=>zhX _ _
 refine ⟨fun x=>by rw [e]; exact zda _, fun x y z h1 h2=>?_, fun x y z h1 h2=>?_⟩
 ·rw [e] at *; exact zcs h1 h2
 ·rw [e] at *; exact zfL h1 h2
theorem zbz {α:Type} [Inhabited α] (enc:α -> Value) (w:World) (blk off m:Nat) (dk:Array α) (os:Array Obj) {k:Nat} (hk:k < w.heap.size) (hne:k ≠ blk):(sortWorld enc w blk off m dk os).heap[k]? = w.heap[k]?:=by
 unfold sortWorld
 rw [Sort.heap_grow_old _ _ (by simpa [Sort.putRow, Sort.mapBlock, Sort.ahead] using hk)]
 simp [Sort.putRow, Sort.mapBlock, Sort.ahead, Array.getElem?_modify, Ne.symm hne]
theorem zgH {α:Type} [Inhabited α] (enc:α -> Value) (w:World) (blk off m:Nat) (dk:Array α) (os:Array Obj) {c:Array Value} {e:TypeId} {z:Nat × Nat} (h:w.heap[blk]? = some (.cells c e z)):
  (sortWorld enc w blk off m dk os).heap[blk]? = some (.cells (Sort.putCells enc off dk c) e z):=by
 have hlt:=(Array.getElem?_eq_some_iff.1 h).1
 unfold sortWorld
 rw [Sort.heap_grow_old _ _ (by simpa [Sort.putRow, Sort.mapBlock, Sort.ahead] using hlt)]
 simp [Sort.putRow, Sort.mapBlock, Sort.ahead, Array.getElem?_modify, h, Sort.onCells]
theorem zrV {ρ:Go.Shelf.Ren} (L:SlLaysF.n6 P ρ) {x y:Operand} {tys:Array TypeId} {k n:Nat} {ls:List (List Int)} {g f:FuncId} (ho:o.op = .call { callee:=.value (.func f), args:=#[x, y], argTypes:=tys }) (hf:ρ.f 6 = f) (hd:jO o st.n = true)
  (hx:evO st.fr x = .psl k n) (hy:evO st.fr y = .pub (.fn g [] [])) (hm:st.mem[k]? = some (.row (ls.map fun m=>[.pub (nums m)]))) (hn:ls.length = n) (hlen:ls.length <= 1000000000)
  (hef:Enters P f) (heg:Enters P g) (hcmp:zrh P g) (hnil:∀ w, Calls P f #[.slice none 0 0, .func (.func g) #[] #[]] w fun e w'=>e = .returned (.tuple #[]) /\ w' = w):
  OpM P G st o ⟨st.n, qX st.fr o.dst (.pub (.tup [])), st.mem.set k (.row ((sortL ls).map fun m=>[.pub (nums m)]))⟩:=by
 subst hf
 intro w0 ok0 a w hG hok hs K Q hK
 obtain ⟨h0, h1, h2, ok, bs, h3, h4, h5, h6⟩:=hs
 have hxe:=qO (fr:=st.fr) (a:=a) (x:=x) fun t _=>h6.1 t
 rw [hx] at hxe
 simp only[FitsE] at hxe
 obtain ⟨b, hb, hxe⟩:=hxe
 have hxv:=(hxe _ hm).2 (by simpa using hn)
 have hye:=qO (fr:=st.fr) (a:=a) (x:=y) fun t _=>h6.1 t
 rw [hy] at hye
 simp only[FitsE, Fits, FitsL] at hye
 obtain ⟨us, vs, hyv, rfl, rfl⟩:=hye
 have hrow:=h5.row k b _ hb hm
 have hef':(execOp a.eval o).run P w = .ok (.enter (ρ.f 6) #[b.sl n, .func (.func g) #[] #[]]) w:=by
  rw [call_exec (us:=[]) (vs:=[]) ho hef rfl]
  simp [hxv, hyv]
 unfold Oper.wp
 rw [hef']
 simp only[Oper.upon]
 cases hbk:b.blk with
 | none=>
  have hls:ls = []:=by simpa using hrow.nil hbk
  subst hls
  have hn0:n = 0:=by simpa using hn.symm
  subst hn0
  have hsl:b.sl 0 = .slice none 0 0:=by unfold PB.sl; rw [hbk]
  rw [hsl]
  refine (hnil w).mono fun en w' ⟨e1, e2⟩=>?_
  subst e1; subst e2
  have hsame:st.mem.set k (PO.row ((sortL []).map fun m=>[EV.pub (nums m)])) = st.mem:=by
   apply List.ext_getElem?
   intro t
   by_cases ht:k = t
   ·subst ht; rw [hm]; simp [(zLg hm).1, sortL]
   ·rw [List.getElem?_set_ne ht]
  have hfin:Sit w0 ok0 ⟨st.n, qX st.fr o.dst (.pub (.tup [])), st.mem⟩ (a.put o.dst (.tuple #[])) w':=Sit.put (n:=st.n) h0 h1 h2 h3 h4 h5 h6 (Below.refl _ _) (by simp [FitsE, Fits, FitsL]) (qC hd)
  rw [← hsame] at hfin
  exact hK _ _ hfin
 | some bg=>
  obtain ⟨cur, hc, hcs, hcl, hcm, hcell⟩:=hrow.blk bg hbk
  have hown:=h5.own k b _ bg hb hm hbk
  have hpos:=hrow.pos bg hbk
  have hlp:0 < ls.length:=by simpa using hpos
  have hsz1:b.size = 1:=by
   have:=hrow.size [.pub (nums ls[0])] (List.mem_map.2 ⟨ls[0], List.getElem_mem hlp, rfl⟩)
   simpa using this.symm
  have hlt:=(Array.getElem?_eq_some_iff.1 hc).1
  -- the elements, with what stands in them
  let α:Type:={ p:List Int × Value // p.2.oneCell' = true /\ Fits ok w (nums p.1) p.2 }
  have hel:∀ i (h:i < ls.length), ∃ u, cur[i]? = some u /\ u.oneCell' = true /\ Fits ok w (nums ls[i]) u:=fun i h=>by
   obtain ⟨u, hu, h8, h9⟩:=hcell i 0 [.pub (nums ls[i])] (.pub (nums ls[i])) (by simp [h]) rfl
   rw [hsz1] at hu
   exact ⟨u, by simpa using hu, h8, by simpa only [FitsE] using h9⟩
  have hinh:Inhabited α:=⟨⟨(ls[0], Classical.choose (hel 0 hlp)), (Classical.choose_spec (hel 0 hlp)).2⟩⟩
  let val:(i:Nat) -> i < ls.length -> α:=fun i h=>⟨(ls[i], Classical.choose (hel i h)), (Classical.choose_spec (hel i h)).2⟩
  let d:Array α:=((List.finRange ls.length).map fun i=>val i.1 i.2).toArray
  have hds:d.size = ls.length:=by simp [d]
  have hdi:∀ i (h:i < ls.length), d[i]! = val i h:=fun i h=>by
   rw [getElem!_pos d i (by rw [hds]; exact h)]
   simp [d]
  let enc:α -> Value:=fun p=>p.1.2
  let key:α -> List Int:=fun p=>p.1.1
  have hdk:d.toList.map key = ls:=by
   refine List.ext_getElem (by simp [hds]) fun i hi1 hi2=>?_
   simp [d, key, val]
  have hH:Sort.Holds enc w bg 0 d:=fun j hj=>by
   rw [hds] at hj
   have hv:=Classical.choose_spec (hel j hj)
   rw [hdi j hj, Nat.zero_add]
   have hjc:j < cur.size:=(Array.getElem?_eq_some_iff.1 hv.1).1
   refine ⟨?_, ?_⟩
   ·show w.cell? _ = some (Classical.choose (hel j hj))
    simp only[World.cell?, hc]
    simpa using hv.1
   ·simp only[World.frozen?, hc]
    rcases b.elem.free cur.size with h | h
    ·rw [h]; simp
    ·simp; omega
  have hsl:b.sl n = .slice (some ⟨bg, 0, none⟩) d.size b.cap:=by unfold PB.sl; rw [hbk, hds, hn]
  rw [hsl]
  have hcmp':CmpLays1 P g #[] enc (fun x y:α=>cmpL (key x) (key y)) bg 0 d.size w:=fun m os dk hsk x' y'=>by
   obtain ⟨ax, cx, hx1, hx2, hx3⟩:=zdY x'.2.2
   obtain ⟨ay, cy, hy1, hy2, hy3⟩:=zdY y'.2.2
   have hblk:∀ t, ok t -> (sortWorld enc w bg 0 m dk os).heap[t]? = w.heap[t]?:=fun t ht=>zbz _ _ _ _ _ _ _ (h5.lt t ht) (fun e=>hown.2 (e ▸ ht))
   have:=hcmp (sortWorld enc w bg 0 m dk os) ax ay cx cy _ _ (hx2.same hx3 hblk) (hy2.same hy3 hblk)
   have e1:enc x' = .slice ax x'.1.1.length cx:=hx1
   have e2:enc y' = .slice ay y'.1.1.length cy:=hy1
   rw [e1, e2]
   exact this.mono fun e w' ⟨q1, q2⟩=>⟨q1, 0, #[], by rw [q2, Sort.grow_empty]; rfl⟩
  have hsort:=Any.slices_SortFunc L enc (fun x=>x.2.1) (fun x y:α=>cmpL (key x) (key y)) (zqz key) g #[] bg 0 b.cap d w (fun args w=>enter_run heg args w) hcmp' hH hlt (by rw [hds]; omega)
  refine hsort.mono fun en w' ⟨e1, d', nn, os, hperm, hsorted, e2⟩=>?_
  subst e1
  have hds':d'.size = d.size:=hperm.1
  have hp:(d'.toList.map key).Perm ls:=by
   rw [← hdk]
   refine List.Perm.map _ ?_
   have h:=hperm.2.2
   rw [← hds'] at h
   have e1:(d'.extract 0 d'.size).toList = d'.toList:=by simp
   have e2:(d.extract 0 d'.size).toList = d.toList:=by rw [hds']; simp
   rwa [e1, e2] at h
  have hs:za7 (d'.toList.map key):=by
   rw [za7, List.pairwise_iff_getElem]
   intro i j hi hj hij
   have hi':i < d'.size:=by simpa using hi
   have hj':j < d'.size:=by simpa using hj
   have:=hsorted i j (Nat.zero_le _) hij (by omega)
   rw [getElem!_pos d' i hi', getElem!_pos d' j hj'] at this
   have e:ltOf (fun x y:α=>cmpL (key x) (key y)) d'[j] d'[i] = ltL (key d'[j]) (key d'[i]):=zhX _ _
   rw [e] at this
   simpa using this
  have hfin:d'.toList.map key = sortL ls:=zo4 hp hs
  have hsl2:(sortL ls).length = ls.length:=(xK ls).length_eq
  have hother:∀ t, t < w.heap.size -> some t ≠ b.blk -> w'.heap[t]? = w.heap[t]?:=fun t ht hne=>by
   rw [e2]; exact zbz _ _ _ _ _ _ _ ht (fun e=>hne (by rw [e, hbk]))
  have hrow':w'.heap[bg]? = some (.cells (Sort.putCells enc 0 d' cur) b.elem.t (b.elem.fzp cur.size)):=by rw [e2]; exact zgH _ _ _ _ _ _ _ hc
  have hpc:(Sort.putCells enc 0 d' cur).size = cur.size:=by simp [Sort.putCells]
  have hgrow:w.heap.size <= w'.heap.size:=by rw [e2]; unfold sortWorld; simp [Sort.putRow, Sort.mapBlock, Sort.ahead]
  have hturn:=h5.turn (w':=w') (b':=b) (rows':=(sortL ls).map fun m=>[.pub (nums m)]) hb hm hgrow hother (by simp [hsl2]) (fun _=>rfl) (fun g' hg'=>.inl hg') h2.size (fun hfit=>by
   refine ⟨fun r hr=>?_, fun hnone=>(by rw [hbk] at hnone; cases hnone), fun g' hg'=>(by simp [hsl2]; omega), fun g' hg'=>?_⟩
   ·obtain ⟨m, _, rfl⟩:=List.mem_map.1 hr
    simp [hsz1]
   ·have:g' = bg:=by rw [hbk] at hg'; injection hg' with hg'; exact hg'.symm
    subst this
    refine ⟨_, by rw [hpc]; exact hrow', by rw [hpc]; exact hcs, by simpa [hsl2] using hcl, hcm, fun i j r z hr hz=>?_⟩
    have hi:i < (sortL ls).length:=by
     have:=(zLg hr).1; simpa using this
    have hr2:r = [.pub (nums (sortL ls)[i])]:=by
     rw [List.getElem?_map, List.getElem?_eq_getElem hi] at hr
     simpa using hr.symm
    subst hr2
    have hj0:j = 0:=by
     have:=(zLg hz).1; simpa using this
    subst hj0
    have hz2:z = .pub (nums (sortL ls)[i]):=by simpa using hz.symm
    subst hz2
    have hid:i < d'.size:=by omega
    have hkey:(sortL ls)[i] = key d'[i]:=by
     have:(d'.toList.map key)[i]'(by simpa using hid) = key d'[i]:=by simp
     rw [← this]
     simp only[hfin]
    refine ⟨enc d'[i], ?_, d'[i].2.1, ?_⟩
    ·rw [hsz1]
     have hic:i < cur.size:=by
      rw [hcs, hsz1]; have:ls.length <= b.cap:=by simpa using hcl
      omega
     simp only[Sort.putCells, Nat.mul_one, Nat.add_zero, Array.getElem?_mapIdx, Array.getElem?_eq_getElem hic, Option.map_some]
     rw [if_pos ⟨Nat.zero_le _, by omega⟩, Nat.sub_zero, getElem!_pos d' i hid]
    ·rw [hkey]
     exact hfit (.pub (nums (key d'[i]))) (enc d'[i]) (by simpa only [FitsE] using d'[i].2.2))
  obtain ⟨hm', hf'⟩:=hturn
  have hbs:bs.set k b = bs:=by
   apply List.ext_getElem?
   intro t
   by_cases ht:k = t
   ·subst ht; rw [hb]; simp [(zLg hb).1]
   ·rw [List.getElem?_set_ne ht]
  rw [hbs] at hm' hf'
  refine hK _ _ ⟨(size_put ..).trans h0, h1.put ?_ (qC hd), ?_, ok, bs, h3, h4, hm', ?_⟩
  ·exact .of_cells hc hgrow (fun t ht hne=>hother t ht (fun e=>hne (by rw [hbk] at e; injection e)))
  ·refine h2.trans ⟨?_, ?_, ?_, hgrow, fun t ht=>hother t (Nat.lt_of_lt_of_le ht h2.size) (fun e=>?_)⟩
   ·rw [e2]; rfl
   ·rw [e2]; rfl
   ·rw [e2]; rfl
   ·have:=(h5.own k b _ t hb hm e.symm).1; omega
  ·exact wo (h6.map hf') (by simp [FitsE, Fits, FitsL]) (fun d e=>by rw [h0]; exact (qC hd d e).1)
end
end Go.Av
end
section
namespace Go.Av
open Go.RowKit Go.Proofs
def znz (P:Program) (f:FuncId) (args:List AV) (r:AV):Prop:=
 Enters P f /\ ∀ (w:World) (vs:List Value), FitsL (fun b=>b < w.heap.size) w args vs -> Calls P f vs.toArray w fun e w'=>∃ u, e = .returned u /\ Below w.heap.size w w' /\ Fits (fun b=>w.heap.size <= b /\ b < w'.heap.size) w' r u
section
variable {P:Program} {G:Glob} {fr:Nat -> EV} {mem:List PO} {o:Oper}
theorem zpM {args:Array Operand} {tys:Array TypeId} {f:FuncId} {av:List AV} {r:AV} (ho:o.op = .call { callee:=.value (.func f), args:=args, argTypes:=tys })
  (hav:zlM mem fr args.toList av) (hc:znz P f av r):OpY P G fr mem o (.pub r):=by
 intro n ok bs w a hG hn hm hfit K Q hK
 have hl:av.length = args.size:=by simpa using (xA hav).1
 have h4:FitsL (fun b=>b < w.heap.size) w av (args.toList.map a.eval):=FitsL.of_get (by simp [hl]) fun i x u hx hu=>by
  have hi:i < args.size:=by have:=(zLg hx).1; omega
  have hy:args[i]? = some args[i]:=Array.getElem?_eq_getElem hi
  have hv:=(xA hav).2 i args[i] x (by simp) hx
  have hu':u = a.eval args[i]:=by
   simp [hi] at hu
   exact hu.symm
  rw [hu']
  exact ze1 hm (fun b hb=>hm.lt b hb) (fun b _ hb=>hb) (hfit _ (by simp only[ho, Op.operands, Call.operands, Array.mem_append]; exact .inr (Array.getElem_mem hi))) hv
 unfold Oper.wp
 rw [call_exec (us:=[]) (vs:=[]) ho hc.1 rfl]
 simp only[Oper.upon]
 refine (hc.2 w _ (by simpa using h4)).mono fun en w' ⟨u, h5, h6, h7⟩=>?_
 subst h5
 refine hK u w' h6 ?_
 simp only[FitsE]
 exact h7.mono (fun b hb=>.inr hb) (fun _ _=>rfl)
theorem zg9 {w w':World} {T:TypeId} {v:Value} {m:List Int} (h:w'.ownsRow w.heap.size T 1 v m.length (m.map (Value.int .i64))) (hm:m.length <= maxLen):Fits (fun b=>w.heap.size <= b /\ b < w'.heap.size) w' (nums m) v:=by
 unfold nums
 simp only[Fits, List.length_map]
 obtain ⟨_, ⟨rfl, h0⟩ | ⟨g, cap, cur, rfl, h1, h2, h3, h4, h5, h6⟩⟩:=h
 ·exact ⟨none, 0, 1, by rw [h0], by omega, by unfold maxLen; omega, by simp, fun hn=>by omega⟩
 ·refine ⟨_, cap, 1, rfl, h3, h4, by simp, fun hn=>⟨g, 0, rfl, ⟨h1, (Array.getElem?_eq_some_iff.1 h2).1⟩, FitsR.of_get (size:=1) (by simp) fun i r hr=>?_⟩⟩
  have hi:i < m.length:=by have:=(zLg hr).1; simpa using this
  have e:r = [AV.v (.int .i64 m[i])]:=by
   rw [List.getElem?_map, List.getElem?_eq_getElem hi] at hr
   simpa using hr.symm
  subst e
  simp only[FitsC, Fits, and_true]
  refine ⟨.int .i64 m[i], ?_, rfl, rfl, rfl⟩
  have h7:(cur.toList.take (m.length * 1))[i]? = some (.int .i64 m[i]):=by rw [h6]; simp [hi]
  rw [List.getElem?_take, if_pos (by omega)] at h7
  simp only[World.cell?, h2, Nat.zero_add, Nat.mul_one]
  simpa using h7
theorem zoL {f:FuncId} {T:TypeId} (he:Enters P f)
  (h1:∀ (b off n c:Nat) (zs:List Int) (w:World), n <= zs.length -> n * 8 <= 140737488355328 -> (∀ j, j < zs.length -> w.cell? ⟨b, off + j, none⟩ = some (.int .i64 (zs.getD j 0))) ->
   Calls P f #[.slice (some ⟨b, off, none⟩) n c] w fun e w'=>∃ v', e = .returned v' /\ w'.ownsRow w.heap.size T 1 v' n ((zs.take n).map (Value.int .i64)) /\ v' ≠ .slice none 0 0 /\ Below w.heap.size w w')
  (h2:∀ (a:Addr) (c:Nat) (w:World), Calls P f #[.slice (some a) 0 c] w fun e w'=>∃ v', e = .returned v' /\ w'.ownsRow w.heap.size T 1 v' 0 [] /\ v' ≠ .slice none 0 0 /\ Below w.heap.size w w')
  (h3:∀ (n c:Nat) (w:World), Calls P f #[.slice none n c] w fun e w'=>e = .returned (.slice none 0 0) /\ w' = w) (m:List Int) (hm:m.length <= 1000000):znz P f [nums m] (nums m):=by
 refine ⟨he, fun w vs hf=>?_⟩
 simp only[FitsL] at hf
 obtain ⟨u, us, rfl, hu, rfl⟩:=hf
 obtain ⟨a, c, rfl, hh, _⟩:=zdY hu
 have hml:m.length <= maxLen:=hh.1
 cases m with
 | nil=>
  cases a with
  | none=>exact (h3 0 c w).mono fun e w' ⟨e1, e2⟩=>⟨_, e1, e2 ▸ Below.refl _ _, by
    unfold nums; simp only[Fits]; exact ⟨none, 0, 1, rfl, by simp, by unfold maxLen; omega, by simp, fun hn=>absurd hn (by simp)⟩⟩
  | some a=>exact (h2 a c w).mono fun e w' ⟨v, e1, e2, _, e3⟩=>⟨v, e1, e3, zg9 (m:=[]) e2 (by simp)⟩
 | cons x m=>
  obtain ⟨b, off, rfl, hc⟩:=hh.2 (by simp)
  exact (h1 b off _ c (x :: m) w (Nat.le_refl _) (by simp only[List.length_cons] at *; omega) (fun j hj=>by rw [hc j hj]; simp [List.getD_eq_getElem?_getD, List.getElem?_eq_getElem hj])).mono fun e w' ⟨v, e1, e2, _, e3⟩=>⟨v, e1, e3, zg9 (m:=x :: m) (by rwa [List.take_of_length_le (Nat.le_refl _)] at e2) hml⟩
end
end Go.Av
end
