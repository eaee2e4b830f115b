import Derived.Test.YtdjncbjfejdamaaGreatDoorPlatU
import Derived.Test.YtdjncbjfejdamaaGreatDoorPlatT
import Derived.Test.YtdjncbjfejdamaaGreatDoorPlatQ
import Derived.Test.YtdjncbjfejdamaaGreatDoorPlatJ
set_option linter.unusedVariables false
set_option linter.unusedSimpArgs false
section
namespace Go.Av
open Go.RowKit
section
variable {F:Fence} {n:Nat} {P:Program} {md:Region.Mode}
def zKn (md:Region.Mode) (l:List Oper) (o:Oper) (k:Nat):Bool:=
 zwu md (l ++ [o]) && (List.range l.length).all fun i=>(clo md (l ++ [o]) k (waits md (l ++ [o]) l.length)).contains i
theorem zJJ {l:List Oper} {o:Oper} {k:Nat} (hB:zKn md l o k = true) {Q:Exit -> Act -> World -> Prop} {ops:Array Oper} (hops:ops = (l ++ [o]).toArray):∀ (fuel:Nat) (s:Array Bool) (a:Act) (w:World), s.size = l.length -> Closd md l (fun i=>s.getD i false) ->
  wpAnyIn F n P md l.toArray (zwA F n P ops l.length Q) fuel s a w -> wpAnyIn F n P md ops Q (fuel + 1) (s.push false) a w:=by
 simp only[zKn, zLa, List.all_eq_true] at hB
 obtain ⟨ht, hall⟩:=hB
 have ht':zwu md l = true:=by
  unfold zwu at ht ⊢
  rw [List.all_eq_true] at ht ⊢
  intro i hi
  rw [List.mem_range] at hi
  have:=ht i (List.mem_range.2 (by simp; omega))
  rwa [List.getElem?_append_left hi] at this
 have hN:ops[l.length]? = some o:=by rw [hops]; simp
 have hto:∀ {i:Nat} (hi:i < l.length), (∀ e ∈ l[i].after, Region.binds md e = true -> e.on < i) /\ ∀ j b, l[i].guard = some (j, b) -> j < i:=fun {i} hi=>zwc ht (i:=i) (o:=l[i]) (by simp [List.getElem?_append_left hi, hi])
 have rN1:∀ s:Array Bool, s.size = l.length -> (∀ i, i < l.length -> s.getD i false = true) -> l.length ∈ Region.ready md ops (s.push false):=fun s hs h=>mem_ready.2 ⟨by rw [← hs]; exact zxu _ _, o, hN, fun e he hb=>by
  have h1:=(zwc ht (i:=l.length) (o:=o) (by simp)).1 e he hb
  rw [zvi _ _ (by omega)]
  exact h _ h1⟩
 have rN2:∀ s:Array Bool, s.size = l.length -> Closd md l (fun i=>s.getD i false) -> l.length ∈ Region.ready md ops (s.push false) -> ∀ i, i < l.length -> s.getD i false = true:=fun s hs hc h i hi=>by
  obtain ⟨_, o', ho', h2⟩:=mem_ready.1 h
  rw [hN] at ho'
  injection ho' with ho'
  subst ho'
  have hc2:Closd md (l ++ [o]) (fun i=>(s.push false).getD i false):=by
   intro j oj hj hsj e he hb
   by_cases hjl:j < l.length
   ·
    rw [List.getElem?_append_left hjl] at hj
    have e3:l[j] = oj:=by rw [List.getElem?_eq_getElem hjl] at hj; injection hj
    have h3:=(hto hjl).1 e (by rw [e3]; exact he) hb
    simp only[zvi _ _ (show j < s.size by omega)] at hsj
    simp only[zvi _ _ (show e.on < s.size by omega)]
    exact hc j oj hj hsj e he hb
   ·
    have e4:j = l.length:=by
     have:=(zLg hj).1
     simp at this; omega
    subst e4
    simp only[← hs, zxu] at hsj
    cases hsj
  have h3:=zyP hc2 k (waits md (l ++ [o]) l.length) (fun x hx=>by
   unfold waits at hx
   rw [show (l ++ [o])[l.length]? = some o by simp] at hx
   simp only[List.mem_filterMap] at hx
   obtain ⟨e, he, hx⟩:=hx
   split at hx
   ·
    rename_i hb
    injection hx with hx
    exact hx ▸ h2 e (by simpa using he) hb
   ·
    cases hx) i (by simpa using hall i (List.mem_range.2 hi))
  simp only[zvi _ _ (show i < s.size by omega)] at h3
  exact h3
 have rin:∀ {i:Nat} {L:List Oper} {s:Array Bool}, i ∈ Region.ready md L.toArray s -> i < L.length:=fun {i L s} hi=>by
  obtain ⟨_, o', ho', _⟩:=mem_ready.1 hi
  have:=(Array.getElem?_eq_some_iff.1 ho').1
  simpa using this
 have fin:∀ (s:Array Bool), s.size = l.length -> (∀ i, i < l.length -> s.getD i false = true) -> Region.ready md ops ((s.push false).setIfInBounds l.length true) = []:=fun s hs h=>by
  refine List.eq_nil_iff_forall_not_mem.2 fun i hi=>?_
  obtain ⟨h1, _⟩:=mem_ready.1 hi
  rw [hops] at hi
  have hlt:=rin hi
  simp at hlt
  by_cases hil:i < l.length
  ·
   rw [getD_set_ne true (Ne.symm (Nat.ne_of_lt hil)), zvi _ _ (by omega), zxa (by omega), h i hil] at h1
   cases h1
  ·
   have e4:i = l.length:=by omega
   subst e4
   simp [Array.getD_eq_getD_getElem?, hs] at h1
 have allr:∀ s:Array Bool, s.size = l.length -> (∀ i, i < l.length -> s.getD i false = true) -> Region.ready md l.toArray s = []:=fun s hs h=>by
  refine List.eq_nil_iff_forall_not_mem.2 fun i hi=>?_
  obtain ⟨h1, _⟩:=mem_ready.1 hi
  have hlt:=rin hi
  rw [zxa (by omega), h i hlt] at h1
  cases h1
 intro fuel
 induction fuel with
 | zero=>
  intro s a w hs hc hh
  obtain ⟨h0, h1⟩:=hh
  have ha:=zwo ht' hs h0
  refine ⟨fun h=>?_, fun i hi=>?_⟩
  ·
   have:=rN1 s hs ha
   rw [h] at this; cases this
  ·
   have hi':=hi
   rw [hops] at hi
   have hlt:=rin hi
   simp at hlt
   by_cases hil:i < l.length
   ·
    have:=(zwT ht hs false hil).1 hi
    rw [h0] at this; cases this
   ·
    have e4:i = l.length:=by omega
    subst e4
    exact wpOpIn_mono (fun a w hq=>⟨fin s hs ha, hq⟩) h1
 | succ fuel ih=>
  intro s a w hs hc hh
  obtain ⟨h0, h1⟩:=hh
  refine ⟨fun h=>?_, fun i hi=>?_⟩
  ·
   have hr:Region.ready md l.toArray s = []:=List.eq_nil_iff_forall_not_mem.2 fun i hi=>by
    have:=(zwT (o:=o) ht hs false (rin hi)).2 hi
    rw [← hops, h] at this; cases this
   have:=rN1 s hs (zwo ht' hs hr)
   rw [h] at this; cases this
  ·
   have hi':=hi
   rw [hops] at hi
   have hlt:=rin hi
   simp at hlt
   by_cases hil:i < l.length
   ·
    have hr:i ∈ Region.ready md l.toArray s:=(zwT ht hs false hil).1 hi
    have h2:=h1 i hr
    have e:(s.push false).setIfInBounds i true = (s.setIfInBounds i true).push false:=by
     apply Array.ext_getElem?
     intro j
     by_cases hij:i = j
     ·
      subst hij
      simp only[Array.getElem?_setIfInBounds, hs, hil, Nat.lt_succ_of_lt hil, Array.size_push, if_true]
      rw [Array.getElem?_push_lt (by simpa [hs] using hil)]
      simp
     ·
      rw [Array.getElem?_setIfInBounds_ne hij, Array.getElem?_push, Array.getElem?_push, Array.getElem?_setIfInBounds_ne hij]
      simp
    rw [e]
    refine zA4 hops hil (fun oi j b hoi hg=>?_) (fun a w hk=>ih (s.setIfInBounds i true) a w (by simpa using hs) ?_ hk) h2
    ·
     have e5:l[i] = oi:=by rw [List.getElem?_eq_getElem hil] at hoi; injection hoi
     have h3:=(hto hil).2 j b (by rw [e5]; exact hg)
     omega
    ·
     intro j oj hj hsj e he hb
     by_cases hij:i = j
     ·
      subst hij
      obtain ⟨_, o', ho', h4⟩:=mem_ready.1 hr
      have e5:o' = oj:=by
       simp only[List.getElem?_toArray] at ho'
       rw [ho'] at hj; injection hj
      subst e5
      have h5:=h4 e he hb
      by_cases hie:i = e.on
      ·
       simp only[← hie]; exact hsj
      ·
       simp only[getD_set_ne _ hie]; exact h5
     ·
      simp only[getD_set_ne _ hij] at hsj
      have h5:=hc j oj hj hsj e he hb
      by_cases hie:i = e.on
      ·
       simp only[← hie]
       have hlt:i < s.size:=by omega
       simp [Array.getD_eq_getD_getElem?, hlt]
      ·
       simp only[getD_set_ne _ hie]; exact h5
   ·
    have e4:i = l.length:=by omega
    subst e4
    have ha:=rN2 s hs hc hi'
    have h2:=h0 (allr s hs ha)
    exact wpOpIn_mono (fun a w hq=>⟨fun _=>hq, fun j hj=>by rw [fin s hs ha] at hj; cases hj⟩) h2
theorem zIt {N i:Nat} {ops opsX:Array Oper} {Q:Exit -> Act -> World -> Prop} {a:Act} {w:World} {K K':Act -> World -> Prop} (h:∀ a w, K a w -> K' a w) (hh:wpOpIn F n P ops Q i K a w):wpOpIn F n P ops (zwA F n P opsX N Q) i K' a w:=by
 unfold wpOpIn at *
 cases ho:ops[i]? with
 | none=>rw [ho] at hh; exact h _ _ hh
 | some o=>
  rw [ho] at hh
  simp only at hh ⊢
  split
  ·
   rename_i hw
   rw [if_pos hw] at hh
   exact zyB h hh
  ·
   rename_i hw
   rw [if_neg hw] at hh
   exact ⟨hh.1, h _ _ hh.2⟩
end
section
variable {P:Program} {G:Glob} {C:Cx P G} {ph:Ph} {st:ASt} {Q:Exit -> Ph -> ASt -> Prop}
theorem zSr {α:Type} {l:List α} {N:Nat} {x y z:α} (h:l.drop N = [x, y, z]):l = l.take N ++ [x] ++ [y] ++ [z] /\ (l.take N).length = N:=by
 have h1:l.take N ++ l.drop N = l:=List.take_append_drop N l
 rw [h] at h1
 refine ⟨by simpa using h1.symm, ?_⟩
 have h2:=congrArg List.length h
 rw [List.length_drop] at h2
 simp only[List.length_cons, List.length_nil] at h2
 rw [List.length_take]; omega
theorem zIH {F:Fence} {n:Nat} {l:List Oper} {o:Oper} {rest:List Oper} {Q:Exit -> Act -> World -> Prop} {a:Act} {w:World} (hg:∀ j b, o.guard = some (j, b) -> j < l.length)
  (h:wpListIn F n P (l ++ o :: rest).toArray Q (o :: rest) a w):wpOpIn F n P (l ++ [o]).toArray Q l.length (wpListIn F n P (l ++ o :: rest).toArray Q rest) a w:=by
 have e:Region.wanted o (yielded (l ++ o :: rest).toArray a.tmps) = Region.wanted o (yielded (l ++ [o]).toArray a.tmps):=by
  unfold Region.wanted
  cases hgd:o.guard with
  | none=>rfl
  | some p=>
   obtain ⟨j, b⟩:=p
   have hj:=hg j b hgd
   simp only
   unfold yielded
   simp [List.getElem?_append_left hj]
 unfold wpOpIn
 rw [show (l ++ [o]).toArray[l.length]? = some o by simp]
 simp only[wpListIn] at h
 rw [e] at h
 exact h
theorem zN3 {id:Nat} {L:List Oper} {o1 o2 o3:Oper} (N k:Nat) (hL:L.drop N = [o1, o2, o3]) (hm:P.follows .mixedOrders = true) (h1:zKn .any (L.take N) o1 k = true) (h2:zKn .any (L.take N ++ [o1]) o2 k = true) (h3:zKn .any (L.take N ++ [o1] ++ [o2]) o3 k = true)
  (hB:Region.lexB .any (L.take N).toArray = true) (hn:yt (L.take N).toArray st.n = true)
  (h:yM P G (L.take N).toArray st.mem (fun fr=>zan C L.toArray [o1, o2, o3] ph ⟨st.n, fr, st.mem⟩ Q) (L.take N) st.fr):vY C (.region id L.toArray true) ph st Q:=by
 obtain ⟨e1, e2⟩:=zSr hL
 generalize L.take N = l at *
 subst e1
 subst e2
 intro w0 ok0 a w hc hs
 refine wpIn_region_any hm ?_
 have hg:∀ {m:List Oper} {o:Oper}, zKn .any m o k = true -> ∀ j b, o.guard = some (j, b) -> j < m.length:=fun {m o} h j b hgd=>by
  simp only[zKn, zLa] at h
  exact (zwc h.1 (i:=m.length) (o:=o) (by simp)).2 j b hgd
 have hs':Sit w0 ok0 st a { w with drawn:=w.drawn + 1 }:=by
  obtain ⟨s0, s1, s2, ok, bs, s3, s4, s5, s6⟩:=hs
  have hb:Below w.heap.size w w.drew:=(Below.refl _ _).drew
  refine ⟨s0, s1.keep (.of_below hb), yf s2 s2.size hb, okN ok w w.drew, bs, fun b hb=>.inl (s3 b hb), fun b hb=>?_, s5.grow hb, s6.map fun _ _ h=>h.grow s5.lt hb⟩
  rcases hb with hb | hb
  ·
   exact s4 b hb
  ·
   exact .inr (Nat.le_trans s2.size hb.1)
 have q3:=zJJ (F:=FW none) (n:=0) (P:=P) h3 (Q:=C.lift Q) (ops:=(l ++ [o1] ++ [o2] ++ [o3]).toArray) rfl (l.length + 2) (Array.replicate (l.length + 2) false) a { w with drawn:=w.drawn + 1 } (by simp) (zxx _ _)
 have q2:=zJJ (F:=FW none) (n:=0) (P:=P) h2 (Q:=zwA (FW none) 0 P (l ++ [o1] ++ [o2] ++ [o3]).toArray (l ++ [o1] ++ [o2]).length (C.lift Q)) (ops:=(l ++ [o1] ++ [o2]).toArray) rfl (l.length + 1) (Array.replicate (l.length + 1) false) a { w with drawn:=w.drawn + 1 } (by simp) (zxx _ _)
 have q1:=zJJ (F:=FW none) (n:=0) (P:=P) h1 (Q:=zwA (FW none) 0 P (l ++ [o1] ++ [o2]).toArray (l ++ [o1]).length (zwA (FW none) 0 P (l ++ [o1] ++ [o2] ++ [o3]).toArray (l ++ [o1] ++ [o2]).length (C.lift Q))) (ops:=(l ++ [o1]).toArray) rfl l.length (Array.replicate l.length false) a { w with drawn:=w.drawn + 1 } (by simp) (zxx _ _)
 have hsz:(l ++ [o1] ++ [o2] ++ [o3]).toArray.size = l.length + 2 + 1:=by simp
 rw [hsz, Array.replicate_succ]
 refine q3 ?_
 rw [Array.replicate_succ]
 refine q2 ?_
 rw [Array.replicate_succ]
 refine q1 ?_
 refine zaZ (G:=G) (mem:=st.mem) (n:=st.n) (Q:=fun fr=>zan C (l ++ [o1] ++ [o2] ++ [o3]).toArray [o1, o2, o3] ph ⟨st.n, fr, st.mem⟩ Q) hc.g hc.ok hn (fun fr a w hs hq=>?_) _ _ st.fr a _ hs' ?_
 ·
  have t1:=hq w0 ok0 a w hc hs
  have t2:wpListIn (FW none) 0 P (l ++ o1 :: [o2, o3]).toArray (C.lift Q) (o1 :: [o2, o3]) a w:=by simpa using t1
  have t3:=zIH (hg h1) t2
  show wpOpIn _ _ _ _ _ _ _ _ _
  refine zIt (fun a w t4=>?_) (zIt (fun _ _ h=>h) t3)
  have t5:wpListIn (FW none) 0 P ((l ++ [o1]) ++ o2 :: [o3]).toArray (C.lift Q) (o2 :: [o3]) a w:=by simpa using t4
  have t6:=zIH (hg h2) t5
  show wpOpIn _ _ _ _ _ _ _ _ _
  refine zIt (fun a w t7=>?_) t6
  have t8:wpListIn (FW none) 0 P ((l ++ [o1] ++ [o2]) ++ o3 :: []).toArray (C.lift Q) (o3 :: []) a w:=by simpa using t7
  exact zIH (hg h3) t8
 ·
  have hB2:Region.lexFrom .any l.toArray l.length 0 (Array.replicate l.length false) = true:=by
   simp only[Region.lexB, zLa] at hB
   simpa using hB.2
  exact zeF (P:=P) (G:=G) (ops:=l.toArray) (mem:=st.mem) (md:=.any) l 0 (Array.replicate l.length false) st.fr (by simp) hB2 h
end
end Go.Av
end
section
namespace Go.Av
open Go.RowKit
section
variable {P:Program} {G:Glob} {fr:Nat -> EV} {mem:List PO} {o:Oper} {st:ASt}
theorem zMq {n:NS} {L:Nat} (d:Tmp) (hm:mem[L]? = some (.row [])) (h:fr d = .pub (.v (.slice none 0 0))):Weak ⟨n, fr, mem⟩ ⟨n, jr fr (some d) (.psl L 0), mem⟩:=by
 intro w0 ok0 a w ⟨h0, h1, h2, ok, bs, h3, h4, h5, h6⟩
 have hlen:=h5.len
 simp only at hlen h5 h6
 have hlm:L < mem.length:=(zLg hm).1
 have hb:bs[L]? = some (bs[L]'(by omega)):=List.getElem?_eq_getElem (by omega)
 refine ⟨h0, h1, h2, ok, bs, h3, h4, h5, fun t=>?_, h6.2⟩
 simp only[zcQ]
 by_cases htd:t = d
 ·
  subst htd
  have:=h6.1 t
  simp only[h, FitsE, Fits] at this
  simp only[if_true, FitsE]
  refine ⟨_, hb, fun rows hr=>?_⟩
  rw [hm] at hr
  injection hr with hr
  injection hr with hr
  subst hr
  have hrow:=h5.row L _ _ hb hm
  have hbn:(bs[L]'(by omega)).blk = none:=by
   cases hg:(bs[L]'(by omega)).blk with
   | none=>rfl
   | some g=>have:=hrow.pos g hg; simp at this
  exact ⟨by simp, fun _=>by rw [this.1]; simp [PB.sl, hbn]⟩
 ·
  simp only[htd, if_false]; exact h6.1 t
theorem zKt {ok:Nat -> Prop} {w:World} {bs:List PB}:∀ {cs:List EV} {us:List Value}, FitsEL ok w bs mem cs us -> FitsL ok w (cs.map zec) us
 | [], us, h=>by simpa only [List.map_nil, FitsEL, FitsL] using h
 | x :: xs, us, h=>by
  simp only[FitsEL] at h
  obtain ⟨u, us', rfl, h1, h2⟩:=h
  simp only[List.map_cons, FitsL]
  refine ⟨u, us', rfl, ?_, zKt h2⟩
  cases x with
  | pub y=>simpa only [zec, FitsE] using h1
  | _=>simp only[zec, Fits]
def zPd (mem:List PO) (e:EV) (rows:List (List EV)):Prop:=(e = .pub (.v (.slice none 0 0)) /\ rows = []) ∨ ∃ k, e = .psl k rows.length /\ mem[k]? = some (.row rows)
theorem zQw {T U:TypeId} {x:Operand} {e:EV} {rows:List (List EV)} (ho:o.op = .call { callee:=.builtin .len, args:=#[x], argTypes:=#[T] }) (hx:evO fr x = e) (h:zPd mem e rows) (hu:P.underlying T = some (.slice U)):OpY P G fr mem o (I (rows.length:Int)):=by
 rcases h with ⟨rfl, rfl⟩ | ⟨k, rfl, hm⟩
 ·
  exact zuA ho hx hu
 ·
  exact jE ho hx hm rfl hu
theorem zOF {f:FuncId} {T:TypeId} (he:Enters P f)
  (h1:∀ (b off n c:Nat) (zs:List Value) (w:World), zs.length = n * 2 -> n * 16 <= 140737488355328 -> (∀ j u, zs[j]? = some u -> w.cell? ⟨b, off + j, none⟩ = some u) -> (∀ u ∈ zs, u.oneCell' = true) ->
   Calls P f #[.slice (some ⟨b, off, none⟩) n c] w fun e w'=>∃ v', e = .returned v' /\ w'.ownsRow w.heap.size T 2 v' n zs /\ Below w.heap.size w w')
  (h3:∀ (n c:Nat) (w:World), Calls P f #[.slice none n c] w fun e w'=>e = .returned (.slice none 0 0) /\ w' = w)
  {x:Operand} {tys:Array TypeId} {l:Nat} {rows:List (List EV)} {ex:EV} (hsz:∀ r ∈ rows, r.length = 2) (hms:rows.length <= 1000000) (ho:o.op = .call { callee:=.value (.func f), args:=#[x], argTypes:=tys }) (hd:vC o st.n = true) (hx:evO st.fr x = ex) (hL:zPd st.mem ex rows) (hml:st.mem[l]? = some (.row [])):
  OpM P G st o ⟨st.n, jr st.fr o.dst (.psl l rows.length), st.mem.set l (.row rows)⟩:=by
 intro w0 ok0 a w hG hok hsit K Q hK
 obtain ⟨k0, k1, k2, ok, bs, k3, k4, k5, k6⟩:=hsit
 have hxe:=jd (fr:=st.fr) (a:=a) (x:=x) fun t _=>k6.1 t
 rw [hx] at hxe
 have hlm:l < st.mem.length:=(zLg hml).1
 have hlb:l < bs.length:=by rw [k5.len]; exact hlm
 have hbl:bs[l]? = some bs[l]:=by simp [hlb]
 have hrow:=k5.row l _ _ hbl hml
 have hbn:(bs[l]).blk = none:=by
  cases hg:(bs[l]).blk with
  | none=>rfl
  | some g=>have:=hrow.pos g hg; simp at this
 unfold Oper.wp
 rw [call_exec (us:=[]) (vs:=[]) ho he rfl]
 simp only[Oper.upon]
 -- nil comes back
 have fin:rows = [] -> a.eval x = .slice none 0 0 -> ∀ R:Ending -> World -> Prop, (∀ v, v = .slice none 0 0 -> K (a.put o.dst v) w -> R (.returned v) w) -> Calls P f #[a.eval x] w R:=fun hr e R hR=>by
  subst hr
  have hset:st.mem.set l (PO.row []) = st.mem:=set_self hml
  rw [hset] at hK
  have hc:=h3 0 0 w
  rw [← e] at hc
  refine hc.mono fun en w' ⟨e1, e2⟩=>?_
  subst e1; subst e2
  refine hR _ e (hK _ _ ⟨(size_put ..).trans k0, k1.put (.refl _) (qM hd), k2, ok, bs, k3, k4, k5, wX k6 ?_ (fun d hdd=>by rw [k0]; exact xB hd d hdd)⟩)
  rw [e]
  simp only[FitsE]
  refine ⟨bs[l], hbl, fun rows hr=>?_⟩
  rw [hml] at hr
  injection hr with hr
  injection hr with hr
  subst hr
  exact ⟨by simp, fun _=>by simp [PB.sl, hbn]⟩
 rcases hL with ⟨rfl, hr⟩ | ⟨k, rfl, hm⟩
 ·
  simp only[FitsE, Fits] at hxe
  exact fin hr hxe.1 _ (fun _ _ h=>h)
 ·
  simp only[FitsE] at hxe
  obtain ⟨b, hb, hxe⟩:=hxe
  have hxv:=(hxe _ hm).2 rfl
  have hsrc:=k5.row k b _ hb hm
  cases hbk:b.blk with
  | none=>
   have hr:=hsrc.nil hbk
   exact fin hr (by rw [hxv]; unfold PB.sl; rw [hbk]) _ (fun _ _ h=>h)
  | some bg=>
   obtain ⟨cur, hc, hcs, hcl, hcm, hcell⟩:=hsrc.blk bg hbk
   have hpos:=hsrc.pos bg hbk
   have hsz2:b.size = 2:=by
    have h1:=hsrc.size rows[0] (List.getElem_mem hpos)
    rw [hsz _ (List.getElem_mem hpos)] at h1
    exact h1.symm
   have hsl:a.eval x = .slice (some ⟨bg, 0, none⟩) rows.length b.cap:=by rw [hxv]; unfold PB.sl; rw [hbk]
   have hct:rows.length * 2 <= cur.size:=by rw [hcs, hsz2]; exact Nat.mul_le_mul_right 2 hcl
   have hcu:∀ j, j < rows.length * 2 -> ∃ r, rows[j / 2]? = some r /\ ∃ z, r[j % 2]? = some z /\ ∃ u, cur[j]? = some u /\ u.oneCell' = true /\ FitsE ok w bs st.mem z u:=fun j hj=>by
    have hi:j / 2 < rows.length:=by omega
    have hr2:=hsz _ (List.getElem_mem hi)
    have hz:j % 2 < (rows[j / 2]).length:=by omega
    obtain ⟨u, h7, h8, h9⟩:=hcell (j / 2) (j % 2) _ _ (List.getElem?_eq_getElem hi) (List.getElem?_eq_getElem hz)
    rw [hsz2, show j / 2 * 2 + j % 2 = j by omega] at h7
    exact ⟨_, List.getElem?_eq_getElem hi, _, List.getElem?_eq_getElem hz, u, h7, h8, h9⟩
   have htk:∀ (j:Nat) (u:Value), (cur.toList.take (rows.length * 2))[j]? = some u -> j < rows.length * 2 /\ cur[j]? = some u:=fun j u h=>by
    rw [List.getElem?_take] at h
    split at h
    ·
     rename_i hj; exact ⟨hj, by simpa using h⟩
    ·
     cases h
   have hcall:=h1 bg 0 rows.length b.cap (cur.toList.take (rows.length * 2)) w (by simp; omega) (by omega) (fun j u h=>by
    obtain ⟨_, h2⟩:=htk j u h
    simp only[World.cell?, hc, Nat.zero_add]; exact h2) (fun u hu=>by
    obtain ⟨j, hj, e⟩:=List.getElem_of_mem hu
    obtain ⟨h2, h4⟩:=htk j u (by rw [List.getElem?_eq_getElem hj, e])
    obtain ⟨_, _, _, _, u', h5, h6, _⟩:=hcu j h2
    rw [h4] at h5; injection h5 with h5; rw [h5]; exact h6)
   rw [← hsl] at hcall
   refine (show Calls P f #[a.eval x] w _ from hcall.mono fun en w' ⟨v', e1, e2, e3⟩=>?_)
   subst e1
   obtain ⟨q1, ⟨rfl, q0⟩ | ⟨g, cap, cur', rfl, q2, q3, q4, q5, q6, q7⟩⟩:=e2
   ·
    omega
   have hturn:=k5.turn (w':=w') (b':=⟨some g, cap, ⟨T, false⟩, 2⟩) (rows':=rows) hbl hml e3.size (fun t htt _=>e3.block t htt) (by simp) (fun hl=>by simp at hl; omega)
    (fun g' hg=>by simp at hg; exact .inr (by omega)) k2.size (fun hfit=>by
     refine ⟨fun r hr=>hsz r hr, fun hnn=>(by simp at hnn), fun _ _=>hpos, fun g' hg=>?_⟩
     simp at hg
     subst hg
     refine ⟨cur', q3, q6, by simpa using q4, q5, fun i j r z hr hz=>?_⟩
     have hi:i < rows.length:=(zLg hr).1
     have hj:j < 2:=by
      have:=(zLg hz).1
      rwa [hsz r (List.mem_of_getElem? hr)] at this
     obtain ⟨r', h5, z', h6, u, h7, h8, h9⟩:=hcu (i * 2 + j) (by omega)
     rw [show (i * 2 + j) / 2 = i by omega] at h5
     rw [show (i * 2 + j) % 2 = j by omega] at h6
     rw [hr] at h5; injection h5 with h5; subst h5
     rw [hz] at h6; injection h6 with h6; subst h6
     refine ⟨u, ?_, h8, hfit _ _ h9⟩
     have h10:(cur'.toList.take (rows.length * 2))[i * 2 + j]? = some u:=by rw [q7, List.getElem?_take, if_pos (by omega)]; simpa using h7
     rw [List.getElem?_take, if_pos (by omega)] at h10
     simpa using h10)
   refine hK _ _ ⟨(size_put ..).trans k0, k1.put (.of_below e3) (qM hd), yf k2 k2.size e3, ok, _, k3, k4, hturn.1, ?_⟩
   refine wX (k6.map hturn.2) ?_ (fun d hdd=>by rw [k0]; exact xB hd d hdd)
   simp only[FitsE]
   refine ⟨⟨some g, cap, ⟨T, false⟩, 2⟩, by simp [hlb], fun rows' hr=>?_⟩
   simp [hlm] at hr
   subst hr
   exact ⟨by simp, fun _=>by simp [PB.sl]⟩
end
end Go.Av
end
section
namespace Go.Av
open Go.RowKit
section
variable {P:Program} {G:Glob} {fr:Nat -> EV} {mem:List PO} {o:Oper}
theorem FitsL.cut {ok:Nat -> Prop} {w:World} {cs:List AV} {vs:List Value} (h:FitsL ok w cs vs) (i n:Nat):FitsL ok w ((cs.drop i).take n) ((vs.drop i).take n):=by
 have hl:=h.length
 refine FitsL.of_get (by simp [hl]) fun j x u hx hu=>?_
 rw [List.getElem?_take] at hx hu
 split at hx
 ·
  rename_i hj
  rw [if_pos hj] at hu
  rw [List.getElem?_drop] at hx hu
  obtain ⟨u', h1, h2⟩:=h.get hx
  rw [h1] at hu; injection hu with hu; subst hu; exact h2
 ·
  cases hx
theorem zR4 {T:TypeId} {x y:Operand} {cs ds:List AV} {n size:Nat} {p:Int} (ho:o.op = .index T x y) (hx:evO fr x = .pub (.agg cs)) (hy:evO fr y = I p) (ht:zgU P T n size = true)
  (hel:∀ e, P.underlying T = some (.array n e) -> tyIs P e true size = true) (hp:0 <= p) (hlt:p < n) (hc:((cs.drop (p.toNat * size)).take size) = ds):OpY P G fr mem o (.pub (.agg ds)):=
 jI fun ok bs w a _ _ hfit=>by
  have h:=hfit x (by simp [ho, Op.operands])
  have h2:=xR (hfit y (by simp [ho, Op.operands])) hy
  rw [hx] at h
  simp only[FitsE, Fits] at h
  obtain ⟨vs, e, h1, h3⟩:=h
  obtain ⟨el, he, hs⟩:=zop ht
  have hin:0 <= p /\ p < (n:Int):=⟨hp, hlt⟩
  refine ⟨.agg (vs.toArray.extract (p.toNat * size) (p.toNat * size + size)), ?_, ?_⟩
  ·
   simp [execOp, ho, e, h2, Instr.index, asIntOf, run_underlying he, hin, hs, part, isAgg_of (hel el he)]
  ·
   simp only[FitsE, Fits]
   refine ⟨(vs.drop (p.toNat * size)).take size, ?_, fun u hu=>h1 u (List.mem_of_mem_drop (List.mem_of_mem_take hu)), by rw [← hc]; exact h3.cut _ _⟩
   congr 1
   apply Array.toList_inj.1
   simp [List.extract_eq_take_drop]
end
section
variable {P:Program} {G:Glob} {fr:Nat -> EV} {mem:List PO} {o:Oper}
def zP8:EV -> AV -> Prop
 | .pub y, x=>AVle y x
 | .mix cs, x=>AVle (.agg (cs.map zec)) x
 | _, x=>x = .top
def zOL (fr:Nat -> EV):List Operand -> List AV -> Prop
 | [], xs=>xs = []
 | y :: ys, xs=>∃ x xs', xs = x :: xs' /\ zP8 (evO fr y) x /\ zOL fr ys xs'
theorem zNy {ok:Nat -> Prop} {w:World} {bs:List PB} {e:EV} {x:AV} {u:Value} (h:zP8 e x) (hf:FitsE ok w bs mem e u):Fits ok w x u:=by
  cases e with
  | pub y=>simp only[FitsE] at hf; exact h _ _ _ hf
  | mix cs=>
    simp only[FitsE] at hf
    obtain ⟨vs, e, e1, e2⟩:=hf
    refine h ok w u ?_
    simp only[Fits]
    exact ⟨vs, e, e1, zKt e2⟩
  | _ => have : x = .top := h
         subst this; simp only[Fits]
theorem zNb {args:Array Operand} {tys:Array TypeId} {f:FuncId} {av:List AV} {r:AV} (ho:o.op = .call { callee:=.value (.func f), args:=args, argTypes:=tys }) (ha:zOL fr args.toList av) (hc:ACall P G f av r):OpY P G fr mem o (.pub r):=by
  intro n ok bs w a hG hn hm hfit K Q hK
  have h4:FitsL ok w av (args.toList.map a.eval):=by
    have key:∀ (l:List Operand) (xs:List AV), (∀ y ∈ l, y ∈ o.op.operands) -> zOL fr l xs -> FitsL ok w xs (l.map a.eval):=by
      intro l
      induction l with
      | nil => intro xs _ h; have : xs = [] := h
               subst this; simp [FitsL]
      | cons y l ih=>
        intro xs hm h
        obtain ⟨x, xs', rfl, h1, h2⟩:=h
        simp only[List.map_cons, FitsL]
        exact ⟨_, _, rfl, zNy h1 (hfit y (hm y (by simp))), ih xs' (fun z hz=>hm z (by simp [hz])) h2⟩
    exact key _ _ (fun y hy=>by simp only[ho, Op.operands, Call.operands, Array.mem_append]; exact .inr (by simpa using hy)) ha
  unfold Oper.wp
  rw [call_exec (us:=[]) (vs:=[]) ho hc.1 rfl]
  simp only[Oper.upon]
  refine (hc.2 ok w _ hG hm.lt (by simpa using h4)).mono fun en w' ⟨u, h5, h6, h7⟩=>?_
  subst h5
  exact hK u w' h6 (by simpa only [FitsE] using h7)
end
theorem zJc {k:Nat}:∀ {l:List PO}, (∀ o ∈ l, o.okL k) -> zdA k l
 | [], _=>trivial
 | o :: l, h=>⟨h o (by simp), zJc fun x hx=>h x (by simp [hx])⟩
theorem zHI {k:Nat}:∀ {l m:List PO}, zdA k l -> zdA k m -> zdA k (l ++ m)
 | [], _, _, h=>h
 | _ :: _, _, h, h2=>⟨h.1, zHI h.2 h2⟩
end Go.Av
end
section
namespace Go.Av
open Go.RowKit
theorem zKL {n:NS} {fr:Nat -> EV} {mem:List PO} {k:Nat} {cs:List AV} (d:Tmp) (hm:mem[k]? = some (.row [cs.map .pub])) (hd:fr d = .pp k 1 0 0):
  Weak ⟨n, fr, mem⟩ ⟨n, jr fr (some d) (.pub (.ptr cs)), mem.set k .dead⟩:=by
 intro w0 ok0 a w ⟨h0, h1, h2, ok, bs, h3, h4, h5, h6⟩
 have hkm:k < mem.length:=(zLg hm).1
 have hlen:=h5.len
 simp only at hlen h5 h6
 have hkb:k < bs.length:=by omega
 have hb:bs[k]? = some bs[k]:=List.getElem?_eq_getElem hkb
 have ht:Turn bs bs mem (mem.set k .dead):=by
  refine ⟨fun l b0 hb0=>⟨b0, hb0, fun rows' hr=>⟨rows', ?_, Nat.le_refl _, fun _=>rfl⟩⟩, fun l b0 b0' es h0 h0' hr=>?_⟩
  ·
   by_cases hl:k = l
   ·
    subst hl; rw [List.getElem?_set_self hkm] at hr; cases hr
   ·
    rwa [List.getElem?_set_ne hl] at hr
  ·
   rw [h0] at h0'; injection h0' with h0'
   by_cases hl:k = l
   ·
    subst hl; rw [List.getElem?_set_self hkm] at hr; cases hr
   ·
    rw [List.getElem?_set_ne hl] at hr; exact ⟨⟨es, hr⟩, h0'.symm⟩
 have get:∀ (l:Nat) (r:PO), r.live = true -> (mem.set k .dead)[l]? = some r -> l ≠ k /\ mem[l]? = some r:=fun l r hlv hr=>by
  by_cases hl:k = l
  ·
   subst hl; rw [List.getElem?_set_self hkm] at hr; injection hr with hr; subst hr; cases hlv
  ·
   rw [List.getElem?_set_ne hl] at hr; exact ⟨fun e=>hl e.symm, hr⟩
 -- what is let now
 let ok':Nat -> Prop:=fun b=>ok b ∨ bs[k].blk = some b
 have hk:∀ b, ok b -> ok' b:=fun b hb=>.inl hb
 refine ⟨h0, h1, h2, ok', bs, fun b hb=>.inl (h3 b hb), fun b hb'=>?_, ⟨by simpa using hlen, fun b hb'=>?_, fun l b rows' hb' hr=>?_, fun l b es hb' hr=>?_, fun l b rows' g hb' hr ho hg=>?_, fun l l' b b' r r' g hb1 hr1 ho1 hb2 hr2 ho2 hg1 hg2=>?_⟩, fun t=>?_, fun p hp=>(h6.2 p hp).mono hk (fun _ _=>rfl) ht⟩
 ·
  rcases hb' with h | h
  ·
   exact h4 b h
  ·
   exact .inr (h5.own k _ _ b hb hm h).1
 ·
  rcases hb' with h | h
  ·
   exact h5.lt b h
  ·
   exact h5.own_lt hb hm h
 ·
  obtain ⟨hne, hr⟩:=get l _ rfl hr
  have hrow:=h5.row l b rows' hb' hr
  refine ⟨hrow.size, hrow.nil, hrow.pos, fun g hg=>?_⟩
  obtain ⟨cur, c1, c2, c3, c4, c5⟩:=hrow.blk g hg
  refine ⟨cur, c1, c2, c3, c4, fun i j r x hri hx=>?_⟩
  obtain ⟨u, d1, d2, d3⟩:=c5 i j r x hri hx
  exact ⟨u, d1, d2, d3.mono hk (fun _ _=>rfl) ht⟩
 ·
  obtain ⟨hne, hr⟩:=get l _ rfl hr
  obtain ⟨g, arr, c1, c2, c3, c4⟩:=h5.mp l b es hb' hr
  refine ⟨g, arr, c1, c2, c3, fun i q x hx=>?_⟩
  obtain ⟨v, d1, d2⟩:=c4 i q x hx
  exact ⟨v, d1, d2.mono hk (fun _ _=>rfl) ht⟩
 ·
  obtain ⟨hne, hr⟩:=get l rows' ho hr
  obtain ⟨e1, e2⟩:=h5.own' l b rows' g hb' hr ho hg
  refine ⟨e1, fun h=>?_⟩
  rcases h with h | h
  ·
   exact e2 h
  ·
   exact hne (h5.dist' l k b _ rows' _ g hb' hr ho hb hm rfl hg h)
 ·
  obtain ⟨_, hr1⟩:=get l r ho1 hr1
  obtain ⟨_, hr2⟩:=get l' r' ho2 hr2
  exact h5.dist' l l' b b' r r' g hb1 hr1 ho1 hb2 hr2 ho2 hg1 hg2
 ·
  simp only[zcQ]
  by_cases htd:t = d
  ·
   subst htd
   simp only[if_true]
   have hf:FitsE ok w bs mem (fr t) (a.tmps.getD t undef):=h6.1 t
   rw [hd] at hf
   simp only[FitsE] at hf ⊢
   obtain ⟨b, hb', hf⟩:=hf
   rw [hb] at hb'
   injection hb' with hb'
   subst hb'
   obtain ⟨g, hg, e⟩:=(hf _ hm).2 rfl
   have hr:=h5.row k _ _ hb hm
   obtain ⟨cur, c1, c2, c3, c4, c5⟩:=hr.blk g hg
   simp only[Fits]
   refine ⟨g, 0, by rw [e]; simp, .inr hg, FitsC.of_get fun i x hx=>?_⟩
   obtain ⟨u, d1, d2, d3⟩:=c5 0 i _ (.pub x) rfl (by rw [List.getElem?_map, hx]; rfl)
   refine ⟨u, ?_, d2, ?_⟩
   ·
    simp only[World.cell?, c1, Nat.zero_add]
    simpa using d1
   ·
    simp only[FitsE] at d3
    exact d3.mono hk (fun _ _=>rfl)
  ·
   simp only[htd, if_false]
   exact (h6.1 t).mono hk (fun _ _=>rfl) ht
end Go.Av
end
