import Derived.Test.YtaphehlgijlfeaaGreatDoorPlatJ
import Derived.Test.YtaphehlgijlfeaaGreatDoorPlatQ
import Derived.Test.YtaphehlgijlfeaaGreatDoorPlatH
set_option linter.unusedVariables false
set_option linter.unusedSimpArgs false
section
namespace Go.Av
open Go.RowKit
structure Sx (P:Program) (G:Glob) where
 l:Nat
 qs:List (List AV)
 B:Nat
 V:Nat -> Prop
 On:World -> Prop
 Off:World -> Prop
 okS:Nat -> Prop
 glob:∀ W, On W -> G.holds W
 globF:∀ W, Off W -> G.holds W
 onAb:∀ W W', On W -> Below B W W' -> On W'
 offAb:∀ W W', Off W -> Below W.heap.size W W' -> Off W'
 onB:∀ W, On W -> B <= W.heap.size
 up:∀ x, B <= x -> okS x
 round:∀ (k:Nat) (W:World) (ok:Nat -> Prop) (us:List Value) (q:List AV), qs[k]? = some q -> V k -> On W -> (∀ x, ok x -> x < W.heap.size /\ okS x) -> FitsL ok W q us ->
  ∃ fn tmps assign body, (Instr.yield l us.toArray).run P W = .ok (.round l fn tmps assign body) W /\
   RoundIn (FW none) 0 P l fn tmps assign body W (fun e W'=>(e = .returned (.bool true) /\ V (k + 1) /\ Below W.heap.size W W') ∨ (e = .returned (.bool false) /\ Off W'))
def zDH (P:Program) (G:Glob) (f:FuncId) (fs cs:List AV) (qs:List (List AV)):Prop:=
 Enters P f /\ ∀ (C:Sx P G) (w:World) (ok:Nat -> Prop) (us vs:List Value), C.qs = qs -> C.V 0 -> C.On w -> C.B = w.heap.size -> (∀ x, ok x -> x < w.heap.size /\ C.okS x) -> FitsL ok w fs us -> FitsL ok w cs vs ->
  CallsIn (FW none) 0 P f (us ++ [Value.func (.yield C.l) #[] #[]] ++ vs).toArray w (fun e w'=>∃ v, e = .returned v /\ ((C.V qs.length /\ C.On w') ∨ C.Off w'))
def zBI (fr:Nat -> EV) (live:List Tmp):Nat -> EV:=fun t=>fgt (yu fr live t)
theorem zCa {ok:Nat -> Prop} {w:World} {bs:List PB} {mem:List PO} {e:EV} {u:Value} (h:FitsE ok w bs mem e u):FitsE ok w [] [] (fgt e) u:=by
 cases e with
 | pub x=>simpa only [fgt, zec, FitsE] using h
 | _=>simp only[fgt, zec, FitsE, Fits]
section
variable {P:Program} {G:Glob}
theorem zxM {α:Type} {st:ASt} {Q:Exit -> ASt -> Prop} {g:Operand} {ps:Array Tmp} {asg bo:Code} {f:FuncId} {fs cs:List AV} (xs:List α) (qf:α -> List AV) (live:List Tmp) (V:Nat -> Prop) (I:List PO) (hV0:V 0)
  (hg:evO st.fr g = .pub (.fn f fs cs)) (hit:zDH P G f fs cs (xs.map qf)) (hm:st.mem = I) (hlen':∀ x, (qf x).length = ps.size) (hpd:(ps.toList.all fun t=>Nat.blt t st.n.n) = true) (hlv:(live.all fun t=>Nat.blt t st.n.n) = true)
  (round:∀ (k:Nat) (x:α), xs[k]? = some x -> V k ->
   (V (k + 1) /\ ∀ l:Nat, wL (r:=some l) P G asg ⟨NS.round st.n.n [] [], zed (zBI st.fr live) ps.toList (qf x), []⟩ (fun e s=>e = .normal /\ s.n = NS.round st.n.n [] [] /\
    wL (r:=some l) P G bo ⟨NS.round st.n.n [] [], s.fr, s.mem⟩ (fun e s=>e = .normal))) ∨
   (∀ (gh:List (EV × Value)) (l:Nat) (h1 h2:List (Nat × Obj)),
    wL (r:=some l) P G asg ⟨NS.round st.n.n gh h1, zed (yu st.fr live) ps.toList (qf x), I⟩ (fun e s=>e = .normal /\ s.n = NS.round st.n.n gh h1 /\
     wL (r:=some l) P G bo ⟨NS.round st.n.n gh h2, s.fr, s.mem⟩ (znH st.n.marked (NS.round st.n.n gh h2) (yu st.fr live) False I Q))))
  (hdone:V xs.length -> Q .normal ⟨st.n.marked, yu st.fr live, I⟩):wL (r:=none) P G (.rangeFunc g ps asg bo) st Q:=by
 intro w0 ok0 a w hG hok hs
 obtain ⟨s0, s1, s2, ok, bs, s3, s4, s5, s6⟩:=hs
 have hgv:=jd (fr:=st.fr) (a:=a) (x:=g) fun t _=>s6.1 t
 rw [hg] at hgv
 simp only[FitsE, Fits] at hgv
 obtain ⟨us, vs, ge, hus, hvs⟩:=hgv
 refine wpIn_rangeFunc ?_
 intro fn hfn
 obtain ⟨rec, hrec⟩:∃ rec:LoopState -> Option Code -> Loop, rec = fun st pe=>{ state:=st, pending:=pe, fn, tmps:=a.tmps, params:=ps, assign:=asg, body:=bo, defers:=w.heap.size }:=⟨_, rfl⟩
 obtain ⟨W1, hW1⟩:∃ W1, (w.alloc (.deferred (some []))).alloc (.loop (rec .ready none)) = W1:=⟨_, rfl⟩
 have hb1:Below w.heap.size w W1:=by
  rw [← hW1]
  exact ((Below.refl w.heap.size w).alloc (Nat.le_refl _) _).alloc (by simp) _
 have hL1:W1.heap[w.heap.size + 1]? = some (.loop (rec .ready none)):=by
  rw [← hW1]; have:=World.alloc_heap_new (w.alloc (.deferred (some []))) (.loop (rec .ready none)); rwa [World.size_alloc] at this
 have hK1:W1.heap[w.heap.size]? = some (.deferred (some [])):=by
  rw [← hW1]; exact (Below.heap_alloc _ _ _ (by simp)).trans (World.alloc_heap_new w _)
 have hsz1:W1.heap.size = w.heap.size + 2:=by rw [← hW1]; simp
 let hold0:List (Nat × Obj):=(w.heap.size, .deferred (some [])) :: (st.n.hold ++ (marksOf a.defers).map fun D=>(D, .deferred (some [])))
 have hhold:∀ p ∈ hold0, stl w0.heap.size [] p /\ p.1 < w.heap.size + 1 /\ W1.heap[p.1]? = some p.2:=fun p hp=>by
  simp only[hold0, List.mem_cons, List.mem_append, List.mem_map] at hp
  rcases hp with rfl | hp | ⟨D, hD, rfl⟩
  ·
   exact ⟨⟨⟨rfl, by simp [marksOf]⟩, s2.size⟩, by simp, hK1⟩
  ·
   obtain ⟨h1, h2⟩:=s1.2 p hp
   have hlt:=(Array.getElem?_eq_some_iff.1 h2).1
   exact ⟨⟨⟨h1.1.1, by simp [marksOf]⟩, h1.2⟩, by omega, by rw [hb1.block _ hlt]; exact h2⟩
  ·
   obtain ⟨h0, h1, h2⟩:=s1.1.marks D hD
   exact ⟨⟨⟨rfl, by simp [marksOf]⟩, h0⟩, by simp only; omega, by rw [hb1.block _ h1]; exact h2⟩
 let gh0:List (EV × Value):=(List.range a.tmps.size).map (fun t=>(yu st.fr live t, a.tmps.getD t undef)) ++ st.n.gh
 have hgh0:∀ p ∈ gh0, FitsE ok w bs st.mem p.1 p.2:=fun p hp=>by
  simp only[gh0, List.mem_append, List.mem_map] at hp
  rcases hp with ⟨t, _, rfl⟩ | hp
  ·
   simp only[yu]
   cases live.contains t with
   | true=>exact s6.1 t
   | false=>simp [FitsE, Fits]
  ·
   exact s6.2 p hp
 let frl:=yu st.fr live
 let Kx:Code -> List PO -> Prop:=fun c mem=>wL (r:=none) P G c ⟨st.n.marked, frl, mem⟩ Q
 let Core:(Nat -> Prop) -> List PO -> World -> Prop:=fun M mem W=>Below w0.heap.size w0 W /\ (∀ p ∈ hold0, W.heap[p.1]? = some p.2) /\ ∃ (ok:Nat -> Prop) (bs:List PB), (∀ b, ok0 b -> ok b) /\ (∀ b, ok b -> ok0 b ∨ w0.heap.size <= b) /\
  MemOK w0.heap.size ok W bs mem /\ (∀ p ∈ gh0, FitsE ok W bs mem p.1 p.2) /\ ∀ x, M x ↔ ∃ (l:Nat) (b:PB) (o:PO), bs[l]? = some b /\ mem[l]? = some o /\ o.live = true /\ b.blk = some x
 have core_ab:∀ M mem W W', Core M mem W -> Below W.heap.size W W' -> Core M mem W':=fun M mem W W' h hb=>by
  obtain ⟨h1, h2, ok, bs, h3, h4, h5, h6, h7⟩:=h
  refine ⟨yf h1 h1.size hb, fun p hp=>by rw [hb.block _ (Array.getElem?_eq_some_iff.1 (h2 p hp)).1]; exact h2 p hp, okN ok W W', bs, fun b hb=>.inl (h3 b hb), fun b hb'=>?_, h5.grow hb, fun p hp=>(h6 p hp).grow h5.lt hb, h7⟩
  rcases hb' with h | h
  ·
   exact h4 b h
  ·
   exact .inr (Nat.le_trans h1.size h.1)
 have core_put:∀ M mem W o o', Core M mem W -> W.heap[w.heap.size + 1]? = some o -> still o = true -> still o' = true -> Core M mem (W.putObj (w.heap.size + 1) o'):=fun M mem W o o' h hl ho ho'=>by
  obtain ⟨h1, h2, ok, bs, h3, h4, h5, h6, h7⟩:=h
  refine ⟨h1.trans ⟨rfl, rfl, rfl, Nat.le_of_eq size_put'.symm, fun k hk=>ww (by have:=s2.size; omega)⟩, fun p hp=>by rw [ww (by have:=(hhold p hp).2.1; omega)]; exact h2 p hp, ok, bs, h3, h4, h5.put hl ho ho', fun p hp=>(h6 p hp).congr (xK hl ho ho'), h7⟩
 have hs2:=s2.size
 obtain ⟨M0, hM0⟩:∃ M0:Nat -> Prop, M0 = fun x=>∃ (l:Nat) (b:PB) (o:PO), bs[l]? = some b /\ I[l]? = some o /\ o.live = true /\ b.blk = some x:=⟨_, rfl⟩
 rw [hm] at s5 hgh0
 have hcore1:Core M0 I W1:=by
  refine ⟨yf s2 s2.size hb1, fun p hp=>(hhold p hp).2.2, okN ok w W1, bs, fun b hb=>.inl (s3 b hb), fun b hb'=>?_, s5.grow hb1, fun p hp=>(hgh0 p hp).grow s5.lt hb1, fun x=>by rw [hM0]⟩
  rcases hb' with h | h
  ·
   exact s4 b h
  ·
   exact .inr (Nat.le_trans s2.size h.1)
 have hGW1:G.holds W1:=G.stable _ _ (G.stable _ _ hG s2) hb1
 let Off:World -> Prop:=fun W=>∃ c mem M, Core M mem W /\ Kx c mem /\ G.holds W /\ W.heap[w.heap.size + 1]? = some (.loop (rec .done (some c)))
 have hround:∀ (k:Nat) (W:World) (okI:Nat -> Prop) (ys:List Value) (q:List AV), (xs.map qf)[k]? = some q -> V k -> Below W1.heap.size W1 W ->
   (∀ x, okI x -> x < W.heap.size /\ (ok x ∨ W1.heap.size <= x)) -> FitsL okI W q ys ->
   ∃ fn tmps assign body, (Instr.yield (w.heap.size + 1) ys.toArray).run P W = .ok (.round (w.heap.size + 1) fn tmps assign body) W /\
    RoundIn (FW none) 0 P (w.heap.size + 1) fn tmps assign body W (fun e W'=>(e = .returned (.bool true) /\ V (k + 1) /\ Below W.heap.size W W') ∨ (e = .returned (.bool false) /\ Off W')):=by
  intro k W okI ys q hq hVk hbW hokI hfit
  obtain ⟨x, hx, rfl⟩:∃ x, xs[k]? = some x /\ qf x = q:=by
   rw [List.getElem?_map] at hq
   cases hx:xs[k]? with
   | none=>rw [hx] at hq; cases hq
   | some x=>rw [hx] at hq; injection hq with hq; exact ⟨x, rfl, hq⟩
  have hL:W.heap[w.heap.size + 1]? = some (.loop (rec .ready none)):=by rw [hbW.block _ (by omega)]; exact hL1
  have hGW:G.holds W:=G.stable _ _ hGW1 hbW
  have hxl:ys.length = (qf x).length:=hfit.length
  have hy:=run_yield (P:=P) (args:=ys.toArray) hL (by rw [hrec]; simp [hxl, hlen' x])
  rw [hrec] at hy
  obtain ⟨h1, h2, ok2, bs2, h3, h4, h5, h6, h7⟩:=core_ab _ _ _ _ hcore1 hbW
  have hfold:(ps.zip ys.toArray).foldl (fun t (x:Tmp × Value)=>t.setIfInBounds x.1 x.2) a.tmps = (ps.toList.zip ys).foldl (fun t (x:Tmp × Value)=>t.setIfInBounds x.1 x.2) a.tmps:=by
   rw [← Array.foldl_toList, Array.toList_zip]
  have hokM:∀ x, okI x -> ¬ M0 x:=fun y hy hMy=>by
   have hMy':=hMy
   rw [hM0] at hMy'
   obtain ⟨l, b, o, e1, e2, e0, e3⟩:=hMy'
   have h8:=s5.own' l b o y e1 e2 e0 e3
   have h9:=s5.live_lt e1 e2 e0 e3
   rcases (hokI y hy).2 with h | h
   ·
    exact h8.2 h
   ·
    omega
  have hokUp:∀ x, okI x -> ok0 x ∨ w0.heap.size <= x:=fun y hy=>by
   rcases (hokI y hy).2 with h | h
   ·
    exact s4 y h
   ·
    exact .inr (by omega)
  have hpd':∀ p ∈ ps.toList, p < a.tmps.size:=fun p hp=>by
   rw [List.all_eq_true] at hpd
   have:=hpd p hp
   simp only[Nat.blt_eq] at this
   exact Nat.lt_of_lt_of_eq this s0.symm
  refine ⟨fn, _, asg, bo, hy, roundIn_of_wpIn (F:=FW none) trivial ?_⟩
  rcases round k x hx hVk with ⟨hV2, hr⟩ | hr
  ·
   -- it goes on
   have hr:=hr (w.heap.size + 1)
   let okR:Nat -> Prop:=fun b=>ok2 b ∨ okI b
   have hslots:Slots okR W [] [] (NS.round st.n.n [] []) (zBI st.fr live) ⟨a.tmps, []⟩:=by
    refine ⟨fun t=>?_, fun p hp=>by cases hp⟩
    refine FitsE.mono (ok:=ok2) (w:=W) (fun b hb=>.inl hb) (fun _ _=>rfl) (Turn.refl _ _) _ _ (zCa (bs:=bs2) (mem:=I) ?_)
    by_cases ht:t < a.tmps.size
    ·
     exact h6 (yu st.fr live t, a.tmps.getD t undef) (by simp only[gh0, List.mem_append, List.mem_map]; exact .inl ⟨t, List.mem_range.2 ht, rfl⟩)
    ·
     have:live.contains t = false:=by
      cases hc:live.contains t with
      | false=>rfl
      | true=>
       rw [List.all_eq_true] at hlv
       have:=hlv t (by simpa using hc)
       simp only[Nat.blt_eq] at this
       omega
     rw [zeL this]; simp [FitsE, Fits]
   have hset:=zfh (ps:=ps.toList) (qs:=qf x) (us:=ys) hslots (hfit.mono (fun b hb=>.inr hb) (fun _ _=>rfl)) hpd'
   have hokR:∀ b, okR b -> b < W.heap.size:=fun b hb=>hb.elim (h5.lt b) (fun h=>(hokI b h).1)
   have hsit0:Sit W okR ⟨NS.round st.n.n [] [], zed (zBI st.fr live) ps.toList (qf x), []⟩ { tmps:=(ps.zip ys.toArray).foldl (fun t (x:Tmp × Value)=>t.setIfInBounds x.1 x.2) a.tmps, defers:=[] } W:=by
    rw [hfold]
    exact ⟨hset.2.trans s0, ⟨rfl, fun p hp=>by cases hp⟩, Below.refl _ _, okR, [], fun _ h=>h, fun _ h=>.inl h, ⟨rfl, hokR, by simp, by simp, by simp, by simp⟩, hset.1⟩
   refine wpIn_mono (hr W okR _ W hGW hokR hsit0) fun e a1 w1 ⟨s, hs, he, hn, hbody⟩=>?_
   subst he
   obtain ⟨t0, t1, t2, ok3, bs3, t3, t4, t5, t6⟩:=hs
   rw [hn] at t0 t1 t6
   have hLlt:w.heap.size + 1 < W.heap.size:=(Array.getElem?_eq_some_iff.1 hL).1
   have hL1':w1.heap[w.heap.size + 1]? = some (.loop (rec .ready none)):=by rw [t2.block _ hLlt]; exact hL
   refine ⟨_, run_beginRound hL1' (by rw [hrec]), ?_⟩
   have hd0:a1.defers = []:=by
    have:=t1.1
    cases hd:a1.defers with
    | nil=>rfl
    | cons d ds=>
     rw [hd] at this
     simp only[Dfs] at this
     rcases this with ⟨h, _⟩ | ⟨t, l', e, _⟩
     ·
      cases h
     ·
      cases e
   obtain ⟨Wb, hWb⟩:∃ Wb, W.putObj (w.heap.size + 1) (.loop { rec .ready none with state:=.busy }) = Wb:=⟨_, rfl⟩
   have hszb:Wb.heap.size = W.heap.size:=by rw [← hWb]; exact size_put'
   have hGb:G.holds Wb:=by
    refine G.stable _ _ hG (h1.trans ?_)
    rw [← hWb]
    exact ⟨rfl, rfl, rfl, Nat.le_of_eq size_put'.symm, fun k hk=>ww (by omega)⟩
   have hbb:Below Wb.heap.size Wb (w1.putObj (w.heap.size + 1) (.loop { rec .ready none with state:=.busy })):=by
    refine ⟨by rw [← hWb]; exact t2.1, by rw [← hWb]; exact t2.2, by rw [← hWb]; exact t2.3, by rw [hszb]; exact Nat.le_trans t2.size (Nat.le_of_eq size_put'.symm), fun j hj=>?_⟩
    rw [hszb] at hj
    by_cases hjl:j = w.heap.size + 1
    ·
     subst hjl
     rw [← hWb, zbs hL1', zbs hL]
    ·
     rw [← hWb, ww hjl, ww hjl]; exact t2.block _ hj
   have hsit1:Sit Wb okR ⟨NS.round st.n.n [] [], s.fr, s.mem⟩ a1 (w1.putObj (w.heap.size + 1) (.loop { rec .ready none with state:=.busy })):=by
    refine ⟨t0, ⟨by rw [hd0]; rfl, fun p hp=>by cases hp⟩, hbb, ok3, bs3, t3, fun b hb=>by rw [hszb]; exact t4 b hb, by rw [hszb]; exact t5.put hL1' rfl rfl, t6.map fun _ _ h=>h.congr (xK hL1' rfl rfl)⟩
   refine wpIn_mono (hbody Wb okR a1 _ hGb (fun b hb=>by rw [hszb]; exact hokR b hb) hsit1) fun e a2 w2 ⟨s2', hs2', hq2⟩=>?_
   subst hq2
   have hb2:=hs2'.below
   have hL2:w2.heap[w.heap.size + 1]? = some (.loop { rec .ready none with state:=.busy }):=by
    rw [hb2.block _ (by rw [hszb]; exact hLlt), ← hWb]; exact zbs hL
   have hre:=run_endRound (P:=P) none hL2
   refine ⟨_, w2.putObj (w.heap.size + 1) (.loop (rec .ready none)), ?_, .inl ⟨rfl, hV2, ?_⟩⟩
   ·
    rw [hrec] at hre ⊢
    exact hre
   ·
    refine ⟨by have:=hb2.1; rw [← hWb] at this; exact this, by have:=hb2.2; rw [← hWb] at this; exact this, by have:=hb2.3; rw [← hWb] at this; exact this, by rw [size_put', ← hszb]; exact hb2.size, fun j hj=>?_⟩
    by_cases hjl:j = w.heap.size + 1
    ·
     subst hjl
     rw [zbs hL2, hL]
    ·
     rw [ww hjl, hb2.block _ (by rw [hszb]; exact hj), ← hWb, ww hjl]
  ·
   -- the loop is left
   let okR:Nat -> Prop:=fun b=>ok2 b ∨ okI b
   have h5R:MemOK w0.heap.size okR W bs2 I:=h5.more (fun b hb=>(hokI b hb).1) (fun l b o g e1 e2 e0 e3 he=>hokM g he ((h7 g).2 ⟨l, b, o, e1, e2, e0, e3⟩))
   have hghA:∀ p ∈ gh0, FitsE okR W bs2 I p.1 p.2:=fun p hp=>(h6 p hp).mono (fun b hb=>.inl hb) (fun _ _=>rfl) (Turn.refl _ _)
   have hslots:Slots okR W bs2 I (NS.round st.n.n gh0 ((w.heap.size + 1, .loop (rec .ready none)) :: hold0)) (yu st.fr live) ⟨a.tmps, []⟩:=by
    refine ⟨fun t=>?_, hghA⟩
    by_cases ht:t < a.tmps.size
    ·
     exact hghA (yu st.fr live t, a.tmps.getD t undef) (by simp only[gh0, List.mem_append, List.mem_map]; exact .inl ⟨t, List.mem_range.2 ht, rfl⟩)
    ·
     have:live.contains t = false:=by
      cases hc:live.contains t with
      | false=>rfl
      | true=>
       rw [List.all_eq_true] at hlv
       have:=hlv t (by simpa using hc)
       simp only[Nat.blt_eq] at this
       omega
     rw [zeL this]; simp [FitsE, Fits]
   have hset:=zfh (ps:=ps.toList) (qs:=qf x) (us:=ys) hslots (hfit.mono (fun b hb=>.inr hb) (fun _ _=>rfl)) hpd'
   have hr:=hr gh0 (w.heap.size + 1) ((w.heap.size + 1, .loop (rec .ready none)) :: hold0) ((w.heap.size + 1, .loop { rec .ready none with state:=.busy }) :: hold0)
   have hsit0:Sit w0 ok0 ⟨NS.round st.n.n gh0 ((w.heap.size + 1, .loop (rec .ready none)) :: hold0), zed (yu st.fr live) ps.toList (qf x), I⟩ { tmps:=(ps.zip ys.toArray).foldl (fun t (x:Tmp × Value)=>t.setIfInBounds x.1 x.2) a.tmps, defers:=[] } W:=by
    rw [hfold]
    refine ⟨hset.2.trans s0, ⟨rfl, fun p hp=>?_⟩, h1, okR, bs2, fun b hb=>.inl (h3 b hb), fun b hb=>hb.elim (h4 b) (fun h=>hokUp b h), h5R, hset.1⟩
    rcases List.mem_cons.1 hp with rfl | hp
    ·
     exact ⟨⟨⟨rfl, by simp [marksOf]⟩, by have:=s2.size; simp only; omega⟩, hL⟩
    ·
     exact ⟨(hhold p hp).1, h2 p hp⟩
   refine wpIn_mono (hr w0 ok0 _ W hG hok (by rw [hrec] at hsit0 ⊢; exact hsit0)) fun e a1 w1 ⟨s, hs, he, hn, hbody⟩=>?_
   subst he
   have hheld:∀ p ∈ (w.heap.size + 1, Obj.loop (rec .ready none)) :: hold0, w1.heap[p.1]? = some p.2:=fun p hp=>by
    have:=hs.nod.2
    rw [hn] at this
    exact (this p hp).2
   have hL1':=hheld _ (List.mem_cons_self ..)
   simp only at hL1'
   refine ⟨_, run_beginRound hL1' (by rw [hrec]), ?_⟩
   obtain ⟨t0, t1, t2, ok3, bs3, t3, t4, t5, t6⟩:=hs
   rw [hn] at t0 t1 t6
   have hput:∀ k, k < w0.heap.size -> (w1.putObj (w.heap.size + 1) (.loop { rec .ready none with state:=.busy })).heap[k]? = w1.heap[k]?:=fun k hk=>ww (by omega)
   have hsit1:Sit w0 ok0 ⟨NS.round st.n.n gh0 ((w.heap.size + 1, .loop { rec .ready none with state:=.busy }) :: hold0), s.fr, s.mem⟩ a1 (w1.putObj (w.heap.size + 1) (.loop { rec .ready none with state:=.busy })):=by
    have hd0:a1.defers = []:=by
     have:=t1.1
     cases hd:a1.defers with
     | nil=>rfl
     | cons d ds=>
      rw [hd] at this
      simp only[Dfs] at this
      rcases this with ⟨h, _⟩ | ⟨t, l', e, _⟩
      ·
       cases h
      ·
       cases e
    refine ⟨t0, ⟨?_, fun p hp=>?_⟩, t2.trans ⟨rfl, rfl, rfl, Nat.le_of_eq size_put'.symm, hput⟩, ok3, bs3, t3, t4, t5.put hL1' rfl rfl, t6.map fun _ _ h=>h.congr (xK hL1' rfl rfl)⟩
    ·
     rw [hd0]; rfl
    ·
     rw [hd0]
     rcases List.mem_cons.1 hp with rfl | hp
     ·
      exact ⟨⟨⟨rfl, by simp [marksOf]⟩, by have:=s2.size; simp only; omega⟩, zbs hL1'⟩
     ·
      exact ⟨(hhold p hp).1, by rw [ww (by have:=(hhold p hp).2.1; omega)]; exact hheld p (List.mem_cons_of_mem _ hp)⟩
   refine wpIn_mono (hbody w0 ok0 a1 _ hG hok hsit1) fun e a2 w2 ⟨s2', hs2', hq2⟩=>?_
   have fin:∀ (jump:Code) (mem:List PO), s2'.n = NS.round st.n.n gh0 ((w.heap.size + 1, .loop { rec .ready none with state:=.busy }) :: hold0) ->
     (∃ fr', Sit w0 ok0 ⟨s2'.n, fr', mem⟩ a2 w2) -> Kx jump mem -> ∃ W', (Instr.endRound (w.heap.size + 1) (some jump)).run P w2 = .ok (.bool false) W' /\ Off W':=fun jump mem hn2 ⟨fr', hs3⟩ hk=>by
    obtain ⟨v0, v1, v2, ok4, bs4, v3, v4, v5, v6⟩:=hs3
    rw [hn2] at v1 v6
    have hL2:=(v1.2 _ (List.mem_cons_self ..)).2
    simp only at hL2
    have hbel:Below w0.heap.size w0 (w2.putObj (w.heap.size + 1) (.loop (rec .done (some jump)))):=v2.trans ⟨rfl, rfl, rfl, Nat.le_of_eq size_put'.symm, fun k hk=>ww (by omega)⟩
    refine ⟨w2.putObj (w.heap.size + 1) (.loop (rec .done (some jump))), ?_, jump, mem, _, ⟨hbel, fun p hp=>?_, ok4, bs4, v3, v4, v5.put hL2 rfl rfl, fun p hp=>(v6.2 p hp).congr (xK hL2 rfl rfl), fun x=>Iff.rfl⟩, hk, G.stable _ _ hG hbel, zbs hL2⟩
    ·
     have:=run_endRound (P:=P) (some jump) hL2
     rw [hrec] at this ⊢
     exact this
    ·
     rw [ww (by have:=(hhold p hp).2.1; omega)]
     exact (v1.2 p (List.mem_cons_of_mem _ hp)).2
   cases e with
   | normal=>exact hq2.2.1.elim
   | ret=>
    obtain ⟨hn2, hq2⟩:=hq2
    obtain ⟨W', e1, e2⟩:=fin .ret s2'.mem hn2 ⟨_, hs2'⟩ (zP hq2)
    exact ⟨_, W', e1, .inr ⟨rfl, e2⟩⟩
   | exit id=>
    obtain ⟨hn2, hq2⟩:=hq2
    obtain ⟨W', e1, e2⟩:=fin (.exit id) s2'.mem hn2 ⟨_, hs2'⟩ (qp hq2)
    exact ⟨_, W', e1, .inr ⟨rfl, e2⟩⟩
   | goto i=>
    obtain ⟨hn2, hq2⟩:=hq2
    obtain ⟨W', e1, e2⟩:=fin (.goto i) s2'.mem hn2 ⟨_, hs2'⟩ (zpB hq2)
    exact ⟨_, W', e1, .inr ⟨rfl, e2⟩⟩
   | panic ch=>exact hq2.elim
   | outgrown=>exact hq2.elim
 let C:Sx P G:={
  l:=w.heap.size + 1
  qs:=xs.map qf
  B:=W1.heap.size
  V:=V
  On:=fun W=>Below W1.heap.size W1 W
  Off:=Off
  okS:=fun x=>ok x ∨ W1.heap.size <= x
  glob:=fun W h=>G.stable _ _ hGW1 h
  globF:=fun W h=>by obtain ⟨_, _, _, _, _, h, _⟩:=h; exact h
  onAb:=fun W W' h h'=>h.trans h'
  offAb:=fun W W' h hb=>by
   obtain ⟨c, mem, M, h1, h2, h3, h4⟩:=h
   exact ⟨c, mem, M, core_ab _ _ _ _ h1 hb, h2, G.stable _ _ h3 hb, by rw [hb.block _ (Array.getElem?_eq_some_iff.1 h4).1]; exact h4⟩
  onB:=fun W h=>h.size
  up:=fun x h=>.inr h
  round:=hround }
 refine ⟨w.heap.size + 1, [{ target:=.collected w.heap.size, args:=#[] }], W1, { target:=.fn (.func f) vs.toArray, args:=(us ++ [Value.func (.yield (w.heap.size + 1)) #[] #[]]).toArray }, W1, f, (us ++ [Value.func (.yield (w.heap.size + 1)) #[] #[]] ++ vs).toArray, W1, ?_, ?_, fun _ _=>trivial, ?_, fun h=>by simp [FW, Fence.wide] at h, ?_⟩
 ·
  rw [← hW1, hrec]; exact run_enterLoop_outer _ _ _ _ _
 ·
  simp only[resolve, ge, Deferred.ofValue, Sem.run_bind, Sem.run_pure, Result.andThen_ok]
  congr 3
  apply Array.toList_inj.1
  simp [Act.eval]
 ·
  simp only[invoke]
  rw [show (us ++ [Value.func (.yield (w.heap.size + 1)) #[] #[]]).toArray ++ vs.toArray = (us ++ [Value.func (.yield (w.heap.size + 1)) #[] #[]] ++ vs).toArray from by simp]
  exact enter_run hit.1 _ _
 ·
  have hlow:∀ (l:List AV) (xs:List Value), FitsL ok w l xs -> FitsL ok W1 l xs:=fun l xs h=>h.mono (fun _ hb=>hb) (fun b hb=>hb1.block b (s5.lt b hb))
  refine (hit.2 C W1 ok us vs rfl hV0 (Below.refl _ _) rfl (fun x hx=>⟨Nat.lt_of_lt_of_le (s5.lt x hx) hb1.size, .inl hx⟩) (hlow _ _ hus) (hlow _ _ hvs)).mono fun e W2 ⟨v, he, hJ⟩=>?_
  subst he
  have fin:∀ (M:Nat -> Prop) (mem:List PO) (L:Loop), Core M mem W2 -> W2.heap[w.heap.size + 1]? = some (.loop L) -> Sit w0 ok0 ⟨st.n.marked, frl, mem⟩ { a with defers:=[{ target:=.collected w.heap.size, args:=#[] }] ++ a.defers } (W2.putObj (w.heap.size + 1) (.loop { L with state:=.exhausted })):=fun M mem L hc hL=>by
   obtain ⟨h1, h2, ok2, bs2, h3, h4, h5, h6, h7⟩:=core_put _ _ _ _ (.loop { L with state:=.exhausted }) hc hL rfl rfl
   refine ⟨s0, ⟨?_, fun p hp=>⟨⟨⟨(s1.2 p hp).1.1.1, by
    have hlt:=(Array.getElem?_eq_some_iff.1 (s1.2 p hp).2).1
    simp only[List.cons_append, List.nil_append, marksOf, List.mem_cons, not_or]
    exact ⟨by omega, (s1.2 p hp).1.1.2⟩⟩, (s1.2 p hp).1.2⟩, h2 p (by simp only[hold0, List.mem_cons, List.mem_append]; exact .inr (.inl hp))⟩⟩, h1, ok2, bs2, h3, h4, h5, fun t=>?_, fun p hp=>h6 p (by simp only[gh0, List.mem_append]; exact .inr hp)⟩
   ·
    simp only[List.cons_append, List.nil_append, Dfs]
    refine .inl ⟨trivial, w.heap.size, rfl, s2.size, ?_, h2 (w.heap.size, .deferred (some [])) (by simp [hold0]), s1.1.again (fun D hD=>h2 (D, _) (by simp only[hold0, List.mem_cons, List.mem_append, List.mem_map]; exact .inr (.inr ⟨D, hD, rfl⟩))) (Nat.le_refl _)⟩
    have:=(Array.getElem?_eq_some_iff.1 (h2 (w.heap.size, .deferred (some [])) (by simp [hold0]))).1
    exact this
   ·
    by_cases ht:t < a.tmps.size
    ·
     exact h6 (yu st.fr live t, a.tmps.getD t undef) (by simp only[gh0, List.mem_append, List.mem_map]; exact .inl ⟨t, List.mem_range.2 ht, rfl⟩)
    ·
     have:live.contains t = false:=by
      cases hc:live.contains t with
      | false=>rfl
      | true=>
       rw [List.all_eq_true] at hlv
       have:=hlv t (by simpa using hc)
       simp only[Nat.blt_eq] at this
       omega
     show FitsE _ _ _ _ (yu st.fr live t) _
     rw [zeL this]; simp [FitsE, Fits]
  rcases hJ with ⟨hVn, hOn⟩ | hOff
  ·
   have hc:=core_ab _ _ _ _ hcore1 hOn
   have hL:W2.heap[w.heap.size + 1]? = some (.loop (rec .ready none)):=by rw [hOn.block _ (by omega)]; exact hL1
   rw [List.length_map] at hVn
   refine ⟨none, _, run_endLoop hL (by rw [hrec]; simp) ▸ (by rw [hrec]), ⟨_, fin _ _ _ hc hL, hdone hVn⟩⟩
  ·
   obtain ⟨c, mem, M, hc, hk, _, hL⟩:=hOff
   refine ⟨some c, _, run_endLoop hL (by rw [hrec]; simp) ▸ (by rw [hrec]), hk w0 ok0 _ _ hG hok (fin _ _ _ hc hL)⟩
end
end Go.Av
end
section
namespace Go.Av
open Go.RowKit
section
variable {P:Program} {G:Glob}
theorem zw5 {T E:TypeId} {size bytes:Nat} (ht:elemIs P T E size bytes) (ty:TypeId) (w:World) (b:PB) (n:Nat) (cur:Array Value)
  (hb:match b.blk with | none=>n = 0 | some g=>w.heap[g]? = some (.cells cur b.elem.t (b.elem.fzp cur.size)) /\ cur.size = b.cap * size /\ n <= b.cap /\ b.cap <= maxLen)
  (ba off m c:Nat) (news:List Value) (hl:news.length = m * size) (hnews:∀ (j:Nat) (u:Value), news[j]? = some u -> w.cell? ⟨ba, off + j, none⟩ = some u) (h1:∀ u ∈ news, u.oneCell' = true) (hm:0 < m)
  (hby:(n + m) * bytes <= 140737488355328) (hmax:n + m <= maxLen) (hcells:∀ t:Nat, t < n * size -> ∃ v, cur[t]? = some v /\ v.oneCell' = true):
  ∃ (w':World) (g':Nat) (cap':Nat) (e':EK) (cur':Array Value), (Builtin.append_ #[T, T] ty #[b.sl n, .slice (some ⟨ba, off, none⟩) m c]).run P w = .ok (.slice (some ⟨g', 0, none⟩) (n + m) cap') w' /\
   w'.heap[g']? = some (.cells cur' e'.t (e'.fzp cur'.size)) /\ cur'.size = cap' * size /\ n + m <= cap' /\ cap' <= maxLen /\ (∀ t:Nat, t < n * size -> cur'[t]? = cur[t]?) /\ (∀ t:Nat, t < m * size -> cur'[n * size + t]? = news[t]?) /\
   ((b.blk = some g' /\ cap' = b.cap) ∨ (w.heap.size = g' /\ ∀ k, k < w.heap.size -> w'.heap[k]? = w.heap[k]?)) /\ w.grownBy w' b.blk:=by
 obtain ⟨hu, i, z, hi, hz, hsz, hbt, hzs, hpos⟩:=ht
 subst hsz
 subst hbt
 have hnews':∀ (j:Nat) (u:Value), news[j]? = some u -> w.cell? ((⟨ba, off, none⟩:Addr).add j) = some u:=fun j u h=>by rw [zeK]; exact hnews j u h
 have h63:((n + m:Nat):Int) <= 9223372036854775807:=by unfold maxLen at hmax; omega
 have grown:∀ (old:Nat) (olds:List Value), olds.length = n * i.size -> (∀ t:Nat, t < n * i.size -> olds[t]? = cur[t]?) -> old < n + m ->
   (Builtin.append_ #[T, T] ty #[b.sl n, .slice (some ⟨ba, off, none⟩) m c]).run P w = .ok (.slice (some ⟨w.heap.size, 0, none⟩) (n + m) (grownCap w (n + m) old E)) (w.drew.alloc (.cells (olds.toArray ++ news.toArray ++ Builtin.zeroCells z.cells (grownCap w (n + m) old E - (n + m))) E)) ->
   ∃ (w':World) (g':Nat) (cap':Nat) (e':EK) (cur':Array Value), (Builtin.append_ #[T, T] ty #[b.sl n, .slice (some ⟨ba, off, none⟩) m c]).run P w = .ok (.slice (some ⟨g', 0, none⟩) (n + m) cap') w' /\
   w'.heap[g']? = some (.cells cur' e'.t (e'.fzp cur'.size)) /\ cur'.size = cap' * i.size /\ n + m <= cap' /\ cap' <= maxLen /\ (∀ t:Nat, t < n * i.size -> cur'[t]? = cur[t]?) /\ (∀ t:Nat, t < m * i.size -> cur'[n * i.size + t]? = news[t]?) /\
   ((b.blk = some g' /\ cap' = b.cap) ∨ (w.heap.size = g' /\ ∀ k, k < w.heap.size -> w'.heap[k]? = w.heap[k]?)) /\ w.grownBy w' b.blk:=by
  intro old olds ho hc ho2 hrun
  have hge:=grownCap_ge w (n + m) old E
  refine ⟨_, _, _, (⟨E, false⟩:EK), _, hrun, heap_alloc_new w.drew _, ?_, hge, grownCap_le_maxLen w (n + m) old E hmax, fun t ht=>?_, fun t ht=>?_, .inr ⟨rfl, fun k hk=>heap_alloc_old w.drew _ hk⟩, ⟨rfl, rfl, rfl, by simp, fun k hk _=>heap_alloc_old w.drew _ hk⟩⟩
  ·
   simp only[Array.size_append, List.size_toArray, size_zeroCells, hzs, ho, hl, ← Nat.add_mul]
   congr 1
   omega
  ·
   rw [Array.append_assoc, Array.getElem?_append_left (by simpa [ho] using ht)]
   simpa using hc t ht
  ·
   rw [Array.append_assoc, Array.getElem?_append_right (by simp [ho]), Array.getElem?_append_left (by simp [ho, hl]; omega)]
   simp [ho]
 cases hg:b.blk with
 | none=>
  rw [hg] at hb
  simp only at hb
  subst hb
  have hr:=run_append_nil (P:=P) w T ty E i z hu hi hz ⟨ba, off, none⟩ m c news hl hnews' hm (by omega) (by simp only[Nat.zero_add] at hby; omega)
  have h:=grown 0 [] (by simp) (fun t ht=>by simp at ht) (by omega) (by
   simp only[PB.sl, hg, Nat.zero_add]
   simpa using hr)
  rw [hg] at h
  exact h
 | some g=>
  rw [hg] at hb
  simp only at hb
  obtain ⟨hc, hcs, hcn, hcm⟩:=hb
  by_cases hroom:n + m <= b.cap
  ·
   have hfit:n * i.size + news.length <= cur.size:=by rw [hl, hcs, ← Nat.add_mul]; exact Nat.mul_le_mul_right _ hroom
   obtain ⟨cur', h2, h3, h4⟩:=xW (P:=P) ty b.elem.t hu hi w g n b.cap cur hc (b.elem.free _) ⟨ba, off, none⟩ m c news hl hnews' h1 hroom hfit
   refine ⟨w.setRow g cur', g, b.cap, b.elem, cur', by simp only[PB.sl, hg]; exact h2, (by rw [h3]; exact setRow_heap w g cur _ b.elem.t _ hc), by rw [h3]; exact hcs, hroom, hcm, fun t ht=>?_, fun t ht=>?_, .inl ⟨rfl, rfl⟩, ⟨rfl, rfl, rfl, by simp, fun k _ hk=>setRow_other w g k _ (fun e=>hk (by rw [e]))⟩⟩
   ·
    rw [h4, if_neg (by omega)]
   ·
    rw [h4, if_pos (by rw [hl]; omega)]
    congr 1
    omega
  ·
   have hcur:n * i.size <= cur.size:=by rw [hcs]; exact Nat.mul_le_mul_right _ hcn
   have hr:=run_append_grow (P:=P) w T ty E i z hu hi hz ⟨g, 0, none⟩ n b.cap (cur.toList.take (n * i.size)) (by simp; omega) (fun j v hv=>by
    rw [zeK, cell_of_row w g _ cur _ _ hc]
    rw [List.getElem?_take] at hv
    split at hv
    ·
     simpa using hv
    ·
     cases hv) ⟨ba, off, none⟩ m c news hl hnews' (by omega) h63 (growslice_fits (by omega) hby)
   have h:=grown b.cap (cur.toList.take (n * i.size)) (by simp; omega) (fun t ht=>by rw [List.getElem?_take, if_pos ht]; simp) (by omega) (by
    simp only[PB.sl, hg]
    exact hr)
   rw [hg] at h
   exact h
end
section
variable {F:Fence} {n:Nat} {P:Program} {md:Region.Mode} {ops:Array Oper}
theorem zAF {Q:Exit -> Act -> World -> Prop} {Inv:Array Bool -> Act -> World -> Prop}
  (step:∀ s a w i, i ∈ Region.ready md ops s -> Inv s a w -> wpOpIn F n P ops Q i (fun a w=>Inv (s.setIfInBounds i true) a w) a w)
  (done:∀ s a w, Region.ready md ops s = [] -> Inv s a w -> Q .normal a w):
  ∀ (fuel:Nat) (s:Array Bool) (a:Act) (w:World), s.toList.count false <= fuel -> s.size = ops.size -> Inv s a w -> wpAnyIn F n P md ops Q fuel s a w
 | 0, s, a, w, hf, hs, hI=>by
  have hr:Region.ready md ops s = []:=List.eq_nil_iff_forall_not_mem.2 fun i hi=>by
   obtain ⟨h1, o, h2, _⟩:=mem_ready.1 hi
   have hlt:i < s.size:=by rw [hs]; exact (Array.getElem?_eq_some_iff.1 h2).1
   have h0:s.toList.count false = 0:=by omega
   rw [List.count_eq_zero] at h0
   refine h0 ?_
   rw [Array.getD_eq_getD_getElem?, Array.getElem?_eq_getElem hlt] at h1
   simp only[Option.getD_some] at h1
   rw [← h1]; exact Array.mem_toList_iff.2 (Array.getElem_mem hlt)
  exact ⟨hr, done s a w hr hI⟩
 | fuel + 1, s, a, w, hf, hs, hI=>by
  refine ⟨fun hr=>done s a w hr hI, fun i hi=>wpOpIn_mono (fun a w h=>zAF step done fuel _ a w ?_ (by simpa using hs) h) (step s a w i hi hI)⟩
  obtain ⟨h1, o, h2, _⟩:=mem_ready.1 hi
  have hlt:i < s.size:=by rw [hs]; exact (Array.getElem?_eq_some_iff.1 h2).1
  rw [Array.getD_eq_getD_getElem?, Array.getElem?_eq_getElem hlt] at h1
  simp only[Option.getD_some] at h1
  rw [Array.toList_setIfInBounds, List.count_set (by simpa using hlt)]
  have e1:s.toList[i]'(by simpa using hlt) = false:=by simpa using h1
  have hpos:0 < s.toList.count false:=List.count_pos_iff.2 (by rw [← h1]; exact Array.mem_toList_iff.2 (Array.getElem_mem hlt))
  rw [e1]
  simp only[beq_self_eq_true, if_true, show (true == false) = false from rfl, Bool.false_eq_true, if_false]
  omega
theorem zyB {N:Nat} {Q:Exit -> Act -> World -> Prop} {o:Oper} {a:Act} {w:World} {K K':Act -> World -> Prop} (h:∀ a w, K a w -> K' a w) (hh:o.wpIn F n P a w K Q):o.wpIn F n P a w K' (zwA F n P ops N Q):=by
 unfold Oper.wpIn at *
 refine ⟨hh.1, ?_⟩
 have hh:=hh.2
 generalize (o.semAt F.round a.eval).run P w = r at *
 cases r with
 | ok x w'=>
  cases x <;> simp only[Oper.uponIn] at hh ⊢ <;>
   first
    | exact h _ _ hh
    | exact ⟨hh.1, CallsIn.mono hh.2 (fun e w'' he=>by cases e <;> first | exact h _ _ he | exact he)⟩
    | exact ⟨hh.1, RowsIn.mono hh.2 (fun _ _ he=>h _ _ he)⟩
    | exact ⟨hh.1, RoundIn.mono hh.2 (fun e w'' he=>by cases e <;> first | exact h _ _ he | exact he)⟩
    | exact hh
 | halt x w'=>cases x <;> simp only[Oper.uponIn] at hh ⊢ <;> exact hh
end
structure RS (ok:Nat -> Prop) (n:Nat) (fr:Nat -> EV) (a:Act) (w:World):Prop where
 size:a.tmps.size = n
 dfs:a.defers = []
 lt:∀ b, ok b -> b < w.heap.size
 fits:∀ t, FitsE ok w [] [] (fr t) (a.tmps.getD t undef)
theorem RS.mok {ok:Nat -> Prop} {n:Nat} {fr:Nat -> EV} {a:Act} {w:World} (h:RS ok n fr a w):MemOK w.heap.size ok w [] []:=⟨rfl, h.lt, by simp, by simp, by simp, by simp⟩
theorem RS.sit {ok:Nat -> Prop} {n:Nat} {fr:Nat -> EV} {a:Act} {w:World} (h:RS ok n fr a w):Sit w ok ⟨NS.of n, fr, []⟩ a w:=
 ⟨h.size, ⟨by rw [h.dfs]; rfl, fun p hp=>by cases hp⟩, Below.refl _ _, ok, [], fun _ h=>h, fun _ h=>.inl h, h.mok, h.fits, fun p hp=>by cases hp⟩
theorem Dfs.none {w0 w:World} {tm:Array Value} {ds:List Deferred} {B:Nat} (h:Dfs false w0 w tm ds B []):ds = []:=by
 cases ds with
 | nil=>rfl
 | cons d ds=>
  simp only[Dfs] at h
  rcases h with ⟨h, _⟩ | ⟨t, l', e, _⟩
  ·
   cases h
  ·
   cases e
theorem Sit.rs {w0:World} {ok0:Nat -> Prop} {n:Nat} {st:ASt} {a:Act} {w:World} (h:Sit w0 ok0 st a w) (hn:st.n = NS.of n) (hm:st.mem = []):
  ∃ ok, (∀ b, ok0 b -> ok b) /\ (∀ b, ok b -> ok0 b ∨ w0.heap.size <= b) /\ RS ok n st.fr a w:=by
 obtain ⟨s0, s1, s2, ok, bs, s3, s4, s5, s6⟩:=h
 rw [hn] at s0 s1
 rw [hm] at s5 s6
 have hbs:bs = []:=List.eq_nil_of_length_eq_zero s5.len
 subst hbs
 exact ⟨ok, s3, s4, s0, s1.1.none, s5.lt, s6.1⟩
theorem RS.put {ok ok':Nat -> Prop} {n:Nat} {fr:Nat -> EV} {a:Act} {w w':World} {x:EV} {u:Value} {dst:Option Tmp} (h:RS ok n fr a w) (hb:Below w.heap.size w w') (hk:∀ b, ok b -> ok' b) (hlt:∀ b, ok' b -> b < w'.heap.size)
  (hx:FitsE ok' w' [] [] x u) (hd:∀ d, dst = some d -> d < n):RS ok' n (jr fr dst x) (a.put dst u) w':=by
 refine ⟨(size_put ..).trans h.size, (defers_put ..).trans h.dfs, hlt, ?_⟩
 exact (wX (n:=NS.of n) ⟨fun t=>(h.fits t).mono hk (fun b hb'=>hb.block b (h.lt b hb')) (Turn.refl _ _), fun p hp=>by cases hp⟩ hx (fun d e=>by rw [h.size]; exact hd d e)).1
section
variable {P:Program} {G:Glob} (C:Sx P G) (n:Nat) (R:(Nat -> Prop) -> World -> Prop)
structure RGood:Prop where
 on:∀ ok w, R ok w -> C.On w
 okS:∀ ok w, R ok w -> ∀ x, ok x -> C.okS x
 grow:∀ ok ok' w w', R ok w -> Below w.heap.size w w' -> (∀ x, ok' x -> ok x ∨ w.heap.size <= x) -> R ok' w'
def StR (ph:Ph) (fr:Nat -> EV) (a:Act) (w:World):Prop:=match ph with
 | .on k=>C.V k /\ ∃ ok, R ok w /\ RS ok n fr a w
 | .off _=>∃ ok, C.Off w /\ RS ok n fr a w
def zCD (Q:Exit -> Ph -> (Nat -> EV) -> Prop):Exit -> Act -> World -> Prop:=fun e a w=>∃ ph fr, StR C n R ph fr a w /\ Q e ph fr
def zuX (c:Code) (ph:Ph) (fr:Nat -> EV) (Q:Exit -> Ph -> (Nat -> EV) -> Prop):Prop:=∀ (a:Act) (w:World), StR C n R ph fr a w -> c.wpIn (FW none) 0 P (zCD C n R Q) a w
def zuZ (ops:Array Oper) (l:List Oper) (ph:Ph) (fr:Nat -> EV) (Q:Exit -> Ph -> (Nat -> EV) -> Prop):Prop:=∀ (a:Act) (w:World), StR C n R ph fr a w -> wpListIn (FW none) 0 P ops (zCD C n R Q) l a w
end
def zy3 (K:Ph -> (Nat -> EV) -> Prop) (Q:Exit -> Ph -> (Nat -> EV) -> Prop):Exit -> Ph -> (Nat -> EV) -> Prop
 | .normal, p, s=>K p s
 | e, p, s=>Q e p s
def zwQ (id:Nat) (Q:Exit -> Ph -> (Nat -> EV) -> Prop):Exit -> Ph -> (Nat -> EV) -> Prop
 | .exit i, p, s=>if i = id then Q .normal p s else Q (.exit i) p s
 | e, p, s=>Q e p s
def zA2 (fr:Nat -> EV):Nat -> List EV -> Prop
 | _, []=>True
 | k, x :: xs=>(x = .pub .top ∨ x = fr k) /\ zA2 fr (k + 1) xs
theorem zzv {fr:Nat -> EV}:∀ {l:List EV} {k i:Nat} {x:EV}, zA2 fr k l -> l[i]? = some x -> x = .pub .top ∨ x = fr (k + i)
 | [], _, _, _, _, h=>by simp at h
 | y :: l, k, 0, x, h, hx=>by simp at hx; subst hx; exact h.1
 | y :: l, k, i + 1, x, h, hx=>by
  have:=zzv (l:=l) (k:=k + 1) (i:=i) h.2 (by simpa using hx)
  rwa [show k + (i + 1) = k + 1 + i from by omega]
theorem RS.frE {ok:Nat -> Prop} {n:Nat} {fr:Nat -> EV} {a:Act} {w:World} {l:List EV} (h:RS ok n fr a w) (hl:zA2 fr 0 l):RS ok n (frE l) a w:=by
 refine ⟨h.size, h.dfs, h.lt, fun t=>?_⟩
 unfold Go.Av.frE
 cases ht:l[t]? with
 | none=>simp [FitsE, Fits]
 | some x=>
  rcases zzv hl ht with rfl | rfl
  ·
   simp [FitsE, Fits]
  ·
   simpa using h.fits t
section
variable {P:Program} {G:Glob} {C:Sx P G} {n:Nat} {R:(Nat -> Prop) -> World -> Prop} {ph:Ph} {fr:Nat -> EV} {Q:Exit -> Ph -> (Nat -> EV) -> Prop} {ops:Array Oper} {l:List Oper} {o:Oper}
theorem StR.rs {a:Act} {w:World} (h:StR C n R ph fr a w):∃ ok, RS ok n fr a w:=by
 cases ph with
 | on k=>obtain ⟨_, ok, _, h⟩:=h; exact ⟨ok, h⟩
 | off k=>obtain ⟨ok, _, h⟩:=h; exact ⟨ok, h⟩
theorem StR.g (hR:RGood C R) {a:Act} {w:World} (h:StR C n R ph fr a w):G.holds w:=by
 cases ph with
 | on k=>obtain ⟨_, ok, h, _⟩:=h; exact C.glob _ (hR.on _ _ h)
 | off k=>obtain ⟨ok, h, _⟩:=h; exact C.globF _ h
theorem StR.frE {a:Act} {w:World} {l:List EV} (h:StR C n R ph fr a w) (hl:zA2 fr 0 l):StR C n R ph (frE l) a w:=by
 cases ph with
 | on k=>obtain ⟨hv, ok, h1, h2⟩:=h; exact ⟨hv, ok, h1, h2.frE hl⟩
 | off k=>obtain ⟨ok, h1, h2⟩:=h; exact ⟨ok, h1, h2.frE hl⟩
theorem StR.step (hR:RGood C R) {a a':Act} {w w':World} {fr':Nat -> EV} (h:StR C n R ph fr a w) (hn:∀ ok, RS ok n fr a w -> ∃ ok', (∀ b, ok' b -> ok b ∨ w.heap.size <= b) /\ RS ok' n fr' a' w') (hb:Below w.heap.size w w'):StR C n R ph fr' a' w':=by
 cases ph with
 | on k=>
  obtain ⟨hv, ok, h1, h2⟩:=h
  obtain ⟨ok', h3, h4⟩:=hn ok h2
  exact ⟨hv, ok', hR.grow _ _ _ _ h1 hb h3, h4⟩
 | off k=>
  obtain ⟨ok, h1, h2⟩:=h
  obtain ⟨ok', h3, h4⟩:=hn ok h2
  exact ⟨ok', C.offAb _ _ h1 hb, h4⟩
theorem zwU (h:Q .normal ph fr):zuX C n R .skip ph fr Q:=fun _ _ hs=>wpIn_skip ⟨_, fr, hs, h⟩
theorem zyz (h:Q .ret ph fr):zuX C n R .ret ph fr Q:=fun _ _ hs=>wpIn_ret ⟨_, fr, hs, h⟩
theorem zBB {id:Nat} (h:Q (.exit id) ph fr):zuX C n R (.exit id) ph fr Q:=fun _ _ hs=>wpIn_exit ⟨_, fr, hs, h⟩
theorem zva {x y:Code} (h:zuX C n R x ph fr (zy3 (fun p s=>zuX C n R y p s Q) Q)):zuX C n R (.seq x y) ph fr Q:=by
 intro a w hs
 refine wpIn_seq (wpIn_mono (h a w hs) fun e a' w' ⟨p, s, hs', hq⟩=>?_)
 cases e <;> first | exact hq a' w' hs' | exact ⟨p, s, hs', hq⟩
theorem zxb {id:Nat} {c:Code} (h:zuX C n R c ph fr (zwQ id Q)):zuX C n R (.block id c) ph fr Q:=by
 intro a w hs
 refine wpIn_block (wpIn_mono (h a w hs) fun e a' w' ⟨p, s, hs', hq⟩=>?_)
 cases e with
 | exit i=>
  by_cases hi:i = id
  ·
   simp only[Exit.inBlock, zwQ, if_pos hi] at hq ⊢; exact ⟨p, s, hs', hq⟩
  ·
   simp only[Exit.inBlock, zwQ, if_neg hi] at hq ⊢; exact ⟨p, s, hs', hq⟩
 | _=>exact ⟨p, s, hs', hq⟩
theorem zvK {c:Operand} {x y:Code} {b:Bool} (hb:evO fr c = .pub (.v (.bool b))) (h1:b = true -> zuX C n R x ph fr Q) (h2:b = false -> zuX C n R y ph fr Q):zuX C n R (.cond c x y) ph fr Q:=by
 intro a w hs
 obtain ⟨ok, hr⟩:=hs.rs
 have he:=jd (ok:=ok) (w:=w) (bs:=[]) (mem:=[]) (fr:=fr) (a:=a) (x:=c) fun t _=>hr.fits t
 rw [hb] at he
 simp only[FitsE, Fits] at he
 cases b with
 | true=>exact wpIn_cond_true he.1 (h1 rfl a w hs)
 | false=>exact wpIn_cond_false he.1 (h2 rfl a w hs)
theorem zCt {ι:Type} (I:ι -> List EV) (p:ι -> Nat) (μ:ι -> Nat) {c:Code} (i0:ι) (hp:ph = .on (p i0)) (h0:zA2 fr 0 (I i0))
  (round:∀ i, zuX C n R c (.on (p i)) (frE (I i)) (zy3 (fun q s=>∃ j, μ j < μ i /\ q = .on (p j) /\ zA2 s 0 (I j)) Q)):zuX C n R (.loop c) ph fr Q:=by
 subst hp
 intro a w hs
 refine zib (fun i a w=>StR C n R (.on (p i)) (frE (I i)) a w) μ i0 (hs.frE h0) fun i a w hs1=>?_
 refine wpIn_mono (round i a w hs1) fun e a' w' ⟨q, s, hs2, hq⟩=>?_
 cases e <;> try exact ⟨q, s, hs2, hq⟩
 obtain ⟨j, hj, rfl, hw⟩:=hq
 exact ⟨j, hj, hs2.frE hw⟩
theorem zuU {id:Nat} {l:List Oper} (h:zuZ C n R l.toArray l ph fr Q):zuX C n R (.region id l.toArray false) ph fr Q:=
 fun a w hs=>wpIn_region_lit (h a w hs)
theorem zu5 (h:Q .normal ph fr):zuZ C n R ops [] ph fr Q:=fun _ _ hs=>⟨_, fr, hs, h⟩
theorem zu6 (hR:RGood C R) {x:EV} (hg:zad o = true) (hd:vC o (NS.of n) = true) (ho:OpY P G fr [] o x) (h:zuZ C n R ops l ph (jr fr o.dst x) Q):zuZ C n R ops (o :: l) ph fr Q:=by
 intro a w hs
 refine wpListIn_plain (zcU hg) fun K hK=>zar (zcO hg) ?_
 obtain ⟨ok, hr⟩:=hs.rs
 have hG:=hs.g hR
 have key:∀ ok, RS ok n fr a w -> ∀ (K:Act -> World -> Prop) (Q:Exit -> Act -> World -> Prop), (∀ a' w', Below w.heap.size w w' -> (∃ u, a' = a.put o.dst u /\ FitsE (okN ok w w') w' [] [] x u) -> K a' w') -> o.wp P a w K Q:=fun ok hr K Q hK=>
  ho w.heap.size ok [] w a hG (Nat.le_refl _) hr.mok (fun y _=>jd fun t _=>hr.fits t) K Q fun u w' hb hx=>hK _ _ hb ⟨u, rfl, hx⟩
 cases ph with
 | on k=>
  obtain ⟨hv, ok, h1, h2⟩:=hs
  refine key ok h2 K _ fun a' w' hb ⟨u, e, hx⟩=>hK _ _ (h _ _ ?_)
  subst e
  exact ⟨hv, okN ok w w', hR.grow _ _ _ _ h1 hb (fun x hx=>hx.imp id (fun h=>h.1)), h2.put hb (fun b hb=>.inl hb) (fun b hb'=>hb'.elim (fun h=>Nat.lt_of_lt_of_le (h2.lt b h) hb.size) (fun h=>h.2)) hx (fun d e=>(qM hd d e).1)⟩
 | off k=>
  obtain ⟨ok, h1, h2⟩:=hs
  refine key ok h2 K _ fun a' w' hb ⟨u, e, hx⟩=>hK _ _ (h _ _ ?_)
  subst e
  exact ⟨okN ok w w', C.offAb _ _ h1 hb, h2.put hb (fun b hb=>.inl hb) (fun b hb'=>hb'.elim (fun h=>Nat.lt_of_lt_of_le (h2.lt b h) hb.size) (fun h=>h.2)) hx (fun d e=>(qM hd d e).1)⟩
theorem zB1 (hR:RGood C R) {fop:Operand} {args:Array Operand} {tys:Array TypeId} {k:Nat} {q:List AV} (hg:zad o = true) (hd:vC o (NS.of n) = true)
  (ho:o.op = .call { callee:=.value fop, args:=args, argTypes:=tys }) (hf:evO fr fop = .pub (.v (.func (.yield C.l) #[] #[]))) (ha:args.toList.map (evO fr) = q.map .pub) (hq:C.qs[k]? = some q)
  (h1:zuZ C n R ops l (.on (k + 1)) (jr fr o.dst (B true)) Q)
  (h2:zuZ C n R ops l (.off k) (jr (fun _=>.pub .top) o.dst (B false)) Q):zuZ C n R ops (o :: l) (.on k) fr Q:=by
 intro a w ⟨hv, ok, hr, hs⟩
 refine wpListIn_plain (zcU hg) fun K hK=>?_
 have hfv:=jd (ok:=ok) (w:=w) (bs:=[]) (mem:=[]) (fr:=fr) (a:=a) (x:=fop) fun t _=>hs.fits t
 rw [hf] at hfv
 simp only[FitsE, Fits] at hfv
 have key:∀ (l:List Operand) (xs:List AV), l.map (evO fr) = xs.map .pub -> FitsL ok w xs (l.map a.eval):=by
  intro l
  induction l with
  | nil=>intro xs h; cases xs with
   | nil=>simp [FitsL]
   | cons=>simp at h
  | cons y l ih=>intro xs h; cases xs with
   | nil=>simp at h
   | cons x xs=>
    simp only[List.map_cons, List.cons.injEq] at h
    simp only[List.map_cons, FitsL]
    have:=jd (ok:=ok) (w:=w) (bs:=[]) (mem:=[]) (fr:=fr) (a:=a) (x:=y) fun t _=>hs.fits t
    rw [h.1] at this
    exact ⟨_, _, rfl, by simpa only [FitsE] using this, ih xs h.2⟩
 obtain ⟨fn, tmps, assign, body, hy, hrd⟩:=C.round k w ok (args.toList.map a.eval) q hq hv (hR.on _ _ hr) (fun x hx=>⟨hs.lt x hx, hR.okS _ _ hr x hx⟩) (key _ _ (ha))
 refine ⟨fun _ _=>trivial, ?_⟩
 rw [Oper.semAt_eq _ _ _ (zcO hg)]
 have hex:(execOp a.eval o).run P w = .ok (.round C.l fn tmps assign body) w:=by
  have hargs:args.map a.eval = (args.toList.map a.eval).toArray:=by rw [← Array.toList_map]
  simp only[execOp, ho, resolve, hfv.1, Deferred.ofValue, invoke, Sem.run_bind, Sem.run_pure, Result.andThen_ok]
  simp only[Array.empty_append] at *
  rw [hargs]
  exact hy
 rw [hex, Oper.uponIn_round]
 refine ⟨fun h=>by simp [FW, Fence.wide] at h, hrd.mono fun e W' hpost=>?_⟩
 rcases hpost with ⟨rfl, hV, hb⟩ | ⟨rfl, hOff⟩
 ·
  refine hK _ _ (h1 _ _ ⟨hV, ok, hR.grow _ _ _ _ hr hb (fun x hx=>.inl hx), ?_⟩)
  exact hs.put hb (fun b hb=>hb) (fun b hb'=>Nat.lt_of_lt_of_le (hs.lt b hb') hb.size) (by simp [FitsE, Fits, Value.oneCell']) (fun d e=>(qM hd d e).1)
 ·
  refine hK _ _ (h2 _ _ ⟨fun _=>False, hOff, ?_⟩)
  have h0:RS (fun _=>False) n (fun _=>.pub .top) a W':=⟨hs.size, hs.dfs, fun b hb=>hb.elim, fun t=>by simp [FitsE, Fits]⟩
  exact h0.put (Below.refl _ _) (fun b hb=>hb) (fun b hb=>hb.elim) (by simp [FitsE, Fits, Value.oneCell']) (fun d e=>(qM hd d e).1)
theorem zx0 {α:Type} {l:List α} {N:Nat} {o1 o2:α} (h:l.drop N = [o1, o2]):l = l.take N ++ [o1] ++ [o2] /\ (l.take N).length = N:=by
 have h1:l.take N ++ l.drop N = l:=List.take_append_drop N l
 rw [h] at h1
 refine ⟨by simpa using h1.symm, ?_⟩
 have h2:=congrArg List.length h
 rw [List.length_drop, List.length_cons, List.length_singleton] at h2
 rw [List.length_take]; omega
theorem zAT {L:List Oper} {o1 o2:Oper} {a:Act} {w:World} {Q:Exit -> Act -> World -> Prop} (N k1 k2:Nat) (hL:L.drop N = [o1, o2]) (h1:lastB .any (L.take N) o1 k1 = true) (h2:lastB .any (L.take N ++ [o1]) o2 k2 = true)
  (h:wpAnyIn (FW none) 0 P .any (L.take N).toArray (zwA (FW none) 0 P (L.take N ++ [o1]).toArray N (zwA (FW none) 0 P L.toArray (N + 1) Q)) N (Array.replicate N false) a w):
  wpAnyIn (FW none) 0 P .any L.toArray Q L.toArray.size (Array.replicate L.toArray.size false) a w:=by
 obtain ⟨e1, e2⟩:=zx0 hL
 have hlen:L.length = N + 2:=by
  have:=congrArg List.length e1
  simp only[List.length_append, List.length_singleton, e2] at this
  omega
 have hl1:(L.take N ++ [o1]).length = N + 1:=by simp [e2]
 have s1:=zyG (F:=FW none) (n:=0) (P:=P) h1 (Q:=zwA (FW none) 0 P L.toArray (N + 1) Q) (ops:=(L.take N ++ [o1]).toArray) rfl N (Array.replicate N false) a w (by simp [e2]) (zxx _ _) (by rw [e2]; exact h)
 have s2:=zyG (F:=FW none) (n:=0) (P:=P) h2 (Q:=Q) (ops:=L.toArray) (by rw [← e1]) (N + 1) (Array.replicate (N + 1) false) a w (by simp [e2]) (zxx _ _) (by
  rw [hl1]
  rw [Array.replicate_succ]
  exact s1)
 rw [show L.toArray.size = N + 1 + 1 from by simp [hlen]]
 rw [Array.replicate_succ (n:=N + 1)]
 exact s2
theorem zCV (hR:RGood C R) {id:Nat} {L:List Oper} {o1 o2:Oper} (N k1 k2:Nat) (hL:L.drop N = [o1, o2]) (hm:P.follows .mixedOrders = true) (h1:lastB .any (L.take N) o1 k1 = true) (h2:lastB .any (L.take N ++ [o1]) o2 k2 = true)
  (hB:Region.lexB .any (L.take N).toArray = true) (hn:yt (L.take N).toArray (NS.of n) = true)
  (h:yM P G (L.take N).toArray [] (fun fr=>zuZ C n R L.toArray [o1, o2] ph fr Q) (L.take N) fr):zuX C n R (.region id L.toArray true) ph fr Q:=by
 intro a w hs
 refine wpIn_region_any hm ?_
 refine zAT N k1 k2 hL h1 h2 ?_
 obtain ⟨e1, e2⟩:=zx0 hL
 have hbd:Below w.heap.size w w.drew:=(Below.refl _ _).drew
 have hs':StR C n R ph fr a w.drew:=hs.step hR (fun ok hr=>⟨ok, fun b hb=>.inl hb, hr.size, hr.dfs, fun b hb=>Nat.lt_of_lt_of_le (hr.lt b hb) hbd.size, fun t=>(hr.fits t).mono (fun b hb=>hb) (fun b hb=>hbd.block b (hr.lt b hb)) (Turn.refl _ _)⟩) hbd
 have hgo1:o1.guard = none:=by
  simp only[lastB, zLa] at h1
  exact Option.isNone_iff_eq_none.1 h1.1.2
 have hgo2:o2.guard = none:=by
  simp only[lastB, zLa] at h2
  exact Option.isNone_iff_eq_none.1 h2.1.2
 have hlen:L.length = N + 2:=by
  have:=congrArg List.length e1
  simp only[List.length_append, List.length_singleton, e2] at this
  omega
 have g1:(L.take N ++ [o1]).toArray[N]? = some o1:=by
  rw [List.getElem?_toArray, List.getElem?_append_right (by omega), e2]; simp
 have g2:L.toArray[N + 1]? = some o2:=by
  rw [List.getElem?_toArray]
  have:L[N + 1]? = (L.drop N)[1]?:=by rw [List.getElem?_drop]
  rw [this, hL]; rfl
 -- the end
 have fin:∀ (fr':Nat -> EV) (a':Act) (w':World), StR C n R ph fr' a' w' -> zuZ C n R L.toArray [o1, o2] ph fr' Q -> zwA (FW none) 0 P (L.take N ++ [o1]).toArray N (zwA (FW none) 0 P L.toArray (N + 1) (zCD C n R Q)) .normal a' w':=fun fr' a' w' hs2 hq=>by
  have h3:=hq a' w' hs2
  show wpOpIn _ _ _ _ _ _ _ _ _
  unfold wpOpIn
  rw [g1]
  simp only[wpListIn] at h3
  rw [if_pos (by simp [Region.wanted, hgo1])] at h3
  simp only
  rw [if_pos (by simp [Region.wanted, hgo1])]
  refine zyB (fun a w hk=>?_) h3
  rw [if_pos (by simp [Region.wanted, hgo2])] at hk
  show wpOpIn _ _ _ _ _ _ _ _ _
  unfold wpOpIn
  rw [g2]
  simp only
  rw [if_pos (by simp [Region.wanted, hgo2])]
  exact hk
 have hlex:=zeF (P:=P) (G:=G) (ops:=(L.take N).toArray) (mem:=[]) (Q:=fun fr=>zuZ C n R L.toArray [o1, o2] ph fr Q) (md:=.any) (L.take N) 0 (Array.replicate (L.take N).toArray.size false) fr (by simp) (by
  simp only[Region.lexB, zLa] at hB
  simpa using hB.2) h
 have hlex':zfm P G .any (L.take N).toArray [] (fun fr=>zuZ C n R L.toArray [o1, o2] ph fr Q) N (Array.replicate N false) fr:=by
  have e3:(L.take N).toArray.size = N:=by simpa using e2
  rw [e3, e2] at hlex
  exact hlex
 cases ph with
 | on k=>
  obtain ⟨hv, ok, h1', h2'⟩:=hs'
  exact zaZ (G:=G) (mem:=[]) (n:=NS.of n) (w0:=w.drew) (ok0:=ok) (Q:=fun fr=>zuZ C n R L.toArray [o1, o2] (.on k) fr Q) (C.glob _ (hR.on _ _ h1')) h2'.lt hn (fun fr' a' w' hs2 hq=>by
   obtain ⟨ok', h3, h4, h5⟩:=hs2.rs rfl rfl
   exact fin fr' a' w' ⟨hv, ok', hR.grow _ _ _ _ h1' hs2.below h4, h5⟩ hq) N _ fr a _ h2'.sit hlex'
 | off k=>
  obtain ⟨ok, h1', h2'⟩:=hs'
  exact zaZ (G:=G) (mem:=[]) (n:=NS.of n) (w0:=w.drew) (ok0:=ok) (Q:=fun fr=>zuZ C n R L.toArray [o1, o2] (.off k) fr Q) (C.globF _ h1') h2'.lt hn (fun fr' a' w' hs2 hq=>by
   obtain ⟨ok', h3, h4, h5⟩:=hs2.rs rfl rfl
   exact fin fr' a' w' ⟨ok', C.offAb _ _ h1' hs2.below, h5⟩ hq) N _ fr a _ h2'.sit hlex'
end
end Go.Av
end
section
namespace Go.Av
open Go.RowKit
section
variable {K:Ph -> (Nat -> EV) -> Prop} {Q:Exit -> Ph -> (Nat -> EV) -> Prop} {p:Ph} {s:Nat -> EV} {i id:Nat}
theorem zuI (h:K p s):zy3 K Q .normal p s:=h
theorem zxc (h:Q (.exit i) p s):zy3 K Q (.exit i) p s:=h
theorem zwm (h:Q .ret p s):zy3 K Q .ret p s:=h
theorem zxZ (h:Q .normal p s):zwQ id Q .normal p s:=h
theorem zx5 (h:Q .ret p s):zwQ id Q .ret p s:=h
theorem zAo (h:Q .normal p s):zwQ id Q (.exit id) p s:=by
 show (if id = id then _ else _)
 rw [if_pos rfl]; exact h
end
theorem RS.cast {ok:Nat -> Prop} {n:Nat} {fr:Nat -> EV} {a:Act} {w:World} {t:Tmp} {x:EV} (h:RS ok n fr a w) (hx:FitsE ok w [] [] x (a.tmps.getD t undef)):RS ok n (jr fr (some t) x) a w:=
 ⟨h.size, h.dfs, h.lt, fun j=>by
  rw [zcQ]
  by_cases hj:j = t
  ·
   subst hj; rw [if_pos rfl]; exact hx
  ·
   rw [if_neg hj]; exact h.fits j⟩
theorem RS.more {ok ok':Nat -> Prop} {n:Nat} {fr:Nat -> EV} {a:Act} {w:World} (h:RS ok n fr a w) (hk:∀ b, ok b -> ok' b) (hlt:∀ b, ok' b -> b < w.heap.size):RS ok' n fr a w:=
 ⟨h.size, h.dfs, hlt, fun t=>(h.fits t).mono hk (fun _ _=>rfl) (Turn.refl _ _)⟩
section
variable {P:Program} {G:Glob} {C:Sx P G} {n:Nat} {R:(Nat -> Prop) -> World -> Prop} {k:Nat} {fr:Nat -> EV} {Q:Exit -> Ph -> (Nat -> EV) -> Prop} {ops:Array Oper} {l:List Oper} {o:Oper}
theorem StR.cast {a:Act} {w:World} {u:Value} {x:AV} (t:Tmp) (hu:fr t = .pub (.v u)) (hx:∀ ok w, R ok w -> (∀ b, ok b -> b < w.heap.size) -> ∃ ok', (∀ b, ok b -> ok' b) /\ (∀ b, ok' b -> b < w.heap.size) /\ R ok' w /\ Fits ok' w x u)
  (h:StR C n R (.on k) fr a w):StR C n R (.on k) (jr fr (some t) (.pub x)) a w:=by
 obtain ⟨hv, ok, h1, h2⟩:=h
 obtain ⟨ok', h3, h4, h5, h6⟩:=hx ok w h1 h2.lt
 refine ⟨hv, ok', h5, (h2.more h3 h4).cast ?_⟩
 have:=h2.fits t
 rw [hu] at this
 simp only[FitsE, Fits] at this
 rw [this.1]
 exact h6
theorem zCv {c:Code} {u:Value} {x:AV} (t:Tmp) (hu:fr t = .pub (.v u)) (hx:∀ ok w, R ok w -> (∀ b, ok b -> b < w.heap.size) -> ∃ ok', (∀ b, ok b -> ok' b) /\ (∀ b, ok' b -> b < w.heap.size) /\ R ok' w /\ Fits ok' w x u)
  (h:zuX C n R c (.on k) (jr fr (some t) (.pub x)) Q):zuX C n R c (.on k) fr Q:=
 fun a w hs=>h a w (hs.cast t hu hx)
theorem zyl {u:Value} {x:AV} (t:Tmp) (hu:fr t = .pub (.v u)) (hx:∀ ok w, R ok w -> (∀ b, ok b -> b < w.heap.size) -> ∃ ok', (∀ b, ok b -> ok' b) /\ (∀ b, ok' b -> b < w.heap.size) /\ R ok' w /\ Fits ok' w x u)
  (h:zuZ C n R ops l (.on k) (jr fr (some t) (.pub x)) Q):zuZ C n R ops l (.on k) fr Q:=
 fun a w hs=>h a w (hs.cast t hu hx)
theorem zDS {c:Code} {ph:Ph} {Q':Exit -> Ph -> (Nat -> EV) -> Prop} (h:zuX C n R c ph fr Q') (hq:∀ e p s, Q' e p s -> Q e p s):zuX C n R c ph fr Q:=
 fun a w hs=>wpIn_mono (h a w hs) fun e _ _ ⟨p, s, h1, h2⟩=>⟨p, s, h1, hq e p s h2⟩
theorem zEP (hR:RGood C R) {y:EV} {u:Value} {x:AV} (t:Tmp) (hu:fr t = .pub (.v u)) (hx:∀ ok w, R ok w -> (∀ b, ok b -> b < w.heap.size) -> ∃ ok', (∀ b, ok b -> ok' b) /\ (∀ b, ok' b -> b < w.heap.size) /\ R ok' w /\ Fits ok' w x u)
  (hg:zad o = true) (hd:vC o (NS.of n) = true) (ho:OpY P G (jr fr (some t) (.pub x)) [] o y) (h:zuZ C n R ops l (.on k) (jr fr o.dst y) Q):zuZ C n R ops (o :: l) (.on k) fr Q:=by
 intro a w ⟨hv, ok, h1, h2⟩
 refine wpListIn_plain (zcU hg) fun K hK=>zar (zcO hg) ?_
 obtain ⟨ok', h3, h4, h5, h6⟩:=hx ok w h1 h2.lt
 have hr:=h2.more h3 h4
 have hc:RS ok' n (jr fr (some t) (.pub x)) a w:=hr.cast (by
  have:=h2.fits t
  rw [hu] at this
  simp only[FitsE, Fits] at this
  rw [this.1]; exact h6)
 refine ho w.heap.size ok' [] w a (C.glob _ (hR.on _ _ h1)) (Nat.le_refl _) hr.mok (fun y _=>jd fun t _=>hc.fits t) K _ fun v w' hb hv'=>hK _ _ (h _ _ ?_)
 exact ⟨hv, okN ok' w w', hR.grow _ _ _ _ h5 hb (fun x hx=>hx.imp id (fun h=>h.1)), hr.put hb (fun b hb=>.inl hb) (fun b hb'=>hb'.elim (fun h=>Nat.lt_of_lt_of_le (hr.lt b h) hb.size) (fun h=>h.2)) hv' (fun d e=>(qM hd d e).1)⟩
theorem zz1 {T:TypeId} {x:Operand} {g:Nat} {u:Value} {a:Act} {w:World} (ho:o.op = .load T x) (ht:tyIs P T false 1 = true) (hx:a.eval x = .pointer (some ⟨g, 0, none⟩)) (hc:w.cell? ⟨g, 0, none⟩ = some u):
  (execOp a.eval o).run P w = .ok (.value u) w:=by
 simp [execOp, ho, hx, Instr.loadAt, Instr.sureAddr, loadVar, isAgg_of ht, hc]
theorem zB7 {T:TypeId} {x:Operand} {g:Nat} {u:Value} (hg:zad o = true) (hd:vC o (NS.of n) = true) (ho:o.op = .load T x) (ht:tyIs P T false 1 = true) (hx:evO fr x = .pub (.v (.pointer (some ⟨g, 0, none⟩)))) (h1:u.oneCell' = true)
  (hc:∀ ok w, R ok w -> w.cell? ⟨g, 0, none⟩ = some u) (h:zuZ C n R ops l (.on k) (jr fr o.dst (.pub (.v u))) Q):zuZ C n R ops (o :: l) (.on k) fr Q:=by
 intro a w ⟨hv, ok, hr, hs⟩
 refine wpListIn_plain (zcU hg) fun K hK=>?_
 have hfv:=jd (ok:=ok) (w:=w) (bs:=[]) (mem:=[]) (fr:=fr) (a:=a) (x:=x) fun t _=>hs.fits t
 rw [hx] at hfv
 simp only[FitsE, Fits] at hfv
 refine zar (zcO hg) (jT (zz1 ho ht hfv.1 (hc ok w hr)) (hK _ _ (h _ _ ⟨hv, ok, hr, ?_⟩)))
 exact hs.put (Below.refl _ _) (fun b hb=>hb) (fun b hb=>hs.lt b hb) (by simp only[FitsE, Fits]; exact ⟨trivial, h1⟩) (fun d e=>(qM hd d e).1)
theorem zBR (hR:RGood C R) {fop:Operand} {args:Array Operand} {tys:Array TypeId} {f:FuncId} {us vs:List Value} {k':Nat} (hg:zad o = true) (hd:vC o (NS.of n) = true) (he:Enters P f)
  (ho:o.op = .call { callee:=.value fop, args:=args, argTypes:=tys }) (hf:evO fr fop = .pub (.v (.func (.func f) #[] vs.toArray))) (ha:args.toList.map (evO fr) = us.map fun u=>.pub (.v u))
  (hc:∀ ok w, R ok w -> C.V k -> CallsIn (FW none) 0 P f (us ++ vs).toArray w (fun e W'=>(e = .returned (.bool true) /\ C.V k' /\ Below w.heap.size w W') ∨ (e = .returned (.bool false) /\ C.Off W')))
  (h1:zuZ C n R ops l (.on k') (jr fr o.dst (B true)) Q)
  (h2:zuZ C n R ops l (.off k) (jr (fun _=>.pub .top) o.dst (B false)) Q):zuZ C n R ops (o :: l) (.on k) fr Q:=by
 intro a w ⟨hv, ok, hr, hs⟩
 refine wpListIn_plain (zcU hg) fun K hK=>?_
 have hfit:∀ x, FitsE ok w [] [] (evO fr x) (a.eval x):=fun x=>jd (ok:=ok) (w:=w) (bs:=[]) (mem:=[]) (fr:=fr) (a:=a) (x:=x) fun t _=>hs.fits t
 have hfv:=hfit fop
 rw [hf] at hfv
 simp only[FitsE, Fits] at hfv
 have key:∀ (l:List Operand) (xs:List Value), l.map (evO fr) = xs.map (fun u=>EV.pub (.v u)) -> l.map a.eval = xs:=by
  intro l
  induction l with
  | nil=>intro xs h; cases xs with
   | nil=>rfl
   | cons=>simp at h
  | cons y l ih=>intro xs h; cases xs with
   | nil=>simp at h
   | cons x xs=>
    simp only[List.map_cons, List.cons.injEq] at h
    have:=hfit y
    rw [h.1] at this
    simp only[FitsE, Fits] at this
    rw [List.map_cons, this.1, ih xs h.2]
 refine ⟨fun _ _=>trivial, ?_⟩
 rw [Oper.semAt_eq _ _ _ (zcO hg), call_exec (us:=[]) (vs:=vs) ho he hfv.1, Oper.uponIn_enter]
 refine ⟨fun h=>by simp [FW, Fence.wide] at h, ?_⟩
 rw [List.nil_append, key _ _ ha]
 refine (hc ok w hr hv).mono fun e W' hpost=>?_
 rcases hpost with ⟨rfl, hV, hb⟩ | ⟨rfl, hOff⟩
 ·
  refine hK _ _ (h1 _ _ ⟨hV, ok, hR.grow _ _ _ _ hr hb (fun x hx=>.inl hx), ?_⟩)
  exact hs.put hb (fun b hb=>hb) (fun b hb'=>Nat.lt_of_lt_of_le (hs.lt b hb') hb.size) (by simp [FitsE, Fits, Value.oneCell']) (fun d e=>(qM hd d e).1)
 ·
  refine hK _ _ (h2 _ _ ⟨fun _=>False, hOff, ?_⟩)
  have h0:RS (fun _=>False) n (fun _=>.pub .top) a W':=⟨hs.size, hs.dfs, fun b hb=>hb.elim, fun t=>by simp [FitsE, Fits]⟩
  exact h0.put (Below.refl _ _) (fun b hb=>hb) (fun b hb=>hb.elim) (by simp [FitsE, Fits, Value.oneCell']) (fun d e=>(qM hd d e).1)
theorem zzj {n:Nat} {xs:List AV} {us:List Value} {ok:Nat -> Prop} {w:World} (hok:∀ b, ok b -> b < w.heap.size) (hlen:us.length <= n) (hfit:FitsL ok w xs us):
  RS ok n (zsH xs) { tmps:=us.toArray ++ Array.replicate (n - us.toArray.size) undef, defers:=[] } w:=by
 have hl:=hfit.length
 refine ⟨by simp only[Array.size_append, Array.size_replicate, List.size_toArray]; omega, rfl, hok, fun t=>?_⟩
 show FitsE ok w [] [] (match xs[t]? with | some x=>.pub x | none=>.pub .top) _
 by_cases ht:t < xs.length
 ·
  rw [List.getElem?_eq_getElem ht]
  obtain ⟨u, h1, h2⟩:=hfit.get (List.getElem?_eq_getElem ht)
  simp only[FitsE]
  have h3:t < us.length:=(zLg h1).1
  have h4:us[t] = u:=(zLg h1).2
  simp only[Array.getD_eq_getD_getElem?]
  rw [Array.getElem?_append_left (by simpa using h3)]
  simp [h3, h4, h2]
 ·
  rw [List.getElem?_eq_none (by omega)]
  simp [FitsE, Fits]
theorem results_tmp {fn:Func} {tm:Array Value} {t:Tmp} (h:fn.results = #[.tmp t]) (w:World):(results fn tm).run P w = .ok (tm.getD t undef) w:=by
 rw [results_eq, h]
 simp [resSem]
theorem zAO {f:FuncId} {fn:Func} {c:Code} {us:List Value} {xs:List AV} {w:World} {ok:Nat -> Prop} {Rr:Ending -> World -> Prop} (hf:P.funcs[f]? = some fn) (hb:fn.body = some c) (hlen:us.length <= fn.ntmps) (hV:C.V k) (hr:R ok w) (hok:∀ b, ok b -> b < w.heap.size) (hfit:FitsL ok w xs us)
  (h:zuX C fn.ntmps R c (.on k) (zsH xs) Q)
  (hQ:∀ e ph fr (a:Act) w', Q e ph fr -> StR C fn.ntmps R ph fr a w' -> (e = .normal ∨ e = .ret) /\ ∃ v, (results fn a.tmps).run P w' = .ok v w' /\ Rr (.returned v) w'):CallsIn (FW none) 0 P f us.toArray w Rr:=by
 refine callsIn_of_wp hf hb trivial (wpIn_mono (h _ w ⟨hV, ok, hr, zzj hok hlen hfit⟩) fun e a w' ⟨ph, fr', hs, hq⟩=>?_)
 obtain ⟨he, hv⟩:=hQ e ph fr' a w' hq hs
 obtain ⟨ok', hrs⟩:=hs.rs
 rcases he with rfl | rfl
 ·
  exact ⟨hrs.dfs, hv⟩
 ·
  exact ⟨hrs.dfs, hv⟩
end
end Go.Av
end
section
namespace Go.Av
open Go.RowKit
variable {P:Program} {G:Glob}
theorem zGq {fr:Nat -> EV} {mem:List PO} {o:Oper} {z:Operand} {x:Tmp} {tys:Array TypeId} {f:FuncId} {c r:AV} {k n:Nat} {ra:List (List AV)} (ho:o.op = .call { callee:=.value (.func f), args:=#[z, .tmp x], argTypes:=tys })
  (hdx:o.dst ≠ some x) (hz:evO fr z = .pub c) (hzx:z ≠ .tmp x) (hx:fr x = .psl k n) (hm:mem[k]? = some (.row (ra.map (·.map .pub)))) (hn:ra.length = n) (hc:ACall P G f [c, .sl ra] r):OpB P G fr mem o (.pub r) (mem.set k .dead):=by
 intro N fr2 he hd w0 ok0 a w hG hok hs K Q hK
 have hx2:fr2 x = .psl k n:=(he (.tmp x) (by simp [ho, Op.operands, Call.operands])).trans hx
 have hz2:evO fr2 z = .pub c:=(he z (by simp [ho, Op.operands, Call.operands])).trans hz
 have hs1:=zcT (n:=N) (fr:=fr2) [x] hm hn (fun d hd=>by rw [List.mem_singleton] at hd; subst hd; exact hx2) w0 ok0 a w hs
 have c1:∀ (t u:Nat), ([u]:List Tmp).contains t = Nat.beq t u:=fun t u=>by
  cases h:Nat.beq t u with
  | true=>simp [Nat.eq_of_beq_eq_true h]
  | false=>
   have:t ≠ u:=Nat.ne_of_beq_eq_false h
   simp [this]
 have a1:evO (fun t=>bif ([x]:List Tmp).contains t then .pub (.sl ra) else fr2 t) z = .pub c:=by
  rw [← hz2]
  cases z with
  | tmp t=>
   have n1:Nat.beq t x = false:=by
    cases h:Nat.beq t x with
    | false=>rfl
    | true=>exact absurd (by rw [Nat.eq_of_beq_eq_true h]) hzx
   show (bif ([x]:List Tmp).contains t then EV.pub (.sl ra) else fr2 t) = fr2 t
   simp only[c1, n1, cond_false]
  | _=>rfl
 have a2:evO (fun t=>bif ([x]:List Tmp).contains t then .pub (.sl ra) else fr2 t) (.tmp x) = .pub (.sl ra):=by
  show (bif ([x]:List Tmp).contains x then EV.pub (.sl ra) else fr2 x) = _
  simp only[c1, Nat.beq_refl, cond_true]
 have hop:=(zy (P:=P) (G:=G) (fr:=(fun t=>bif ([x]:List Tmp).contains t then .pub (.sl ra) else fr2 t)) (mem:=mem.set k .dead) (av:=[c, .sl ra]) ho ⟨a1, a2, trivial⟩ hc).toM (st:=⟨N, (fun t=>bif ([x]:List Tmp).contains t then .pub (.sl ra) else fr2 t), mem.set k .dead⟩) (qM hd)
 refine hop w0 ok0 a w hG hok hs1 K Q fun a' w' hs3=>hK a' w' ?_
 have d1:(mem.set k .dead)[k]? = some PO.dead:=List.getElem?_set_self (zLg hm).1
 have hs4:=zGF (m:=n) x d1 w0 ok0 a' w' hs3
 have e:(fun t=>bif Nat.beq t x then EV.psl k n else jr (fun t=>bif ([x]:List Tmp).contains t then .pub (.sl ra) else fr2 t) o.dst (.pub r) t) = jr fr2 o.dst (.pub r):=by
  funext t
  cases h2:Nat.beq t x with
  | true=>
   have e1:=Nat.eq_of_beq_eq_true h2
   subst e1
   simp only[cond_true]
   rw [← hx2]
   cases hd2:o.dst with
   | none=>rfl
   | some d=>
    have:Nat.beq t d = false:=by
     cases h:Nat.beq t d with
     | false=>rfl
     | true=>exact absurd (by rw [hd2, Nat.eq_of_beq_eq_true h]) hdx
    simp [jr, this]
  | false=>
   simp only[cond_false]
   cases hd2:o.dst with
   | none=>simp only[cond_false, jr, c1, h2]
   | some d=>simp only[cond_false, jr, c1, h2]
 rw [e] at hs4
 exact hs4
end Go.Av
end
