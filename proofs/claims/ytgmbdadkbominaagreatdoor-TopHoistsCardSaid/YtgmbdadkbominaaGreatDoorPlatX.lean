import Derived.Test.YtgmbdadkbominaaGreatDoorPlatV
import Derived.Test.YtgmbdadkbominaaGreatDoorPlatW
import Derived.Test.YtgmbdadkbominaaGreatDoorPlatJ
set_option linter.unusedVariables false
set_option linter.unusedSimpArgs false
section
namespace Go.Av
open Go.RowKit
section
variable {P:Program} {G:Glob} (C:Cx P G)
end
section
variable {P:Program} {G:Glob} {C:Cx P G} {ph:Ph} {st st':ASt} {Q:Exit -> Ph -> ASt -> Prop} {ops:Array Oper} {l:List Oper} {o:Oper}
theorem zaj {c:Code} (hw:Weak st st') (h:qW C c ph st' Q):qW C c ph st Q:=fun w0 ok0 a w hc hs=>h w0 ok0 a w hc (hw w0 ok0 a w hs)
end
end Go.Av
end
section
namespace Go.Av
open Go.RowKit
section
variable {P:Program} {G:Glob} {fr:Nat -> EV} {mem:List PO} {o:Oper}
end
end Go.Av
end
section
namespace Go.Av
open Go.RowKit
section
variable {P:Program} {G:Glob}
def zyG (P:Program) (fn:Func) (st:ASt) (r:EV):Prop:=fn.results.toList.length ≠ 1 /\ ∃ xs:List EV, r = .tpl xs /\ zj9 P st fn.results.toList xs
theorem zwj {fn:Func} {w:World} {ok:Nat -> Prop} {bs:List PB} {n:Nat} {st:ASt} (hmo:MemOK n ok w bs st.mem) {tm:Array Value} (hf:∀ t, FitsE ok w bs st.mem (st.fr t) (tm.getD t undef)) {r:EV} (h:zyG P fn st r):
  ∃ u, (results fn tm).run P w = .ok u w /\ FitsE ok w bs st.mem r u:=by
 obtain ⟨hl, xs, rfl, h⟩:=h
 obtain ⟨us, h1, h2, h4⟩:=zg1 hmo hf h
 refine ⟨.tuple us.toArray, ?_, by simp only[FitsE]; exact ⟨us, rfl, h2⟩⟩
 rw [results_eq, Array.mapM_eq_mapM_toList]
 simp only[Sem.run_bind, Sem.run_map]
 rw [h1]
 have hlen:us.length ≠ 1:=by rw [h4]; exact hl
 simp [hlen]
def zyz (P:Program) (fn:Func) (gh:List (EV × Value)) (hold:List (Nat × Obj)) (k0:Nat) (out:MOut) (e:Exit) (st:ASt):Prop:=
 (∃ more, st.mem = out.mem ++ more) /\ zbM out.mem.length out.mem /\ k0 <= out.mem.length /\ st.n.dfs = [] /\ (∀ p ∈ gh, p ∈ st.n.gh) /\ (∀ p ∈ hold, p ∈ st.n.hold) /\ match out with
  | .ret r m=>(e = .normal ∨ e = .ret) /\ r.lt m.length /\ zyG P fn st r
  | .pan v _=>∃ u v', e = .panic (pnc u) /\ (EV.pub v', u) ∈ st.n.gh /\ AVle v' v
theorem zwW {f:FuncId} {fn:Func} {c:Code} {args:List EV} {mem:List PO} {out:MOut} (hf:P.funcs[f]? = some fn) (hb:fn.body = some c) (hnm:(fn.name == "runtime.NumGoroutine") = false) (hlen':Nat.ble args.length fn.ntmps = true)
  (h:∀ gh hold, jl (r:=none) P G c ⟨⟨fn.ntmps, [], gh, false, hold⟩, frE args, mem⟩ (zyz P fn gh hold mem.length out)):zeq P G f args mem out:=by
 have hlen:=zLb hlen'
 refine ⟨⟨fn, hf, hnm, by simp [hb]⟩, fun w0 ok0 ok bs w vs gh hold hG hok ⟨o1, o2, o3, o4, o5, o6⟩ hfit=>callsIn_wide.1 (callsIn_of_wp_marks (n:=0) hf hb trivial ?_)⟩
 have hl:=hfit.length
 refine wpIn_mono (h gh hold w0 ok0 _ w hG hok ?_) fun e a' w' ⟨st, hs, hq⟩=>?_
 ·refine ⟨by simp [hl]; omega, ⟨rfl, fun p hp=>⟨⟨⟨(o6 p hp).1.1, by simp [marksOf]⟩, (o6 p hp).1.2⟩, (o6 p hp).2⟩⟩, o1, ok, bs, o2, o3, o4, fun t=>?_, o5⟩
  show FitsE ok w bs mem (match args[t]? with | some x=>x | none=>.pub .top) _
  by_cases ht:t < args.length
  ·rw [List.getElem?_eq_getElem ht]
   obtain ⟨u, h1, h2⟩:=hfit.get (List.getElem?_eq_getElem ht)
   have h3:t < vs.length:=(zLg h1).1
   have h4:vs[t] = u:=(zLg h1).2
   simp only[Array.getD_eq_getD_getElem?]
   rw [Array.getElem?_append_left (by simpa using h3)]
   simp [h3, h4, h2]
  ·rw [List.getElem?_eq_none (by omega)]
   simp [FitsE, Fits]
 ·obtain ⟨⟨more, hmore⟩, hmk, hk0, hdf, hgh, hho, hout⟩:=hq
  obtain ⟨h0, h1, h2, ok', bs', h3, h4, h5, h6⟩:=hs
  have h1m:=h1.1
  rw [hdf] at h1m
  have hlen5:=h5.len
  -- behind the marks, and without what lies behind
  have cut:∀ (w2:World) (X:List (EV × Value)), MK w0 w' w2 -> (∀ k, k ∉ marksOf a'.defers -> w2.heap[k]? = w'.heap[k]?) -> (∀ p ∈ X, FitsE ok' w2 bs' st.mem p.1 p.2) -> (∀ p ∈ X, p.1.lt out.mem.length) ->
    ∃ okx bs2, Own w0 ok0 out.mem gh hold okx bs2 w2 /\ ∀ p ∈ X, FitsE okx w2 bs2 out.mem p.1 p.2:=fun w2 X hw2 hkk hX hXl=>by
   have htk:st.mem.take out.mem.length = out.mem:=by rw [hmore]; simp
   have hghl:∀ p ∈ gh, p.1.lt out.mem.length:=fun p hp=>EV.lt_mono hk0 (by have:=zcZ (o5 p hp); rwa [o4.len] at this)
   have hsit:Sit w0 ok0 ⟨⟨a'.tmps.size, [], X ++ gh, st.n.mks, []⟩, fun _=>.pub .top, st.mem⟩ { a' with defers:=[] } w2:=by
    refine ⟨rfl, ⟨rfl, fun p hp=>by cases hp⟩, h2.trans hw2.below, ok', bs', h3, h4, h5.marked hw2, fun t=>by simp [FitsE, Fits], fun p hp=>?_⟩
    rcases List.mem_append.1 hp with hp | hp
    ·exact hX p hp
    ·exact (h6.2 p (hgh p hp)).congr hw2.cell
   have hw:=zc6 (n:=⟨a'.tmps.size, [], X ++ gh, st.n.mks, []⟩) (fr:=fun _=>.pub .top) (mem:=st.mem) out.mem.length (fun t=>by simp [EV.lt]) (fun l rows hl hr r hrr x hx=>by
     have:=yA hmk (i:=l) (o:=.row rows) (by rw [← htk, List.getElem?_take, if_pos hl]; exact hr)
     exact this r hrr x hx) (fun p hp=>by
     rcases List.mem_append.1 hp with hp | hp
     ·exact hXl p hp
     ·exact hghl p hp) (fun l es hl hes=>yA hmk (i:=l) (o:=.map es) (by rw [← htk, List.getElem?_take, if_pos hl]; exact hes))
   obtain ⟨_, _, t2, okx, bsx, t3, t4, t5, t6⟩:=hw w0 ok0 _ w2 hsit
   simp only[htk] at t5 t6
   refine ⟨okx, bsx, ⟨t2, t3, t4, t5, fun p hp=>t6.2 p (List.mem_append_right _ hp), fun p hp=>?_⟩, fun p hp=>t6.2 p (List.mem_append_left _ hp)⟩
   obtain ⟨k1, k2⟩:=h1.2 p (hho p hp)
   exact ⟨⟨k1.1.1, k1.2⟩, by rw [hkk _ k1.1.2]; exact k2⟩
  cases out with
  | ret r m=>
   obtain ⟨he, hrl, hret⟩:=hout
   have hlv:LeavesInM Fence.wide 0 P fn a'.tmps (fun e w'=>∃ ok' bs', Own w0 ok0 m gh hold ok' bs' w' /\ ∃ u, e = .returned u /\ FitsE ok' w' bs' m r u) a'.defers .returning w':=zau h1m fun w2 hw2 hkk=>by
    obtain ⟨u, hu1, hu2⟩:=zwj (P:=P) (st:=st) (h5.marked hw2) (tm:=a'.tmps) (fun t=>(h6.1 t).congr hw2.cell) hret
    obtain ⟨okx, bsx, hown, hX⟩:=cut w2 [(r, u)] hw2 hkk (fun p hp=>by rw [List.mem_singleton] at hp; subst hp; exact hu2) (fun p hp=>by rw [List.mem_singleton] at hp; subst hp; exact hrl)
    exact ⟨u, hu1, okx, bsx, hown, u, rfl, hX _ (List.mem_singleton_self _)⟩
   rcases he with rfl | rfl
   ·exact hlv
   ·exact hlv
  | pan v m=>
   obtain ⟨u, v', rfl, hu, hv⟩:=hout
   refine xE h1m fun w2 hw2 hkk=>?_
   obtain ⟨okx, bsx, hown, hX⟩:=cut w2 [(.pub v', u)] hw2 hkk (fun p hp=>by
    rw [List.mem_singleton] at hp; subst hp; exact (h6.2 _ hu).congr hw2.cell) (fun p hp=>by rw [List.mem_singleton] at hp; subst hp; simp [EV.lt])
   have:=hX _ (List.mem_singleton_self _)
   simp only[FitsE] at this
   exact ⟨okx, bsx, hown, u, rfl, hv _ _ _ this⟩
theorem zwY {fn:Func} {gh:List (EV × Value)} {hold:List (Nat × Obj)} {k0 N:Nat} {mks:Bool} {r:EV} {m:List PO} {e:Exit} {fr:Nat -> EV} {mem:List PO} (more:List PO) (hm:mem = m ++ more) (hk:zbM m.length m) (h0:k0 <= m.length) (he:e = .normal ∨ e = .ret) (hr:r.lt m.length)
  (hret:zyG P fn ⟨⟨N, [], gh, mks, hold⟩, fr, mem⟩ r):zyz P fn gh hold k0 (.ret r m) e ⟨⟨N, [], gh, mks, hold⟩, fr, mem⟩:=
 ⟨⟨more, hm⟩, hk, h0, rfl, fun _ h=>h, fun _ h=>h, he, hr, hret⟩
end
end Go.Av
end
