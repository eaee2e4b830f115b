import Derived.Test.YtdjncbjfejdamaaGreatDoorChSA
import Derived.Test.YtdjncbjfejdamaaGreatDoorChO
import Derived.Test.YtdjncbjfejdamaaGreatDoorChC
set_option linter.unusedVariables false
set_option linter.unusedSimpArgs false
section
namespace Go.Av.Pn
open Go.Av Go.Proofs Go.RowKit
set_option maxRecDepth 100000
set_option maxHeartbeats 1000000
variable {G:Glob}
def encI (n:Int):Value:=.int .i64 n
def zWP (m:List Nat):List (Int × EV):=m.map fun (p:Nat)=>((p:Int), B true)
theorem zXk (c:Nat):∀ m:List Nat, zHu (c:Int) (.pub (ofV (.bool false))) (zWP m) = B (m.contains c)
 | []=>rfl
 | x :: m=>by
  show (if (x:Int) = (c:Int) then B true else zHu (c:Int) (.pub (ofV (.bool false))) (zWP m)) = _
  rw [zXk c m, List.contains_cons]
  by_cases h:x = c
  ·
   subst h; simp
  ·
   rw [if_neg (by omega)]
   rw [show (c == x) = false from by simpa using Ne.symm h]; rfl
theorem zXy {c:Nat}:∀ {m:List Nat}, c ∉ m -> yh (c:Int) (B true) (zWP m) = zWP (m ++ [c])
 | [], _=>rfl
 | x :: m, h=>by
  have h1:x ≠ c:=fun e=>h (by simp [e])
  have h2:c ∉ m:=fun e=>h (by simp [e])
  show (if (x:Int) = (c:Int) then _ else ((x:Int), B true) :: yh (c:Int) (B true) (zWP m)) = _
  rw [if_neg (by omega), zXy h2]; rfl
section
variable (ed:Nat -> Bool) (nb:Nat -> List Nat) (se:Nat -> Bool)
def stp (f:List Nat -> Nat -> List Nat × Option Nat) (s:List Nat × Option Nat) (q:Nat):List Nat × Option Nat:=
 match s.2 with
 | some _=>s
 | none=>bif se q && !s.1.contains q then f s.1 q else s
def sch:Nat -> List Nat -> Nat -> List Nat × Option Nat
 | 0, m, _=>(m, none)
 | n + 1, m, p=>bif ed p then (m, some p) else (nb p).foldl (stp se (sch n)) (m ++ [p], none)
end
def SM (caps:List EV) (m:List Nat):List PO:=[zlS encI (zWP m), .row [[.mpv 0]], .row [[.fnm 189 [] caps]]]
def zY0 (caps:List EV):List Nat × Option Nat -> MOut
 | (m, none)=>.ret (.pub (.tup [])) (SM caps m)
 | (m, some x)=>.pan (.ifc 212 (.agg [ei (x:Int)])) (SM caps m)
theorem zXh {ed:Nat -> Bool} {nb:Nat -> List Nat} {se:Nat -> Bool} {n p:Nat} {m:List Nat} (h:ed p = false):sch ed nb se (n + 1) m p = (nb p).foldl (stp se (sch ed nb se n)) (m ++ [p], none):=by
 show (bif ed p then _ else _) = _
 rw [h]; rfl
theorem zWE {ed:Nat -> Bool} {nb:Nat -> List Nat} {se:Nat -> Bool} {n p:Nat} {m:List Nat} (h:ed p = true):sch ed nb se (n + 1) m p = (m, some p):=by
 show (bif ed p then _ else _) = _
 rw [h]; rfl
def pre (se:Nat -> Bool) (f:List Nat -> Nat -> List Nat × Option Nat) (xs:List Nat) (m:List Nat) (k:Nat):List Nat × Option Nat:=(xs.take k).foldl (stp se f) (m, none)
theorem zXn {se:Nat -> Bool} {f:List Nat -> Nat -> List Nat × Option Nat} {xs m:List Nat} {k q:Nat} (h:xs[k]? = some q):pre se f xs m (k + 1) = stp se f (pre se f xs m k) q:=by
 unfold pre
 rw [List.take_add_one, h, Option.toList_some, List.foldl_append]; rfl
theorem zWv {se:Nat -> Bool} {f:List Nat -> Nat -> List Nat × Option Nat} {s:List Nat × Option Nat} (h:s.2.isSome = true):∀ xs:List Nat, xs.foldl (stp se f) s = s
 | []=>rfl
 | x :: t=>by
  rw [List.foldl_cons, show stp se f s x = s from by unfold stp; cases e:s.2 with | none=>rw [e] at h; cases h | some y=>rfl]
  exact zWv h t
theorem zYf {se:Nat -> Bool} {f:List Nat -> Nat -> List Nat × Option Nat} {xs m:List Nat} {k:Nat} (h:(pre se f xs m k).2.isSome = true):xs.foldl (stp se f) (m, none) = pre se f xs m k:=by
 conv=>lhs; rw [← List.take_append_drop k xs, List.foldl_append]
 exact zWv h _
structure Kp (N:Nat) (m m':List Nat):Prop where
 nd:m'.Nodup
 lt:∀ x ∈ m', x < N
 sub:∀ x ∈ m, x ∈ m'
 le:m.length <= m'.length
theorem zXL {ed:Nat -> Bool} {nb:Nat -> List Nat} {se:Nat -> Bool} {N:Nat} (hnb:∀ p, ∀ q ∈ nb p, q < N):∀ (n:Nat) (m:List Nat) (p:Nat), p < N -> p ∉ m -> m.Nodup -> (∀ x ∈ m, x < N) -> Kp N m (sch ed nb se n m p).1
 | 0, m, p, _, _, h3, h4=>⟨h3, h4, fun _ h=>h, Nat.le_refl _⟩
 | n + 1, m, p, h1, h2, h3, h4=>by
  cases he:ed p with
  | true=>rw [zWE he]; exact ⟨h3, h4, fun _ h=>h, Nat.le_refl _⟩
  | false=>
   rw [zXh he]
   have key:∀ (xs:List Nat) (s:List Nat × Option Nat), (∀ q ∈ xs, q < N) -> s.1.Nodup -> (∀ x ∈ s.1, x < N) -> Kp N s.1 (xs.foldl (stp se (sch ed nb se n)) s).1:=by
    intro xs
    induction xs with
    | nil=>intro s _ a b; exact ⟨a, b, fun _ h=>h, Nat.le_refl _⟩
    | cons q t ih=>
     intro s hq a b
     rw [List.foldl_cons]
     have hs:Kp N s.1 (stp se (sch ed nb se n) s q).1:=by
      unfold stp
      cases s.2 with
      | some x=>exact ⟨a, b, fun _ h=>h, Nat.le_refl _⟩
      | none=>
       cases hc:(se q && !s.1.contains q) with
       | false=>exact ⟨a, b, fun _ h=>h, Nat.le_refl _⟩
       | true=>
        simp only[zLa, Bool.not_eq_true'] at hc
        exact zXL hnb n s.1 q (hq q (List.mem_cons_self ..)) (fun h=>by rw [List.contains_iff_mem.2 h] at hc; cases hc.2) a b
     have ht:=ih _ (fun x hx=>hq x (List.mem_cons_of_mem _ hx)) hs.nd hs.lt
     exact ⟨ht.nd, ht.lt, fun x hx=>ht.sub x (hs.sub x hx), Nat.le_trans hs.le ht.le⟩
   have hk:=key (nb p) (m ++ [p], none) (hnb p) (by
    show (m ++ [p]).Nodup
    rw [List.nodup_append]; exact ⟨h3, by simp, fun a ha b hb=>by simp at hb; subst hb; exact fun e=>h2 (e ▸ ha)⟩) (fun x hx=>by rcases List.mem_append.1 hx with h | h; exact h4 x h; rw [List.mem_singleton] at h; subst h; exact h1)
   exact ⟨hk.nd, hk.lt, fun x hx=>hk.sub x (List.mem_append.2 (.inl hx)), Nat.le_trans (by simp) hk.le⟩
theorem zYU {ed:Nat -> Bool} {nb:Nat -> List Nat} {se:Nat -> Bool} {N:Nat} (hnb:∀ p, ∀ q ∈ nb p, q < N) (n:Nat):∀ (xs m:List Nat) (k:Nat), (∀ q ∈ xs, q < N) -> m.Nodup -> (∀ x ∈ m, x < N) -> Kp N m (pre se (sch ed nb se n) xs m k).1:=by
 intro xs m k hx hm hl
 induction k with
 | zero=>exact ⟨hm, hl, fun _ h=>h, Nat.le_refl _⟩
 | succ k ih=>
  cases hq:xs[k]? with
  | none=>
   have:pre se (sch ed nb se n) xs m (k + 1) = pre se (sch ed nb se n) xs m k:=by
    unfold pre
    rw [List.take_of_length_le (by have:=List.getElem?_eq_none_iff.1 hq; omega), List.take_of_length_le (by have:=List.getElem?_eq_none_iff.1 hq; omega)]
   rw [this]; exact ih
  | some q=>
   rw [zXn hq]
   unfold stp
   cases h2:(pre se (sch ed nb se n) xs m k).2 with
   | some x=>exact ih
   | none=>
    cases hc:(se q && !(pre se (sch ed nb se n) xs m k).1.contains q) with
    | false=>exact ih
    | true=>
     simp only[zLa, Bool.not_eq_true'] at hc
     have:=zXL (ed:=ed) (se:=se) hnb n (pre se (sch ed nb se n) xs m k).1 q (hx q (List.mem_of_getElem? hq)) (fun h=>by rw [List.contains_iff_mem.2 h] at hc; cases hc.2) ih.nd ih.lt
     exact ⟨this.nd, this.lt, fun x h=>this.sub x (ih.sub x h), Nat.le_trans ih.le this.le⟩
end Go.Av.Pn
end
section
namespace Go.Av
theorem ifp {α:Type} {c:Prop} [Decidable c] {a b:α} (h:c):(if c then a else b) = a:=if_pos h
end Go.Av
namespace Go.Av.Pn
open Go.Av Go.Proofs Go.RowKit
set_option maxRecDepth 100000
set_option maxHeartbeats 1000000
variable {G:Glob}
theorem zZg:tyIs Tryz.prog 40 false 1 = true:=by kernel_rfl
theorem zXU:tyIs Tryz.prog 230 false 1 = true:=by kernel_rfl
theorem zXz:tyIs Tryz.prog 217 false 1 = true:=by kernel_rfl
theorem zY3:xn Tryz.prog 212 [(0, 1)] [.int .i64 0]:=⟨_, Tryz.underlying212, by kernel_rfl, by kernel_rfl⟩
theorem zYZ:KeyT Tryz.prog 3 encI:=zYn Tryz.underlying3
theorem zYV {caps:List EV} {m:List Nat} {p:Nat} (h:p ∉ m):(SM caps m).set 0 (zlS encI (yh (p:Int) (B true) (zWP m))) = SM caps (m ++ [p]):=by rw [zXy h]; rfl
theorem zYb {caps:List EV} {m:List Nat} (hc:∀ x ∈ caps, x.lt 3):zdA (SM caps m).length (SM caps m):=by
 refine ⟨fun q hq=>?_, fun r hr x hx=>?_, fun r hr x hx=>?_, trivial⟩
 ·
  obtain ⟨y, hy, rfl⟩:=List.mem_map.1 hq
  obtain ⟨z, _, rfl⟩:=List.mem_map.1 hy
  simp [EV.lt]
 ·
  rw [List.mem_singleton] at hr; subst hr
  rw [List.mem_singleton] at hx; subst hx
  show 0 < 3; omega
 ·
  rw [List.mem_singleton] at hr; subst hr
  rw [List.mem_singleton] at hx; subst hx
  simp only[EV.lt]
  exact ⟨trivial, EV.ltL_iff.2 hc⟩
def cps (w r:Int) (c:Bool) (gF:FuncId) (gcs:List AV):List EV:=[.pub (.ptr (zId w r)), .pp 1 1 0 0, .pub (.ptr [.v (.bool c)]), .pub (.ptr [.fn gF [] gcs]), .pp 2 1 0 0]
theorem zY7 (w r:Int) (c:Bool) (gF:FuncId) (gcs:List AV) (se:Nat -> Bool) (hw:1 <= w /\ w <= 6) (hr:1 <= r /\ r <= 5) (hset:∀ q:Nat, q < (w * r).toNat -> ACall Tryz.prog G gF ([ei (q:Int)] ++ gcs) (.v (.bool (se q)))):
  ∀ (n:Nat) (m:List Nat) (p:Nat), p < (w * r).toNat -> p ∉ m -> m.Nodup -> (∀ x ∈ m, x < (w * r).toNat) -> (w * r).toNat < m.length + n ->
   zjj Tryz.prog G 189 ([.pub (ei (p:Int))] ++ cps w r c gF gcs) (SM (cps w r c gF gcs) m) (zY0 (cps w r c gF gcs) (sch (fun p=>zWb w r (p:Int)) (fun p=>nbs w r (p:Int) c) se n m p)):=by
 intro n
 induction n with
 | zero=>
  intro m p hp hpm hnd hlt hN
  exact absurd (List.Nodup.length_le_of_subset (l₂:=List.range (w * r).toNat) hnd fun x hx=>List.mem_range.2 (hlt x hx)) (by rw [List.length_range]; omega)
 | succ n IH=>
  intro m p hp hpm hnd hlt hN
  have har:=area hw.1 hw.2 hr.1 hr.2
  have hp30:p <= 30:=by omega
  have hcl:∀ x ∈ cps w r c gF gcs, EV.lt 3 x:=fun x hx=>by
   simp only[cps, List.mem_cons, List.not_mem_nil, or_false] at hx
   rcases hx with rfl | rfl | rfl | rfl | rfl <;> simp [EV.lt]
  have hnb:∀ p:Nat, ∀ q ∈ nbs w r (p:Int) c, q < (w * r).toNat:=fun p q hq=>(zPD.1 hq).1
  have hmp:(m ++ [p]).Nodup:=by rw [List.nodup_append]; exact ⟨hnd, by simp, fun a ha b hb=>by simp at hb; subst hb; exact fun e=>hpm (e ▸ ha)⟩
  have hml:∀ x ∈ m ++ [p], x < (w * r).toNat:=fun x hx=>by
   rcases List.mem_append.1 hx with h | h
   ·
    exact hlt x h
   ·
    rw [List.mem_singleton] at h; subst h; exact hp
  have hkp:=fun k=>zYU (ed:=fun p=>zWb w r (p:Int)) (se:=se) hnb n (nbs w r (p:Int) c) (m ++ [p]) k (hnb p) hmp hml
  have hpl:∀ k, m.length + 1 <= (pre se (sch (fun p=>zWb w r (p:Int)) (fun p=>nbs w r (p:Int) c) se n) (nbs w r (p:Int) c) (m ++ [p]) k).1.length:=fun k=>Nat.le_trans (by simp) (hkp k).le
  have hdef:sch (fun p=>zWb w r (p:Int)) (fun p=>nbs w r (p:Int) c) se (n + 1) m p = if zWb w r (p:Int) = true then (m, some p) else pre se (sch (fun p=>zWb w r (p:Int)) (fun p=>nbs w r (p:Int) c) se n) (nbs w r (p:Int) c) (m ++ [p]) (nbs w r (p:Int) c).length:=by
   cases he:zWb w r (p:Int) with
   | true=>rw [zWE he]; rfl
   | false=>rw [zXh he]; unfold pre; rw [List.take_length]; rfl
  have hst:=fun k=>zYf (se:=se) (f:=sch (fun p=>zWb w r (p:Int)) (fun p=>nbs w r (p:Int) c) se n) (xs:=nbs w r (p:Int) c) (m:=m ++ [p]) (k:=k)
  have hfull:pre se (sch (fun p=>zWb w r (p:Int)) (fun p=>nbs w r (p:Int) c) se n) (nbs w r (p:Int) c) (m ++ [p]) (nbs w r (p:Int) c).length = (nbs w r (p:Int) c).foldl (stp se (sch (fun p=>zWb w r (p:Int)) (fun p=>nbs w r (p:Int) c) se n)) (m ++ [p], none):=by unfold pre; rw [List.take_length]
  rw [hdef]
  have hps:=fun k q (h:(nbs w r (p:Int) c)[k]? = some q)=>zXn (se:=se) (f:=sch (fun p=>zWb w r (p:Int)) (fun p=>nbs w r (p:Int) c) se n) (m:=m ++ [p]) h
  have IH2:∀ (m':List Nat) (q:Nat), q < (w * r).toNat -> q ∉ m' -> m'.Nodup -> (∀ x ∈ m', x < (w * r).toNat) -> m.length + 1 <= m'.length -> zjj Tryz.prog G 189 ([] ++ [.pub (ei (q:Int))] ++ cps w r c gF gcs) (SM (cps w r c gF gcs) m') (zY0 (cps w r c gF gcs) (sch (fun p=>zWb w r (p:Int)) (fun p=>nbs w r (p:Int) c) se n m' q)):=fun m' q h1 h2 h3 h4 h5=>IH m' q h1 h2 h3 h4 (by omega)
  clear IH
  generalize sch (fun p=>zWb w r (p:Int)) (fun p=>nbs w r (p:Int) c) se n = sc at hkp hpl hst hfull hps IH2 ⊢
  obtain ⟨X, hX⟩:∃ X, X = pre se sc (nbs w r (p:Int) c) (m ++ [p]) (nbs w r (p:Int) c).length:=⟨_, rfl⟩
  rw [← hX] at hfull ⊢
  refine zXQ Tryz.func189 rfl (by kernel_rfl) rfl (fun gh hold=>?_)
  refine zXR ?_
  refine zYm ?_
  refine zuy (zh ?_)
  refine zg rfl rfl (zZ rfl rfl zIO (by exact zLb rfl)) ?_
  refine zg rfl rfl (zi rfl rfl) ?_
  refine zg rfl rfl (zy (av:=[_, _]) rfl ⟨rfl, rfl, trivial⟩ (f190 w r (p:Int) (by omega) (by omega) (by omega))) ?_
  refine zo (zf (zx rfl (fun h0=>?_) (fun h0=>?_)))
  ·
   rw [if_pos h0]
   refine zh ?_
   refine zg rfl rfl (zi rfl rfl) ?_
   refine zg rfl rfl (zb3 (cs:=[_]) rfl zY3 rfl ⟨_, _, rfl, jF rfl, rfl⟩ (by rfl) (by simp [ofV])) ?_
   refine zg rfl rfl (zWD rfl rfl Tryz.underlying212 rfl) ?_
   refine zYp rfl rfl rfl (fun u=>?_)
   refine zYj ?_
   exact zXA [] (List.append_nil _).symm (zYb hcl) (Nat.le_refl _) (AVle.refl _)
  ·
   rw [if_neg (by rw [h0]; decide)]
   refine zC (zf ?_)
   refine zXR ?_
   refine zYm ?_
   refine zh ?_
   refine zg rfl rfl (zK (r:=[.mpv 0]) (c:=.mpv 0) rfl rfl rfl rfl rfl rfl zXU) ?_
   refine zg rfl rfl (zi rfl rfl) ?_
   refine jb rfl (zJR (enc:=encI) (es:=zWP m) (a:=(p:Int)) (v:=B true) (.inl rfl) rfl rfl rfl rfl zYk Tryz.underlying230 zYZ rfl) ?_
   refine zo (zf ?_)
   refine zYD (zt (mem':=SM (cps w r c gF gcs) (m ++ [p])) [(0, .pub (ei (p:Int))), (1, .pub (.ptr (zId w r))), (2, .pp 1 1 0 0), (3, .pub (.ptr [.v (.bool c)])), (4, .pub (.ptr [.fn gF [] gcs])), (5, .pp 2 1 0 0)] ⟨rfl, rfl, rfl, rfl, rfl, rfl, trivial⟩ (zYV hpm)) ?_
   refine zXR ?_
   refine zYm ?_
   refine zh ?_
   refine zg rfl rfl (zZ rfl rfl zIO (by exact zLb rfl)) ?_
   refine zg rfl rfl (zi rfl rfl) ?_
   refine zg rfl rfl (zA rfl rfl rfl ty4) ?_
   refine zg rfl rfl (zy (av:=[_, _, _]) rfl ⟨rfl, rfl, rfl, trivial⟩ (f69 w r (p:Int) c)) ?_
   refine zo (zf ?_)
   refine zYc ?_
   refine zWK Tryz.func189 (nbs w r (p:Int) c) (fun (q:Nat)=>[ei (q:Int)]) [1, 2, 3, 4, 5] (fun k=>(pre se sc (nbs w r (p:Int) c) (m ++ [p]) k).2 = none) (fun k=>SM (cps w r c gF gcs) (pre se sc (nbs w r (p:Int) c) (m ++ [p]) k).1) rfl rfl (zYW w r (p:Int) c hw hr (by omega)) rfl (fun _=>rfl) rfl rfl ?_ ?_
   ·
    intro k q gh2 lp hd1 hd2 hq hV
    have hqN:q < (w * r).toNat:=hnb p q (List.mem_of_getElem? hq)
    have hk:=hkp k
    have hk2:=hpl k
    have hs:=hps k q hq
    have hsk:=hst k
    have hsk1:=hst (k + 1)
    generalize hS:pre se sc (nbs w r (p:Int) c) (m ++ [p]) (k + 1) = S at hs hsk1 ⊢
    generalize pre se sc (nbs w r (p:Int) c) (m ++ [p]) k = s at hk hk2 hs hV hsk ⊢
    obtain ⟨m', o⟩:=s
    dsimp only at hk hk2 hV ⊢
    subst hV
    refine zh ?_
    refine zg rfl rfl (zn rfl rfl) ?_
    refine zo ?_
    refine ⟨rfl, rfl, ?_⟩
    refine zB (zuy (zh ?_))
    refine zg rfl rfl (zA rfl rfl rfl zZg) ?_
    refine zg rfl rfl (zi rfl rfl) ?_
    refine zg rfl rfl (zbX (av:=[ei (q:Int)]) (f:=gF) (fs:=[]) (cs:=gcs) rfl rfl ⟨rfl, trivial⟩ (hset q hqN)) ?_
    refine zg rfl rfl (zi rfl rfl) ?_
    refine zk rfl rfl rfl (fun hg=>zK (r:=[.mpv 0]) (c:=.mpv 0) rfl rfl rfl rfl rfl rfl zXU) ?_
    refine zk rfl rfl rfl (fun hg=>zi rfl rfl) ?_
    refine zk (x:=zHu (q:Int) (.pub (ofV (.bool false))) (zWP m')) rfl rfl rfl (fun hg=>?_) ?_
    ·
     refine zdD (enc:=encI) (es:=zWP m') (a:=(q:Int)) (z:=.bool false) (l:=0) (kx:=.v (.int .i64 (q:Int))) rfl ?_ rfl ?_ zYk Tryz.underlying230 zYZ zv4
     ·
      exact ifp hg
     ·
      exact ifp hg
    rw [zXk]
    refine zk rfl rfl rfl (fun hg=>je rfl (ifp hg)) ?_
    refine zg rfl rfl (qI rfl rfl rfl rfl) ?_
    refine zo (zf (zx rfl (fun h1=>?_) (fun h1=>?_)))
    ·
     have hqm:q ∉ m':=fun e=>by rw [zLa, List.contains_iff_mem.2 e] at h1; cases h1.2
     have hSs:S = sc m' q:=by rw [hs]; unfold stp; dsimp only; rw [h1]; rfl
     have hcall:=IH2 m' q hqN hqm hk.nd hk.lt hk2
     rw [← hSs] at hcall
     obtain ⟨m2, o2⟩:=S
     refine zh ?_
     refine zg rfl rfl (zK (r:=[.fnm 189 [] (cps w r c gF gcs)]) (c:=.fnm 189 [] (cps w r c gF gcs)) rfl rfl rfl rfl rfl rfl zXz) ?_
     refine zg rfl rfl (zi rfl rfl) ?_
     cases o2 with
     | none=>
      refine jb rfl (zij (f:=189) (fs:=[]) (cs:=cps w r c gF gcs) (av:=[.pub (ei (q:Int))]) rfl rfl ⟨rfl, rfl, rfl⟩ ⟨rfl, trivial⟩ hcall) ?_
      refine zo ?_
      exact ⟨rfl, rfl, zt (mem':=SM (cps w r c gF gcs) m2) [] trivial rfl⟩
     | some x=>
      refine zYK (f:=189) (fs:=[]) (cs:=cps w r c gF gcs) (av:=[.pub (ei (q:Int))]) rfl rfl ⟨rfl, rfl, rfl⟩ ⟨rfl, trivial⟩ hcall (fun u=>?_)
      have hXs:X = (m2, some x):=by rw [hfull]; exact (hsk1 rfl)
      refine ⟨_, u, rfl, rfl, ?_⟩
      rw [hXs]
      exact zXA (P:=Tryz.prog) (fn:=Tryz.f189) [] (List.append_nil _).symm (zYb hcl) (Nat.le_refl _) (AVle.refl _)
    ·
     have hSs:S = (m', none):=by rw [hs]; unfold stp; dsimp only; rw [h1]; rfl
     subst hSs
     refine zC ?_
     exact ⟨rfl, rfl, zt (mem':=SM (cps w r c gF gcs) m') [] trivial rfl⟩
   ·
    intro hV
    rw [← hX] at hV ⊢
    obtain ⟨m2, o2⟩:=X
    dsimp only at hV
    subst hV
    refine zD ?_
    exact zbB [] (List.append_nil _).symm (zYb hcl) (Nat.le_refl _) (.inl rfl) trivial ⟨[], rfl, rfl⟩
end Go.Av.Pn
end
section
namespace Go.Av.Pn
open Go.Av Go.Proofs
set_option maxRecDepth 100000
set_option maxHeartbeats 1000000
variable {G:Glob}
theorem zYI:(Tryz.prog.info? 230).bind (·.zero) = some (.map none):=by kernel_rfl
theorem zYJ:(Tryz.prog.info? 217).bind (·.zero) = some (.nilFunc):=by kernel_rfl
theorem zYh (w r:Int) (c:Bool) (gF:FuncId) (gcs:List AV) (se:Nat -> Bool) (p:Nat) (hw:1 <= w /\ w <= 6) (hr:1 <= r /\ r <= 5) (hset:∀ q:Nat, q < (w * r).toNat -> ACall Tryz.prog G gF ([ei (q:Int)] ++ gcs) (.v (.bool (se q)))) (hp:p < (w * r).toNat) (m2:List Nat) (ho:sch (fun p=>zWb w r (p:Int)) (fun p=>nbs w r (p:Int) c) se ((w * r).toNat + 1) [] p = (m2, none)):ACall Tryz.prog G 179 [.agg (zId w r), ei (p:Int), .fn gF [] gcs, .v (.bool c)] (.tup []):=by
 have hm:=zY7 (G:=G) w r c gF gcs se hw hr hset ((w * r).toNat + 1) [] p hp (by simp) List.nodup_nil (by simp) (by simp)
 rw [ho] at hm
 refine zS Tryz.func179 rfl (by kernel_rfl) rfl ?_
 refine zuy (zh ?_)
 refine zg rfl rfl (jf rfl (zY rfl)) ?_
 refine zg rfl rfl (jf (cs:=[_]) rfl (zux rfl)) ?_
 refine zg rfl rfl (jf (cs:=[_]) rfl (jF rfl)) ?_
 refine zo (zf (zuy (zh ?_)))
 refine jb rfl (zlZ rfl rfl) ?_
 refine jb rfl (wJ rfl rfl zYI rfl rfl) ?_
 refine jb rfl (qG rfl rfl rfl rfl rfl rfl (zOg rfl rfl) zXU (by rfl) (by exact zLb rfl)) ?_
 refine zo (zf (zuy (zh ?_)))
 refine jb rfl (wJ rfl rfl zYJ rfl rfl) ?_
 refine zo (zf (zuy (zh ?_)))
 refine zg rfl rfl (zjz rfl) ?_
 refine jb rfl (qG rfl rfl rfl rfl rfl rfl (zrP rfl) zXz (by rfl) (by exact zLb rfl)) ?_
 refine zo (zf (zh ?_))
 refine zg rfl rfl (zK rfl rfl rfl rfl rfl rfl zXz) ?_
 refine zg rfl rfl (zi rfl rfl) ?_
 refine jb rfl (zij (f:=189) (fs:=[]) (cs:=cps w r c gF gcs) (av:=[.pub (ei (p:Int))]) rfl rfl ⟨rfl, rfl, rfl⟩ ⟨rfl, trivial⟩ hm) ?_
 refine zo ?_
 exact ⟨.inl rfl, ⟨[], rfl, rfl⟩⟩
theorem zYi (w r:Int) (c:Bool) (gF:FuncId) (gcs:List AV) (se:Nat -> Bool) (p:Nat) (hw:1 <= w /\ w <= 6) (hr:1 <= r /\ r <= 5) (hset:∀ q:Nat, q < (w * r).toNat -> ACall Tryz.prog G gF ([ei (q:Int)] ++ gcs) (.v (.bool (se q)))) (hp:p < (w * r).toNat) (m2:List Nat) (x:Nat) (ho:sch (fun p=>zWb w r (p:Int)) (fun p=>nbs w r (p:Int) c) se ((w * r).toNat + 1) [] p = (m2, some x)):XCall Tryz.prog G 179 [.agg (zId w r), ei (p:Int), .fn gF [] gcs, .v (.bool c)] (.pan (.ifc 212 (.agg [ei (x:Int)]))):=by
 have hm:=zY7 (G:=G) w r c gF gcs se hw hr hset ((w * r).toNat + 1) [] p hp (by simp) List.nodup_nil (by simp) (by simp)
 rw [ho] at hm
 refine zYG Tryz.func179 rfl (by kernel_rfl) rfl ?_
 refine zuy (zh ?_)
 refine zg rfl rfl (jf rfl (zY rfl)) ?_
 refine zg rfl rfl (jf (cs:=[_]) rfl (zux rfl)) ?_
 refine zg rfl rfl (jf (cs:=[_]) rfl (jF rfl)) ?_
 refine zo (zf (zuy (zh ?_)))
 refine jb rfl (zlZ rfl rfl) ?_
 refine jb rfl (wJ rfl rfl zYI rfl rfl) ?_
 refine jb rfl (qG rfl rfl rfl rfl rfl rfl (zOg rfl rfl) zXU (by rfl) (by exact zLb rfl)) ?_
 refine zo (zf (zuy (zh ?_)))
 refine jb rfl (wJ rfl rfl zYJ rfl rfl) ?_
 refine zo (zf (zuy (zh ?_)))
 refine zg rfl rfl (zjz rfl) ?_
 refine jb rfl (qG rfl rfl rfl rfl rfl rfl (zrP rfl) zXz (by rfl) (by exact zLb rfl)) ?_
 refine zo (zf (zh ?_))
 refine zg rfl rfl (zK rfl rfl rfl rfl rfl rfl zXz) ?_
 refine zg rfl rfl (zi rfl rfl) ?_
 refine zYK (f:=189) (fs:=[]) (cs:=cps w r c gF gcs) (av:=[.pub (ei (p:Int))]) rfl rfl ⟨rfl, rfl, rfl⟩ ⟨rfl, trivial⟩ hm (fun u=>?_)
 exact ⟨u, rfl, List.mem_cons_self .., rfl⟩
end Go.Av.Pn
end
section
namespace Go.Av.Pn
open Go.Av Go.Proofs
set_option maxRecDepth 100000
set_option maxHeartbeats 1000000
variable {G:Glob}
theorem zY1:(Tryz.prog.info? 212).bind (·.zero) = some (.agg #[.int .i64 0]):=by kernel_rfl
theorem zY4:tyIs Tryz.prog 212 true 1 = true:=by kernel_rfl
theorem zW1 (mem:List PO):zYa Tryz.prog G 178 [.pp 0 1 0 0] none mem mem:=by
 refine zX1 Tryz.func178 rfl (by kernel_rfl) rfl rfl rfl rfl rfl rfl (fun gh=>?_)
 refine zB (zuy (zh ?_))
 refine zg rfl rfl (zYS rfl rfl Tryz.underlying20) ?_
 refine zo (zf (zx rfl (fun h0=>?_) (fun h0=>?_)))
 ·
  refine zh ?_
  refine zg rfl rfl (zn rfl rfl) ?_
  refine zo (zD ?_)
  exact ⟨.inl rfl, rfl, rfl⟩
 ·
  exfalso; simp at h0
theorem zX7 (x:Int):zYa Tryz.prog G 178 [.pp 0 1 0 0] (some (.ifc 212 (.agg [ei x]))) [.row [[B false]]] [.row [[B false]]]:=by
 refine zX1 Tryz.func178 rfl (by kernel_rfl) rfl rfl rfl rfl rfl rfl (fun gh=>?_)
 refine zB (zuy (zh ?_))
 refine zg rfl rfl (zYP rfl rfl Tryz.underlying20) ?_
 refine zo (zf (zx rfl (fun h0=>?_) (fun h0=>?_)))
 ·
  exfalso; simp at h0
 ·
  refine zuy (zh ?_)
  refine zg rfl rfl (zX6 rfl rfl Tryz.underlying212 rfl) ?_
  refine zg rfl rfl (zN rfl rfl rfl) ?_
  refine zg rfl rfl (zN rfl rfl rfl) ?_
  refine zo (zf (zx rfl (fun h1=>?_) (fun h1=>?_)))
  ·
   refine zuy (zh ?_)
   refine vI  rfl rfl rfl rfl rfl rfl rfl zY1 zY4 rfl (by rfl) (zY rfl) rfl ?_
   refine zo (zf (zh ?_))
   refine jb rfl (qG rfl rfl rfl rfl rfl rfl (jF rfl) ty4 (by rfl) (by exact zLb rfl)) ?_
   refine zo (zD ?_)
   exact ⟨.inl rfl, rfl, rfl⟩
  ·
   exfalso; simp at h1
theorem f165_out (w r:Int) (c:Bool) (gF:FuncId) (gcs:List AV) (se:Nat -> Bool) (p:Nat) (hw:1 <= w /\ w <= 6) (hr:1 <= r /\ r <= 5) (hset:∀ q:Nat, q < (w * r).toNat -> ACall Tryz.prog G gF ([ei (q:Int)] ++ gcs) (.v (.bool (se q)))) (hp:p < (w * r).toNat) (hs:se p = false):ACall Tryz.prog G 165 [.agg (zId w r), ei (p:Int), .fn gF [] gcs, .v (.bool c)] (.v (.bool false)):=by
 refine zWx Tryz.func165 rfl (by kernel_rfl) rfl ?_
 refine zuy (zh ?_)
 refine zg rfl rfl (jf rfl (zY rfl)) ?_
 refine jb rfl (wJ rfl rfl zv4 rfl rfl) ?_
 refine zo (zf (zuy (zh ?_)))
 refine zg rfl rfl (zjz rfl) ?_
 refine zWJ rfl rfl rfl rfl ?_
 refine zo (zf (zuy (zuy (zh ?_))))
 refine zg rfl rfl (zq rfl rfl) ?_
 refine zg rfl rfl (zi rfl rfl) ?_
 refine zg rfl rfl (zbX (av:=[_]) rfl rfl ⟨rfl, trivial⟩ (hset p hp)) ?_
 refine zg rfl rfl (je rfl rfl) ?_
 refine zo (zf (zx rfl (fun h0=>?_) (fun h0=>?_)))
 ·
  refine zuy (zh ?_)
  refine jb rfl (qG rfl rfl rfl rfl rfl rfl (jF rfl) ty4 (by rfl) (by exact zLb rfl)) ?_
  refine zo (zf (zP (zQ ?_)))
  exact .inr ⟨9, 178, _, _, _, rfl, rfl, (zhe rfl (zUC rfl rfl rfl rfl ty4 rfl (by exact AVle.refl _))), .inl ⟨.inr rfl, zW1 _⟩⟩
 ·
  exfalso; simp [hs] at h0
theorem f165_ret (w r:Int) (c:Bool) (gF:FuncId) (gcs:List AV) (se:Nat -> Bool) (p:Nat) (hw:1 <= w /\ w <= 6) (hr:1 <= r /\ r <= 5) (hset:∀ q:Nat, q < (w * r).toNat -> ACall Tryz.prog G gF ([ei (q:Int)] ++ gcs) (.v (.bool (se q)))) (hp:p < (w * r).toNat) (hs:se p = true) (m2:List Nat) (ho:sch (fun p=>zWb w r (p:Int)) (fun p=>nbs w r (p:Int) c) se ((w * r).toNat + 1) [] p = (m2, none)):ACall Tryz.prog G 165 [.agg (zId w r), ei (p:Int), .fn gF [] gcs, .v (.bool c)] (.v (.bool true)):=by
 refine zWx Tryz.func165 rfl (by kernel_rfl) rfl ?_
 refine zuy (zh ?_)
 refine zg rfl rfl (jf rfl (zY rfl)) ?_
 refine jb rfl (wJ rfl rfl zv4 rfl rfl) ?_
 refine zo (zf (zuy (zh ?_)))
 refine zg rfl rfl (zjz rfl) ?_
 refine zWJ rfl rfl rfl rfl ?_
 refine zo (zf (zuy (zuy (zh ?_))))
 refine zg rfl rfl (zq rfl rfl) ?_
 refine zg rfl rfl (zi rfl rfl) ?_
 refine zg rfl rfl (zbX (av:=[_]) rfl rfl ⟨rfl, trivial⟩ (hset p hp)) ?_
 refine zg rfl rfl (je rfl rfl) ?_
 refine zo (zf (zx rfl (fun h0=>?_) (fun h0=>?_)))
 ·
  exfalso; simp [hs] at h0
 ·
  refine zC (zf (zuy (zh ?_)))
  refine zg rfl rfl (zZ rfl rfl zIO (by exact zLb rfl)) ?_
  refine zg rfl rfl (zi rfl rfl) ?_
  refine zg rfl rfl (zq rfl rfl) ?_
  refine zg rfl rfl (zi rfl rfl) ?_
  refine zg rfl rfl (zy (av:=[_, _, _, _]) rfl ⟨rfl, rfl, rfl, rfl, trivial⟩ (zYh w r c gF gcs se p hw hr hset hp m2 ho)) ?_
  refine zo (zf (zuy (zh ?_)))
  refine jb rfl (qG rfl rfl rfl rfl rfl rfl (jF rfl) ty4 (by rfl) (by exact zLb rfl)) ?_
  refine zo (zf (zP ?_))
  exact .inr ⟨9, 178, _, _, _, rfl, rfl, (zhe rfl (zUC rfl rfl rfl rfl ty4 rfl (by exact AVle.refl _))), .inl ⟨.inr rfl, zW1 _⟩⟩
theorem f165_pan (w r:Int) (c:Bool) (gF:FuncId) (gcs:List AV) (se:Nat -> Bool) (p:Nat) (hw:1 <= w /\ w <= 6) (hr:1 <= r /\ r <= 5) (hset:∀ q:Nat, q < (w * r).toNat -> ACall Tryz.prog G gF ([ei (q:Int)] ++ gcs) (.v (.bool (se q)))) (hp:p < (w * r).toNat) (hs:se p = true) (m2:List Nat) (x:Nat) (ho:sch (fun p=>zWb w r (p:Int)) (fun p=>nbs w r (p:Int) c) se ((w * r).toNat + 1) [] p = (m2, some x)):ACall Tryz.prog G 165 [.agg (zId w r), ei (p:Int), .fn gF [] gcs, .v (.bool c)] (.v (.bool false)):=by
 refine zWx Tryz.func165 rfl (by kernel_rfl) rfl ?_
 refine zuy (zh ?_)
 refine zg rfl rfl (jf rfl (zY rfl)) ?_
 refine jb rfl (wJ rfl rfl zv4 rfl rfl) ?_
 refine zo (zf (zuy (zh ?_)))
 refine zg rfl rfl (zjz rfl) ?_
 refine zWJ rfl rfl rfl rfl ?_
 refine zo (zf (zuy (zuy (zh ?_))))
 refine zg rfl rfl (zq rfl rfl) ?_
 refine zg rfl rfl (zi rfl rfl) ?_
 refine zg rfl rfl (zbX (av:=[_]) rfl rfl ⟨rfl, trivial⟩ (hset p hp)) ?_
 refine zg rfl rfl (je rfl rfl) ?_
 refine zo (zf (zx rfl (fun h0=>?_) (fun h0=>?_)))
 ·
  exfalso; simp [hs] at h0
 ·
  refine zC (zf (zuy (zh ?_)))
  refine zg rfl rfl (zZ rfl rfl zIO (by exact zLb rfl)) ?_
  refine zg rfl rfl (zi rfl rfl) ?_
  refine zg rfl rfl (zq rfl rfl) ?_
  refine zg rfl rfl (zi rfl rfl) ?_
  refine zYy (av:=[_, _, _, _]) rfl rfl ⟨rfl, rfl, rfl, rfl, trivial⟩ (zYi w r c gF gcs se p hw hr hset hp m2 x ho) (fun u=>?_)
  exact .inr ⟨9, 178, _, _, _, rfl, rfl, (zhe rfl (zUC rfl rfl rfl rfl ty4 rfl (by exact AVle.refl _))), .inr ⟨u, _, rfl, List.mem_cons_self .., zX7 _⟩⟩
end Go.Av.Pn
end
section
namespace Go.Av
open Go.Proofs
set_option maxRecDepth 100000
set_option maxHeartbeats 1000000
variable {G:Glob}
theorem zV3:fldIs Tryz.prog 136 1 1 = true:=by kernel_rfl
theorem zV4:fldIs Tryz.prog 136 2 2 = true:=by kernel_rfl
theorem zV5:fldIs Tryz.prog 136 0 0 = true:=by kernel_rfl
def zV7 (p lvl:Int) (hi:Bool):List AV:=[ei p, ei lvl, .v (.bool hi)]
def inS (vals:List Int) (lvl:Int) (hi:Bool) (q:Nat):Bool:=decide (lvl <= vals.getD q 0) == hi
def zWX (w r:Int) (vals:List Int) (lvl:Int) (hi:Bool) (p:Nat):Bool:=inS vals lvl hi p && (Pn.sch (fun p=>zWb w r (p:Int)) (fun p=>nbs w r (p:Int) (!hi)) (inS vals lvl hi) ((w * r).toNat + 1) [] p).2.isNone
theorem f165 (w r:Int) (c:Bool) (gF:FuncId) (gcs:List AV) (se:Nat -> Bool) (p:Nat) (hw:1 <= w /\ w <= 6) (hr:1 <= r /\ r <= 5) (hset:∀ q:Nat, q < (w * r).toNat -> ACall Tryz.prog G gF ([ei (q:Int)] ++ gcs) (.v (.bool (se q)))) (hp:p < (w * r).toNat):
  ACall Tryz.prog G 165 [.agg (zId w r), ei (p:Int), .fn gF [] gcs, .v (.bool c)] (.v (.bool (se p && (Pn.sch (fun p=>zWb w r (p:Int)) (fun p=>nbs w r (p:Int) c) se ((w * r).toNat + 1) [] p).2.isNone))):=by
 cases hs:se p with
 | false=>exact Pn.f165_out w r c gF gcs se p hw hr hset hp hs
 | true=>
  cases ho:Pn.sch (fun p=>zWb w r (p:Int)) (fun p=>nbs w r (p:Int) c) se ((w * r).toNat + 1) [] p with
  | mk m2 o=>
   cases o with
   | none=>exact Pn.f165_ret w r c gF gcs se p hw hr hset hp hs m2 ho
   | some x=>exact Pn.f165_pan w r c gF gcs se p hw hr hset hp hs m2 x ho
theorem f166 (vals:List Int) (pt lvl:Int) (hi:Bool) (q:Nat) (hq:q < vals.length) (hl:vals.length <= 1000):ACall Tryz.prog G 166 [ei (q:Int), .ptr [zO vals], .ptr (zV7 pt lvl hi)] (.v (.bool (inS vals lvl hi q))):=by
 refine zS Tryz.func166 rfl (by kernel_rfl) rfl ?_
 refine zuy (zh ?_)
 refine zg rfl rfl (zn rfl rfl) ?_
 refine zo (zf (zuy ?_))
 refine qY mixed (by kernel_rfl) rfl ?_
 refine zH rfl (zA rfl rfl rfl zHR) ?_
 refine zH rfl (zi rfl rfl) ?_
 refine zH rfl (zVZ rfl rfl rfl zIz (by omega) (wu hq) jC) ?_
 refine zH rfl (zA rfl rfl rfl ty3) ?_
 refine zH rfl (zu rfl rfl zV3) ?_
 refine zH rfl (zA rfl rfl rfl ty3) ?_
 refine zH rfl (zbe rfl rfl rfl) ?_
 refine zH rfl (zu rfl rfl zV4) ?_
 refine zH rfl (zA rfl rfl rfl ty4) ?_
 refine zH rfl (zQu rfl rfl rfl Tryz.underlying4) ?_
 refine zH rfl (zn rfl rfl) ?_
 refine jw (zf (zP ?_))
 exact ⟨.inr rfl, AVle.of (by unfold inS; rw [getD_at hq])⟩
theorem f134 (m:Mp) (p:Nat) (lvl:Int) (hi:Bool) (vals:List Int) (hm:okM m) (hp:p < npt m) (hv:vals.length = npt m):ACall Tryz.prog G 134 [.agg (zHt m), .agg (zV7 (p:Int) lvl hi), zO vals] (.v (.bool (zWX m.wide m.rows vals lvl hi p))):=by
 have hn:=zJF hm
 have ho:=hm
 obtain ⟨m1, m2, m3, m4, m5, m6, m7, m8⟩:=ho
 have har:=area m1 m2 m3 m4
 have hN:(m.wide * m.rows).toNat = npt m:=by omega
 have h165:=f165 (G:=G) m.wide m.rows (!hi) 166 [.ptr [zO vals], .ptr (zV7 (p:Int) lvl hi)] (inS vals lvl hi) p (by omega) (by omega) (fun q hq=>f166 vals (p:Int) lvl hi q (by omega) (by omega)) (by omega)
 refine zS Tryz.func134 rfl (by kernel_rfl) rfl ?_
 refine zuy (zh ?_)
 refine zg rfl rfl (jf rfl (zY rfl)) ?_
 refine zg rfl rfl (jf rfl (zY rfl)) ?_
 refine zg rfl rfl (jf (cs:=[_]) rfl (kQ rfl)) ?_
 refine zg rfl rfl (zn rfl rfl) ?_
 refine zo (zf (zuy (zh ?_)))
 refine zg rfl rfl (zu rfl rfl zKl) ?_
 refine zg rfl rfl (zZ rfl rfl zIO (by exact zLb rfl)) ?_
 refine zg rfl rfl (zu rfl rfl zV5) ?_
 refine zg rfl rfl (zA rfl rfl rfl ty3) ?_
 refine zg rfl rfl (zcA (fs:=[]) (cs:=[_, _]) rfl rfl rfl) ?_
 refine zg rfl rfl (zu rfl rfl zV4) ?_
 refine zg rfl rfl (zA rfl rfl rfl ty4) ?_
 refine zg rfl rfl (je rfl rfl) ?_
 refine zg rfl rfl (zy (av:=[_, _, _, _]) rfl ⟨rfl, rfl, rfl, rfl, trivial⟩ h165) ?_
 refine zg rfl rfl (zn rfl rfl) ?_
 refine zo (zf (zP ?_))
 exact ⟨.inr rfl, AVle.refl _⟩
theorem f133 (m:Mp) (p lvl:Int) (hi:Bool) (hm:okM m):ACall Tryz.prog G 133 [.agg (zHt m), .ptr (zV7 p lvl hi), .ptr (eMp m)] (.v (.bool (inB p 0 (m.wide * m.rows - 1) && inB lvl 1 99999))):=by
 have hn:=zJF hm
 have ho:=hm
 obtain ⟨m1, m2, m3, m4, m5, m6, m7, m8⟩:=ho
 have har:=area m1 m2 m3 m4
 refine zS Tryz.func133 rfl (by kernel_rfl) rfl ?_
 refine zuy (zh ?_)
 refine zg rfl rfl (jf rfl (zY rfl)) ?_
 refine zg rfl rfl (zn rfl rfl) ?_
 refine zo (zf (zuy (zh ?_)))
 refine zg rfl rfl (zu rfl rfl zV5) ?_
 refine zg rfl rfl (zA rfl rfl rfl ty3) ?_
 refine zg rfl rfl (zu rfl rfl zH6) ?_
 refine zg rfl rfl (zA rfl rfl rfl ty3) ?_
 refine zg rfl rfl (zu rfl rfl zI9) ?_
 refine zg rfl rfl (zA rfl rfl rfl ty3) ?_
 refine zg rfl rfl (zcY rfl rfl rfl ⟨(by omega), (by omega)⟩) ?_
 refine zg rfl rfl (ze5 rfl rfl rfl ⟨(by omega), (by omega)⟩) ?_
 refine zg rfl rfl (zy (av:=[_, _, _]) rfl ⟨rfl, rfl, rfl, trivial⟩ (f68 _ _ _)) ?_
 refine zg rfl rfl (zi rfl rfl) ?_
 refine zk rfl rfl rfl (fun hg=>zu rfl rfl zV3) ?_
 refine zk rfl rfl rfl (fun hg=>zA rfl (if_pos hg) rfl ty3) ?_
 refine zk rfl rfl rfl (fun hg=>zy (av:=[_, _, _]) rfl ⟨((if_pos hg)), rfl, rfl, trivial⟩ (f68 _ _ _)) ?_
 refine zg rfl rfl (qI rfl rfl rfl rfl) ?_
 refine zg rfl rfl (zn rfl rfl) ?_
 refine zo (zf (zP ?_))
 exact ⟨.inr rfl, AVle.refl _⟩
theorem zZ3 (m:Mp) (p lvl:Int) (hi:Bool) (h:zNr m = false):ACall Tryz.prog G 88 [.agg (eMp m), .agg (zV7 p lvl hi)] (.tup [.agg (zVF), ei 2]):=by
 refine zS Tryz.func88 rfl (by kernel_rfl) rfl ?_
 refine zuy (zh ?_)
 refine zg rfl rfl (jf rfl (zY rfl)) ?_
 refine zg rfl rfl (jf rfl (zY rfl)) ?_
 refine jb rfl (wJ rfl rfl zM2 rfl rfl) ?_
 refine zg rfl rfl (zn rfl rfl) ?_
 refine zo (zf (zuy (zh ?_)))
 refine zg rfl rfl (zZ rfl rfl zMg (by exact zLb rfl)) ?_
 refine zg rfl rfl (zcA (fs:=[]) (cs:=[_, _]) rfl rfl rfl) ?_
 refine zg rfl rfl (zy (av:=[_, _]) rfl ⟨rfl, rfl, trivial⟩ (zZ2 m h 133 [] [.ptr (zV7 p lvl hi), .ptr (eMp m)])) ?_
 refine zg rfl rfl (zN rfl rfl rfl) ?_
 refine zg rfl rfl (zN rfl rfl rfl) ?_
 refine jb rfl (qG rfl rfl rfl rfl rfl rfl (zY rfl) zIw (by rfl) (by exact zLb rfl)) ?_
 refine zg rfl rfl (zn rfl rfl) ?_
 refine zo (zf (zP ?_))
 exact ⟨.inr rfl, ⟨_, rfl, ⟨_, _, rfl, (jK rfl rfl rfl rfl zIw rfl ⟨_, _, rfl, AVle.refl _, ⟨_, _, rfl, AVle.refl _, ⟨_, _, rfl, AVle.refl _, ⟨_, _, rfl, AVle.refl _, ⟨_, _, rfl, AVle.refl _, ⟨_, _, rfl, AVle.refl _, rfl⟩⟩⟩⟩⟩⟩), ⟨_, _, rfl, AVle.refl _, rfl⟩⟩⟩⟩
theorem zZ0 (m:Mp) (p lvl:Int) (hi:Bool) (hm:okM m) (h:(inB p 0 (m.wide * m.rows - 1) && inB lvl 1 99999) = false):ACall Tryz.prog G 88 [.agg (eMp m), .agg (zV7 p lvl hi)] (.tup [.agg (zVF), ei 2]):=by
 have h133:=f133 (G:=G) m p lvl hi hm
 rw [h] at h133
 refine zS Tryz.func88 rfl (by kernel_rfl) rfl ?_
 refine zuy (zh ?_)
 refine zg rfl rfl (jf rfl (zY rfl)) ?_
 refine zg rfl rfl (jf rfl (zY rfl)) ?_
 refine jb rfl (wJ rfl rfl zM2 rfl rfl) ?_
 refine zg rfl rfl (zn rfl rfl) ?_
 refine zo (zf (zuy (zh ?_)))
 refine zg rfl rfl (zZ rfl rfl zMg (by exact zLb rfl)) ?_
 refine zg rfl rfl (zcA (fs:=[]) (cs:=[_, _]) rfl rfl rfl) ?_
 refine zg rfl rfl (zy (av:=[_, _]) rfl ⟨rfl, rfl, trivial⟩ (zZY m hm 133 [] [.ptr (zV7 p lvl hi), .ptr (eMp m)] h133)) ?_
 refine zg rfl rfl (zN rfl rfl rfl) ?_
 refine zg rfl rfl (zN rfl rfl rfl) ?_
 refine jb rfl (qG rfl rfl rfl rfl rfl rfl (zY rfl) zIw (by rfl) (by exact zLb rfl)) ?_
 refine zg rfl rfl (zn rfl rfl) ?_
 refine zo (zf (zP ?_))
 exact ⟨.inr rfl, ⟨_, rfl, ⟨_, _, rfl, (jK rfl rfl rfl rfl zIw rfl ⟨_, _, rfl, AVle.refl _, ⟨_, _, rfl, AVle.refl _, ⟨_, _, rfl, AVle.refl _, ⟨_, _, rfl, AVle.refl _, ⟨_, _, rfl, AVle.refl _, ⟨_, _, rfl, AVle.refl _, rfl⟩⟩⟩⟩⟩⟩), ⟨_, _, rfl, AVle.refl _, rfl⟩⟩⟩⟩
theorem zZR (m:Mp) (p lvl:Int) (hi:Bool) (hm:okM m) (h:(inB p 0 (m.wide * m.rows - 1) && inB lvl 1 99999) = true) (q:Nat × Nat) (hc:zH5 m = some q):ACall Tryz.prog G 88 [.agg (eMp m), .agg (zV7 p lvl hi)] (.tup [.agg (zVF), ei 7]):=by
 have h133:=f133 (G:=G) m p lvl hi hm
 rw [h] at h133
 refine zS Tryz.func88 rfl (by kernel_rfl) rfl ?_
 refine zuy (zh ?_)
 refine zg rfl rfl (jf rfl (zY rfl)) ?_
 refine zg rfl rfl (jf rfl (zY rfl)) ?_
 refine jb rfl (wJ rfl rfl zM2 rfl rfl) ?_
 refine zg rfl rfl (zn rfl rfl) ?_
 refine zo (zf (zuy (zh ?_)))
 refine zg rfl rfl (zZ rfl rfl zMg (by exact zLb rfl)) ?_
 refine zg rfl rfl (zcA (fs:=[]) (cs:=[_, _]) rfl rfl rfl) ?_
 refine zg rfl rfl (zy (av:=[_, _]) rfl ⟨rfl, rfl, trivial⟩ (zVj m hm 133 [] [.ptr (zV7 p lvl hi), .ptr (eMp m)] h133 q hc)) ?_
 refine zg rfl rfl (zN rfl rfl rfl) ?_
 refine zg rfl rfl (zN rfl rfl rfl) ?_
 refine jb rfl (qG rfl rfl rfl rfl rfl rfl (zY rfl) zIw (by rfl) (by exact zLb rfl)) ?_
 refine zg rfl rfl (zn rfl rfl) ?_
 refine zo (zf (zP ?_))
 exact ⟨.inr rfl, ⟨_, rfl, ⟨_, _, rfl, (jK rfl rfl rfl rfl zIw rfl ⟨_, _, rfl, AVle.refl _, ⟨_, _, rfl, AVle.refl _, ⟨_, _, rfl, AVle.refl _, ⟨_, _, rfl, AVle.refl _, ⟨_, _, rfl, AVle.refl _, ⟨_, _, rfl, AVle.refl _, rfl⟩⟩⟩⟩⟩⟩), ⟨_, _, rfl, AVle.refl _, rfl⟩⟩⟩⟩
theorem zXJ (m:Mp) (p lvl:Int) (hi:Bool) (hm:okM m) (h:(inB p 0 (m.wide * m.rows - 1) && inB lvl 1 99999) = true) (hc:zH5 m = none):ACall Tryz.prog G 88 [.agg (eMp m), .agg (zV7 p lvl hi)] (.tup [.agg (zHt m), ei 0]):=by
 have h133:=f133 (G:=G) m p lvl hi hm
 rw [h] at h133
 refine zS Tryz.func88 rfl (by kernel_rfl) rfl ?_
 refine zuy (zh ?_)
 refine zg rfl rfl (jf rfl (zY rfl)) ?_
 refine zg rfl rfl (jf rfl (zY rfl)) ?_
 refine jb rfl (wJ rfl rfl zM2 rfl rfl) ?_
 refine zg rfl rfl (zn rfl rfl) ?_
 refine zo (zf (zuy (zh ?_)))
 refine zg rfl rfl (zZ rfl rfl zMg (by exact zLb rfl)) ?_
 refine zg rfl rfl (zcA (fs:=[]) (cs:=[_, _]) rfl rfl rfl) ?_
 refine zg rfl rfl (zy (av:=[_, _]) rfl ⟨rfl, rfl, trivial⟩ (zQp m hm 133 [] [.ptr (zV7 p lvl hi), .ptr (eMp m)] h133 hc)) ?_
 refine zg rfl rfl (zN rfl rfl rfl) ?_
 refine zg rfl rfl (zN rfl rfl rfl) ?_
 refine jb rfl (qG rfl rfl rfl rfl rfl rfl (zY rfl) zIw (by rfl) (by exact zLb rfl)) ?_
 refine zg rfl rfl (zn rfl rfl) ?_
 refine zo (zf (zP ?_))
 exact ⟨.inr rfl, ⟨_, rfl, ⟨_, _, rfl, (jK rfl rfl rfl rfl zIw rfl ⟨_, _, rfl, AVle.refl _, ⟨_, _, rfl, AVle.refl _, ⟨_, _, rfl, AVle.refl _, ⟨_, _, rfl, AVle.refl _, ⟨_, _, rfl, AVle.refl _, ⟨_, _, rfl, AVle.refl _, rfl⟩⟩⟩⟩⟩⟩), ⟨_, _, rfl, AVle.refl _, rfl⟩⟩⟩⟩
end Go.Av
end
