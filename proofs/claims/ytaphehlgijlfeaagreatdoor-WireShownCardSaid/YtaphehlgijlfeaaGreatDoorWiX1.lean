import Derived.Test.YtaphehlgijlfeaaGreatDoorPlatJ
import Derived.Test.YtaphehlgijlfeaaGreatDoorPlatT
import Derived.Test.YtaphehlgijlfeaaGreatDoorLibB
import Derived.Test.YtaphehlgijlfeaaGreatDoorWiN
import Derived.Test.YtaphehlgijlfeaaGreatDoorWiB2
set_option linter.unusedVariables false
set_option linter.unusedSimpArgs false
section
namespace Go.Av
def frm (now:List Int):Int:=match now.getLast? with
 | none=>0
 | some x=>x + 1
def kids (b:Nat) (now:List Int):List (List Int):=(List.range ((b:Int) - frm now).toNat).map fun (i:Nat)=>now ++ [frm now + (i:Int)]
def ext (b:Nat):Nat -> List Int -> List (List Int)
 | 0, now=>[now]
 | m + 1, now=>(kids b now).flatMap (ext b m)
def lists (b:Nat):List (List Int):=(List.range (b + 1)).flatMap fun m=>ext b m []
def sets (b:Nat):Nat -> List (List Int)
 | 0=>[[]]
 | m + 1=>(sets b m).flatMap (kids b)
theorem zwB (now:List Int) (x:Int):frm (now ++ [x]) = x + 1:=by simp [frm]
def Inc (b:Nat):Int -> List Int -> Prop
 | _, []=>True
 | lo, x :: t=>lo <= x /\ x < (b:Int) /\ Inc b (x + 1) t
theorem zBK {b:Nat} {now l:List Int}:l ∈ kids b now ↔ ∃ x, l = now ++ [x] /\ frm now <= x /\ x < (b:Int):=by
 unfold kids
 rw [List.mem_map]
 constructor
 ·
  rintro ⟨i, hi, rfl⟩
  rw [List.mem_range] at hi
  exact ⟨_, Y, by omega, by omega⟩
 ·
  rintro ⟨x, rfl, h1, h2⟩
  refine ⟨(x - frm now).toNat, List.mem_range.2 (by omega), ?_⟩
  rw [show frm now + ((x - frm now).toNat:Int) = x from by omega]
theorem zyn {b:Nat}:∀ {m:Nat} {now l:List Int}, l ∈ ext b m now ↔ ∃ t, l = now ++ t /\ t.length = m /\ Inc b (frm now) t
 | 0, now, l=>by
  simp only[ext, List.mem_singleton]
  constructor
  ·
   rintro rfl; exact ⟨[], by simp, rfl, trivial⟩
  ·
   rintro ⟨t, rfl, h, _⟩; rw [List.eq_nil_of_length_eq_zero h]; simp
 | m + 1, now, l=>by
  simp only[ext, List.mem_flatMap, zBK]
  constructor
  ·
   rintro ⟨k, ⟨x, rfl, h1, h2⟩, h3⟩
   obtain ⟨t, rfl, h4, h5⟩:=zyn.1 h3
   rw [zwB] at h5
   exact ⟨x :: t, by simp, by simp [h4], h1, h2, h5⟩
  ·
   rintro ⟨t, rfl, h1, h2⟩
   match t, h1, h2 with
   | x :: t, h1, h2=>
    refine ⟨now ++ [x], ⟨x, Y, h2.1, h2.2.1⟩, zyn.2 ⟨t, by simp, by simpa using h1, by rw [zwB]; exact h2.2.2⟩⟩
theorem zAZ {b:Nat} {l:List Int}:l ∈ lists b ↔ l.length <= b /\ Inc b 0 l:=by
 unfold lists
 simp only[List.mem_flatMap, List.mem_range, zyn]
 constructor
 ·
  rintro ⟨m, hm, t, rfl, h1, h2⟩
  exact ⟨by omega, by simpa [frm] using h2⟩
 ·
  rintro ⟨h1, h2⟩
  exact ⟨l.length, by omega, l, by simp, Y, by simpa [frm] using h2⟩
theorem zyu {b:Nat}:∀ {l:List Int} {lo:Int}, 0 <= lo -> Inc b lo l -> (l.length:Int) <= max 0 (b - lo)
 | [], lo, _, _=>by simp only[List.length_nil]; omega
 | x :: t, lo, h0, h=>by
  have:=zyu (l:=t) (lo:=x + 1) (by have:=h.1; omega) h.2.2
  have h1:=h.1
  have h2:=h.2.1
  simp only[List.length_cons]
  omega
theorem zzM {b:Nat} {l:List Int}:l ∈ lists b ↔ Inc b 0 l:=by
 rw [zAZ]
 refine ⟨fun h=>h.2, fun h=>⟨?_, h⟩⟩
 have:=zyu (by omega) h
 omega
theorem zFJ {i j:Int} (h:i < j) (s t:List Int):∀ l:List Int, ltL (l ++ i :: s) (l ++ j :: t) = true
 | []=>by
  have:¬ i = j:=by omega
  simp [ltL, this, h]
 | x :: l=>by simpa [ltL] using zFJ h s t l
def Bfr (a c:List Int):Prop:=ltL a c = true
theorem zFt (b:Nat):∀ (m:Nat) (now:List Int), (ext b m now).Pairwise Bfr
 | 0, now=>by simp [ext]
 | m + 1, now=>by
  simp only[ext, List.pairwise_flatMap]
  refine ⟨fun k _=>zFt b m k, ?_⟩
  unfold kids
  rw [List.pairwise_map]
  refine List.Pairwise.imp ?_ List.pairwise_lt_range
  intro i j hij l hl l' hl'
  obtain ⟨t, rfl, _⟩:=zyn.1 hl
  obtain ⟨t', rfl, _⟩:=zyn.1 hl'
  have:=zFJ (i:=frm now + i) (j:=frm now + j) (by omega) t t' now
  show ltL _ _ = true
  simpa using this
def Fst (a c:List Int):Prop:=a.length < c.length ∨ (a.length = c.length /\ Bfr a c)
theorem zFm {b m:Nat} {now l:List Int} (h:l ∈ ext b m now):l.length = now.length + m:=by
 obtain ⟨t, rfl, h1, _⟩:=zyn.1 h
 simp [h1]
theorem zFF (b:Nat):(lists b).Pairwise Fst:=by
 unfold lists
 rw [List.pairwise_flatMap]
 refine ⟨fun m _=>?_, ?_⟩
 ·
  refine List.Pairwise.imp_of_mem ?_ (zFt b m [])
  intro a c ha hc h
  exact .inr ⟨by rw [zFm ha, zFm hc], h⟩
 ·
  refine List.Pairwise.imp ?_ List.pairwise_lt_range
  intro i j hij l hl l' hl'
  exact .inl (by rw [zFm hl, zFm hl']; simpa using hij)
theorem zFn {α:Type} {R:α -> α -> Prop} {p:α -> Bool}:∀ {L:List α} {l:α}, L.Pairwise R -> L.find? p = some l -> ∀ x ∈ L, p x = true -> x = l ∨ R l x
 | [], l, _, h, x, hx, _=>by cases hx
 | y :: L, l, hL, h, x, hx, hp=>by
  rw [List.find?_cons] at h
  rw [List.pairwise_cons] at hL
  cases hy:p y with
  | true=>
   rw [hy] at h
   injection h with h
   subst h
   rcases List.mem_cons.1 hx with rfl | hx
   ·
    exact .inl Y
   ·
    exact .inr (hL.1 x hx)
  | false=>
   rw [hy] at h
   rcases List.mem_cons.1 hx with rfl | hx
   ·
    rw [hy] at hp; cases hp
   ·
    exact zFn hL.2 h x hx hp
def zw1 (bad:List Int -> Bool) (n:Nat):List Int:=((lists n).find? fun l=>!l.isEmpty && bad l).getD []
end Go.Av
end
section
namespace Go.Av
open Go.Proofs Go.RowKit
set_option maxRecDepth 100000
variable {G:Glob}
def NowAt (now:List Int) (blk:Option Nat) (cap:Nat) (w:World):Prop:=match blk with
 | none=>now = []
 | some g=>now ≠ [] /\ ∃ (cur:Array Value) (e:EK), w.heap[g]? = some (.cells cur e.t (e.fzp cur.size)) /\ cur.size = cap /\ now.length <= cap /\ cap <= maxLen /\ ∀ (i:Nat) (x:Int), now[i]? = some x -> cur[i]? = some (.int .i64 x)
def zvM (blk:Option Nat) (cap n:Nat):Value:=(⟨blk, cap, 0, 1⟩:PB).sl n
structure Keep (blk:Option Nat) (W w:World):Prop where
 os:w.os = W.os
 tape:w.tape = W.tape
 output:w.output = W.output
 size:W.heap.size <= w.heap.size
 other:∀ x, x < W.heap.size -> blk ≠ some x -> w.heap[x]? = W.heap[x]?
theorem Keep.refl (blk:Option Nat) (w:World):Keep blk w w:=⟨rfl, rfl, rfl, Nat.le_refl _, fun _ _ _=>rfl⟩
theorem Keep.trans {blk:Option Nat} {a b c:World} (h:Keep blk a b) (k:Keep blk b c):Keep blk a c:=
 ⟨k.os.trans h.os, k.tape.trans h.tape, k.output.trans h.output, Nat.le_trans h.size k.size, fun x hx hb=>(k.other x (Nat.lt_of_lt_of_le hx h.size) hb).trans (h.other x hx hb)⟩
theorem Keep.of_below {blk:Option Nat} {w w':World} (h:Below w.heap.size w w'):Keep blk w w':=⟨h.os, h.tape, h.output, h.size, fun x hx _=>h.block x hx⟩
theorem Keep.newer {blk:Option Nat} {g:Nat} {a b c:World} (h:Keep blk a b) (hg:a.heap.size <= g) (k:Keep (some g) b c):Keep blk a c:=
 ⟨k.os.trans h.os, k.tape.trans h.tape, k.output.trans h.output, Nat.le_trans h.size k.size, fun x hx hb=>(k.other x (Nat.lt_of_lt_of_le hx h.size) (fun e=>by injection e with e; omega)).trans (h.other x hx hb)⟩
theorem Keep.below {blk:Option Nat} {B:Nat} {W w:World} (h:Keep blk W w) (hB:B <= W.heap.size) (hb:∀ g, blk = some g -> B <= g):Below B W w:=
 ⟨h.os, h.tape, h.output, h.size, fun x hx=>h.other x (by omega) (fun e=>by have:=hb x e; omega)⟩
theorem NowAt.lt {now:List Int} {g cap:Nat} {w:World} (h:NowAt now (some g) cap w):g < w.heap.size:=by
 obtain ⟨_, cur, e, h1, _⟩:=h
 exact (Array.getElem?_eq_some_iff.1 h1).1
theorem NowAt.congr {now:List Int} {blk:Option Nat} {cap:Nat} {w w':World} (h:NowAt now blk cap w) (hw:∀ g, blk = some g -> w'.heap[g]? = w.heap[g]?):NowAt now blk cap w':=by
 cases blk with
 | none=>exact h
 | some g=>
  obtain ⟨h0, cur, e, h1, h2⟩:=h
  exact ⟨h0, cur, e, by rw [hw g Y]; exact h1, h2⟩
theorem NowAt.grow {now:List Int} {blk:Option Nat} {cap:Nat} {w w':World} (h:NowAt now blk cap w) (hb:Below w.heap.size w w'):NowAt now blk cap w':=
 h.congr fun g e=>by subst e; exact hb.block g h.lt
theorem NowAt.init {now:List Int} {x:Int} {blk:Option Nat} {cap:Nat} {w:World} (h:NowAt (now ++ [x]) blk cap w) (hn:now ≠ [] ∨ blk = none):NowAt now blk cap w:=by
 cases blk with
 | none=>
  have h':now ++ [x] = []:=h
  simp at h'
 | some g=>
  obtain ⟨h0, cur, e, h1, h2, h3, h4, h5⟩:=h
  refine ⟨hn.elim id (fun h=>by cases h), cur, e, h1, h2, by simp at h3; omega, h4, fun i y hy=>h5 i y ?_⟩
  rw [List.getElem?_append_left (zLg hy).1]; exact hy
theorem zxS {cur:Array Value} {e:EK} {ok:Nat -> Prop} {g:Nat} {w:World} (hc:w.heap[g]? = some (.cells cur e.t (e.fzp cur.size))):∀ (l:List Int) (off:Nat), (∀ (i:Nat) (x:Int), l[i]? = some x -> cur[off + i]? = some (.int .i64 x)) -> FitsR ok w g off (l.map fun n=>[AV.v (.int .i64 n)])
 | [], _, _=>by simp [FitsR]
 | x :: l, off, h=>by
  simp only[List.map_cons, FitsR, FitsC, and_true]
  refine ⟨⟨.int .i64 x, ?_, Y, by simp [Fits, Value.oneCell']⟩, ?_⟩
  ·
   have h0:=h 0 x (by simp)
   rw [cell_of_row w g off cur _ _ hc]
   simpa using h0
  ·
   refine zxS hc l (off + 1) fun i y hy=>?_
   have:=h (i + 1) y (by simpa using hy)
   rwa [show off + (i + 1) = off + 1 + i from by omega] at this
theorem zzy {now:List Int} {blk:Option Nat} {cap:Nat} {w:World} {ok:Nat -> Prop} (h:NowAt now blk cap w) (hk:∀ g, blk = some g -> ok g):Fits ok w (zO now) (zvM blk cap now.length):=by
 cases blk with
 | none=>
  have:now = []:=h
  subst this
  simp only[zO, Fits]
  exact ⟨none, 0, 1, Y, by simp, by simp, by simp, by simp⟩
 | some g=>
  obtain ⟨h0, cur, e, h1, h2, h3, h4, h5⟩:=h
  simp only[zO, Fits]
  refine ⟨some ⟨g, 0, none⟩, cap, 1, by simp [zvM, PB.sl], by simpa using h3, h4, by simp, fun _=>⟨g, 0, Y, hk g Y, zxS h1 now 0 fun i x hx=>by simpa using h5 i x hx⟩⟩
end Go.Av
end
section
namespace Go.Av
open Go.Proofs Go.RowKit
set_option maxRecDepth 100000
set_option maxHeartbeats 1000000
variable {G:Glob}
structure SEnv (C:Sx Tryz.prog G) (okc:Nat -> Prop) (gb:Nat) (yb bb:Value) (b:Nat) (W:World):Prop where
 on:C.On W
 gbB:C.B <= gb /\ gb < W.heap.size
 box:W.cell? ⟨gb, 0, none⟩ = some (.func (.func 142) #[] #[yb, bb, .pointer (some ⟨gb, 0, none⟩)])
 pubs:∀ x, okc x -> x < W.heap.size /\ x ≠ gb /\ C.okS x
 fy:Fits okc W (.ptr [.v (.func (.yield C.l) #[] #[])]) yb
 fb:Fits okc W (.ptr [ei (b:Int)]) bb
def zxV (C:Sx Tryz.prog G) (okc:Nat -> Prop) (gb:Nat) (blk:Option Nat):Prop:=∀ g, blk = some g -> C.B <= g /\ g ≠ gb /\ ¬ okc g
theorem SEnv.keep {C:Sx Tryz.prog G} {okc:Nat -> Prop} {gb:Nat} {yb bb:Value} {b:Nat} {W w:World} {blk:Option Nat} (h:SEnv C okc gb yb bb b W) (hb:zxV C okc gb blk) (k:Keep blk W w):SEnv C okc gb yb bb b w:=by
 have hk:∀ x, okc x -> w.heap[x]? = W.heap[x]?:=fun x hx=>k.other x (h.pubs x hx).1 (fun e=>(hb x e).2.2 hx)
 refine ⟨C.onAb _ _ h.on (k.below (C.onB _ h.on) fun g e=>(hb g e).1), ⟨h.gbB.1, Nat.lt_of_lt_of_le h.gbB.2 k.size⟩, ?_, fun x hx=>⟨Nat.lt_of_lt_of_le (h.pubs x hx).1 k.size, (h.pubs x hx).2⟩, h.fy.mono (fun _ h=>h) hk, h.fb.mono (fun _ h=>h) hk⟩
 rw [World.cell?_of_block (w:=W) (k.other gb h.gbB.2 (fun e=>(hb gb e).2.1 rfl))]
 exact h.box
def SR (C:Sx Tryz.prog G) (b left:Nat) (now:List Int) (k k':Nat):Prop:=
 ∀ (okc:Nat -> Prop) (gb:Nat) (yb bb:Value) (blk:Option Nat) (cap:Nat) (W:World), SEnv C okc gb yb bb b W -> zxV C okc gb blk -> NowAt now blk cap W -> C.V k ->
  CallsIn (FW none) 0 Tryz.prog 142 #[zvM blk cap now.length, .int .i64 (left:Int), yb, bb, .pointer (some ⟨gb, 0, none⟩)] W (fun e W'=>
   (e = .returned (.bool true) /\ C.V k' /\ Keep blk W W' /\ NowAt now blk cap W') ∨ (e = .returned (.bool false) /\ C.Off W'))
def Appd (now:List Int) (x:Int) (blk:Option Nat) (cap:Nat) (ws w:World) (u:Value):Prop:=∃ (blk':Option Nat) (cap':Nat), u = zvM blk' cap' (now ++ [x]).length /\ NowAt (now ++ [x]) blk' cap' w /\ Keep blk ws w /\ NowAt now blk cap w /\
 ((blk' = blk /\ cap' = cap) ∨ ∃ g', blk' = some g' /\ ws.heap.size <= g')
def Fin' (C:Sx Tryz.prog G) (k':Nat) (now:List Int) (blk:Option Nat) (cap:Nat) (ws w:World) (u:Value):Prop:=
 (C.V k' /\ Keep blk ws w /\ NowAt now blk cap w /\ u = .bool true) ∨ (C.Off w /\ u = .bool false)
theorem Appd.grow {now:List Int} {x:Int} {blk:Option Nat} {cap:Nat} {ws w w':World} {u:Value} (h:Appd now x blk cap ws w u) (hb:Below w.heap.size w w'):Appd now x blk cap ws w' u:=by
 obtain ⟨blk', cap', h1, h2, h3, h4, h5⟩:=h
 exact ⟨blk', cap', h1, h2.grow hb, h3.trans (.of_below hb), h4.grow hb, h5⟩
theorem Fin'.grow {C:Sx Tryz.prog G} {k':Nat} {now:List Int} {blk:Option Nat} {cap:Nat} {ws w w':World} {u:Value} (h:Fin' C k' now blk cap ws w u) (hb:Below w.heap.size w w'):Fin' C k' now blk cap ws w' u:=by
 rcases h with ⟨h1, h2, h3, h4⟩ | ⟨h1, h2⟩
 ·
  exact .inl ⟨h1, h2.trans (.of_below hb), h3.grow hb, h4⟩
 ·
  exact .inr ⟨C.offAb _ _ h1 hb, h2⟩
theorem zvP {w w':World} {a:Addr} {v:Value} (hb:Below w.heap.size w w') (hl:a.block < w.heap.size) (h:w.cell? a = some v):w'.cell? a = some v:=by
 rw [World.cell?_of_block (w:=w) (hb.block _ hl)]; exact h
def zvU (o:Oper) (j:Nat):Bool:=o.after.toList.any fun e=>e.on == j && Region.binds .any e
theorem zEr {ops:Array Oper} {s:Array Bool} {i j:Nat} {o:Oper} (hi:i ∈ Region.ready .any ops s) (ho:ops[i]? = some o) (hd:zvU o j = true):s.getD j false = true:=by
 obtain ⟨_, o', ho', h⟩:=mem_ready.1 hi
 rw [ho] at ho'
 injection ho' with ho'
 subst ho'
 unfold zvU at hd
 rw [List.any_eq_true] at hd
 obtain ⟨e, he, h2⟩:=hd
 simp only[zLa, beq_iff_eq] at h2
 exact h2.1 ▸ h e (by simpa using he) h2.2
def gTz:Glob:=⟨fun _=>True, fun _ _ _ _=>trivial⟩
def fr1 (t:Nat) (x:EV):Nat -> EV:=fun j=>bif Nat.beq j t then x else .pub .top
theorem zEB (w:World):MemOK w.heap.size (fun _=>False) w [] []:=⟨rfl, fun _ h=>h.elim, by simp, by simp, by simp, by simp⟩
section
variable (C:Sx Tryz.prog G) (F:Value) (now:List Int) (x:Int) (blk:Option Nat) (cap lf k':Nat) (ws:World) (a0:Act)
def dps:Nat -> List Nat
 | 3=>[2]
 | 4=>[1, 3]
 | 6=>[5]
 | 7=>[0, 4, 6]
 | 8=>[7]
 | _=>[]
def Vl (j:Nat) (u v:Value):Prop:=match j with
 | 0=>u = F
 | 1=>u = zvM blk cap now.length
 | 2=>u = .int .i64 x
 | 5=>u = .int .i64 ((lf:Int) + 1)
 | 6=>u = .int .i64 (lf:Int)
 | 8=>∃ b, v = .bool b /\ u = .bool (!b)
 | _=>True
def Sl1 (u:Value) (w:World):Prop:=∃ (ba off c:Nat), u = .slice (some ⟨ba, off, none⟩) 1 c /\ ba < w.heap.size /\ w.cell? ⟨ba, off, none⟩ = some (.int .i64 x)
structure RInv (s:Array Bool) (a:Act) (w:World):Prop where
 ssz:s.size = 9
 sz:a.tmps.size = 41
 df:a.defers = []
 old:∀ t, t < 32 -> a.tmps.getD t undef = a0.tmps.getD t undef
 cl:∀ j, s.getD j false = true -> ∀ y ∈ dps j, s.getD y false = true
 vl:∀ j, j < 9 -> s.getD j false = true -> Vl F now x blk cap lf j (a.tmps.getD (32 + j) undef) (a.tmps.getD 39 undef)
 m3:s.getD 4 false = false -> Below ws.heap.size ws w /\ (s.getD 3 false = true -> Sl1 x (a.tmps.getD 35 undef) w)
 m4:s.getD 4 false = true -> s.getD 7 false = false -> Appd now x blk cap ws w (a.tmps.getD 36 undef)
 m7:s.getD 7 false = true -> Fin' C k' now blk cap ws w (a.tmps.getD 39 undef)
end
section
variable {C:Sx Tryz.prog G} {F:Value} {now:List Int} {x:Int} {blk:Option Nat} {cap lf k':Nat} {ws:World} {a0:Act} {s:Array Bool} {a:Act} {w w':World}
theorem RInv.all7 (I:RInv C F now x blk cap lf k' ws a0 s a w) (h:s.getD 7 false = true):∀ y, y < 7 -> s.getD y false = true:=by
 have h7:=I.cl 7 h
 have h0:=h7 0 (by simp [dps])
 have e4:=h7 4 (by simp [dps])
 have h6:=h7 6 (by simp [dps])
 have h1:=I.cl 4 e4 1 (by simp [dps])
 have e3:=I.cl 4 e4 3 (by simp [dps])
 have e2:=I.cl 3 e3 2 (by simp [dps])
 have e5:=I.cl 6 h6 5 (by simp [dps])
 intro y hy
 match y, hy with
 | 0, _=>exact h0
 | 1, _=>exact h1
 | 2, _=>exact e2
 | 3, _=>exact e3
 | 4, _=>exact e4
 | 5, _=>exact e5
 | 6, _=>exact h6
theorem RInv.keep (I:RInv C F now x blk cap lf k' ws a0 s a w) (h0:NowAt now blk cap ws) (h:s.getD 7 false = false):Keep blk ws w /\ NowAt now blk cap w:=by
 cases h4:s.getD 4 false with
 | false=>exact ⟨.of_below (I.m3 h4).1, h0.grow (I.m3 h4).1⟩
 | true=>obtain ⟨_, _, _, _, h1, h2, _⟩:=I.m4 h4 h; exact ⟨h1, h2⟩
theorem zFa {j:Nat} (hj:j ≠ 8) {u v v':Value} (h:Vl F now x blk cap lf j u v):Vl F now x blk cap lf j u v':=by
 unfold Vl at h ⊢
 split at h <;> first | exact absurd rfl hj | exact h
theorem RInv.step (I:RInv C F now x blk cap lf k' ws a0 s a w) {i:Nat} {u:Value} (hi:i < 9) (hn:s.getD i false = false) (hd:∀ y ∈ dps i, s.getD y false = true) (hb:i ≠ 4 -> i ≠ 7 -> Below w.heap.size w w') (hv:Vl F now x blk cap lf i u (a.tmps.getD 39 undef))
  (h3:i = 3 -> Sl1 x u w') (h4:i = 4 -> Appd now x blk cap ws w' u) (h7:i = 7 -> Fin' C k' now blk cap ws w' u):RInv C F now x blk cap lf k' ws a0 (s.setIfInBounds i true) (a.put (some (32 + i)) u) w':=by
 have S:∀ j, j ≠ i -> (s.setIfInBounds i true).getD j false = s.getD j false:=fun j h=>getD_set_ne false (Ne.symm h)
 have Si:(s.setIfInBounds i true).getD i false = true:=by simp [Array.getD_eq_getD_getElem?, I.ssz, hi]
 have T:∀ t, t ≠ 32 + i -> (a.put (some (32 + i)) u).tmps.getD t undef = a.tmps.getD t undef:=fun t h=>by
  show (a.tmps.setIfInBounds (32 + i) u).getD t undef = _
  rw [getD_put, if_neg (fun e=>h e.1)]
 have Ti:(a.put (some (32 + i)) u).tmps.getD (32 + i) undef = u:=by
  show (a.tmps.setIfInBounds (32 + i) u).getD (32 + i) undef = _
  rw [getD_put, if_pos ⟨rfl, by rw [I.sz]; omega⟩]
 have up:∀ y, s.getD y false = true -> (s.setIfInBounds i true).getD y false = true:=fun y h=>by
  by_cases e:y = i
  ·
   subst e; exact Si
  ·
   rw [S y e]; exact h
 have n47:s.getD 7 false = true -> i ≠ 4:=fun h e=>by
  have:=I.all7 h 4 (by omega)
  rw [← e, hn] at this; cases this
 have n74:i = 7 -> s.getD 4 false = true:=fun e=>hd 4 (by rw [e]; simp [dps])
 refine ⟨by simpa using I.ssz, (size_put ..).trans I.sz, (defers_put ..).trans I.df, fun t h=>(T t (by omega)).trans (I.old t h), fun j hj y hy=>?_, fun j hj9 hj=>?_, fun h=>?_, fun h h'=>?_, fun h=>?_⟩
 ·
  by_cases e:j = i
  ·
   subst e; exact up y (hd y hy)
  ·
   rw [S j e] at hj; exact up y (I.cl j hj y hy)
 ·
  by_cases e7:i = 7
  ·
   by_cases e8:j = 8
   ·
    subst e8
    rw [S 8 (by omega)] at hj
    have:=I.cl 8 hj 7 (by simp [dps])
    rw [← e7, hn] at this; cases this
   ·
    by_cases e:j = i
    ·
     subst e; rw [Ti]; exact zFa e8 hv
    ·
     rw [S j e] at hj
     rw [T (32 + j) (by omega)]
     exact zFa e8 (I.vl j hj9 hj)
  ·
   rw [T 39 (by omega)]
   by_cases e:j = i
   ·
    subst e; rw [Ti]; exact hv
   ·
    rw [S j e] at hj
    rw [T (32 + j) (by omega)]
    exact I.vl j hj9 hj
 ·
  have e4:i ≠ 4:=fun e=>by subst e; rw [Si] at h; cases h
  rw [S 4 (Ne.symm e4)] at h
  have e7:i ≠ 7:=fun e=>by rw [n74 e] at h; cases h
  have hm:=I.m3 h
  have hb':=hb e4 e7
  refine ⟨hm.1.trans (hb'.mono hm.1.size), fun hs=>?_⟩
  by_cases e3:i = 3
  ·
   subst e3; rw [Ti]; exact h3 rfl
  ·
   rw [S 3 (Ne.symm e3)] at hs
   rw [T 35 (by omega)]
   obtain ⟨ba, off, c, h1, h2, h5⟩:=hm.2 hs
   exact ⟨ba, off, c, h1, Nat.lt_of_lt_of_le h2 hb'.size, zvP hb' h2 h5⟩
 ·
  have e7:i ≠ 7:=fun e=>by subst e; rw [Si] at h'; cases h'
  rw [S 7 (Ne.symm e7)] at h'
  by_cases e4:i = 4
  ·
   subst e4; rw [Ti]; exact h4 rfl
  ·
   rw [S 4 (Ne.symm e4)] at h
   rw [T 36 (by omega)]
   exact (I.m4 h h').grow (hb e4 e7)
 ·
  by_cases e7:i = 7
  ·
   subst e7; rw [Ti]; exact h7 rfl
  ·
   rw [S 7 (Ne.symm e7)] at h
   rw [T 39 (by omega)]
   exact (I.m7 h).grow (hb (n47 h) e7)
theorem RInv.q (I:RInv C F now x blk cap lf k' ws a0 s a w) {i:Nat} {u:Value} (hi:i < 9) (hn:s.getD i false = false) (hb:Below w.heap.size w w') (hv:Vl F now x blk cap lf i u (a.tmps.getD 39 undef)) (hd:∀ y ∈ dps i, s.getD y false = true) (h3:i ≠ 3) (h4:i ≠ 4) (h7:i ≠ 7):
  RInv C F now x blk cap lf k' ws a0 (s.setIfInBounds i true) (a.put (some (32 + i)) u) w':=I.step hi hn hd (fun _ _=>hb) hv (fun e=>absurd e h3) (fun e=>absurd e h4) (fun e=>absurd e h7)
end
theorem zB5:tyIs Tryz.prog 193 false 1 = true:=by kernel_rfl
theorem zx1 (o:Oper) {a:Act} {w:World} {K:Act -> World -> Prop} {Q:Exit -> Act -> World -> Prop} (hd:∀ c, o.op ≠ .defer c) {u:Value} {w':World} (h:(execOp a.eval o).run Tryz.prog w = .ok (.value u) w') (hK:K (a.put o.dst u) w'):o.wpIn (FW none) 0 Tryz.prog a w K Q:=
 zar hd (jT h hK)
theorem zzU {now:List Int} {x:Int} {blk:Option Nat} {cap ba off c:Nat} {w:World} (ty:TypeId) (hN:NowAt now blk cap w) (hlen:now.length + 1 <= 1000) (hcell:w.cell? ⟨ba, off, none⟩ = some (.int .i64 x)):
  ∃ (u:Value) (w':World), (Builtin.append_ #[23, 23] ty #[zvM blk cap now.length, .slice (some ⟨ba, off, none⟩) 1 c]).run Tryz.prog w = .ok u w' /\ Appd now x blk cap w w' u:=by
 have hnews:∀ (j:Nat) (u:Value), ([.int .i64 x]:List Value)[j]? = some u -> w.cell? ⟨ba, off + j, none⟩ = some u:=fun j u hj=>by
  cases j with
  | zero=>simp at hj; subst hj; simpa using hcell
  | succ j=>simp at hj
 have hone:∀ u ∈ ([.int .i64 x]:List Value), u.oneCell' = true:=fun u hu=>by simp at hu; subst hu; rfl
 cases blk with
 | none=>
  have hnil:now = []:=hN
  subst hnil
  obtain ⟨w', g', cap', e', cur', r1, r2, r3, r4, r5, r6, r7, r8, r9⟩:=zw5 (P:=Tryz.prog) zvE ty w ⟨none, cap, 0, 1⟩ 0 #[] rfl ba off 1 c [.int .i64 x] rfl hnews hone (by decide) (by decide) (by unfold maxLen; omega) (fun t ht=>by omega)
  rcases r8 with ⟨h, _⟩ | ⟨h8, h8'⟩
  ·
   cases h
  refine ⟨_, w', r1, some g', cap', by simp [zvM, PB.sl], ⟨by simp, cur', e', r2, by omega, by simpa using r4, r5, fun i y hy=>?_⟩, ⟨r9.os, r9.tape, r9.output, r9.size, fun y hy _=>h8' y hy⟩, Y, .inr ⟨g', Y, by omega⟩⟩
  have hi0:i = 0:=by
   have:=(zLg hy).1
   simp at this; omega
  subst hi0
  simp at hy; subst hy
  simpa using r7 0 (by omega)
 | some g=>
  obtain ⟨h0, cur, e, h1, h2, h3, h4, h5⟩:=hN
  obtain ⟨w', g', cap', e', cur', r1, r2, r3, r4, r5, r6, r7, r8, r9⟩:=zw5 (P:=Tryz.prog) zvE ty w ⟨some g, cap, e, 1⟩ now.length cur ⟨h1, by simp only; omega, h3, h4⟩ ba off 1 c [.int .i64 x] rfl hnews hone (by decide) (by omega) (by unfold maxLen; omega) (fun t ht=>by
   have ht':t < now.length:=by omega
   exact ⟨_, h5 t _ (List.getElem?_eq_getElem ht'), Y⟩)
  have hlow:∀ (i:Nat) (y:Int), now[i]? = some y -> cur'[i]? = some (.int .i64 y):=fun i y hy=>by
   have hi':i < now.length:=(zLg hy).1
   rw [r6 i (by omega)]; exact h5 i y hy
  have hgl:g < w.heap.size:=(Array.getElem?_eq_some_iff.1 h1).1
  have hN':NowAt (now ++ [x]) (some g') cap' w':=⟨by simp, cur', e', r2, by omega, by simpa using r4, r5, fun i y hy=>by
   by_cases hi':i < now.length
   ·
    rw [List.getElem?_append_left hi'] at hy; exact hlow i y hy
   ·
    rw [List.getElem?_append_right (by omega)] at hy
    have hi0:i - now.length = 0:=by
     have:=(zLg hy).1
     simp at this; omega
    rw [hi0] at hy
    simp at hy; subst hy
    have:=r7 0 (by omega)
    rw [show i = now.length * 1 + 0 from by omega, this]; rfl⟩
  rcases r8 with ⟨h8, h8'⟩ | ⟨h8, h8'⟩
  ·
   simp only[zLs] at h8
   subst h8
   simp only at h8'
   subst h8'
   exact ⟨_, w', r1, some g, cap', by simp [zvM, PB.sl], hN', ⟨r9.os, r9.tape, r9.output, r9.size, fun y hy hby=>r9.block y hy (fun e=>hby e.symm)⟩, ⟨h0, cur', e', r2, by omega, by omega, h4, hlow⟩, .inl ⟨Y, Y⟩⟩
  ·
   exact ⟨_, w', r1, some g', cap', by simp [zvM, PB.sl], hN', ⟨r9.os, r9.tape, r9.output, r9.size, fun y hy _=>h8' y hy⟩, ⟨h0, cur, e, by rw [h8' g hgl]; exact h1, h2, h3, h4, h5⟩, .inr ⟨g', Y, by omega⟩⟩
theorem zAP {C:Sx Tryz.prog G} {okc:Nat -> Prop} {gb b:Nat} {yb bb:Value} {now:List Int} {x:Int} {blk:Option Nat} {cap lf k k':Nat} {ws:World} {a0:Act} {Q:Exit -> Act -> World -> Prop} {o0 o1 o2 o3 o4 o5 o6 o7 o8:Oper}
  (d0:o0.op = .load 193 (.tmp 4) /\ o0.dst = some 32 /\ o0.guard = none) (d1:o1.op = .move (.tmp 0) /\ o1.dst = some 33 /\ o1.guard = none) (d2:o2.op = .move (.tmp 9) /\ o2.dst = some 34 /\ o2.guard = none)
  (d3:o3.op = .buildSlice 23 1 #[(0, .tmp 34)] /\ o3.dst = some 35 /\ o3.guard = none /\ zvU o3 2 = true)
  (d4:o4.op = .call { callee:=.builtin .append, args:=#[.tmp 33, .tmp 35], argTypes:=#[23, 23] } /\ o4.dst = some 36 /\ o4.guard = none /\ zvU o4 1 = true /\ zvU o4 3 = true)
  (d5:o5.op = .move (.tmp 1) /\ o5.dst = some 37 /\ o5.guard = none) (d6:o6.op = .binOp .sub 3 (.tmp 37) (.const (.int .i64 1)) 3 /\ o6.dst = some 38 /\ o6.guard = none /\ zvU o6 5 = true)
  (d7:o7.op = .call { callee:=.value (.tmp 32), args:=#[.tmp 36, .tmp 38], argTypes:=#[23, 3] } /\ o7.dst = some 39 /\ o7.guard = none /\ zvU o7 0 = true /\ zvU o7 4 = true /\ zvU o7 6 = true)
  (d8:o8.op = .unOp .not 4 (.tmp 39) /\ o8.dst = some 40 /\ o8.guard = none /\ zvU o8 7 = true)
  (hE:SEnv C okc gb yb bb b ws) (hB:zxV C okc gb blk) (hN:NowAt now blk cap ws) (hV:C.V k) (hlen:now.length + 1 <= 1000) (hlf:lf <= 1000)
  (hsz:a0.tmps.size = 41) (hdf:a0.defers = []) (z0:a0.tmps.getD 0 undef = zvM blk cap now.length) (z1:a0.tmps.getD 1 undef = .int .i64 ((lf:Int) + 1)) (z4:a0.tmps.getD 4 undef = .pointer (some ⟨gb, 0, none⟩)) (z9:a0.tmps.getD 9 undef = .int .i64 x)
  (IH:SR C b lf (now ++ [x]) k k')
  (hfin:∀ (a:Act) (w:World), a.tmps.size = 41 -> a.defers = [] -> (∀ t, t < 32 -> a.tmps.getD t undef = a0.tmps.getD t undef) -> Fin' C k' now blk cap ws w (a.tmps.getD 39 undef) -> (∃ b, a.tmps.getD 39 undef = .bool b /\ a.tmps.getD 40 undef = .bool (!b)) -> Q .normal a w)
  (htopo:zwu .any [o0, o1, o2, o3, o4, o5, o6, o7, o8] = true):
  wpAnyIn (FW none) 0 Tryz.prog .any #[o0, o1, o2, o3, o4, o5, o6, o7, o8] Q 9 (Array.replicate 9 false) a0 ws:=by
 obtain ⟨F, hF⟩:∃ F:Value, F = .func (.func 142) #[] #[yb, bb, .pointer (some ⟨gb, 0, none⟩)]:=⟨_, rfl⟩
 refine zAF (Inv:=RInv C F now x blk cap lf k' ws a0) (fun s a w i hi I=>?_) (fun s a w hr I=>?_) 9 _ _ _ (by simp) (by simp) ?_
 ·
  have hi9:i < 9:=by
   obtain ⟨_, o, ho, _⟩:=mem_ready.1 hi
   have:=(Array.getElem?_eq_some_iff.1 ho).1
   simpa using this
  have hn:s.getD i false = false:=by
   obtain ⟨h, _⟩:=mem_ready.1 hi
   rwa [zxa (by rw [I.ssz]; exact hi9)] at h
  have hdep:∀ {o:Oper} {j:Nat}, #[o0, o1, o2, o3, o4, o5, o6, o7, o8][i]? = some o -> zvU o j = true -> s.getD j false = true:=fun ho hd=>zEr hi ho hd
  have hev:∀ t, a.eval (.tmp t) = a.tmps.getD t undef:=fun t=>rfl
  unfold wpOpIn
  have h9:i = 0 ∨ i = 1 ∨ i = 2 ∨ i = 3 ∨ i = 4 ∨ i = 5 ∨ i = 6 ∨ i = 7 ∨ i = 8:=by omega
  rcases h9 with rfl | rfl | rfl | rfl | rfl | rfl | rfl | rfl | rfl
  ·
   -- the search's cell
   obtain ⟨p, q, r⟩:=d0
   show (if Region.wanted o0 _ = true then _ else _)
   rw [if_pos (by simp [Region.wanted, r])]
   have h7:s.getD 7 false = false:=by
    cases h7:s.getD 7 false with
    | false=>rfl
    | true=>have hh:=RInv.all7 I h7 0 (by omega); rw [hn] at hh; cases hh
   have hk:=(I.keep hN h7).1
   have hc:=(hE.keep hB hk).box
   have e4:a.eval (.tmp 4) = .pointer (some ⟨gb, 0, none⟩):=(I.old 4 (by omega)).trans z4
   refine zx1 o0 (by rw [p]; intro c h; cases h) (u:=F) (w':=w) ?_ (by rw [q]; exact I.q (by omega) hn (Below.refl _ _) Y (by simp [dps]) (by omega) (by omega) (by omega))
   rw [hF]
   simp [execOp, p, e4, Instr.loadAt, Instr.sureAddr, loadVar, isAgg_of zB5, hc]
  ·
   obtain ⟨p, q, r⟩:=d1
   show (if Region.wanted o1 _ = true then _ else _)
   rw [if_pos (by simp [Region.wanted, r])]
   exact zx1 o1 (by rw [p]; intro c h; cases h) (u:=a.eval (.tmp 0)) (w':=w) (by simp [execOp, p]) (by rw [q]; exact I.q (i:=1) (by omega) hn (Below.refl _ _) ((I.old 0 (by omega)).trans z0) (by simp [dps]) (by omega) (by omega) (by omega))
  ·
   obtain ⟨p, q, r⟩:=d2
   show (if Region.wanted o2 _ = true then _ else _)
   rw [if_pos (by simp [Region.wanted, r])]
   exact zx1 o2 (by rw [p]; intro c h; cases h) (u:=a.eval (.tmp 9)) (w':=w) (by simp [execOp, p]) (by rw [q]; exact I.q (i:=2) (by omega) hn (Below.refl _ _) ((I.old 9 (by omega)).trans z9) (by simp [dps]) (by omega) (by omega) (by omega))
  ·
   obtain ⟨p, q, r, dd⟩:=d3
   have hd2:=hdep (o:=o3) rfl dd
   show (if Region.wanted o3 _ = true then _ else _)
   rw [if_pos (by simp [Region.wanted, r])]
   have hy:OpY Tryz.prog gTz (fr1 34 (.pub (.v (.int .i64 x)))) [] o3 (.pub (.sl [[.v (.int .i64 x)]])):=qg (size:=1) (rows:=[[_]]) p Tryz.underlying23 ti3 rfl (by decide) rfl (by decide) ⟨_, _, rfl, jF rfl, rfl⟩ (by rfl) (by simp [ofV]) rfl (by simp)
   refine zar (o:=o3) (by rw [p]; intro c h; cases h) (hy w.heap.size (fun _=>False) [] w a trivial (Nat.le_refl _) (zEB w) (fun y hy'=>?_) _ _ fun u w' hb hx=>?_)
   ·
    have:y = .tmp 34:=by rw [p] at hy'; simpa [Op.operands] using hy'
    subst this
    have e:a.tmps.getD 34 undef = .int .i64 x:=I.vl 2 (by omega) hd2
    show FitsE _ _ _ _ (.pub (.v (.int .i64 x))) (a.tmps.getD 34 undef)
    rw [e]; simp [FitsE, Fits, Value.oneCell']
   ·
    rw [q]
    refine I.step (i:=3) (by omega) hn (by simpa [dps] using hd2) (fun _ _=>hb) trivial (fun _=>?_) (fun e=>absurd e (by decide)) (fun e=>absurd e (by decide))
    simp only[FitsE, Fits] at hx
    obtain ⟨A, c, size, rfl, h1, h2, h3, h4⟩:=hx
    obtain ⟨ba, off, rfl, hk, hr⟩:=h4 (by simp)
    simp only[FitsR, FitsC] at hr
    obtain ⟨⟨⟨u, h5, h6, h7⟩, _⟩, _⟩:=hr
    simp only[Fits] at h7
    refine ⟨ba, off, c, Y, hk.elim (fun h=>h.elim) (fun h=>h.2), ?_⟩
    rw [h5, h7.1]
  ·
   -- the list grows
   obtain ⟨p, q, r, dd1, dd3⟩:=d4
   have hd1:=hdep (o:=o4) rfl dd1
   have hd3:=hdep (o:=o4) rfl dd3
   show (if Region.wanted o4 _ = true then _ else _)
   rw [if_pos (by simp [Region.wanted, r])]
   obtain ⟨hbl, hm⟩:=I.m3 hn
   obtain ⟨ba, off, c, e35, hba, hcell⟩:=hm hd3
   have e33:a.tmps.getD 33 undef = zvM blk cap now.length:=I.vl 1 (by omega) hd1
   have hNw:=hN.grow hbl
   obtain ⟨u, w', hr, blk', cap', af1, af2, af3, af4, af5⟩:=zzU (x:=x) (c:=c) o4.type hNw hlen hcell
   refine zx1 o4 (by rw [p]; intro c h; cases h) (u:=u) (w':=w') (append_exec p (by rw [hev, hev, e33, e35]; exact hr)) ?_
   rw [q]
   exact I.step (i:=4) (by omega) hn (by intro y hy; simp [dps] at hy; rcases hy with rfl | rfl <;> assumption) (fun h=>absurd rfl h) trivial (fun e=>absurd e (by decide)) (fun _=>⟨blk', cap', af1, af2, (Keep.of_below hbl).trans af3, af4, af5.imp id (fun ⟨g', h1, h2⟩=>⟨g', h1, Nat.le_trans hbl.size h2⟩)⟩) (fun e=>absurd e (by decide))
  ·
   obtain ⟨p, q, r⟩:=d5
   show (if Region.wanted o5 _ = true then _ else _)
   rw [if_pos (by simp [Region.wanted, r])]
   exact zx1 o5 (by rw [p]; intro c h; cases h) (u:=a.eval (.tmp 1)) (w':=w) (by simp [execOp, p]) (by rw [q]; exact I.q (i:=5) (by omega) hn (Below.refl _ _) ((I.old 1 (by omega)).trans z1) (by simp [dps]) (by omega) (by omega) (by omega))
  ·
   obtain ⟨p, q, r, dd⟩:=d6
   have hd5:=hdep (o:=o6) rfl dd
   show (if Region.wanted o6 _ = true then _ else _)
   rw [if_pos (by simp [Region.wanted, r])]
   have hy:OpY Tryz.prog gTz (fr1 37 (.pub (.v (.int .i64 ((lf:Int) + 1))))) [] o6 (.pub (.v (.int .i64 ((lf:Int) + 1 - 1)))):=ze5 p rfl rfl ⟨by omega, by omega⟩
   refine zar (o:=o6) (by rw [p]; intro c h; cases h) (hy w.heap.size (fun _=>False) [] w a trivial (Nat.le_refl _) (zEB w) (fun y hy'=>?_) _ _ fun u w' hb hx=>?_)
   ·
    rw [p] at hy'
    have:y = .tmp 37 ∨ y = .const (.int .i64 1):=by simpa [Op.operands] using hy'
    rcases this with rfl | rfl
    ·
     have e:a.tmps.getD 37 undef = .int .i64 ((lf:Int) + 1):=I.vl 5 (by omega) hd5
     show FitsE _ _ _ _ (.pub (.v (.int .i64 ((lf:Int) + 1)))) (a.tmps.getD 37 undef)
     rw [e]; simp [FitsE, Fits, Value.oneCell']
    ·
     exact jd (x:=.const (.int .i64 1)) (fun t h=>by cases h)
   ·
    rw [q]
    refine I.q (i:=6) (by omega) hn hb ?_ (by simpa [dps] using hd5) (by omega) (by omega) (by omega)
    simp only[FitsE, Fits] at hx
    rw [hx.1]
    congr 1
    omega
  ·
   -- the call
   obtain ⟨p, q, r, dd0, dd4, dd6⟩:=d7
   have hd0:=hdep (o:=o7) rfl dd0
   have hd4:=hdep (o:=o7) rfl dd4
   have hd6:=hdep (o:=o7) rfl dd6
   show (if Region.wanted o7 _ = true then _ else _)
   rw [if_pos (by simp [Region.wanted, r])]
   show o7.wpIn (FW none) 0 Tryz.prog a w _ Q
   have hnd:∀ c, o7.op ≠ .defer c:=by rw [p]; intro c h; cases h
   obtain ⟨blk', cap', e36, hN', hk, hNo, hnew⟩:=I.m4 hd4 hn
   have e32:a.eval (.tmp 32) = .func (.func 142) (#[]:Array Value) #[yb, bb, .pointer (some ⟨gb, 0, none⟩)]:=(show a.tmps.getD 32 undef = F from I.vl 0 (by omega) hd0).trans hF
   have hex:=call_exec (us:=[]) (vs:=[yb, bb, .pointer (some ⟨gb, 0, none⟩)]) p ⟨_, Tryz.func142, rfl, rfl⟩ (w:=w) e32
   refine ⟨fun _ _=>trivial, ?_⟩
   rw [Oper.semAt_eq _ _ _ hnd, hex, Oper.uponIn_enter]
   refine ⟨fun h=>by simp [FW, Fence.wide] at h, ?_⟩
   have hargs:(([]:List Value) ++ (#[Operand.tmp 36, Operand.tmp 38]:Array Operand).toList.map a.eval ++ [yb, bb, .pointer (some ⟨gb, 0, none⟩)]).toArray = #[zvM blk' cap' (now ++ [x]).length, .int .i64 (lf:Int), yb, bb, .pointer (some ⟨gb, 0, none⟩)]:=by
    simp only[List.nil_append, List.map_cons, List.map_nil, hev, e36, (show a.tmps.getD 38 undef = .int .i64 (lf:Int) from I.vl 6 (by omega) hd6)]
    rfl
   rw [hargs]
   have hB':zxV C okc gb blk':=by
    rcases hnew with ⟨rfl, _⟩ | ⟨g', rfl, hg'⟩
    ·
     exact hB
    ·
     intro g e
     injection e with e
     subst e
     have h1:=C.onB _ hE.on
     exact ⟨by omega, by have:=hE.gbB.2; omega, fun h=>by have:=(hE.pubs _ h).1; omega⟩
   have hD:∀ y ∈ dps 7, s.getD y false = true:=by intro y hy; simp [dps] at hy; rcases hy with rfl | rfl | rfl <;> assumption
   refine (IH okc gb yb bb blk' cap' w (hE.keep hB hk) hB' hN' hV).mono fun e w' hpost=>?_
   rcases hpost with ⟨rfl, hV', hk', hN2⟩ | ⟨rfl, hOff⟩
   ·
    show RInv _ _ _ _ _ _ _ _ _ _ _ _ _
    rw [q]
    refine I.step (i:=7) (by omega) hn hD (fun _ h=>absurd Y h) trivial (fun e=>absurd e (by decide)) (fun e=>absurd e (by decide)) (fun _=>.inl ⟨hV', ?_, ?_, Y⟩)
    ·
     rcases hnew with ⟨rfl, _⟩ | ⟨g', rfl, hg'⟩
     ·
      exact hk.trans hk'
     ·
      exact hk.newer hg' hk'
    ·
     rcases hnew with ⟨rfl, rfl⟩ | ⟨g', rfl, hg'⟩
     ·
      refine hN2.init ?_
      cases hbk:blk' with
      | none=>exact .inr rfl
      | some g=>rw [hbk] at hNo; exact .inl hNo.1
     ·
      refine hNo.congr fun g e=>?_
      subst e
      exact hk'.other g hNo.lt (fun e=>by injection e with e; have:=hN.lt; omega)
   ·
    show RInv _ _ _ _ _ _ _ _ _ _ _ _ _
    rw [q]
    exact I.step (i:=7) (by omega) hn hD (fun _ h=>absurd Y h) trivial (fun e=>absurd e (by decide)) (fun e=>absurd e (by decide)) (fun _=>.inr ⟨hOff, Y⟩)
  ·
   obtain ⟨p, q, r, dd⟩:=d8
   have hd7:=hdep (o:=o8) rfl dd
   show (if Region.wanted o8 _ = true then _ else _)
   rw [if_pos (by simp [Region.wanted, r])]
   obtain ⟨bq, e39⟩:∃ bq, a.tmps.getD 39 undef = .bool bq:=by
    rcases I.m7 hd7 with ⟨_, _, _, h⟩ | ⟨_, h⟩
    ·
     exact ⟨_, h⟩
    ·
     exact ⟨_, h⟩
   refine zx1 o8 (by rw [p]; intro c h; cases h) (u:=.bool (!bq)) (w':=w) ?_ (by rw [q]; exact I.q (i:=8) (by omega) hn (Below.refl _ _) ⟨bq, e39, Y⟩ (by simpa [dps] using hd7) (by omega) (by omega) (by omega))
   have e:a.eval (.tmp 39) = .bool bq:=e39
   simp [execOp, p, e, Op.unary]
 ·
  have hall:=zwo htopo (by rw [I.ssz]; rfl) hr
  exact hfin a w I.sz I.df I.old (I.m7 (hall 7 (by simp))) (I.vl 8 (by omega) (hall 8 (by simp)))
 ·
  have hz:∀ j, (Array.replicate 9 false).getD j false = false:=fun j=>by
   simp only[Array.getD_eq_getD_getElem?, Array.getElem?_replicate]
   split <;> rfl
  have hc:∀ {j:Nat} {p:Prop}, (Array.replicate 9 false).getD j false = true -> p:=fun h=>by rw [hz] at h; cases h
  exact ⟨by simp, hsz, hdf, fun _ _=>rfl, fun j h=>hc h, fun j _ h=>hc h, fun _=>⟨Below.refl _ _, hc⟩, hc, hc⟩
theorem zEG:tyIs Tryz.prog 192 false 1 = true:=by kernel_rfl
section
variable (C:Sx Tryz.prog G) (okc:Nat -> Prop) (gb:Nat) (yb bb:Value) (b:Nat) (now:List Int) (blk:Option Nat) (cap:Nat) (W0:World)
structure R142 (ok:Nat -> Prop) (w:World):Prop where
 env:SEnv C okc gb yb bb b w
 bok:zxV C okc gb blk
 now:NowAt now blk cap w
 keep:Keep blk W0 w
 okS:∀ x, ok x -> C.okS x
end
section
variable {C:Sx Tryz.prog G} {okc:Nat -> Prop} {gb:Nat} {yb bb:Value} {b:Nat} {now:List Int} {blk:Option Nat} {cap:Nat} {W0:World}
theorem rgood142:RGood C (R142 C okc gb yb bb b now blk cap W0) where
 on:=fun ok w h=>h.env.on
 okS:=fun ok w h=>h.okS
 grow:=fun ok ok' w w' h hb hk=>⟨h.env.keep h.bok (.of_below hb), h.bok, h.now.grow hb, h.keep.trans (.of_below hb), fun x hx=>(hk x hx).elim (h.okS x) fun h'=>C.up x (Nat.le_trans (C.onB _ h.env.on) h')⟩
theorem zwE:∀ ok w, R142 C okc gb yb bb b now blk cap W0 ok w -> (∀ x, ok x -> x < w.heap.size) -> ∃ ok', (∀ x, ok x -> ok' x) /\ (∀ x, ok' x -> x < w.heap.size) /\ R142 C okc gb yb bb b now blk cap W0 ok' w /\ Fits ok' w (zO now) (zvM blk cap now.length):=fun ok w h hlt=>
 ⟨fun x=>ok x ∨ blk = some x, fun x hx=>.inl hx, fun x hx=>hx.elim (hlt x) (fun e=>by have h':=h.now; rw [e] at h'; exact h'.lt), ⟨h.env, h.bok, h.now, h.keep, fun x hx=>hx.elim (h.okS x) (fun e=>C.up x (h.bok x e).1)⟩, zzy h.now fun g e=>.inr e⟩
theorem zyK {x:AV} {v:Value} (hx:∀ w, SEnv C okc gb yb bb b w -> Fits okc w x v):∀ ok w, R142 C okc gb yb bb b now blk cap W0 ok w -> (∀ x, ok x -> x < w.heap.size) -> ∃ ok', (∀ x, ok x -> ok' x) /\ (∀ x, ok' x -> x < w.heap.size) /\ R142 C okc gb yb bb b now blk cap W0 ok' w /\ Fits ok' w x v:=fun ok w h hlt=>
 ⟨fun x=>ok x ∨ okc x, fun x hx=>.inl hx, fun x hx=>hx.elim (hlt x) (fun e=>(h.env.pubs x e).1), ⟨h.env, h.bok, h.now, h.keep, fun x hx=>hx.elim (h.okS x) (fun e=>(h.env.pubs x e).2.2)⟩, (hx w h.env).mono (fun x hx=>.inr hx) (fun _ _=>rfl)⟩
theorem zEe:∀ ok w, R142 C okc gb yb bb b now blk cap W0 ok w -> (∀ x, ok x -> x < w.heap.size) -> ∃ ok', (∀ x, ok x -> ok' x) /\ (∀ x, ok' x -> x < w.heap.size) /\ R142 C okc gb yb bb b now blk cap W0 ok' w /\ Fits ok' w (.ptr [.v (.func (.yield C.l) #[] #[])]) yb:=zyK fun w h=>h.fy
theorem zEs:∀ ok w, R142 C okc gb yb bb b now blk cap W0 ok w -> (∀ x, ok x -> x < w.heap.size) -> ∃ ok', (∀ x, ok x -> ok' x) /\ (∀ x, ok' x -> x < w.heap.size) /\ R142 C okc gb yb bb b now blk cap W0 ok' w /\ Fits ok' w (.ptr [ei (b:Int)]) bb:=zyK fun w h=>h.fb
end
def zzV:EV -> EV
 | .pub (.v u)=>.pub (.v u)
 | _=>.pub .top
def frX (fr:Nat -> EV):Nat -> EV:=fun t=>bif Nat.blt t 32 then zzV (fr t) else .pub .top
theorem zyQ {ok ok':Nat -> Prop} {w w':World} {e:EV} {u:Value} (h:FitsE ok w [] [] e u):FitsE ok' w' [] [] (zzV e) u:=by
 unfold zzV
 split
 ·
  simp only[FitsE, Fits] at h ⊢; exact h
 ·
  simp [FitsE, Fits]
section
variable {C:Sx Tryz.prog G} {okc:Nat -> Prop} {gb:Nat} {yb bb:Value} {b:Nat} {now:List Int} {blk:Option Nat} {cap:Nat} {W0:World} {Q:Exit -> Ph -> (Nat -> EV) -> Prop} {fr:Nat -> EV}
theorem zDb {id lf k k':Nat} {x:Int} {o0 o1 o2 o3 o4 o5 o6 o7 o8:Oper}
  (d0:o0.op = .load 193 (.tmp 4) /\ o0.dst = some 32 /\ o0.guard = none) (d1:o1.op = .move (.tmp 0) /\ o1.dst = some 33 /\ o1.guard = none) (d2:o2.op = .move (.tmp 9) /\ o2.dst = some 34 /\ o2.guard = none)
  (d3:o3.op = .buildSlice 23 1 #[(0, .tmp 34)] /\ o3.dst = some 35 /\ o3.guard = none /\ zvU o3 2 = true)
  (d4:o4.op = .call { callee:=.builtin .append, args:=#[.tmp 33, .tmp 35], argTypes:=#[23, 23] } /\ o4.dst = some 36 /\ o4.guard = none /\ zvU o4 1 = true /\ zvU o4 3 = true)
  (d5:o5.op = .move (.tmp 1) /\ o5.dst = some 37 /\ o5.guard = none) (d6:o6.op = .binOp .sub 3 (.tmp 37) (.const (.int .i64 1)) 3 /\ o6.dst = some 38 /\ o6.guard = none /\ zvU o6 5 = true)
  (d7:o7.op = .call { callee:=.value (.tmp 32), args:=#[.tmp 36, .tmp 38], argTypes:=#[23, 3] } /\ o7.dst = some 39 /\ o7.guard = none /\ zvU o7 0 = true /\ zvU o7 4 = true /\ zvU o7 6 = true)
  (d8:o8.op = .unOp .not 4 (.tmp 39) /\ o8.dst = some 40 /\ o8.guard = none /\ zvU o8 7 = true)
  (htopo:zwu .any [o0, o1, o2, o3, o4, o5, o6, o7, o8] = true)
  (hm:Tryz.prog.follows .mixedOrders = true)
  (h0:fr 0 = .pub (.v (zvM blk cap now.length))) (h1:fr 1 = .pub (.v (.int .i64 ((lf:Int) + 1)))) (h4:fr 4 = .pub (.v (.pointer (some ⟨gb, 0, none⟩)))) (h9:fr 9 = .pub (.v (.int .i64 x)))
  (hlen:now.length + 1 <= 1000) (hlf:lf <= 1000) (IH:SR C b lf (now ++ [x]) k k')
  (hon:Q .normal (.on k') (jr (jr (frX fr) (some 39) (B true)) (some 40) (B false)))
  (hoff:Q .normal (.off k) (jr (jr (fun _=>.pub .top) (some 39) (B false)) (some 40) (B true))):
  zuX C 41 (R142 C okc gb yb bb b now blk cap W0) (.region id #[o0, o1, o2, o3, o4, o5, o6, o7, o8] true) (.on k) fr Q:=by
 intro a w ⟨hV, ok, hr, hs⟩
 refine wpIn_region_any hm ?_
 have hbd:Below w.heap.size w w.drew:=(Below.refl _ _).drew
 have hr':=rgood142.grow _ ok _ _ hr hbd (fun x hx=>.inl hx)
 have ev:∀ {t:Nat} {u:Value}, fr t = .pub (.v u) -> a.tmps.getD t undef = u:=fun {t u} h=>by
  have:=hs.fits t
  rw [h] at this
  simp only[FitsE, Fits] at this
  exact this.1
 refine zAP (ws:=w.drew) (a0:=a) d0 d1 d2 d3 d4 d5 d6 d7 d8 hr'.env hr'.bok hr'.now hV hlen hlf hs.size hs.dfs (ev h0) (ev h1) (ev h4) (ev h9) IH ?_ htopo
 intro a' w' hsz hdf hold hfin ⟨bq, e39, e40⟩
 have hput:∀ (fr0:Nat -> EV) (b1 b2:Bool), (∀ t, FitsE (fun _=>False) w' [] [] (fr0 t) (a'.tmps.getD t undef)) -> a'.tmps.getD 39 undef = .bool b1 -> a'.tmps.getD 40 undef = .bool b2 -> RS (fun _=>False) 41 (jr (jr fr0 (some 39) (B b1)) (some 40) (B b2)) a' w':=fun fr0 b1 b2 hf e1 e2=>
  ⟨hsz, hdf, fun b hb=>hb.elim, fun t=>by
   rw [zcQ]
   by_cases ht:t = 40
   ·
    subst ht; rw [if_pos rfl, e2]; simp [FitsE, Fits, Value.oneCell']
   ·
    rw [if_neg ht, zcQ]
    by_cases ht:t = 39
    ·
     subst ht; rw [if_pos rfl, e1]; simp [FitsE, Fits, Value.oneCell']
    ·
     rw [if_neg ht]; exact hf t⟩
 rcases hfin with ⟨hV', hk, hN, e⟩ | ⟨hOff, e⟩
 ·
  rw [e] at e39
  injection e39 with e39
  subst e39
  refine ⟨.on k', _, ⟨hV', fun _=>False, ⟨hr'.env.keep hr'.bok hk, hr'.bok, hN, hr'.keep.trans hk, fun x hx=>hx.elim⟩, hput (frX fr) true false (fun t=>?_) e e40⟩, hon⟩
  unfold frX
  cases ht:Nat.blt t 32 with
  | false=>simp [FitsE, Fits]
  | true=>
   simp only[cond_true]
   rw [hold t (by simpa using ht)]
   exact zyQ (hs.fits t)
 ·
  rw [e] at e39
  injection e39 with e39
  subst e39
  exact ⟨.off k, _, ⟨fun _=>False, hOff, hput _ false true (fun t=>by simp [FitsE, Fits]) e e40⟩, hoff⟩
end
theorem zwl {α β:Type} (f:α -> List β):∀ (L:List α) (i:Nat) (x:α), L[i]? = some x -> ∀ (j:Nat) (y:β), (f x)[j]? = some y -> (L.flatMap f)[((L.take i).flatMap f).length + j]? = some y
 | [], i, x, h, _, _, _=>by simp at h
 | z :: L, 0, x, h, j, y, hy=>by
  simp at h; subst h
  simp only[List.take_zero, List.flatMap_nil, List.length_nil, Nat.zero_add, List.flatMap_cons]
  rw [List.getElem?_append_left (zLg hy).1]
  exact hy
 | z :: L, i + 1, x, h, j, y, hy=>by
  simp only[List.take_succ_cons, List.flatMap_cons, List.length_append]
  rw [List.getElem?_append_right (by omega)]
  have:=zwl f L i x (by simpa using h) j y hy
  rw [← this]
  congr 1
  omega
def zwH (b m:Nat) (now:List Int) (i:Nat):Nat:=(((kids b now).take i).flatMap (ext b m)).length
theorem zCr (b:Nat) (now:List Int):(kids b now).length = ((b:Int) - frm now).toNat:=by simp [kids]
theorem zAB {b:Nat} {now:List Int} {i:Nat} (h:i < ((b:Int) - frm now).toNat):(kids b now)[i]? = some (now ++ [frm now + (i:Int)]):=by
 unfold kids
 rw [List.getElem?_map, List.getElem?_range h]
 rfl
theorem zA5 (b m:Nat) (now:List Int):zwH b m now 0 = 0:=by simp [zwH]
theorem zBp {b:Nat} (m:Nat) {now:List Int} {i:Nat} (h:i < ((b:Int) - frm now).toNat):zwH b m now (i + 1) = zwH b m now i + (ext b m (now ++ [frm now + (i:Int)])).length:=by
 unfold zwH
 rw [List.take_add_one, zAB h]
 simp
theorem zCg {b:Nat} (m:Nat) {now:List Int}:zwH b m now ((b:Int) - frm now).toNat = (ext b (m + 1) now).length:=by
 unfold zwH
 rw [List.take_of_length_le (by rw [zCr]; exact Nat.le_refl _)]
 rfl
theorem zDX {b:Nat} {m:Nat} {now:List Int} {i j:Nat} {l:List Int} (h:i < ((b:Int) - frm now).toNat) (hl:(ext b m (now ++ [frm now + (i:Int)]))[j]? = some l):(ext b (m + 1) now)[zwH b m now i + j]? = some l:=
 zwl (ext b m) (kids b now) i _ (zAB h) j l hl
def zDw (k':Nat) (e:Exit) (ph:Ph) (fr:Nat -> EV):Prop:=e = .ret /\ ((ph = .on k' /\ fr 7 = B true) ∨ ((∃ j, ph = .off j) /\ fr 7 = B false))
theorem zCd (blk:Option Nat) (cap n:Nat):(zvM blk cap n).oneCell' = true:=by
 cases blk <;> rfl
def zB3 (blk:Option Nat) (cap n left gb:Nat) (yb bb:Value):List AV:=[.v (zvM blk cap n), .v (.int .i64 (left:Int)), .v yb, .v bb, .v (.pointer (some ⟨gb, 0, none⟩))]
theorem zAu {ok:Nat -> Prop} {w:World} {cs:List AV} {v:Value} (h:Fits ok w (.ptr cs) v):v.oneCell' = true:=by
 simp only[Fits] at h
 obtain ⟨b, o, rfl, _⟩:=h
 rfl
theorem zDy {C:Sx Tryz.prog G} {b left k k':Nat} {now:List Int}
  (h:∀ (okc:Nat -> Prop) (gb:Nat) (yb bb:Value) (blk:Option Nat) (cap:Nat) (W:World), zxV C okc gb blk ->
   ∀ fn c, Tryz.prog.funcs[142]? = some fn -> fn.body = some c -> fn.ntmps = 41 -> zuX C 41 (R142 C okc gb yb bb b now blk cap W) c (.on k) (zsH (zB3 blk cap now.length left gb yb bb)) (zDw k')):SR C b left now k k':=by
 intro okc gb yb bb blk cap W hE hB hN hV
 refine zAO (R:=R142 C okc gb yb bb b now blk cap W) (Q:=zDw k') (ok:=fun _=>False) (xs:=zB3 blk cap now.length left gb yb bb) (us:=[zvM blk cap now.length, .int .i64 (left:Int), yb, bb, .pointer (some ⟨gb, 0, none⟩)]) Tryz.func142 Y (by exact zLb Y) hV ⟨hE, hB, hN, .refl _ _, fun x hx=>hx.elim⟩ (fun b hb=>hb.elim) ?_ (h okc gb yb bb blk cap W hB _ _ Tryz.func142 Y Y) ?_
 ·
  simp only[zB3, FitsL, Fits]
  exact ⟨_, _, Y, ⟨Y, zCd ..⟩, _, _, Y, ⟨Y, Y⟩, _, _, Y, ⟨Y, zAu hE.fy⟩, _, _, Y, ⟨Y, zAu hE.fb⟩, _, _, Y, ⟨Y, Y⟩, Y⟩
 ·
  intro e ph fr a w' ⟨he, hq⟩ hs
  refine ⟨.inr he, _, results_tmp Y w', ?_⟩
  have ev:∀ {bq:Bool}, fr 7 = B bq -> a.tmps.getD 7 undef = .bool bq:=fun {bq} h=>by
   obtain ⟨ok, hrs⟩:=hs.rs
   have:=hrs.fits 7
   rw [h] at this
   simp only[FitsE, Fits] at this
   exact this.1
  rcases hq with ⟨rfl, h7⟩ | ⟨⟨j, rfl⟩, h7⟩
  ·
   obtain ⟨hV', ok, hr, _⟩:=hs
   rw [ev h7]
   exact .inl ⟨Y, hV', hr.keep, hr.now⟩
  ·
   obtain ⟨ok, hOff, _⟩:=hs
   rw [ev h7]
   exact .inr ⟨Y, hOff⟩
theorem zA6 (C:Sx Tryz.prog G) (b k:Nat) (now:List Int) (hlen:now.length <= 1000) (hq:C.qs[k]? = some [zO now]):SR C b 0 now k (k + 1):=by
 refine zDy fun okc gb yb bb blk cap W hB fn c hfn hc hnt=>?_
 have hfn':=hfn.symm.trans Tryz.func142
 injection hfn' with hfn'
 subst hfn'
 injection hc with hc
 subst hc
 refine zva (zuU (zu6 rgood142 Y Y (zn Y Y) (zu5 (zuI ?_))))
 refine zva (zva (zuU (zu6 rgood142 Y Y (zi Y Y) (zu6 rgood142 Y Y (qJ Y Y Y) (zu5 (zuI ?_))))))
 refine (zvK (b:=true) Y (fun _=>?_) (fun h=>by cases h))
 refine zva ?_
 refine zCv 2 Y zEe ?_
 refine zCv 0 Y zwE ?_
 refine zCV rgood142 3 2 3 Y mixed (by kernel_rfl) (by kernel_rfl) (by kernel_rfl) (by kernel_rfl) ?_
 refine zH Y (zA Y Y Y zEG) (zH Y (zq Y Y) (zH Y (zpW (av:=[nums now]) Y ⟨AVle.refl _, trivial⟩ (n112 now (by omega))) (jw ?_)))
 refine zB1 (q:=[zO now]) rgood142 Y Y Y Y Y hq ?_ ?_
 ·
  refine zu6 rgood142 Y Y (zn Y Y) (zu5 (zuI ?_))
  exact zyz (zwm ⟨Y, .inl ⟨Y, Y⟩⟩)
 ·
  refine zu6 rgood142 Y Y (zn Y Y) (zu5 (zuI ?_))
  exact zyz (zwm ⟨Y, .inr ⟨⟨_, Y⟩, Y⟩⟩)
theorem zAV (C:Sx Tryz.prog G) (b lf k:Nat) (now:List Int) (hb:b <= 900) (hlen:now.length + 1 <= 1000) (hlf:lf <= 1000) (hnow:0 <= frm now /\ frm now <= (b:Int))
  (IH:∀ i, i < ((b:Int) - frm now).toNat -> SR C b lf (now ++ [frm now + (i:Int)]) (k + zwH b lf now i) (k + zwH b lf now (i + 1))):SR C b (lf + 1) now k (k + (ext b (lf + 1) now).length):=by
 refine zDy fun okc gb yb bb blk cap W hB fn c hfn hc hnt=>?_
 have hfn':=hfn.symm.trans Tryz.func142
 injection hfn' with hfn'
 subst hfn'
 injection hc with hc
 subst hc
 obtain ⟨N, hN⟩:∃ N, N = ((b:Int) - frm now).toNat:=⟨_, rfl⟩
 refine zva (zuU (zu6 rgood142 Y Y (zn Y Y) (zu5 (zuI ?_))))
 refine zva (zva (zuU (zu6 rgood142 Y Y (zi Y Y) (zu6 rgood142 Y Y (qJ Y Y Y) (zu5 (zuI ?_))))))
 refine (zvK (b:=false) ?_ (fun h=>by cases h) (fun _=>zwU (zuI ?_)))
 ·
  show EV.pub (.v (.bool (((lf + 1:Nat):Int) == 0))) = _
  rw [show ((((lf + 1:Nat):Int) == 0)) = false from by simp; omega]
 refine zva (zuU (zu6 rgood142 Y Y (zn Y Y) (zu5 (zuI ?_))))
 refine zva (zDS (Q':=fun e p s=>e = .normal /\ p = .on k /\ s 0 = .pub (.v (zvM blk cap now.length)) /\ s 1 = .pub (.v (.int .i64 ((lf:Int) + 1))) /\ s 2 = .pub (.v yb) /\ s 3 = .pub (.v bb) /\ s 4 = .pub (.v (.pointer (some ⟨gb, 0, none⟩))) /\ s 8 = I (frm now)) ?_ ?_)
 ·
  refine zva (zuU (zu6 rgood142 Y Y (zi Y Y) (zyl 16 Y zwE (zu6 rgood142 Y Y (zuB Y Y Tryz.underlying23) (zu6 rgood142 Y Y (qR Y Y Y) (zu5 (zuI ?_)))))))
  rcases List.eq_nil_or_concat now with e | ⟨l, x, e⟩
  ·
   refine zvK (b:=false) ?_ (fun h=>by cases h) (fun _=>zwU ?_)
   ·
    show EV.pub (.v (.bool (decide (((now.length:Nat):Int) > 0)))) = _
    rw [e]; rfl
   ·
    exact ⟨Y, Y, Y, Y, Y, Y, Y, by rw [e]; rfl⟩
  ·
   rw [List.concat_eq_append] at e
   refine zvK (b:=true) ?_ (fun _=>?_) (fun h=>by cases h)
   ·
    show EV.pub (.v (.bool (decide (0 < ((now.length:Nat):Int))))) = _
    rw [e]; simp
   ·
    have hfr:frm now = x + 1:=by rw [e]; exact zwB l x
    refine zuU (zu6 rgood142 Y Y (zi Y Y) (zyl 19 Y zwE (zu6 rgood142 Y Y (zi Y Y) (zyl 20 Y zwE (zu6 rgood142 Y Y (zuB Y Y Tryz.underlying23) (zu6 rgood142 Y Y (ze5 Y Y Y ⟨by omega, by omega⟩) ?_))))))
    have hat:(now.map fun n=>[AV.v (.int .i64 n)])[((now.length:Int) - 1).toNat]? = some [AV.v (.int .i64 x)]:=by
     rw [e, List.length_append, List.length_singleton, show (((l.length + 1:Nat):Int) - 1).toNat = l.length from by omega]
     simp
    have hpos:0 <= (now.length:Int) - 1:=by rw [e, List.length_append, List.length_singleton]; omega
    refine zu6 rgood142 Y Y (zG (rows:=now.map fun n=>[AV.v (.int .i64 n)]) (p:=(now.length:Int) - 1) Y Y Y jv hpos hat (by simp)) ?_
    refine zu6 rgood142 Y Y (zA Y Y Y ty3) ?_
    refine zu6 rgood142 Y Y (zV Y Y Y ⟨by omega, by omega⟩) ?_
    refine zu6 rgood142 Y Y (zn Y Y) (zu5 ?_)
    exact ⟨Y, Y, Y, Y, Y, Y, Y, by rw [hfr]; rfl⟩
 ·
  intro e p s ⟨he, hp, h0, h1, h2, h3, h4, h8⟩
  subst he
  subst hp
  refine zuI ?_
  refine zva (zva (zuU (zu6 rgood142 Y Y (zi (x:=.tmp 8) Y h8) (zu6 rgood142 Y Y (zn Y Y) (zu5 (zuI ?_))))))
  refine (zxb (zCt (ι:={i:Nat // i <= N}) (fun i=>[.pub (.v (zvM blk cap now.length)), .pub (.v (.int .i64 ((lf:Int) + 1))), .pub (.v yb), .pub (.v bb), .pub (.v (.pointer (some ⟨gb, 0, none⟩))), .pub .top, .pub .top, .pub .top, .pub .top, I (frm now + (i.1:Int))])
   (fun i=>k + zwH b lf now i.1) (fun i=>N - i.1) ⟨0, Nat.zero_le _⟩ ?_ ?_ ?_))
  ·
   rw [zA5, Nat.add_zero]
  ·
   exact ⟨.inr h0.symm, .inr h1.symm, .inr h2.symm, .inr h3.symm, .inr h4.symm, .inl Y, .inl Y, .inl Y, .inl Y, .inr (by show I (frm now + ((0:Nat):Int)) = I (frm now); rw [Int.natCast_zero, Int.add_zero]), trivial⟩
  rintro ⟨i, hi⟩
  refine zva (zva (zuU (zu6 rgood142 Y Y (zi Y Y) (zEP rgood142 3 Y zEs Y Y (zA Y Y Y ty3) (zu6 rgood142 Y Y (qi Y Y Y) (zu5 (zuI ?_)))))))
  refine zvK (b:=decide (frm now + (i:Int) < (b:Int))) Y (fun hlt=>zwU (zuI ?_)) (fun hge=>zBB ?_)
  ·
   have hlt':frm now + (i:Int) < (b:Int):=by simpa using hlt
   have hiN:i < N:=by omega
   refine zva (zxb (zva (zDb (x:=frm now + (i:Int)) (lf:=lf) (k':=k + zwH b lf now (i + 1)) ⟨Y, Y, Y⟩ ⟨Y, Y, Y⟩ ⟨Y, Y, Y⟩ ⟨Y, Y, Y, by kernel_rfl⟩ ⟨Y, Y, Y, by kernel_rfl, by kernel_rfl⟩ ⟨Y, Y, Y⟩ ⟨Y, Y, Y, by kernel_rfl⟩ ⟨Y, Y, Y, by kernel_rfl, by kernel_rfl, by kernel_rfl⟩ ⟨Y, Y, Y, by kernel_rfl⟩ (by kernel_rfl) mixed Y Y Y Y hlen hlf (IH i (by omega)) ?_ ?_)))
   ·
    refine zuI (zvK (b:=false) Y (fun h=>by cases h) (fun _=>zwU (zxZ (zuI ?_))))
    refine zuU (zu6 rgood142 Y Y (zi Y Y) (zu6 rgood142 Y Y (zV Y Y Y ⟨by show -9223372036854775808 <= frm now + (i:Int) + 1; omega, by show frm now + (i:Int) + 1 <= 9223372036854775807; omega⟩) (zu6 rgood142 Y Y (zn Y Y) (zu5 (zuI ?_)))))
    refine ⟨⟨i + 1, by omega⟩, by show N - (i + 1) < N - i; omega, Y, .inr Y, .inr Y, .inr Y, .inr Y, .inr Y, .inl Y, .inl Y, .inl Y, .inl Y, .inr ?_, trivial⟩
    show I (frm now + ((i + 1:Nat):Int)) = I (frm now + (i:Int) + 1)
    rw [show frm now + ((i + 1:Nat):Int) = frm now + (i:Int) + 1 from by omega]
   ·
    refine zuI (zvK (b:=true) Y (fun _=>?_) (fun h=>by cases h))
    refine zva (zuU (zu6 rgood142 Y Y (zn Y Y) (zu5 (zuI ?_))))
    exact zyz (zx5 (zwm (zwm (zx5 (zwm ⟨Y, .inr ⟨⟨_, Y⟩, Y⟩⟩)))))
  ·
   have hge':¬ frm now + (i:Int) < (b:Int):=by simpa using hge
   have hiN:i = N:=by omega
   refine zxc (zxc (zAo (zuI ?_)))
   refine zva (zuU (zu6 rgood142 Y Y (zn Y Y) (zu5 (zuI ?_))))
   refine zyz ⟨Y, .inl ⟨?_, Y⟩⟩
   show Ph.on (k + zwH b lf now i) = _
   rw [hiN, hN, zCg]
theorem f142 (C:Sx Tryz.prog G) (b:Nat) (hb:b <= 900):∀ (left k:Nat) (now:List Int), now.length + left <= 950 -> 0 <= frm now -> frm now <= (b:Int) ->
  (∀ (i:Nat) (l:List Int), (ext b left now)[i]? = some l -> C.qs[k + i]? = some [zO l]) -> SR C b left now k (k + (ext b left now).length)
 | 0, k, now, hlen, _, _, hq=>zA6 C b k now (by omega) (by simpa using hq 0 now rfl)
 | lf + 1, k, now, hlen, h0, h1, hq=>zAV C b lf k now hb (by omega) (by omega) ⟨h0, h1⟩ fun i hi=>by
  have h2:frm (now ++ [frm now + (i:Int)]) = frm now + (i:Int) + 1:=zwB _ _
  have:=f142 C b hb lf (k + zwH b lf now i) (now ++ [frm now + (i:Int)]) (by simp; omega) (by omega) (by omega) (fun j l hl=>by
   rw [Nat.add_assoc]; exact hq _ l (zDX hi hl))
  rwa [Nat.add_assoc, ← zBp lf hi] at this
end Go.Av
end
