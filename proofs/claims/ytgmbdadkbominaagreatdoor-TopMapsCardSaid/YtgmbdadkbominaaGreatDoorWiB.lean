import Derived.Test.YtgmbdadkbominaaGreatDoorWiA
import Derived.Lib.ConvBytes
import Derived.Test.YtgmbdadkbominaaGreatDoorPlatF
set_option linter.unusedVariables false
set_option linter.unusedSimpArgs false
section
namespace Go.Av
namespace Wr
open Go.Proofs
set_option maxRecDepth 100000
set_option maxHeartbeats 1000000
variable {G:Glob}
theorem ti5:Tryz.prog.info? 5 = some Tryz.t5:=by kernel_rfl
abbrev wG:EV:=.pub (.v (.slice none 0 0))
def dv (n:Int):Nat -> Int
 | 0=>n
 | k + 1=>dv n k / 10
def dig (n:Int) (p:Nat):Int:=dv n (4 - p) % 10
structure G5 where
 a:Int
 b:Int
 c:Int
 d:Int
 e:Int
def jG (n:Int):G5:=⟨n / 10 / 10 / 10 / 10 % 10, n / 10 / 10 / 10 % 10, n / 10 / 10 % 10, n / 10 % 10, n % 10⟩
def G5.ok (g:G5):Prop:=(0 <= g.a /\ g.a <= 9) /\ (0 <= g.b /\ g.b <= 9) /\ (0 <= g.c /\ g.c <= 9) /\ (0 <= g.d /\ g.d <= 9) /\ (0 <= g.e /\ g.e <= 9)
def chD (x:Int):UInt8:=UInt8.ofNat (48 + x).toNat
def G5.chs (g:G5):List UInt8:=[chD g.a, chD g.b, chD g.c, chD g.d, chD g.e]
def grp (n:Int):List UInt8:=(jG n).chs
theorem zpZ (n:Int):(jG n).ok:=by unfold jG G5.ok; dsimp only; omega
theorem zre {n N:Int} (h:0 <= n /\ n <= N):∀ k, 0 <= dv n k /\ dv n k <= N
 | 0=>h
 | k + 1=>by
  have:=zre h k
  show 0 <= dv n k / 10 /\ dv n k / 10 <= N
  omega
theorem je {n:Int} (p:Nat):0 <= dig n p /\ dig n p <= 9:=by unfold dig; omega
theorem zpH {x:Int} (h:0 <= x /\ x <= 9):((chD x).toNat:Int) = 48 + x:=by
 unfold chD
 rw [UInt8.toNat_ofNat']
 omega
theorem f92 (n:Int) (p:Nat) (hn:0 <= n /\ n <= 1000000000000) (hp:p <= 4):ACall Tryz.prog G 170 [.v (.int .i64 n), .v (.int .i64 (p:Int))] (.v (.int .i64 (dig n p))):=by
 refine zO Tryz.func170 Y (by kernel_rfl) Y ?_
 refine zn (zf (zg Y Y) (zo (zt (zn (zf (zh Y Y) (zf (zg Y Y) (zo ?_)))))))
 refine zF ?_
 refine qm (ι:={ k:Nat // p + k <= 4 }) (fun k=>⟨Tryz.f170.ntmps, frL [(0, I (dv n k.1)), (5, I ((p:Int) + (k.1:Int)))], []⟩) (fun k=>4 - p - k.1) (⟨0, by omega⟩) ?_ ?_
 ·exact zy _ ⟨Y, (congrArg (fun x:Int=>I x) (by simp)), trivial⟩ (Y)
 ·rintro ⟨k, hk⟩
  dsimp only
  have hb:=zre hn k
  refine zt (zn (zf (zh Y Y) (zf (qx Y Y Y) (zo (zA Y (fun h0=>?_) (fun h0=>?_))))))
  ·have hlt:p + k < 4:=by have:=of_decide_eq_true h0; omega
   refine zH (zk (zt (zF (zx (zf (zh Y Y) (zf (x9 Y Y Y ⟨(by omega), by omega, by omega⟩) (zf (zg Y Y) (zM (zJ (zk (zx ?_)))))))))))
   refine zf (zh Y Y) (zf (zW Y Y Y ⟨by omega, by omega⟩) (zf (zg Y Y) (zM ?_)))
   exact ⟨⟨k + 1, by omega⟩, by dsimp only; omega, zy _ ⟨Y, (congrArg (fun x:Int=>I x) (by show (p:Int) + (k:Int) + 1 = (p:Int) + ((k + 1:Nat):Int); omega)), trivial⟩ (Y)⟩
  ·have hge:k = 4 - p:=by have:=of_decide_eq_false h0; omega
   refine qg (zS (zS (qh (zk (zn (zf (zh Y Y) (zf (ku Y Y Y ⟨by omega, by omega⟩) (zf (zg Y Y) (zo ?_)))))))))
   refine zN ?_
   exact ⟨.inr Y, AVle.of (by rw [hge]; rfl)⟩
theorem f94 (n:Int) (hn:0 <= n /\ n <= 1000000000000):ACall Tryz.prog G 171 [.v (.int .i64 n)] (eS (grp n)):=by
 refine zO Tryz.func171 Y (by kernel_rfl) Y ?_
 refine zn (zf (zg Y Y) (zo (zn (zf (zg Y Y) (zo (zt (zt ?_)))))))
 refine zx (zf (zg Y Y) (zo (zF ?_)))
 refine qm (ι:={ k:Nat // k < 6 }) (fun k=>match k.1 with | 0=>⟨Tryz.f171.ntmps, frL [(0, I n), (3, SL []), (4, I 0)], []⟩ | 1=>⟨Tryz.f171.ntmps, frL [(0, I n), (3, SL [chD (dig n 0)]), (4, I 1)], []⟩ | 2=>⟨Tryz.f171.ntmps, frL [(0, I n), (3, SL [chD (dig n 0), chD (dig n 1)]), (4, I 2)], []⟩ | 3=>⟨Tryz.f171.ntmps, frL [(0, I n), (3, SL [chD (dig n 0), chD (dig n 1), chD (dig n 2)]), (4, I 3)], []⟩ | 4=>⟨Tryz.f171.ntmps, frL [(0, I n), (3, SL [chD (dig n 0), chD (dig n 1), chD (dig n 2), chD (dig n 3)]), (4, I 4)], []⟩ | _=>⟨Tryz.f171.ntmps, frL [(0, I n), (3, SL [chD (dig n 0), chD (dig n 1), chD (dig n 2), chD (dig n 3), chD (dig n 4)]), (4, I 5)], []⟩) (fun k=>6 - k.1) (⟨0, by omega⟩) ?_ ?_
 ·exact zy _ ⟨Y, Y, Y, trivial⟩ (Y)
 ·rintro ⟨k, hk⟩
  have hk3:k = 0 ∨ k = 1 ∨ k = 2 ∨ k = 3 ∨ k = 4 ∨ k = 5:=by omega
  rcases hk3 with rfl | rfl | rfl | rfl | rfl | rfl
  ·dsimp only
   have hb:=je (n:=n) 0
   refine zt (zn (zf (zh Y Y) (zf (qx Y Y Y) (zo (zA Y (fun h0=>?_) (fun h0=>?_))))))
   ·refine zH (zk (zt (zF (zx (zf (zh Y Y) (zf (zh Y Y) (zf (zh Y Y) (zf (zB (av:=[_, _]) Y ⟨Y, Y, trivial⟩ (f92 n 0 hn (by omega))) (zf (zW Y Y Y ⟨by omega, by omega⟩) (zf (xn Y Y Tryz.underlying3 Tryz.underlying5 (wrap_u8 (by omega))) ?_))))))))))
    refine zf (qy (size:=1) (rows:=[[_]]) Y Tryz.underlying227 ti5 Y (by decide) Y (by decide) ⟨_, _, Y, (qU Y), Y⟩ (by rfl) (by simp [ofV]) Y (by simp)) ?_
    refine zf (zbN (ns:=[48 + dig n 0]) Y Y Tryz.underlying227 Tryz.underlying5 Tryz.underlying9) ?_
    refine zf (zfT Y Y Y (by simp)) ?_
    refine zf (zg Y Y) (zM (zJ (zk (zx (zf (zh Y Y) (zf (zW Y Y Y ⟨by omega, by omega⟩) (zf (zg Y Y) (zM ?_))))))))
    exact ⟨⟨1, by omega⟩, by dsimp only; omega, (by refine zy (mem':=[]) [(0, I n), (3, SL [chD (dig n 0)]), (4, I 1)] ?_ ?_; exact ⟨Y, Y, Y, trivial⟩; exact (Y))⟩
   ·exfalso; simp at h0
  ·dsimp only
   have hb:=je (n:=n) 1
   refine zt (zn (zf (zh Y Y) (zf (qx Y Y Y) (zo (zA Y (fun h0=>?_) (fun h0=>?_))))))
   ·refine zH (zk (zt (zF (zx (zf (zh Y Y) (zf (zh Y Y) (zf (zh Y Y) (zf (zB (av:=[_, _]) Y ⟨Y, Y, trivial⟩ (f92 n 1 hn (by omega))) (zf (zW Y Y Y ⟨by omega, by omega⟩) (zf (xn Y Y Tryz.underlying3 Tryz.underlying5 (wrap_u8 (by omega))) ?_))))))))))
    refine zf (qy (size:=1) (rows:=[[_]]) Y Tryz.underlying227 ti5 Y (by decide) Y (by decide) ⟨_, _, Y, (qU Y), Y⟩ (by rfl) (by simp [ofV]) Y (by simp)) ?_
    refine zf (zbN (ns:=[48 + dig n 1]) Y Y Tryz.underlying227 Tryz.underlying5 Tryz.underlying9) ?_
    refine zf (zfT Y Y Y (by simp)) ?_
    refine zf (zg Y Y) (zM (zJ (zk (zx (zf (zh Y Y) (zf (zW Y Y Y ⟨by omega, by omega⟩) (zf (zg Y Y) (zM ?_))))))))
    exact ⟨⟨2, by omega⟩, by dsimp only; omega, (by refine zy (mem':=[]) [(0, I n), (3, SL [chD (dig n 0), chD (dig n 1)]), (4, I 2)] ?_ ?_; exact ⟨Y, Y, Y, trivial⟩; exact (Y))⟩
   ·exfalso; simp at h0
  ·dsimp only
   have hb:=je (n:=n) 2
   refine zt (zn (zf (zh Y Y) (zf (qx Y Y Y) (zo (zA Y (fun h0=>?_) (fun h0=>?_))))))
   ·refine zH (zk (zt (zF (zx (zf (zh Y Y) (zf (zh Y Y) (zf (zh Y Y) (zf (zB (av:=[_, _]) Y ⟨Y, Y, trivial⟩ (f92 n 2 hn (by omega))) (zf (zW Y Y Y ⟨by omega, by omega⟩) (zf (xn Y Y Tryz.underlying3 Tryz.underlying5 (wrap_u8 (by omega))) ?_))))))))))
    refine zf (qy (size:=1) (rows:=[[_]]) Y Tryz.underlying227 ti5 Y (by decide) Y (by decide) ⟨_, _, Y, (qU Y), Y⟩ (by rfl) (by simp [ofV]) Y (by simp)) ?_
    refine zf (zbN (ns:=[48 + dig n 2]) Y Y Tryz.underlying227 Tryz.underlying5 Tryz.underlying9) ?_
    refine zf (zfT Y Y Y (by simp)) ?_
    refine zf (zg Y Y) (zM (zJ (zk (zx (zf (zh Y Y) (zf (zW Y Y Y ⟨by omega, by omega⟩) (zf (zg Y Y) (zM ?_))))))))
    exact ⟨⟨3, by omega⟩, by dsimp only; omega, (by refine zy (mem':=[]) [(0, I n), (3, SL [chD (dig n 0), chD (dig n 1), chD (dig n 2)]), (4, I 3)] ?_ ?_; exact ⟨Y, Y, Y, trivial⟩; exact (Y))⟩
   ·exfalso; simp at h0
  ·dsimp only
   have hb:=je (n:=n) 3
   refine zt (zn (zf (zh Y Y) (zf (qx Y Y Y) (zo (zA Y (fun h0=>?_) (fun h0=>?_))))))
   ·refine zH (zk (zt (zF (zx (zf (zh Y Y) (zf (zh Y Y) (zf (zh Y Y) (zf (zB (av:=[_, _]) Y ⟨Y, Y, trivial⟩ (f92 n 3 hn (by omega))) (zf (zW Y Y Y ⟨by omega, by omega⟩) (zf (xn Y Y Tryz.underlying3 Tryz.underlying5 (wrap_u8 (by omega))) ?_))))))))))
    refine zf (qy (size:=1) (rows:=[[_]]) Y Tryz.underlying227 ti5 Y (by decide) Y (by decide) ⟨_, _, Y, (qU Y), Y⟩ (by rfl) (by simp [ofV]) Y (by simp)) ?_
    refine zf (zbN (ns:=[48 + dig n 3]) Y Y Tryz.underlying227 Tryz.underlying5 Tryz.underlying9) ?_
    refine zf (zfT Y Y Y (by simp)) ?_
    refine zf (zg Y Y) (zM (zJ (zk (zx (zf (zh Y Y) (zf (zW Y Y Y ⟨by omega, by omega⟩) (zf (zg Y Y) (zM ?_))))))))
    exact ⟨⟨4, by omega⟩, by dsimp only; omega, (by refine zy (mem':=[]) [(0, I n), (3, SL [chD (dig n 0), chD (dig n 1), chD (dig n 2), chD (dig n 3)]), (4, I 4)] ?_ ?_; exact ⟨Y, Y, Y, trivial⟩; exact (Y))⟩
   ·exfalso; simp at h0
  ·dsimp only
   have hb:=je (n:=n) 4
   refine zt (zn (zf (zh Y Y) (zf (qx Y Y Y) (zo (zA Y (fun h0=>?_) (fun h0=>?_))))))
   ·refine zH (zk (zt (zF (zx (zf (zh Y Y) (zf (zh Y Y) (zf (zh Y Y) (zf (zB (av:=[_, _]) Y ⟨Y, Y, trivial⟩ (f92 n 4 hn (by omega))) (zf (zW Y Y Y ⟨by omega, by omega⟩) (zf (xn Y Y Tryz.underlying3 Tryz.underlying5 (wrap_u8 (by omega))) ?_))))))))))
    refine zf (qy (size:=1) (rows:=[[_]]) Y Tryz.underlying227 ti5 Y (by decide) Y (by decide) ⟨_, _, Y, (qU Y), Y⟩ (by rfl) (by simp [ofV]) Y (by simp)) ?_
    refine zf (zbN (ns:=[48 + dig n 4]) Y Y Tryz.underlying227 Tryz.underlying5 Tryz.underlying9) ?_
    refine zf (zfT Y Y Y (by simp)) ?_
    refine zf (zg Y Y) (zM (zJ (zk (zx (zf (zh Y Y) (zf (zW Y Y Y ⟨by omega, by omega⟩) (zf (zg Y Y) (zM ?_))))))))
    exact ⟨⟨5, by omega⟩, by dsimp only; omega, (by refine zy (mem':=[]) [(0, I n), (3, SL [chD (dig n 0), chD (dig n 1), chD (dig n 2), chD (dig n 3), chD (dig n 4)]), (4, I 5)] ?_ ?_; exact ⟨Y, Y, Y, trivial⟩; exact (Y))⟩
   ·exfalso; simp at h0
  ·dsimp only
   have hb:=je (n:=n) 5
   refine zt (zn (zf (zh Y Y) (zf (qx Y Y Y) (zo (zA Y (fun h0=>?_) (fun h0=>?_))))))
   ·exfalso; simp at h0
   ·refine qg (zS (zS (qh (zk (zn (zf (zh Y Y) (zf (zg Y Y) (zo (zN ?_)))))))))
    exact ⟨.inr Y, AVle.refl _⟩
def chk (m:List Int):G5:=m.foldl (fun s n=>⟨(s.a + (jG n).a) % 10, (s.b + (jG n).b) % 10, (s.c + (jG n).c) % 10, (s.d + (jG n).d) % 10, (s.e + (jG n).e) % 10⟩) ⟨0, 0, 0, 0, 0⟩
def ww (m:List Int):List G5:=m.map jG ++ [chk m]
theorem zrI:∀ m:List Int, (chk m).ok:=by
 have key:∀ (m:List Int) (s:G5), s.ok -> (m.foldl (fun s n=>(⟨(s.a + (jG n).a) % 10, (s.b + (jG n).b) % 10, (s.c + (jG n).c) % 10, (s.d + (jG n).d) % 10, (s.e + (jG n).e) % 10⟩:G5)) s).ok:=by
  intro m
  induction m with
  | nil=>exact fun s h=>h
  | cons n m ih=>exact fun s h=>ih _ (by unfold G5.ok; dsimp only; omega)
 exact fun m=>key m _ (by unfold G5.ok; dsimp only; omega)
theorem zpK {m:List Int}:∀ g ∈ ww m, g.ok:=fun g hg=>by
 rcases List.mem_append.1 hg with h | h
 ·obtain ⟨n, _, rfl⟩:=List.mem_map.1 h; exact zpZ n
 ·rw [List.mem_singleton.1 h]; exact zrI m
theorem ti9:Tryz.prog.info? 9 = some Tryz.t9:=by kernel_rfl
theorem zs6:elemIs Tryz.prog 81 9 1 16:=⟨Tryz.underlying81, Tryz.t9, _, by kernel_rfl, rfl, rfl, rfl, rfl, by decide⟩
theorem zbs:kw Tryz.prog 81 1 = true:=by kernel_rfl
theorem ty9:tyIs Tryz.prog 9 false 1 = true:=by kernel_rfl
def kP (m:List Int) (j:Nat):Int:=m.foldl (fun s n=>s + dig n j) 0
def ckN (m:List Int):Nat -> Int
 | 0=>0
 | j + 1=>10 * ckN m j + kP m j % 10
theorem zaS {m:List Int} {j k:Nat} (h:k < m.length):kP (m.take (k + 1)) j = kP (m.take k) j + dig m[k] j:=by
 unfold kP; rw [List.take_succ_eq_append_getElem h, List.foldl_append]; rfl
theorem zdu (m:List Int) (j:Nat):0 <= kP m j /\ kP m j <= 9 * m.length:=by
 have key:∀ (m:List Int) (t:Int), t <= m.foldl (fun s n=>s + dig n j) t /\ m.foldl (fun s n=>s + dig n j) t <= t + 9 * m.length:=by
  intro m
  induction m with
  | nil=>intro t; simp
  | cons n m ih=>
   intro t
   have h1:=ih (t + dig n j)
   have h2:=je (n:=n) j
   simp only[List.foldl_cons, List.length_cons]
   omega
 have:=key m 0
 unfold kP; omega
theorem zrX (m:List Int):0 <= ckN m 5 /\ ckN m 5 <= 99999 /\ (0 <= ckN m 0 /\ ckN m 0 <= 0) /\ (0 <= ckN m 1 /\ ckN m 1 <= 9) /\ (0 <= ckN m 2 /\ ckN m 2 <= 99) /\ (0 <= ckN m 3 /\ ckN m 3 <= 999) /\ (0 <= ckN m 4 /\ ckN m 4 <= 9999):=by
 simp only[ckN]; omega
theorem zq8:∀ (m:List Int) (s:G5) (t:Int), s.a = t % 10 -> (m.foldl (fun s n=>(⟨(s.a + (jG n).a) % 10, (s.b + (jG n).b) % 10, (s.c + (jG n).c) % 10, (s.d + (jG n).d) % 10, (s.e + (jG n).e) % 10⟩:G5)) s).a = (m.foldl (fun s n=>s + dig n 0) t) % 10
 | [], _, _, h=>h
 | n :: m, s, t, h=>zq8 m _ _ (by show (s.a + (jG n).a) % 10 = (t + (jG n).a) % 10; rw [h]; omega)
theorem zq9:∀ (m:List Int) (s:G5) (t:Int), s.b = t % 10 -> (m.foldl (fun s n=>(⟨(s.a + (jG n).a) % 10, (s.b + (jG n).b) % 10, (s.c + (jG n).c) % 10, (s.d + (jG n).d) % 10, (s.e + (jG n).e) % 10⟩:G5)) s).b = (m.foldl (fun s n=>s + dig n 1) t) % 10
 | [], _, _, h=>h
 | n :: m, s, t, h=>zq9 m _ _ (by show (s.b + (jG n).b) % 10 = (t + (jG n).b) % 10; rw [h]; omega)
theorem zrq:∀ (m:List Int) (s:G5) (t:Int), s.c = t % 10 -> (m.foldl (fun s n=>(⟨(s.a + (jG n).a) % 10, (s.b + (jG n).b) % 10, (s.c + (jG n).c) % 10, (s.d + (jG n).d) % 10, (s.e + (jG n).e) % 10⟩:G5)) s).c = (m.foldl (fun s n=>s + dig n 2) t) % 10
 | [], _, _, h=>h
 | n :: m, s, t, h=>zrq m _ _ (by show (s.c + (jG n).c) % 10 = (t + (jG n).c) % 10; rw [h]; omega)
theorem zra:∀ (m:List Int) (s:G5) (t:Int), s.d = t % 10 -> (m.foldl (fun s n=>(⟨(s.a + (jG n).a) % 10, (s.b + (jG n).b) % 10, (s.c + (jG n).c) % 10, (s.d + (jG n).d) % 10, (s.e + (jG n).e) % 10⟩:G5)) s).d = (m.foldl (fun s n=>s + dig n 3) t) % 10
 | [], _, _, h=>h
 | n :: m, s, t, h=>zra m _ _ (by show (s.d + (jG n).d) % 10 = (t + (jG n).d) % 10; rw [h]; omega)
theorem zrg:∀ (m:List Int) (s:G5) (t:Int), s.e = t % 10 -> (m.foldl (fun s n=>(⟨(s.a + (jG n).a) % 10, (s.b + (jG n).b) % 10, (s.c + (jG n).c) % 10, (s.d + (jG n).d) % 10, (s.e + (jG n).e) % 10⟩:G5)) s).e = (m.foldl (fun s n=>s + dig n 4) t) % 10
 | [], _, _, h=>h
 | n :: m, s, t, h=>zrg m _ _ (by show (s.e + (jG n).e) % 10 = (t + (jG n).e) % 10; rw [h]; omega)
theorem zl2 (m:List Int):jG (ckN m 5) = chk m:=by
 have e:jG (ckN m 5) = ⟨kP m 0 % 10, kP m 1 % 10, kP m 2 % 10, kP m 3 % 10, kP m 4 % 10⟩:=by
  simp only[jG, ckN]
  congr 1 <;> omega
 have ha:=zq8 m ⟨0, 0, 0, 0, 0⟩ 0 rfl
 have hb:=zq9 m ⟨0, 0, 0, 0, 0⟩ 0 rfl
 have hc:=zrq m ⟨0, 0, 0, 0, 0⟩ 0 rfl
 have hd:=zra m ⟨0, 0, 0, 0, 0⟩ 0 rfl
 have he:=zrg m ⟨0, 0, 0, 0, 0⟩ 0 rfl
 rw [e]
 cases hk:chk m
 simp only[chk] at hk
 rw [hk] at ha hb hc hd he
 simp only at ha hb hc hd he
 subst ha; subst hb; subst hc; subst hd; subst he
 rfl
def zbv (m:List Int):List (List UInt8):=(ww m).map G5.chs
theorem zpB {m:List Int} {k:Nat} (h:k < m.length):(m.take (k + 1)).map (fun n=>[SL (grp n)]) = (m.take k).map (fun n=>[SL (grp n)]) ++ [[SL (grp m[k])]]:=by
 rw [List.take_succ_eq_append_getElem h, List.map_append]; rfl
theorem kU {l:List (List UInt8)} {k:Nat} (h:k < l.length):(l.map fun s=>[eS s])[k]? = some [eS l[k]]:=by simp [h]
theorem yj {l:List (List UInt8)}:∀ q ∈ l.map (fun s=>[eS s]), q.length = 1:=by simp
theorem f35 (m:List Int) (hl:m.length <= 1000) (hm:∀ n ∈ m, 0 <= n /\ n <= 1000000000000):ACall Tryz.prog G 74 [eInts m] (eStrs (zbv m)):=by
 have cb:=zrX m
 refine zO Tryz.func74 Y (by kernel_rfl) Y ?_
 refine zn (zf (zg Y Y) (zo (zn (zf (zg Y Y) (zo (zn ?_))))))
 refine zf (zg Y Y) (zo (zt (zn (zf (zg Y Y) (zo (zF ?_))))))
 refine qm (ι:={ k:Nat // k < 6 }) (fun k=>match k.1 with | 0=>⟨Tryz.f74.ntmps, frL [(0, .pub (eInts m)), (3, wG), (4, I (ckN m 0)), (5, I 0)], []⟩ | 1=>⟨Tryz.f74.ntmps, frL [(0, .pub (eInts m)), (3, wG), (4, I (ckN m 1)), (5, I 1)], []⟩ | 2=>⟨Tryz.f74.ntmps, frL [(0, .pub (eInts m)), (3, wG), (4, I (ckN m 2)), (5, I 2)], []⟩ | 3=>⟨Tryz.f74.ntmps, frL [(0, .pub (eInts m)), (3, wG), (4, I (ckN m 3)), (5, I 3)], []⟩ | 4=>⟨Tryz.f74.ntmps, frL [(0, .pub (eInts m)), (3, wG), (4, I (ckN m 4)), (5, I 4)], []⟩ | _=>⟨Tryz.f74.ntmps, frL [(0, .pub (eInts m)), (3, wG), (4, I (ckN m 5)), (5, I 5)], []⟩) (fun k=>6 - k.1) (⟨0, by omega⟩) ?_ ?_
 ·exact zy _ ⟨Y, Y, Y, Y, trivial⟩ (Y)
 ·rintro ⟨k, hk⟩
  have hk3:k = 0 ∨ k = 1 ∨ k = 2 ∨ k = 3 ∨ k = 4 ∨ k = 5:=by omega
  rcases hk3 with rfl | rfl | rfl | rfl | rfl | rfl
  ·dsimp only
   refine zt (zn (zf (zh Y Y) (zf (qx Y Y Y) (zo (zA Y (fun h0=>?_) (fun h0=>?_))))))
   ·refine zH (zk (zt (zF (zn (zf (zg Y Y) (zo (zt (zn ?_))))))))
    refine zf (zg Y Y) (zo (zF ?_))
    refine qm (ι:={ q:Nat // q <= m.length }) (fun q=>⟨Tryz.f74.ntmps, frL [(0, .pub (eInts m)), (3, wG), (4, I (ckN m 0)), (5, I 0), (6, I (kP (m.take q.1) 0)), (7, I (q.1:Int))], []⟩) (fun q=>m.length - q.1) (⟨0, by omega⟩) ?_ ?_
    ·exact zy _ ⟨Y, Y, Y, Y, Y, Y, trivial⟩ (Y)
    ·rintro ⟨q, hq⟩
     dsimp only
     have sb:=zdu (m.take q) 0
     have sl:(m.take q).length <= q:=by simp; omega
     refine zt (zn (zf (zh Y Y) (zf (zI Y Y) (zf (qA Y Y Y Tryz.underlying24) (zf (qx Y Y Y) (zo (zA Y (fun h1=>?_) (fun h1=>?_))))))))
     ·have hlt:q < m.length:=by simpa [eInts] using h1
      have v1:=hm _ (List.getElem_mem hlt)
      have db:=je (n:=m[q]) 0
      have db1:=je (n:=m[q]) 1
      have db2:=je (n:=m[q]) 2
      have db3:=je (n:=m[q]) 3
      have db4:=je (n:=m[q]) 4
      refine zH (zk (zt (zF (zx (zf (zh Y Y) (zf (zI Y Y) (zf (zh Y Y) (zf (zD Y Y Y yR (by omega) (jM hlt) qH) (zf (zl Y Y Y ty3) (zf (zh Y Y) (zf (zB (av:=[_, _]) Y ⟨Y, Y, trivial⟩ (f92 m[q] 0 v1 (by omega))) ?_)))))))))))
      refine zf (zW Y Y Y ⟨by omega, by omega⟩) (zf (zg Y Y) (zM (zJ (zk (zx (zf (zh Y Y) (zf (zW Y Y Y ⟨by omega, by omega⟩) (zf (zg Y Y) (zM ?_)))))))))
      exact ⟨⟨q + 1, by omega⟩, by dsimp only; omega, zy _ ⟨Y, Y, Y, Y, (congrArg (fun x:Int=>I x) (zaS hlt).symm), Y, trivial⟩ (Y)⟩
     ·have hge:m.length <= q:=by simpa [eInts] using h1
      have hk2:q = m.length:=by omega
      subst hk2
      refine qg (zS (zS (qh (zk (zx (zf (zh Y Y) (zf (ya Y Y Y ⟨by omega, by omega⟩) (zf (zh Y Y) (zf (ku Y Y Y ⟨by omega, by omega⟩) (zf (zW Y Y Y ⟨by omega, by omega⟩) (zf (zg Y Y) ?_)))))))))))
      refine zM (zJ (zk (zx (zf (zh Y Y) (zf (zW Y Y Y ⟨by omega, by omega⟩) (zf (zg Y Y) (zM ?_)))))))
      exact ⟨⟨1, by omega⟩, by dsimp only; omega, (by refine zy (mem':=[]) [(0, .pub (eInts m)), (3, wG), (4, I (ckN m 1)), (5, I 1)] ?_ ?_; exact ⟨Y, Y, (congrArg (fun x=>I (10 * ckN m 0 + kP x 0 % 10)) (List.take_length ..)), Y, trivial⟩; exact (Y))⟩
   ·exfalso; simp at h0
  ·dsimp only
   refine zt (zn (zf (zh Y Y) (zf (qx Y Y Y) (zo (zA Y (fun h0=>?_) (fun h0=>?_))))))
   ·refine zH (zk (zt (zF (zn (zf (zg Y Y) (zo (zt (zn ?_))))))))
    refine zf (zg Y Y) (zo (zF ?_))
    refine qm (ι:={ q:Nat // q <= m.length }) (fun q=>⟨Tryz.f74.ntmps, frL [(0, .pub (eInts m)), (3, wG), (4, I (ckN m 1)), (5, I 1), (6, I (kP (m.take q.1) 1)), (7, I (q.1:Int))], []⟩) (fun q=>m.length - q.1) (⟨0, by omega⟩) ?_ ?_
    ·exact zy _ ⟨Y, Y, Y, Y, Y, Y, trivial⟩ (Y)
    ·rintro ⟨q, hq⟩
     dsimp only
     have sb:=zdu (m.take q) 1
     have sl:(m.take q).length <= q:=by simp; omega
     refine zt (zn (zf (zh Y Y) (zf (zI Y Y) (zf (qA Y Y Y Tryz.underlying24) (zf (qx Y Y Y) (zo (zA Y (fun h1=>?_) (fun h1=>?_))))))))
     ·have hlt:q < m.length:=by simpa [eInts] using h1
      have v1:=hm _ (List.getElem_mem hlt)
      have db:=je (n:=m[q]) 0
      have db1:=je (n:=m[q]) 1
      have db2:=je (n:=m[q]) 2
      have db3:=je (n:=m[q]) 3
      have db4:=je (n:=m[q]) 4
      refine zH (zk (zt (zF (zx (zf (zh Y Y) (zf (zI Y Y) (zf (zh Y Y) (zf (zD Y Y Y yR (by omega) (jM hlt) qH) (zf (zl Y Y Y ty3) (zf (zh Y Y) (zf (zB (av:=[_, _]) Y ⟨Y, Y, trivial⟩ (f92 m[q] 1 v1 (by omega))) ?_)))))))))))
      refine zf (zW Y Y Y ⟨by omega, by omega⟩) (zf (zg Y Y) (zM (zJ (zk (zx (zf (zh Y Y) (zf (zW Y Y Y ⟨by omega, by omega⟩) (zf (zg Y Y) (zM ?_)))))))))
      exact ⟨⟨q + 1, by omega⟩, by dsimp only; omega, zy _ ⟨Y, Y, Y, Y, (congrArg (fun x:Int=>I x) (zaS hlt).symm), Y, trivial⟩ (Y)⟩
     ·have hge:m.length <= q:=by simpa [eInts] using h1
      have hk2:q = m.length:=by omega
      subst hk2
      refine qg (zS (zS (qh (zk (zx (zf (zh Y Y) (zf (ya Y Y Y ⟨by omega, by omega⟩) (zf (zh Y Y) (zf (ku Y Y Y ⟨by omega, by omega⟩) (zf (zW Y Y Y ⟨by omega, by omega⟩) (zf (zg Y Y) ?_)))))))))))
      refine zM (zJ (zk (zx (zf (zh Y Y) (zf (zW Y Y Y ⟨by omega, by omega⟩) (zf (zg Y Y) (zM ?_)))))))
      exact ⟨⟨2, by omega⟩, by dsimp only; omega, (by refine zy (mem':=[]) [(0, .pub (eInts m)), (3, wG), (4, I (ckN m 2)), (5, I 2)] ?_ ?_; exact ⟨Y, Y, (congrArg (fun x=>I (10 * ckN m 1 + kP x 1 % 10)) (List.take_length ..)), Y, trivial⟩; exact (Y))⟩
   ·exfalso; simp at h0
  ·dsimp only
   refine zt (zn (zf (zh Y Y) (zf (qx Y Y Y) (zo (zA Y (fun h0=>?_) (fun h0=>?_))))))
   ·refine zH (zk (zt (zF (zn (zf (zg Y Y) (zo (zt (zn ?_))))))))
    refine zf (zg Y Y) (zo (zF ?_))
    refine qm (ι:={ q:Nat // q <= m.length }) (fun q=>⟨Tryz.f74.ntmps, frL [(0, .pub (eInts m)), (3, wG), (4, I (ckN m 2)), (5, I 2), (6, I (kP (m.take q.1) 2)), (7, I (q.1:Int))], []⟩) (fun q=>m.length - q.1) (⟨0, by omega⟩) ?_ ?_
    ·exact zy _ ⟨Y, Y, Y, Y, Y, Y, trivial⟩ (Y)
    ·rintro ⟨q, hq⟩
     dsimp only
     have sb:=zdu (m.take q) 2
     have sl:(m.take q).length <= q:=by simp; omega
     refine zt (zn (zf (zh Y Y) (zf (zI Y Y) (zf (qA Y Y Y Tryz.underlying24) (zf (qx Y Y Y) (zo (zA Y (fun h1=>?_) (fun h1=>?_))))))))
     ·have hlt:q < m.length:=by simpa [eInts] using h1
      have v1:=hm _ (List.getElem_mem hlt)
      have db:=je (n:=m[q]) 0
      have db1:=je (n:=m[q]) 1
      have db2:=je (n:=m[q]) 2
      have db3:=je (n:=m[q]) 3
      have db4:=je (n:=m[q]) 4
      refine zH (zk (zt (zF (zx (zf (zh Y Y) (zf (zI Y Y) (zf (zh Y Y) (zf (zD Y Y Y yR (by omega) (jM hlt) qH) (zf (zl Y Y Y ty3) (zf (zh Y Y) (zf (zB (av:=[_, _]) Y ⟨Y, Y, trivial⟩ (f92 m[q] 2 v1 (by omega))) ?_)))))))))))
      refine zf (zW Y Y Y ⟨by omega, by omega⟩) (zf (zg Y Y) (zM (zJ (zk (zx (zf (zh Y Y) (zf (zW Y Y Y ⟨by omega, by omega⟩) (zf (zg Y Y) (zM ?_)))))))))
      exact ⟨⟨q + 1, by omega⟩, by dsimp only; omega, zy _ ⟨Y, Y, Y, Y, (congrArg (fun x:Int=>I x) (zaS hlt).symm), Y, trivial⟩ (Y)⟩
     ·have hge:m.length <= q:=by simpa [eInts] using h1
      have hk2:q = m.length:=by omega
      subst hk2
      refine qg (zS (zS (qh (zk (zx (zf (zh Y Y) (zf (ya Y Y Y ⟨by omega, by omega⟩) (zf (zh Y Y) (zf (ku Y Y Y ⟨by omega, by omega⟩) (zf (zW Y Y Y ⟨by omega, by omega⟩) (zf (zg Y Y) ?_)))))))))))
      refine zM (zJ (zk (zx (zf (zh Y Y) (zf (zW Y Y Y ⟨by omega, by omega⟩) (zf (zg Y Y) (zM ?_)))))))
      exact ⟨⟨3, by omega⟩, by dsimp only; omega, (by refine zy (mem':=[]) [(0, .pub (eInts m)), (3, wG), (4, I (ckN m 3)), (5, I 3)] ?_ ?_; exact ⟨Y, Y, (congrArg (fun x=>I (10 * ckN m 2 + kP x 2 % 10)) (List.take_length ..)), Y, trivial⟩; exact (Y))⟩
   ·exfalso; simp at h0
  ·dsimp only
   refine zt (zn (zf (zh Y Y) (zf (qx Y Y Y) (zo (zA Y (fun h0=>?_) (fun h0=>?_))))))
   ·refine zH (zk (zt (zF (zn (zf (zg Y Y) (zo (zt (zn ?_))))))))
    refine zf (zg Y Y) (zo (zF ?_))
    refine qm (ι:={ q:Nat // q <= m.length }) (fun q=>⟨Tryz.f74.ntmps, frL [(0, .pub (eInts m)), (3, wG), (4, I (ckN m 3)), (5, I 3), (6, I (kP (m.take q.1) 3)), (7, I (q.1:Int))], []⟩) (fun q=>m.length - q.1) (⟨0, by omega⟩) ?_ ?_
    ·exact zy _ ⟨Y, Y, Y, Y, Y, Y, trivial⟩ (Y)
    ·rintro ⟨q, hq⟩
     dsimp only
     have sb:=zdu (m.take q) 3
     have sl:(m.take q).length <= q:=by simp; omega
     refine zt (zn (zf (zh Y Y) (zf (zI Y Y) (zf (qA Y Y Y Tryz.underlying24) (zf (qx Y Y Y) (zo (zA Y (fun h1=>?_) (fun h1=>?_))))))))
     ·have hlt:q < m.length:=by simpa [eInts] using h1
      have v1:=hm _ (List.getElem_mem hlt)
      have db:=je (n:=m[q]) 0
      have db1:=je (n:=m[q]) 1
      have db2:=je (n:=m[q]) 2
      have db3:=je (n:=m[q]) 3
      have db4:=je (n:=m[q]) 4
      refine zH (zk (zt (zF (zx (zf (zh Y Y) (zf (zI Y Y) (zf (zh Y Y) (zf (zD Y Y Y yR (by omega) (jM hlt) qH) (zf (zl Y Y Y ty3) (zf (zh Y Y) (zf (zB (av:=[_, _]) Y ⟨Y, Y, trivial⟩ (f92 m[q] 3 v1 (by omega))) ?_)))))))))))
      refine zf (zW Y Y Y ⟨by omega, by omega⟩) (zf (zg Y Y) (zM (zJ (zk (zx (zf (zh Y Y) (zf (zW Y Y Y ⟨by omega, by omega⟩) (zf (zg Y Y) (zM ?_)))))))))
      exact ⟨⟨q + 1, by omega⟩, by dsimp only; omega, zy _ ⟨Y, Y, Y, Y, (congrArg (fun x:Int=>I x) (zaS hlt).symm), Y, trivial⟩ (Y)⟩
     ·have hge:m.length <= q:=by simpa [eInts] using h1
      have hk2:q = m.length:=by omega
      subst hk2
      refine qg (zS (zS (qh (zk (zx (zf (zh Y Y) (zf (ya Y Y Y ⟨by omega, by omega⟩) (zf (zh Y Y) (zf (ku Y Y Y ⟨by omega, by omega⟩) (zf (zW Y Y Y ⟨by omega, by omega⟩) (zf (zg Y Y) ?_)))))))))))
      refine zM (zJ (zk (zx (zf (zh Y Y) (zf (zW Y Y Y ⟨by omega, by omega⟩) (zf (zg Y Y) (zM ?_)))))))
      exact ⟨⟨4, by omega⟩, by dsimp only; omega, (by refine zy (mem':=[]) [(0, .pub (eInts m)), (3, wG), (4, I (ckN m 4)), (5, I 4)] ?_ ?_; exact ⟨Y, Y, (congrArg (fun x=>I (10 * ckN m 3 + kP x 3 % 10)) (List.take_length ..)), Y, trivial⟩; exact (Y))⟩
   ·exfalso; simp at h0
  ·dsimp only
   refine zt (zn (zf (zh Y Y) (zf (qx Y Y Y) (zo (zA Y (fun h0=>?_) (fun h0=>?_))))))
   ·refine zH (zk (zt (zF (zn (zf (zg Y Y) (zo (zt (zn ?_))))))))
    refine zf (zg Y Y) (zo (zF ?_))
    refine qm (ι:={ q:Nat // q <= m.length }) (fun q=>⟨Tryz.f74.ntmps, frL [(0, .pub (eInts m)), (3, wG), (4, I (ckN m 4)), (5, I 4), (6, I (kP (m.take q.1) 4)), (7, I (q.1:Int))], []⟩) (fun q=>m.length - q.1) (⟨0, by omega⟩) ?_ ?_
    ·exact zy _ ⟨Y, Y, Y, Y, Y, Y, trivial⟩ (Y)
    ·rintro ⟨q, hq⟩
     dsimp only
     have sb:=zdu (m.take q) 4
     have sl:(m.take q).length <= q:=by simp; omega
     refine zt (zn (zf (zh Y Y) (zf (zI Y Y) (zf (qA Y Y Y Tryz.underlying24) (zf (qx Y Y Y) (zo (zA Y (fun h1=>?_) (fun h1=>?_))))))))
     ·have hlt:q < m.length:=by simpa [eInts] using h1
      have v1:=hm _ (List.getElem_mem hlt)
      have db:=je (n:=m[q]) 0
      have db1:=je (n:=m[q]) 1
      have db2:=je (n:=m[q]) 2
      have db3:=je (n:=m[q]) 3
      have db4:=je (n:=m[q]) 4
      refine zH (zk (zt (zF (zx (zf (zh Y Y) (zf (zI Y Y) (zf (zh Y Y) (zf (zD Y Y Y yR (by omega) (jM hlt) qH) (zf (zl Y Y Y ty3) (zf (zh Y Y) (zf (zB (av:=[_, _]) Y ⟨Y, Y, trivial⟩ (f92 m[q] 4 v1 (by omega))) ?_)))))))))))
      refine zf (zW Y Y Y ⟨by omega, by omega⟩) (zf (zg Y Y) (zM (zJ (zk (zx (zf (zh Y Y) (zf (zW Y Y Y ⟨by omega, by omega⟩) (zf (zg Y Y) (zM ?_)))))))))
      exact ⟨⟨q + 1, by omega⟩, by dsimp only; omega, zy _ ⟨Y, Y, Y, Y, (congrArg (fun x:Int=>I x) (zaS hlt).symm), Y, trivial⟩ (Y)⟩
     ·have hge:m.length <= q:=by simpa [eInts] using h1
      have hk2:q = m.length:=by omega
      subst hk2
      refine qg (zS (zS (qh (zk (zx (zf (zh Y Y) (zf (ya Y Y Y ⟨by omega, by omega⟩) (zf (zh Y Y) (zf (ku Y Y Y ⟨by omega, by omega⟩) (zf (zW Y Y Y ⟨by omega, by omega⟩) (zf (zg Y Y) ?_)))))))))))
      refine zM (zJ (zk (zx (zf (zh Y Y) (zf (zW Y Y Y ⟨by omega, by omega⟩) (zf (zg Y Y) (zM ?_)))))))
      exact ⟨⟨5, by omega⟩, by dsimp only; omega, (by refine zy (mem':=[]) [(0, .pub (eInts m)), (3, wG), (4, I (ckN m 5)), (5, I 5)] ?_ ?_; exact ⟨Y, Y, (congrArg (fun x=>I (10 * ckN m 4 + kP x 4 % 10)) (List.take_length ..)), Y, trivial⟩; exact (Y))⟩
   ·exfalso; simp at h0
  ·dsimp only
   refine zt (zn (zf (zh Y Y) (zf (qx Y Y Y) (zo (zA Y (fun h0=>?_) (fun h0=>?_))))))
   ·exfalso; simp at h0
   ·refine qg (zS (zS (qh (zk (zt (zn (zf (zg Y Y) (zo (zF ?_)))))))))
    refine qY (zaR 3 Y) ?_
    refine qm (ι:={ r:Nat // r <= m.length }) (fun r=>⟨Tryz.f74.ntmps, frL [(0, .pub (eInts m)), (3, .psl 0 r.1), (4, I (ckN m 5)), (8, I (r.1:Int))], [.row ((m.take r.1).map fun n=>[SL (grp n)])]⟩) (fun r=>m.length - r.1) (⟨0, by omega⟩) ?_ ?_
    ·exact zy _ ⟨Y, Y, Y, Y, trivial⟩ (Y)
    ·rintro ⟨r, hr⟩
     dsimp only
     refine zt (zn (zf (zh Y Y) (zf (zI Y Y) (zf (qA Y Y Y Tryz.underlying24) (zf (qx Y Y Y) (zo (zA Y (fun h2=>?_) (fun h2=>?_))))))))
     ·have hlt:r < m.length:=by simpa [eInts] using h2
      have v1:=hm _ (List.getElem_mem hlt)
      refine zH (zk (zt (zF (zx (zf (jq Y Y) (zf (zI Y Y) (zf (zh Y Y) (zf (zD Y Y Y yR (by omega) (jM hlt) qH) (zf (zl Y Y Y ty3) (zf (zB (av:=[_]) Y ⟨Y, trivial⟩ (f94 m[r] v1)) ?_))))))))))
      refine zf (qy (size:=1) (rows:=[[_]]) Y Tryz.underlying81 ti9 Y (by decide) Y (by decide) ⟨_, _, Y, (qU Y), Y⟩ (by rfl) (by simp [ofV]) Y (by simp)) ?_
      refine qL rfl (yJ rfl rfl rfl rfl (by simp; omega) rfl zs6 (by intro r hr; obtain ⟨n, _, rfl⟩:=List.mem_map.1 hr; rfl) (by simp) (by simp; omega) (by unfold maxLen; simp; omega)) ?_
      refine zf (jm Y Y) (zM (zJ (zk (zx (zf (zh Y Y) (zf (zW Y Y Y ⟨by omega, by omega⟩) (zf (zg Y Y) (zM ?_))))))))
      exact ⟨⟨r + 1, by omega⟩, by dsimp only; omega, zy _ ⟨Y, Y, Y, Y, trivial⟩ (congrArg (fun z=>[PO.row z]) (zpB hlt).symm)⟩
     ·have hge:m.length <= r:=by simpa [eInts] using h2
      have hk2:r = m.length:=by omega
      subst hk2
      refine qg (zS (zS (qh (zk (zn (zf (jq Y Y) (zf (zh Y Y) (zf (zB (av:=[_]) Y ⟨Y, trivial⟩ (f94 (ckN m 5) (by omega))) ?_))))))))
      refine zf (qy (size:=1) (rows:=[[_]]) Y Tryz.underlying81 ti9 Y (by decide) Y (by decide) ⟨_, _, Y, (qU Y), Y⟩ (by rfl) (by simp [ofV]) Y (by simp)) ?_
      refine qL rfl (yJ rfl rfl rfl rfl (by simp) rfl zs6 (by intro r hr; obtain ⟨n, _, rfl⟩:=List.mem_map.1 hr; rfl) (by simp) (by simp; omega) (by unfold maxLen; simp; omega)) ?_
      refine zf (jm Y Y) (zo (zN ?_))
      exact ⟨.inr Y, ⟨((zbv m).map fun s=>[eS s]), by show some (PO.row _) = some (PO.row _); simp [zbv, ww, grp, zl2, Function.comp_def], by simp [zbv, ww], Y⟩⟩
theorem zoY {c:Cod} {m:List Int} (h1:wL c = true) (h2:msgB c m = true):∀ n ∈ m, 0 <= n /\ n <= 99999:=fun n hn=>by
 simp only[wL, zLa, Bool.not_eq_true'] at h1
 simp only[msgB, eqF, zLa, decide_eq_true_eq, List.all_eq_true] at h2
 obtain ⟨k, hk, rfl⟩:=List.getElem_of_mem hn
 have hkf:k < c.fields.length:=by omega
 have h3:=h2.2 (m[k], c.fields[k]) (by rw [List.mem_iff_getElem]; exact ⟨k, by simp; omega, by simp⟩)
 have h4:=h1.1.2
 rw [List.any_eq_false] at h4
 have h5:=h4 c.fields[k] (List.getElem_mem _)
 simp only[zgl, Bool.or_eq_true, decide_eq_true_eq, not_or, Int.not_lt] at h5
 simp only[inB_iff] at h3
 omega
theorem zlS {c:Cod} {m:List Int} (h1:wL c = true) (h2:msgB c m = true):∀ n ∈ m, 0 <= n /\ n <= 1000000000000:=fun n hn=>by have:=zoY h1 h2 n hn; omega
theorem zmn (m:List Int):(zbv m).length = m.length + 1:=by simp [zbv, ww]
theorem zg3 {s:ByteArray} {k:Nat} (h:(s.get! k).toNat < 128):Utf8.decode s k = ((s.get! k).toNat, 1):=by
 unfold Utf8.decode
 simp only[Nat.add_zero]
 rw [if_pos h]
theorem zpQ {s:ByteArray} {k:Nat} (h:¬ (s.get! k).toNat < 128):128 <= (Utf8.decode s k).1:=by
 unfold Utf8.decode
 simp only[Nat.add_zero]
 rw [if_neg h]
 split
 ·split
  ·assumption
  ·decide
 ·split
  ·split
   ·rename_i hh; simp only[zLa, decide_eq_true_eq] at hh; omega
   ·decide
  ·split
   ·split
    ·rename_i hh; simp only[zLa, decide_eq_true_eq] at hh; omega
    ·decide
   ·decide
theorem get_at {w:List UInt8} {k:Nat} (h:k < w.length):(⟨w.toArray⟩:ByteArray).get! k = w[k]:=by
 show (w.toArray)[k]! = w[k]
 simp [h]
theorem zm5 {a:Nat} {b:List Tmp} {c:List (EV × Value)} {d:Bool} {p:Nat × Obj} {hs:List (Nat × Obj)} {fr:Nat -> EV} {mem:List PO}:Weak ⟨⟨a, b, c, d, p :: hs⟩, fr, mem⟩ ⟨⟨a, b, c, d, hs⟩, fr, mem⟩:=by
 intro w0 ok0 a w ⟨h0, h1, h2, ok, bs, h3, h4, h5, h6⟩
 exact ⟨h0, ⟨h1.1, fun p hp=>h1.2 p (List.mem_cons_of_mem _ hp)⟩, h2, ok, bs, h3, h4, h5, h6⟩
theorem zny {h:Int -> Bool} (hb:∀ r:Int, 128 <= r -> h r = false) {w:List UInt8} {k:Nat} (hk:k < w.length):h ((Utf8.decode ⟨w.toArray⟩ k).1:Int) = h (w[k].toNat:Int):=by
 by_cases hs:w[k].toNat < 128
 ·rw [zg3 (by rw [get_at hk]; exact hs), get_at hk]
 ·have:=zpQ (s:=⟨w.toArray⟩) (k:=k) (by rw [get_at hk]; exact hs)
  rw [hb _ (by omega), hb _ (by omega)]
theorem zlQ {w:List UInt8} {k:Nat} (hk:k < w.length) (h:w[k].toNat < 128):Utf8.decode ⟨w.toArray⟩ k = (w[k].toNat, 1):=by
 rw [zg3 (by rw [get_at hk]; exact h), get_at hk]
theorem zlT {w:List UInt8} {k:Nat} (hk:k < w.length) (h:w[k].toNat < 128):nxK ⟨w.toArray⟩ k = k + 1:=by
 unfold nxK; rw [if_pos (by simpa [ByteArray.size] using hk), zlQ hk h]
theorem zj4 {h:Int -> Bool} (hb:∀ r:Int, 128 <= r -> h r = false) {b:UInt8} (hh:h (b.toNat:Int) = true):b.toNat < 128:=by
 by_cases hs:b.toNat < 128
 ·exact hs
 ·rw [hb _ (by omega)] at hh; cases hh
def ofB (h:Int -> Bool) (w:List UInt8):Bool:=(w.all fun b=>h (b.toNat:Int)) && decide (w.length = 5)
def zks (r:Int):Bool:=decide (48 <= r) && decide (r <= 57)
def zfC (r:Int):Bool:=decide (r = 63)
def kW (r:Int):Bool:=zks r || zfC r
theorem zqi:∀ r:Int, 128 <= r -> zks r = false:=fun r h=>by simp [zks]; omega
theorem zqP:∀ r:Int, 128 <= r -> zfC r = false:=fun r h=>by simp [zfC]; omega
theorem zl3:∀ r:Int, 128 <= r -> kW r = false:=fun r h=>by simp [kW, zqi r h, zqP r h]
theorem zeh {w:List UInt8} {p:UInt8 -> Bool} {k:Nat} (h:(w.take k).all p = true) (hk:k < w.length) (hp:p w[k] = true):(w.take (k + 1)).all p = true:=yF h hk hp
theorem f124 (r:Int):ACall Tryz.prog G 277 [.v (.int .i32 r)] (.v (.bool (zks r))):=by
 refine zO Tryz.func277 Y (by kernel_rfl) Y ?_
 refine zn (zf (zg Y Y) (zo (zn (zf (zh Y Y) (zf (kG Y Y Y) (zf (zh Y Y) (zC Y (fun hg=>zh Y Y) (zC Y (fun hg=>zbt Y (if_pos hg) Y) ?_))))))))
 refine zf (jg Y Y Y Y) (zf (zg Y Y) (zo (zN ?_)))
 exact ⟨.inr Y, AVle.refl _⟩
theorem f106 (r:Int):ACall Tryz.prog G 278 [.v (.int .i32 r)] (.v (.bool (zfC r))):=by
 refine zO Tryz.func278 Y (by kernel_rfl) Y ?_
 refine zn (zf (zg Y Y) (zo (zn (zf (zh Y Y) (zf (qR Y Y Y) (zf (zg Y Y) (zo ?_)))))))
 refine zN ?_
 exact ⟨.inr Y, AVle.of (by simp [zfC]; rfl)⟩
theorem f151 (r:Int):ACall Tryz.prog G 276 [.v (.int .i32 r)] (.v (.bool (kW r))):=by
 refine zO Tryz.func276 Y (by kernel_rfl) Y ?_
 refine zn (zf (zg Y Y) (zo (zn (zf (zh Y Y) (zf (zB (av:=[_]) Y ⟨Y, trivial⟩ (f124 r)) (zf (zh Y Y) (zC Y (fun hg=>zh Y Y) (zC Y (fun hg=>zB (av:=[_]) Y ⟨((if_pos hg)), trivial⟩ (f106 r)) ?_))))))))
 refine zf (jf Y Y Y Y) (zf (zg Y Y) (zo (zN ?_)))
 exact ⟨.inr Y, AVle.refl _⟩
theorem f103 (w:List UInt8) (h:Int -> Bool) (f:FuncId) (fs cs:List AV) (hb:∀ r:Int, 128 <= r -> h r = false) (hf:∀ r:Int, ACall Tryz.prog G f (fs ++ [.v (.int .i32 r)] ++ cs) (.v (.bool (h r)))):ACall Tryz.prog G 275 [eS w, .fn f fs cs] (.v (.bool (ofB h w))):=by
 have hF:=Lib.hid hf
 clear hf
 refine zO Tryz.func275 Y (by kernel_rfl) Y ?_
 refine zn (zf (zg Y Y) (zo (zt (zn (zf (zh Y Y) ?_)))))
 refine zj2 Y Y Y Y Tryz.underlying9 (fun itb=>?_)
 refine zo (zF ?_)
 refine qm (ι:={ k:Nat // k <= w.length /\ (w.take k).all (fun b=>h (b.toNat:Int)) = true }) (fun k=>⟨⟨Tryz.f275.ntmps, [], [], false, [(itb, .stringIter ⟨w.toArray⟩ k.1)]⟩, frL [(0, SL w), (1, .pub (.fn f fs cs)), (8, itP itb)], []⟩) (fun k=>w.length - k.1) (⟨0, by simp⟩) ?_ ?_
 ·exact zy _ ⟨Y, Y, Y, trivial⟩ (Y)
 ·rintro ⟨k, hk⟩
  dsimp only
  refine zn ?_
  refine zmd Y Y Y Y Y Y ?_
  refine zf (zU Y Y (ztw _ _)) (zo (zt (zA Y (fun h0=>?_) (fun h0=>?_))))
  ·have hlt0:k < (⟨w.toArray⟩:ByteArray).size:=by simpa using h0
   have hlt:k < w.length:=by simpa [ByteArray.size] using hlt0
   have hdk:=zny hb hlt
   refine zH (zk (zF (zn (zf (zU Y Y (zs5 hlt0)) (zf (zg Y Y) (zo (zn (zf (zI Y Y) ?_))))))))
   refine zf (zh Y Y) (zf (vH (av:=[_]) Y Y ⟨Y, trivial⟩ (hF.out _)) (zf (qJ Y Y) (zo (zA Y (fun h1=>?_) (fun h1=>?_)))))
   ·have hno:h (w[k].toNat:Int) = false:=by rw [← hdk]; simpa using h1
    refine zn (zf (zg Y Y) (zo (zN (zZ (zP (zZ (zP ?_)))))))
    exact ⟨.inr Y, AVle.of (by rw [ofB, xB (p:=fun b:UInt8=>h (b.toNat:Int)) hlt hno]; rfl)⟩
   ·have hyes:h (w[k].toNat:Int) = true:=by rw [← hdk]; simpa using h1
    have hlow:=zj4 hb hyes
    have hnx:=zlT hlt hlow
    refine zH (zJ ?_)
    exact ⟨⟨k + 1, by omega, zeh hk.2 hlt hyes⟩, by dsimp only; omega, zfM (congrArg (fun z=>(⟨Tryz.f275.ntmps, [], [], false, [(itb, Obj.stringIter ⟨w.toArray⟩ z)]⟩:NS)) hnx) _ ⟨Y, Y, Y, trivial⟩ Y⟩
  ·have hge:w.length <= k:=by simpa [ByteArray.size] using h0
   refine qg (zS (zS (qh (zk (zn (zf (zh Y Y) (zf (zfi Y Y Tryz.underlying9) (zf (qR Y Y Y) (zf (zg Y Y) (zM ?_))))))))))
   refine zk (zN ?_)
   exact ⟨.inr Y, AVle.of (by rw [List.take_of_length_le hge] at hk; rw [ofB, hk.2, Bool.true_and]; exact congrArg (fun x:Bool=>AV.v (Value.bool x)) (by rw [Bool.eq_iff_iff]; simp; omega))⟩
def hl1 (w:List UInt8):Int:=w.foldl (fun s b=>s + if b.toNat = 63 then 1 else 0) 0
def hlN (l:List (List UInt8)):Int:=l.foldl (fun s w=>s + hl1 w) 0
theorem zgj {w:List UInt8} {k:Nat} (h:k < w.length):hl1 (w.take (k + 1)) = hl1 (w.take k) + if w[k].toNat = 63 then 1 else 0:=by
 unfold hl1; rw [List.take_succ_eq_append_getElem h, List.foldl_append]; rfl
theorem zfj {l:List (List UInt8)} {k:Nat} (h:k < l.length):hlN (l.take (k + 1)) = hlN (l.take k) + hl1 l[k]:=by
 unfold hlN; rw [List.take_succ_eq_append_getElem h, List.foldl_append]; rfl
theorem zkP (w:List UInt8):0 <= hl1 w /\ hl1 w <= w.length:=by
 have key:∀ (w:List UInt8) (t:Int), t <= w.foldl (fun s b=>s + if b.toNat = 63 then 1 else 0) t /\ w.foldl (fun s b=>s + if b.toNat = 63 then 1 else 0) t <= t + w.length:=by
  intro w
  induction w with
  | nil=>intro t; simp
  | cons b w ih=>
   intro t
   have h1:=ih (t + if b.toNat = 63 then 1 else 0)
   simp only[List.foldl_cons, List.length_cons]
   obtain ⟨x, hx⟩:∃ x:Int, (if b.toNat = 63 then (1:Int) else 0) = x:=⟨_, rfl⟩
   have h2:0 <= x /\ x <= 1:=by rw [← hx]; split <;> omega
   rw [hx] at h1 ⊢
   omega
 have:=key w 0
 unfold hl1; omega
theorem zh7 (l:List (List UInt8)) (h:∀ w ∈ l, w.length <= 5):0 <= hlN l /\ hlN l <= 5 * l.length:=by
 have key:∀ (l:List (List UInt8)), (∀ w ∈ l, w.length <= 5) -> ∀ t:Int, t <= l.foldl (fun s w=>s + hl1 w) t /\ l.foldl (fun s w=>s + hl1 w) t <= t + 5 * l.length:=by
  intro l
  induction l with
  | nil=>intro _ t; simp
  | cons w l ih=>
   intro hl t
   have h1:=ih (fun v hv=>hl v (List.mem_cons_of_mem _ hv)) (t + hl1 w)
   have h2:=zkP w
   have h3:=hl w (List.mem_cons_self ..)
   simp only[List.foldl_cons, List.length_cons]
   omega
 have:=key l h 0
 unfold hlN; omega
def vI (c:Cod) (l:List (List UInt8)):Bool:=(l.all fun w=>ofB kW w) && (((l.length:Int) == (c.fields.length:Int) + 1) && decide (hlN l <= 2))
theorem zco {h:Int -> Bool} {w:List UInt8} (hh:ofB h w = true):w.length = 5:=by simp [ofB] at hh; exact hh.2
theorem zkr {h:Int -> Bool} {w:List UInt8} (hh:ofB h w = true) {k:Nat} (hk:k < w.length):h (w[k].toNat:Int) = true:=by
 simp only[ofB, zLa, List.all_eq_true] at hh
 exact hh.1 _ (List.getElem_mem hk)
theorem zci {l:List (List UInt8)} {q:Nat} (h:(l.take q).all (fun w=>ofB kW w) = true):∀ w ∈ l.take q, w.length <= 5:=fun w hw=>by
 rw [List.all_eq_true] at h; have:=zco (h w hw); omega
theorem f118 (c:Cod) (l:List (List UInt8)) (hl:l.length <= 1000) (hc:c.fields.length <= 1000):ACall Tryz.prog G 231 [.agg (eCod c), eStrs l] (.v (.bool (vI c l))):=by
 have hcl:(c.fields.map eSpn).length <= 1000:=by simpa using hc
 refine zO Tryz.func231 Y (by kernel_rfl) Y ?_
 refine zn (zf (ql Y (zQ Y)) (zf (zg Y Y) (zo (zn (zf (zg Y Y) (zo (zt ?_)))))))
 refine zn (zf (zI Y Y) (zf (qA Y Y Y Tryz.underlying81) (zf (zh Y Y) (zo (zF ?_)))))
 refine qm (ι:={ q:Nat // q <= l.length /\ (l.take q).all (fun w=>ofB kW w) = true }) (fun q=>⟨Tryz.f231.ntmps, frL [(2, .pub (.ptr (eCod c))), (1, .pub (eStrs l)), (5, I (hlN (l.take q.1))), (10, .pub (eStrs l)), (11, I (l.length:Int)), (12, I (q.1:Int))], []⟩) (fun q=>l.length - q.1) (⟨0, by simp⟩) ?_ ?_
 ·exact zy _ ⟨Y, Y, Y, Y, (congrArg (fun x:Nat=>I (x:Int)) (List.length_map _)), Y, trivial⟩ (Y)
 ·rintro ⟨q, hq⟩
  dsimp only
  refine zn (zf (qx Y Y Y) (zo (zt (zA Y (fun h0=>?_) (fun h0=>?_)))))
  ·have hlt:q < l.length:=by simpa using h0
   have hln:=zh7 _ (zci hq.2)
   have htl:(l.take q).length = q:=by simp; omega
   refine zH (zk (zt (zF (zn (zf (zD Y Y Y zbs (by omega) (kU hlt) yj) (zf (zl Y Y Y ty9) (zf (zg Y Y) (zo (zt ?_)))))))))
   refine zn (zf (zh Y Y) (zf (zB (av:=[_, _]) Y ⟨Y, Y, trivial⟩ (f103 l[q] kW 276 [] [] zl3 (fun r=>f151 r))) (zf (qJ Y Y) (zo (zA Y (fun h1=>?_) (fun h1=>?_))))))
   ·have hno:ofB kW l[q] = false:=by simpa using h1
    refine zn (zf (zg Y Y) (zo (zN (zP (zZ (zP (zP (zZ (zP ?_)))))))))
    exact ⟨.inr Y, AVle.of (by rw [vI, xB (p:=fun w=>ofB kW w) hlt hno]; rfl)⟩
   ·have hyes:ofB kW l[q] = true:=by simpa using h1
    have hw5:=zco hyes
    refine zH (zk (zn (zf (zh Y Y) ?_)))
    refine zj2 Y Y Y Y Tryz.underlying9 (fun itb=>?_)
    refine zo (zF ?_)
    refine qm (ι:={ k:Nat // k <= l[q].length }) (fun k=>⟨⟨Tryz.f231.ntmps, [], [], false, [(itb, .stringIter ⟨l[q].toArray⟩ k.1)]⟩, frL [(2, .pub (.ptr (eCod c))), (1, .pub (eStrs l)), (5, I (hlN (l.take q) + hl1 (l[q].take k.1))), (10, .pub (eStrs l)), (11, I (l.length:Int)), (12, I (q:Int)), (20, itP itb)], []⟩) (fun k=>l[q].length - k.1) (⟨0, by omega⟩) ?_ ?_
    ·exact zy _ ⟨Y, Y, (congrArg (fun x:Int=>I x) (by simp [hl1])), Y, Y, Y, Y, trivial⟩ (Y)
    ·rintro ⟨k, hk⟩
     dsimp only
     refine zn ?_
     refine zmd Y Y Y Y Y Y ?_
     refine zf (zU Y Y (ztw _ _)) (zo (zt (zA Y (fun h2=>?_) (fun h2=>?_))))
     ·have hlt0:k < (⟨l[q].toArray⟩:ByteArray).size:=by simpa using h2
      have hkl:k < l[q].length:=by simpa [ByteArray.size] using hlt0
      have hat:=zkr hyes hkl
      have hlow:=zj4 zl3 hat
      have hnx:=zlT hkl hlow
      have hdec:=zlQ hkl hlow
      have hst:=zgj hkl
      have hb1:=zkP (l[q].take k)
      have hb2:(l[q].take k).length <= 5:=by simp; omega
      refine zH (zk (zF (zn (zf (zU Y Y (zs5 hlt0)) (zf (zg Y Y) (zo (zn (zf (zh Y Y) ?_))))))))
      refine zf (zB (av:=[_]) Y ⟨Y, trivial⟩ (f106 _)) (zo (zA Y (fun h3=>?_) (fun h3=>?_)))
      ·have h63:l[q][k].toNat = 63:=by have h:=h3; simp only[hdec, zfC] at h; simp at h; omega
       rw [if_pos h63] at hst
       refine zx (zf (zh Y Y) (zf (zW Y Y Y ⟨by omega, by omega⟩) (zf (zg Y Y) (zM (zJ ?_)))))
       exact ⟨⟨k + 1, by omega⟩, by dsimp only; omega, zfM (congrArg (fun z=>(⟨Tryz.f231.ntmps, [], [], false, [(itb, Obj.stringIter ⟨l[q].toArray⟩ z)]⟩:NS)) hnx) _ ⟨Y, Y, (congrArg (fun x:Int=>I x) (by dsimp only; omega)), Y, Y, Y, Y, trivial⟩ Y⟩
      ·have h63:¬ l[q][k].toNat = 63:=by have h:=h3; simp only[hdec, zfC] at h; simp at h; omega
       rw [if_neg h63] at hst
       refine zH (zJ ?_)
       exact ⟨⟨k + 1, by omega⟩, by dsimp only; omega, zfM (congrArg (fun z=>(⟨Tryz.f231.ntmps, [], [], false, [(itb, Obj.stringIter ⟨l[q].toArray⟩ z)]⟩:NS)) hnx) _ ⟨Y, Y, (congrArg (fun x:Int=>I x) (by dsimp only; omega)), Y, Y, Y, Y, trivial⟩ Y⟩
     ·have hge:l[q].length <= k:=by simpa [ByteArray.size] using h2
      have hkk:l[q].take k = l[q]:=List.take_of_length_le hge
      refine qg (zS (zS (qh (zJ (zk ?_)))))
      refine qY zm5 ?_
      refine zx (zf (zW Y Y Y ⟨by omega, by omega⟩) (zf (zh Y Y) (zM ?_)))
      exact ⟨⟨q + 1, by omega, yF hq.2 hlt hyes⟩, by dsimp only; omega, (by refine zy (mem':=[]) _ ?_ ?_; exact ⟨Y, Y, (congrArg (fun x:Int=>I x) (by rw [hkk, zfj hlt])), Y, Y, Y, trivial⟩; exact Y)⟩
  ·have hge:l.length <= q:=by simpa using h0
   have hq2:=hq.2
   have hk2:q = l.length:=by omega
   subst hk2
   have hln:=zh7 _ (zci hq2)
   rw [List.take_length] at hq2 hln
   refine qg (zS (zS (qh (zk (zn (zf (zI Y Y) (zf (qA Y Y Y Tryz.underlying81) (zf (zi Y Y yh) (zf (zl Y Y Y kS) (zf (qA Y Y Y Tryz.underlying23) ?_))))))))))
   refine zf (zW Y Y Y ⟨by omega, by omega⟩) (zf (qR Y Y Y) (zf (zh Y Y) (zC Y (fun hg=>zh Y Y) (zC Y (fun hg=>zbt Y (if_pos hg) Y) (zf (jg Y Y Y Y) (zf (zg Y Y) (zo (zN ?_))))))))
   exact ⟨.inr Y, AVle.of (by rw [vI, hq2, Bool.true_and]; simp [eStrs])⟩
end Wr
end Go.Av
end
