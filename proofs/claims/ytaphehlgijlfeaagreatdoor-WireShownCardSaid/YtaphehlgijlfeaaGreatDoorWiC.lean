import Derived.Test.YtaphehlgijlfeaaGreatDoorWiB
set_option linter.unusedVariables false
set_option linter.unusedSimpArgs false
section
namespace Go.Av
open Go.Proofs
set_option maxRecDepth 100000
set_option maxHeartbeats 1000000
variable {G:Glob}
def chk (m:List Int):G5:=m.foldl (fun s n=>⟨(s.a + (qB n).a) % 10, (s.b + (qB n).b) % 10, (s.c + (qB n).c) % 10, (s.d + (qB n).d) % 10, (s.e + (qB n).e) % 10⟩) ⟨0, 0, 0, 0, 0⟩
def vV (m:List Int):List G5:=m.map qB ++ [chk m]
theorem ti9:Tryz.prog.info? 9 = some Tryz.t9:=by kernel_rfl
theorem yJ:zau Tryz.prog 34 1 = true:=by kernel_rfl
theorem ty9:tyIs Tryz.prog 9 false 1 = true:=by kernel_rfl
def yU (m:List Int) (j:Nat):Int:=m.foldl (fun s n=>s + dig n j) 0
def ckN (m:List Int):Nat -> Int
 | 0=>0
 | j + 1=>10 * ckN m j + yU m j % 10
theorem zq7:∀ (m:List Int) (s:G5) (t:Int), s.a = t % 10 -> (m.foldl (fun s n=>(⟨(s.a + (qB n).a) % 10, (s.b + (qB n).b) % 10, (s.c + (qB n).c) % 10, (s.d + (qB n).d) % 10, (s.e + (qB n).e) % 10⟩:G5)) s).a = (m.foldl (fun s n=>s + dig n 0) t) % 10
 | [], _, _, h=>h
 | n :: m, s, t, h=>zq7 m _ _ (by show (s.a + (qB n).a) % 10 = (t + (qB n).a) % 10; rw [h]; omega)
theorem zqN:∀ (m:List Int) (s:G5) (t:Int), s.b = t % 10 -> (m.foldl (fun s n=>(⟨(s.a + (qB n).a) % 10, (s.b + (qB n).b) % 10, (s.c + (qB n).c) % 10, (s.d + (qB n).d) % 10, (s.e + (qB n).e) % 10⟩:G5)) s).b = (m.foldl (fun s n=>s + dig n 1) t) % 10
 | [], _, _, h=>h
 | n :: m, s, t, h=>zqN m _ _ (by show (s.b + (qB n).b) % 10 = (t + (qB n).b) % 10; rw [h]; omega)
theorem zra:∀ (m:List Int) (s:G5) (t:Int), s.c = t % 10 -> (m.foldl (fun s n=>(⟨(s.a + (qB n).a) % 10, (s.b + (qB n).b) % 10, (s.c + (qB n).c) % 10, (s.d + (qB n).d) % 10, (s.e + (qB n).e) % 10⟩:G5)) s).c = (m.foldl (fun s n=>s + dig n 2) t) % 10
 | [], _, _, h=>h
 | n :: m, s, t, h=>zra m _ _ (by show (s.c + (qB n).c) % 10 = (t + (qB n).c) % 10; rw [h]; omega)
theorem zqQ:∀ (m:List Int) (s:G5) (t:Int), s.d = t % 10 -> (m.foldl (fun s n=>(⟨(s.a + (qB n).a) % 10, (s.b + (qB n).b) % 10, (s.c + (qB n).c) % 10, (s.d + (qB n).d) % 10, (s.e + (qB n).e) % 10⟩:G5)) s).d = (m.foldl (fun s n=>s + dig n 3) t) % 10
 | [], _, _, h=>h
 | n :: m, s, t, h=>zqQ m _ _ (by show (s.d + (qB n).d) % 10 = (t + (qB n).d) % 10; rw [h]; omega)
theorem zqZ:∀ (m:List Int) (s:G5) (t:Int), s.e = t % 10 -> (m.foldl (fun s n=>(⟨(s.a + (qB n).a) % 10, (s.b + (qB n).b) % 10, (s.c + (qB n).c) % 10, (s.d + (qB n).d) % 10, (s.e + (qB n).e) % 10⟩:G5)) s).e = (m.foldl (fun s n=>s + dig n 4) t) % 10
 | [], _, _, h=>h
 | n :: m, s, t, h=>zqZ m _ _ (by show (s.e + (qB n).e) % 10 = (t + (qB n).e) % 10; rw [h]; omega)
theorem zk0 (m:List Int):qB (ckN m 5) = chk m:=by
 have e:qB (ckN m 5) = ⟨yU m 0 % 10, yU m 1 % 10, yU m 2 % 10, yU m 3 % 10, yU m 4 % 10⟩:=by
  simp only[qB, ckN]
  congr 1 <;> omega
 have ha:=zq7 m ⟨0, 0, 0, 0, 0⟩ 0 rfl
 have hb:=zqN m ⟨0, 0, 0, 0, 0⟩ 0 rfl
 have hc:=zra m ⟨0, 0, 0, 0, 0⟩ 0 rfl
 have hd:=zqQ m ⟨0, 0, 0, 0, 0⟩ 0 rfl
 have he:=zqZ m ⟨0, 0, 0, 0, 0⟩ 0 rfl
 rw [e]
 cases hk:chk m
 simp only[chk] at hk
 rw [hk] at ha hb hc hd he
 simp only at ha hb hc hd he
 subst ha; subst hb; subst hc; subst hd; subst he
 rfl
theorem xI {l:List (List UInt8)} {k:Nat} (h:k < l.length):(l.map fun s=>[eS s])[k]? = some [eS l[k]]:=by simp [h]
theorem vZ {l:List (List UInt8)}:∀ q ∈ l.map (fun s=>[eS s]), q.length = 1:=by simp
theorem f21 (c:Cod):ACall Tryz.prog G 21 [.agg (qK c)] (.v (.bool (decide (c.fields.length <= 6) && decide (c.turns.length <= 14)))):=by
 refine zS Tryz.func21 Y (by kernel_rfl) Y ?_
 refine zuy (zh (zE8 (jf Y (zY Y)) (zE8 (zn Y Y) (zo (zf (zuy (zh (zE8 (zu Y Y jS) (zE8 (zA Y Y Y zah) (zE8 (qh Y Y Y Tryz.underlying22) (zE8 (zaq Y Y Y) ?_)))))))))))
 refine zE8 (zi Y Y) (zE9 Y (fun hg=>zu Y Y kU) (zE9 Y (fun hg=>zA Y (if_pos hg) Y jO) (zE9 Y (fun hg=>qh Y Y (if_pos hg) Tryz.underlying23) (zE9 Y (fun hg=>zaq Y (if_pos hg) Y) (zE8 (qI Y Y Y Y) (zE8 (zn Y Y) (zo (zf (zP ?_)))))))))
 exact ⟨.inr Y, AVle.of (by simp only[zO, List.length_map]; exact congrArg (fun x:Bool=>AV.v (Value.bool x)) (congr (congrArg (fun a b:Bool=>a && b) (decide_eq_decide.2 (by omega))) (decide_eq_decide.2 (by omega))))⟩
end Go.Av
end
