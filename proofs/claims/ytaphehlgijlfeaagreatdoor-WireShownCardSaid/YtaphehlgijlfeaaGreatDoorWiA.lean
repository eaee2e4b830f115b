import Derived.Test.YtaphehlgijlfeaaGreatDoorPlatF
import Derived.Test.YtaphehlgijlfeaaGreatDoorPlatE
import Derived.Lib.Hide
import Derived.Test.YtaphehlgijlfeaaGreatDoorChecked
set_option linter.unusedVariables false
set_option linter.unusedSimpArgs false
section
namespace Go.Av
structure Cod where
 fields:List (Int × Int)
 turns:List Int
 most:Int
structure Ent where
 word:List UInt8
 first:Int
 second:Int
structure Lin where
 src:Int
 dst:Int
 price:Int
 wrong:Int
structure Nt where
 offices:Int
 lines:List Lin
structure Trf where
 opn:Int
 free:Int
 more:Int
def ei (n:Int):AV:=.v (.int .i64 n)
def ye (p:Int × Int):List AV:=[.v (.int .i64 p.1), .v (.int .i64 p.2)]
def zO (l:List Int):AV:=.sl (l.map fun n=>[.v (.int .i64 n)])
def jc (l:List (List Int)):AV:=.sl (l.map fun m=>[zO m])
def jD (l:List (List UInt8)):AV:=.sl (l.map fun s=>[eS s])
def qO (l:List (List (List UInt8))):AV:=.sl (l.map fun g=>[jD g])
def qK (c:Cod):List AV:=[.sl (c.fields.map ye), zO c.turns, .v (.int .i64 c.most)]
def zs8 (e:Ent):List AV:=[eS e.word, .v (.int .i64 e.first), .v (.int .i64 e.second)]
def eBk (l:List Ent):AV:=.sl (l.map zs8)
def zs3 (x:Lin):List AV:=[.v (.int .i64 x.src), .v (.int .i64 x.dst), .v (.int .i64 x.price), .v (.int .i64 x.wrong)]
def eNt (n:Nt):List AV:=[.v (.int .i64 n.offices), .sl (n.lines.map zs3)]
def ztk (t:Trf):List AV:=[.v (.int .i64 t.opn), .v (.int .i64 t.free), .v (.int .i64 t.more)]
end Go.Av
end
section
namespace Go.Av
open Go.Proofs
set_option maxRecDepth 100000
set_option maxHeartbeats 1000000
variable {G:Glob}
theorem mixed:Tryz.prog.follows .mixedOrders = true:=by kernel_rfl
theorem zjm:zau Tryz.prog 22 2 = true:=by kernel_rfl
theorem zgj:tyIs Tryz.prog 130 true 2 = true:=by kernel_rfl
theorem jv:zau Tryz.prog 23 1 = true:=by kernel_rfl
theorem ty3:tyIs Tryz.prog 3 false 1 = true:=by kernel_rfl
theorem zaD:fldIs Tryz.prog 130 0 0 = true:=by kernel_rfl
theorem zas:fldIs Tryz.prog 130 1 1 = true:=by kernel_rfl
theorem jS:fldIs Tryz.prog 25 0 0 = true:=by kernel_rfl
theorem zah:tyIs Tryz.prog 22 false 1 = true:=by kernel_rfl
theorem kU:fldIs Tryz.prog 25 1 1 = true:=by kernel_rfl
theorem jO:tyIs Tryz.prog 23 false 1 = true:=by kernel_rfl
theorem jZ:fldIs Tryz.prog 25 2 2 = true:=by kernel_rfl
theorem wH:tyIs Tryz.prog 25 true 3 = true:=by kernel_rfl
theorem zqV:(Tryz.prog.info? 130).bind (·.zero) = some (.agg #[.int .i64 0, .int .i64 0]):=by kernel_rfl
def inB (x lo hi:Int):Bool:=decide (lo <= x) && decide (x <= hi)
theorem zdh {x lo hi:Int}:inB x lo hi = true ↔ lo <= x /\ x <= hi:=by simp [inB]
theorem zeT {l:List (Int × Int)} {k:Nat} (h:k < l.length):(l.map ye)[k]? = some (ye l[k]):=by simp [h]
theorem x9 {l:List (Int × Int)}:∀ q ∈ l.map ye, q.length = 2:=fun q hq=>by obtain ⟨p, _, rfl⟩:=List.mem_map.1 hq; rfl
theorem wu {l:List Int} {k:Nat} (h:k < l.length):(l.map fun n=>[AV.v (.int .i64 n)])[k]? = some [.v (.int .i64 l[k])]:=by simp [h]
theorem jC {l:List Int}:∀ q ∈ l.map (fun n=>[AV.v (.int .i64 n)]), q.length = 1:=by simp
def ixF {α:Type} (h:α -> Bool) (l:List α):Int:=match l.findIdx? h with
 | some k=>(k:Int)
 | none=>-1
theorem zkQ {α:Type} {h:α -> Bool} {l:List α} {k:Nat} (hk:k < l.length) (h0:(l.take k).any h = false) (h1:h l[k] = true):ixF h l = (k:Int):=by
 have:l.findIdx? h = some k:=by
  rw [List.findIdx?_eq_some_iff_getElem]
  refine ⟨hk, h1, fun j hj=>?_⟩
  rw [List.any_eq_false] at h0
  have:=h0 l[j] (by rw [List.mem_take_iff_getElem]; exact ⟨j, by omega, rfl⟩)
  simpa using this
 simp [ixF, this]
theorem zhC {α:Type} {h:α -> Bool} {l:List α} (h0:l.any h = false):ixF h l = -1:=by
 have:l.findIdx? h = none:=by
  rw [List.findIdx?_eq_none_iff]
  intro x hx
  rw [List.any_eq_false] at h0
  simpa using h0 x hx
 simp [ixF, this]
theorem zhj {α:Type} (h:α -> Bool) (l:List α):decide (0 <= ixF h l) = l.any h:=by
 cases ha:l.any h with
 | false=>rw [zhC ha]; rfl
 | true=>
  cases hf:l.findIdx? h with
  | some k=>simp only[ixF, hf]; simp
  | none=>
   rw [List.findIdx?_eq_none_iff] at hf
   rw [List.any_eq_true] at ha
   obtain ⟨x, hx, hh⟩:=ha
   rw [hf x hx] at hh; cases hh
theorem zaE {α:Type} {l:List α} {h:α -> Bool} {k:Nat} (h0:(l.take k).any h = false) (hk:k < l.length) (h1:h l[k] = false):(l.take (k + 1)).any h = false:=by
 rw [List.take_succ_eq_append_getElem hk, List.any_append, h0]; simp [h1]
theorem xQ {α:Type} {p:α -> Bool} {l:List α} {k:Nat} (h:(l.take k).all p = true) (hk:k < l.length) (hp:p l[k] = true):(l.take (k + 1)).all p = true:=by
 rw [List.take_succ_eq_append_getElem hk, List.all_append, h]; simp [hp]
theorem zaW {α:Type} {p:α -> Bool} {l:List α} {k:Nat} (hk:k < l.length) (hp:p l[k] = false):l.all p = false:=by
 rw [List.all_eq_false]; exact ⟨l[k], List.getElem_mem hk, by simp [hp]⟩
def zg4 (p:Int × Int):Bool:=decide (p.1 < 0) || decide (p.2 < p.1) || decide (99999 < p.2)
def zhq (n:Int):Bool:=!inB n 0 1023
def jA (c:Cod):Bool:=inB (c.fields.length:Int) 1 3 && ((c.turns.length:Int) == 10) && inB c.most 0 2 && !(c.fields.any zg4) && !(c.turns.any zhq)
def eqF {α β:Type} (h:α -> β -> Bool) (l:List α) (s:List β):Bool:=decide (l.length = s.length) && (l.zip s).all fun p=>h p.1 p.2
def wS (c:Cod) (m:List Int):Bool:=eqF (fun n p=>inB n p.1 p.2) m c.fields
theorem f107 (x lo hi:Int):ACall Tryz.prog G 107 [.v (.int .i64 x), .v (.int .i64 lo), .v (.int .i64 hi)] (.v (.bool (inB x lo hi))):=by
 refine zS Tryz.func107 Y (by kernel_rfl) Y ?_
 refine zuy (zh (zE8 (zn Y Y) (zo (zf (zuy (zh (zE8 (zi Y Y) (zE8 (zi Y Y) (zE8 (zbe Y Y Y) (zE8 (zi Y Y) (zE9 Y (fun hg=>zi Y Y) ?_)))))))))))
 refine zE9 Y (fun hg=>zi Y Y) (zE9 Y (fun hg=>zaq Y (if_pos hg) (if_pos hg)) (zE8 (qI Y Y Y Y) (zE8 (zn Y Y) (zo (zf (zP ?_))))))
 exact ⟨.inr Y, AVle.refl _⟩
theorem f93 (x lo hi:Int):ACall Tryz.prog G 93 [.v (.int .i64 x), .v (.int .i64 lo), .v (.int .i64 hi)] (.v (.bool (inB x lo hi))):=by
 refine zS Tryz.func93 Y (by kernel_rfl) Y ?_
 refine zuy (zh (zE8 (zn Y Y) (zo (zf (zuy (zh (zE8 (zi Y Y) (zE8 (zi Y Y) (zE8 (zbe Y Y Y) (zE8 (zi Y Y) (zE9 Y (fun hg=>zi Y Y) ?_)))))))))))
 refine zE9 Y (fun hg=>zi Y Y) (zE9 Y (fun hg=>zaq Y (if_pos hg) (if_pos hg)) (zE8 (qI Y Y Y Y) (zE8 (zn Y Y) (zo (zf (zP ?_))))))
 exact ⟨.inr Y, AVle.refl _⟩
theorem f171 (l:List (Int × Int)) (h:(Int × Int) -> Bool) (f:FuncId) (fs cs:List AV) (hl:l.length <= 1000) (hf:∀ n ∈ l, ACall Tryz.prog G f (fs ++ [.agg (ye n)] ++ cs) (.v (.bool (h n)))):ACall Tryz.prog G 171 [.sl (l.map ye), .fn f fs cs] (.v (.int .i64 (ixF h l))):=by
 have hF:=Lib.hid hf
 clear hf
 refine zS Tryz.func171 Y (by kernel_rfl) Y ?_
 refine zuy (zh (zE8 (zn Y Y) (zo (zf (zuy (zuy (zh (zE8 (zq Y Y) (zE8 (qh Y Y Y Tryz.underlying22) (zE8 (zi Y Y) (zo ?_)))))))))))
 refine zf (zB ?_)
 refine qy (ι:={ k:Nat // k <= l.length /\ (l.take k).any h = false }) (fun k=>⟨Tryz.f171.ntmps, frL [(0, .pub (.sl (l.map ye))), (1, .pub (.fn f fs cs)), (7, I (l.length:Int)), (8, I (k.1:Int))], []⟩) (fun k=>l.length - k.1) (⟨0, by simp⟩) ?_ ?_
 ·
  exact zt _ ⟨Y, Y, (congrArg (fun x:Nat=>I (x:Int)) (List.length_map _)), Y, trivial⟩ (Y)
 ·
  rintro ⟨k, hk⟩
  dsimp only
  refine zuy (zh (zE8 (qi Y Y Y) (zo (zf (zuy (zx Y (fun h0=>?_) (fun h0=>?_)))))))
  ·
   have hlt:k < l.length:=by simpa using h0
   refine zC (zf (zuy (zB (zuy (zh (zE8 (zi Y Y) (zE8 (zn Y Y) (zo (zf (zuy (zh ?_)))))))))))
   refine zE8 (zq Y Y) (zE8 (zq Y Y) (zE8 (zi Y Y) (zE8 (zG Y Y Y zjm (by omega) (zeT hlt) x9) (zE8 (zZ Y Y zgj (by exact zLb Y)) (zE8 (zbX (av:=[_]) Y Y ⟨Y, trivial⟩ (hF.out _ (List.getElem_mem hlt))) (zo (zf (zx Y (fun h1=>?_) (fun h1=>?_)))))))))
   ·
    refine zuy (zh (zE8 (zi Y Y) (zE8 (zn Y Y) (zo (zf (zP (qF (zQ (zQ (qF (zQ ?_)))))))))))
    exact ⟨.inr Y, AVle.of (by rw [zkQ hlt hk.2 h1])⟩
   ·
    refine zC (zD (zf (zh (zE8 (zV Y Y Y ⟨(by omega), (by omega)⟩) (zE8 (zi Y Y) (zo ?_))))))
    exact ⟨⟨k + 1, by omega, zaE hk.2 hlt h1⟩, by dsimp only; omega, zt _ ⟨Y, Y, Y, Y, trivial⟩ (Y)⟩
  ·
   have hge:l.length <= k:=by simpa using h0
   refine qp (zL (zL (qw (zf (zuy (zh (zE8 (zn Y Y) (zo (zf (zP ?_))))))))))
   exact ⟨.inr Y, AVle.of (by rw [List.take_of_length_le hge] at hk; rw [zhC hk.2])⟩
theorem f145 (l:List (Int × Int)) (h:(Int × Int) -> Bool) (f:FuncId) (fs cs:List AV) (hl:l.length <= 1000) (hf:∀ n ∈ l, ACall Tryz.prog G f (fs ++ [.agg (ye n)] ++ cs) (.v (.bool (h n)))):ACall Tryz.prog G 145 [.sl (l.map ye), .fn f fs cs] (.v (.bool (l.any h))):=by
 refine zS Tryz.func145 Y (by kernel_rfl) Y ?_
 refine zuy (zh (zE8 (zn Y Y) (zo (zf (zuy (zh (zE8 (zq Y Y) (zE8 (zq Y Y) (zE8 (zy (av:=[_, _]) Y ⟨Y, Y, trivial⟩ (f171 l h f fs cs hl hf)) (zE8 (zbe Y Y Y) (zE8 (zn Y Y) ?_)))))))))))
 refine zo (zf (zP ?_))
 exact ⟨.inr Y, AVle.of (by rw [← zhj h l])⟩
theorem f172 (l:List Int) (h:Int -> Bool) (f:FuncId) (fs cs:List AV) (hl:l.length <= 1000) (hf:∀ n ∈ l, ACall Tryz.prog G f (fs ++ [.v (.int .i64 n)] ++ cs) (.v (.bool (h n)))):ACall Tryz.prog G 172 [zO l, .fn f fs cs] (.v (.int .i64 (ixF h l))):=by
 have hF:=Lib.hid hf
 clear hf
 refine zS Tryz.func172 Y (by kernel_rfl) Y ?_
 refine zuy (zh (zE8 (zn Y Y) (zo (zf (zuy (zuy (zh (zE8 (zq Y Y) (zE8 (qh Y Y Y Tryz.underlying23) (zE8 (zi Y Y) (zo ?_)))))))))))
 refine zf (zB ?_)
 refine qy (ι:={ k:Nat // k <= l.length /\ (l.take k).any h = false }) (fun k=>⟨Tryz.f172.ntmps, frL [(0, .pub (zO l)), (1, .pub (.fn f fs cs)), (7, I (l.length:Int)), (8, I (k.1:Int))], []⟩) (fun k=>l.length - k.1) (⟨0, by simp⟩) ?_ ?_
 ·
  exact zt _ ⟨Y, Y, (congrArg (fun x:Nat=>I (x:Int)) (List.length_map _)), Y, trivial⟩ (Y)
 ·
  rintro ⟨k, hk⟩
  dsimp only
  refine zuy (zh (zE8 (qi Y Y Y) (zo (zf (zuy (zx Y (fun h0=>?_) (fun h0=>?_)))))))
  ·
   have hlt:k < l.length:=by simpa using h0
   refine zC (zf (zuy (zB (zuy (zh (zE8 (zi Y Y) (zE8 (zn Y Y) (zo (zf (zuy (zh ?_)))))))))))
   refine zE8 (zq Y Y) (zE8 (zq Y Y) (zE8 (zi Y Y) (zE8 (zG Y Y Y jv (by omega) (wu hlt) jC) (zE8 (zA Y Y Y ty3) (zE8 (zbX (av:=[_]) Y Y ⟨Y, trivial⟩ (hF.out _ (List.getElem_mem hlt))) (zo (zf (zx Y (fun h1=>?_) (fun h1=>?_)))))))))
   ·
    refine zuy (zh (zE8 (zi Y Y) (zE8 (zn Y Y) (zo (zf (zP (qF (zQ (zQ (qF (zQ ?_)))))))))))
    exact ⟨.inr Y, AVle.of (by rw [zkQ hlt hk.2 h1])⟩
   ·
    refine zC (zD (zf (zh (zE8 (zV Y Y Y ⟨(by omega), (by omega)⟩) (zE8 (zi Y Y) (zo ?_))))))
    exact ⟨⟨k + 1, by omega, zaE hk.2 hlt h1⟩, by dsimp only; omega, zt _ ⟨Y, Y, Y, Y, trivial⟩ (Y)⟩
  ·
   have hge:l.length <= k:=by simpa using h0
   refine qp (zL (zL (qw (zf (zuy (zh (zE8 (zn Y Y) (zo (zf (zP ?_))))))))))
   exact ⟨.inr Y, AVle.of (by rw [List.take_of_length_le hge] at hk; rw [zhC hk.2])⟩
theorem f147 (l:List Int) (h:Int -> Bool) (f:FuncId) (fs cs:List AV) (hl:l.length <= 1000) (hf:∀ n ∈ l, ACall Tryz.prog G f (fs ++ [.v (.int .i64 n)] ++ cs) (.v (.bool (h n)))):ACall Tryz.prog G 147 [zO l, .fn f fs cs] (.v (.bool (l.any h))):=by
 refine zS Tryz.func147 Y (by kernel_rfl) Y ?_
 refine zuy (zh (zE8 (zn Y Y) (zo (zf (zuy (zh (zE8 (zq Y Y) (zE8 (zq Y Y) (zE8 (zy (av:=[_, _]) Y ⟨Y, Y, trivial⟩ (f172 l h f fs cs hl hf)) (zE8 (zbe Y Y Y) (zE8 (zn Y Y) ?_)))))))))))
 refine zo (zf (zP ?_))
 exact ⟨.inr Y, AVle.of (by rw [← zhj h l])⟩
theorem f146 (p:Int × Int):ACall Tryz.prog G 146 [.agg (ye p)] (.v (.bool (zg4 p))):=by
 refine zS Tryz.func146 Y (by kernel_rfl) Y ?_
 refine zuy (zh (zE8 (jf Y (zY Y)) (zE8 (zn Y Y) (zo (zf (zuy (zh (zE8 (zu Y Y zaD) (zE8 (zA Y Y Y ty3) (zE8 (qi Y Y Y) (zE8 (zi Y Y) ?_)))))))))))
 refine zE9 Y (fun hg=>zu Y Y zaD) (zE9 Y (fun hg=>zA Y (if_pos hg) Y ty3) (zE9 Y (fun hg=>zu Y Y zas) (zE9 Y (fun hg=>zA Y (if_pos hg) Y ty3) (zE9 Y (fun hg=>qR Y (if_pos hg) (if_pos hg)) (zE8 (qU Y Y Y Y) (zE8 (zi Y Y) (zE9 Y (fun hg=>zu Y Y zas) (zE9 Y (fun hg=>zA Y (if_pos hg) Y ty3) (zE9 Y (fun hg=>qR Y (if_pos hg) Y) (zE8 (qU Y Y Y Y) (zE8 (zn Y Y) ?_)))))))))))
 refine zo (zf (zP ?_))
 exact ⟨.inr Y, AVle.refl _⟩
theorem f148 (n:Int):ACall Tryz.prog G 148 [.v (.int .i64 n)] (.v (.bool (zhq n))):=by
 refine zS Tryz.func148 Y (by kernel_rfl) Y ?_
 refine zuy (zh (zE8 (zn Y Y) (zo (zf (zuy (zh (zE8 (zi Y Y) (zE8 (zy (av:=[_, _, _]) Y ⟨Y, Y, Y, trivial⟩ (f107 _ _ _)) (zE8 (je Y Y) (zE8 (zn Y Y) (zo ?_)))))))))))
 refine zf (zP ?_)
 exact ⟨.inr Y, AVle.refl _⟩
theorem f116 (c:Cod) (hc:c.fields.length <= 1000 /\ c.turns.length <= 1000):ACall Tryz.prog G 116 [.agg (qK c)] (.v (.bool (jA c))):=by
 refine zS Tryz.func116 Y (by kernel_rfl) Y ?_
 refine zuy (zh (zE8 (jf Y (zY Y)) (zE8 (zn Y Y) (zo (zf (zuy (zh (zE8 (zu Y Y jS) (zE8 (zA Y Y Y zah) (zE8 (qh Y Y Y Tryz.underlying22) (zE8 (zy (av:=[_, _, _]) Y ⟨Y, Y, Y, trivial⟩ (f107 _ _ _)) ?_)))))))))))
 refine zE8 (zi Y Y) (zE9 Y (fun hg=>zu Y Y kU) (zE9 Y (fun hg=>zA Y (if_pos hg) Y jO) (zE9 Y (fun hg=>qh Y Y (if_pos hg) Tryz.underlying23) (zE9 Y (fun hg=>qJ Y (if_pos hg) Y) (zE8 (qI Y Y Y Y) (zE8 (zi Y Y) (zE9 Y (fun hg=>zu Y Y jZ) (zE9 Y (fun hg=>zA Y (if_pos hg) Y ty3) (zE9 Y (fun hg=>zy (av:=[_, _, _]) Y ⟨((if_pos hg)), Y, Y, trivial⟩ (f107 _ _ _)) (zE8 (qI Y Y Y Y) (zE8 (zi Y Y) ?_)))))))))))
 refine zE9 Y (fun hg=>zu Y Y jS) (zE9 Y (fun hg=>zA Y (if_pos hg) Y zah) (zE9 Y (fun hg=>zy (av:=[_, _]) Y ⟨((if_pos hg)), Y, trivial⟩ (f145 c.fields zg4 146 [] [] hc.1 (fun p _=>f146 p))) (zE9 Y (fun hg=>je Y (if_pos hg)) (zE8 (qI Y Y Y Y) (zE8 (zi Y Y) (zE9 Y (fun hg=>zu Y Y kU) (zE9 Y (fun hg=>zA Y (if_pos hg) Y jO) (zE9 Y (fun hg=>zy (av:=[_, _]) Y ⟨((if_pos hg)), Y, trivial⟩ (f147 c.turns zhq 148 [] [] hc.2 (fun n _=>f148 n))) (zE9 Y (fun hg=>je Y (if_pos hg)) (zE8 (qI Y Y Y Y) (zE8 (zn Y Y) ?_)))))))))))
 refine zo (zf (zP ?_))
 exact ⟨.inr Y, AVle.of (by simp [jA, zO])⟩
theorem f150 (n:Int) (p:Int × Int):ACall Tryz.prog G 150 [.v (.int .i64 n), .agg (ye p)] (.v (.bool (inB n p.1 p.2))):=by
 refine zS Tryz.func150 Y (by kernel_rfl) Y ?_
 refine zuy (zh (zE8 (jf Y (zY Y)) (zE8 (zn Y Y) (zo (zf (zuy (zh (zE8 (zi Y Y) (zE8 (zu Y Y zaD) (zE8 (zA Y Y Y ty3) (zE8 (zu Y Y zas) ?_)))))))))))
 refine zE8 (zA Y Y Y ty3) (zE8 (zy (av:=[_, _, _]) Y ⟨Y, Y, Y, trivial⟩ (f107 _ _ _)) (zE8 (zn Y Y) (zo (zf (zP ?_)))))
 exact ⟨.inr Y, AVle.refl _⟩
theorem zdk {l:List Int} {s:List (Int × Int)} {h:Int -> Int × Int -> Bool} {k:Nat} (h0:((l.zip s).take k).all (fun p=>h p.1 p.2) = true) (hk:k < l.length) (hs:k < s.length) (h1:h l[k] s[k] = true):((l.zip s).take (k + 1)).all (fun p=>h p.1 p.2) = true:=
 xQ h0 (by simp; omega) (by simp [h1])
theorem ze4 {l:List Int} {s:List (Int × Int)} {h:Int -> Int × Int -> Bool} {k:Nat} (hk:k < l.length) (hs:k < s.length) (h1:h l[k] s[k] = false):(l.zip s).all (fun p=>h p.1 p.2) = false:=
 zaW (k:=k) (by simp; omega) (by simp [h1])
theorem f149 (l:List Int) (s:List (Int × Int)) (h:Int -> Int × Int -> Bool) (f:FuncId) (fs cs:List AV) (hl:l.length <= 1000) (hf:∀ n p, ACall Tryz.prog G f (fs ++ [.v (.int .i64 n), .agg (ye p)] ++ cs) (.v (.bool (h n p)))):ACall Tryz.prog G 149 [zO l, .sl (s.map ye), .fn f fs cs] (.v (.bool (eqF h l s))):=by
 have hF:=Lib.hid hf
 clear hf
 refine zS Tryz.func149 Y (by kernel_rfl) Y ?_
 refine zuy (zh (zE8 (zn Y Y) (zo (zf (zuy (zuy (zh (zE8 (zq Y Y) (zE8 (qh Y Y Y Tryz.underlying23) (zE8 (zq Y Y) (zE8 (qh Y Y Y Tryz.underlying22) ?_)))))))))))
 refine zE8 (vg Y Y Y) (zo (zf (zx Y (fun h0=>?_) (fun h0=>?_))))
 ·
  have hne:l.length ≠ s.length:=by simp [zO] at h0; omega
  refine zuy (zh (zE8 (zn Y Y) (zo (zf (zP (zQ ?_))))))
  exact ⟨.inr Y, AVle.of (by simp [eqF, hne])⟩
 ·
  have hle:l.length = s.length:=by simp [zO] at h0; omega
  refine zC (zf (zuy (zuy (zh (zE8 (zq Y Y) (zE8 (qh Y Y Y Tryz.underlying23) (zE8 (zi Y Y) (zo (zf (zB ?_))))))))))
  refine qy (ι:={ k:Nat // k <= l.length /\ ((l.zip s).take k).all (fun p=>h p.1 p.2) = true }) (fun k=>⟨Tryz.f149.ntmps, frL [(1, .pub (.sl (s.map ye))), (2, .pub (.fn f fs cs)), (15, .pub (zO l)), (16, I (l.length:Int)), (17, I (k.1:Int))], []⟩) (fun k=>l.length - k.1) (⟨0, by simp⟩) ?_ ?_
  ·
   exact zt _ ⟨Y, Y, Y, (congrArg (fun x:Nat=>I (x:Int)) (List.length_map _)), Y, trivial⟩ (Y)
  ·
   rintro ⟨k, hk⟩
   dsimp only
   refine zuy (zh (zE8 (qi Y Y Y) (zo (zf (zuy (zx Y (fun h1=>?_) (fun h1=>?_)))))))
   ·
    have hlt:k < l.length:=by simpa using h1
    have hls:k < s.length:=by omega
    refine zC (zf (zuy (zB (zuy (zh (zE8 (zi Y Y) (zE8 (zG Y Y Y jv (by omega) (wu hlt) jC) (zE8 (zA Y Y Y ty3) (zE8 (zn Y Y) (zE8 (zn Y Y) (zo ?_)))))))))))
    refine zf (zuy (zh (zE8 (zq Y Y) (zE8 (zi Y Y) (zE8 (zG Y Y Y zjm (by omega) (zeT hls) x9) (zE8 (zZ Y Y zgj (by exact zLb Y)) ?_))))))
    refine vI  Y Y Y Y Y Y Y zqV zgj Y (by rfl) (zY Y) Y ?_
    refine zo (zf (zuy (zh (zE8 (zq Y Y) (zE8 (zi Y Y) (zE8 (zZ Y Y zgj (by exact zLb Y)) (zE8 (zbX (av:=[_, _]) Y Y ⟨Y, Y, trivial⟩ (hF.out _ _)) (zE8 (je Y Y) (zo (zf (zx Y (fun h2=>?_) (fun h2=>?_))))))))))))
    ·
     have hb:h l[k] s[k] = false:=by simpa using h2
     refine zuy (zh (zE8 (zn Y Y) (zo (zf (zP (qF (zQ (zQ (qF (zQ ?_))))))))))
     exact ⟨.inr Y, AVle.of (by simp only[eqF, hle, decide_true, Bool.true_and, ze4 hlt hls hb])⟩
    ·
     have hb:h l[k] s[k] = true:=by simpa using h2
     refine zC (zD (zf (zh (zE8 (zV Y Y Y ⟨(by omega), (by omega)⟩) (zE8 (zi Y Y) (zo ?_))))))
     exact ⟨⟨k + 1, by omega, zdk hk.2 hlt hls hb⟩, by dsimp only; omega, zt _ ⟨Y, Y, Y, Y, Y, trivial⟩ (Y)⟩
   ·
    have hge:l.length <= k:=by simpa using h1
    refine qp (zL (zL (qw (zf (zuy (zh (zE8 (zn Y Y) (zo (zf (zP ?_))))))))))
    exact ⟨.inr Y, AVle.of (by rw [List.take_of_length_le (by simp; omega)] at hk; simp only[eqF, hle, decide_true, Bool.true_and, hk.2])⟩
theorem f117 (c:Cod) (m:List Int) (hm:m.length <= 1000):ACall Tryz.prog G 117 [.agg (qK c), zO m] (.v (.bool (wS c m))):=by
 refine zS Tryz.func117 Y (by kernel_rfl) Y ?_
 refine zuy (zh (zE8 (jf Y (zY Y)) (zE8 (zn Y Y) (zo (zf (zuy (zh (zE8 (zq Y Y) (zE8 (zu Y Y jS) (zE8 (zA Y Y Y zah) (zE8 (zy (av:=[_, _, _]) Y ⟨Y, Y, Y, trivial⟩ (f149 m c.fields (fun n p=>inB n p.1 p.2) 150 [] [] hm (fun n p=>f150 n p))) ?_)))))))))))
 refine zE8 (zn Y Y) (zo (zf (zP ?_)))
 exact ⟨.inr Y, AVle.refl _⟩
theorem f31 (c:Cod) (hc:c.fields.length <= 1000 /\ c.turns.length <= 1000):ACall Tryz.prog G 31 [.agg (qK c)] (.v (.bool (jA c))):=by
 refine zS Tryz.func31 Y (by kernel_rfl) Y ?_
 refine zuy (zh (zE8 (jf Y (zY Y)) (zE8 (zn Y Y) (zo (zf (zuy (zuy (zh (zE8 (zn Y Y) (zo (zf ?_)))))))))))
 refine zB ?_
 refine qy (ι:={ k:Nat // k <= c.fields.length /\ (c.fields.take k).any zg4 = false }) (fun k=>⟨Tryz.f31.ntmps, frL [(1, .pub (.ptr (qK c))), (3, I (k.1:Int))], []⟩) (fun k=>c.fields.length - k.1) (⟨0, by simp⟩) ?_ ?_
 ·
  exact zt _ ⟨Y, Y, trivial⟩ (Y)
 ·
  rintro ⟨k, hk⟩
  dsimp only
  refine zuy (zuy (zh (zE8 (zi Y Y) (zE8 (zu Y Y jS) (zE8 (zA Y Y Y zah) (zE8 (qh Y Y Y Tryz.underlying22) (zE8 (qi Y Y Y) (zo (zf (zx Y (fun h0=>?_) (fun h0=>?_)))))))))))
  ·
   have hlt:k < c.fields.length:=by simpa using h0
   refine zC (zf (zuy (zB (zuy (zh (zE8 (zu Y Y jS) (zE8 (zA Y Y Y zah) (zE8 (zi Y Y) (zE8 (zG Y Y Y zjm (by omega) (zeT hlt) x9) (zE8 (zZ Y Y zgj (by exact zLb Y)) ?_))))))))))
   refine vI  Y Y Y Y Y Y Y zqV zgj Y (by rfl) (zY Y) Y ?_
   refine zo (zf (zuy (zh (zE8 (zu Y Y zaD) (zE8 (zA Y Y Y ty3) (zE8 (qi Y Y Y) (zE8 (zi Y Y) (zE9 Y (fun hg=>zu Y Y zaD) (zE9 Y (fun hg=>zA Y (if_pos hg) Y ty3) (zE9 Y (fun hg=>zu Y Y zas) (zE9 Y (fun hg=>zA Y (if_pos hg) Y ty3) ?_)))))))))))
   refine zE9 Y (fun hg=>qR Y (if_pos hg) (if_pos hg)) (zE8 (qU Y Y Y Y) (zE8 (zi Y Y) (zE9 Y (fun hg=>zu Y Y zas) (zE9 Y (fun hg=>zA Y (if_pos hg) Y ty3) (zE9 Y (fun hg=>qR Y (if_pos hg) Y) (zE8 (qU Y Y Y Y) (zo (zf (zx Y (fun h1=>?_) (fun h1=>?_))))))))))
   ·
    have hb:zg4 c.fields[k] = true:=by simp [zg4] at h1 ⊢; omega
    refine zuy (zh (zE8 (zn Y Y) (zo (zf (zP (qF (zQ (zQ (qF (zQ ?_))))))))))
    exact ⟨.inr Y, AVle.of (by simp only[jA, List.any_eq_true.2 ⟨_, List.getElem_mem hlt, hb⟩, Bool.not_true, Bool.and_false, Bool.false_and])⟩
   ·
    have hb:zg4 c.fields[k] = false:=by simp [zg4] at h1 ⊢; omega
    refine zC (zD (zf (zh (zE8 (zi Y Y) (zE8 (zV Y Y Y ⟨(by omega), (by omega)⟩) (zE8 (zn Y Y) (zo ?_)))))))
    exact ⟨⟨k + 1, by omega, zaE hk.2 hlt hb⟩, by dsimp only; omega, zt _ ⟨Y, Y, trivial⟩ (Y)⟩
  ·
   have hge:c.fields.length <= k:=by simpa using h0
   refine qp (zL (zL (qw (zf (zuy (zuy (zh (zE8 (zn Y Y) (zo (zf (zB ?_)))))))))))
   refine qy (ι:={ j:Nat // j <= c.turns.length /\ (c.turns.take j).any zhq = false }) (fun j=>⟨Tryz.f31.ntmps, frL [(1, .pub (.ptr (qK c))), (5, I (j.1:Int))], []⟩) (fun j=>c.turns.length - j.1) (⟨0, by simp⟩) ?_ ?_
   ·
    exact zt _ ⟨Y, Y, trivial⟩ (Y)
   ·
    rintro ⟨j, hj⟩
    dsimp only
    refine zuy (zuy (zh (zE8 (zi Y Y) (zE8 (zu Y Y kU) (zE8 (zA Y Y Y jO) (zE8 (qh Y Y Y Tryz.underlying23) (zE8 (qi Y Y Y) (zo (zf (zx Y (fun h2=>?_) (fun h2=>?_)))))))))))
    ·
     have hlt2:j < c.turns.length:=by simpa [zO] using h2
     refine zC (zf (zuy (zB (zuy (zh (zE8 (zu Y Y kU) (zE8 (zA Y Y Y jO) (zE8 (zi Y Y) (zE8 (zG Y Y Y jv (by omega) (wu hlt2) jC) (zE8 (zA Y Y Y ty3) (zE8 (zy (av:=[_, _, _]) Y ⟨Y, Y, Y, trivial⟩ (f93 _ _ _)) ?_)))))))))))
     refine zE8 (je Y Y) (zo (zf (zx Y (fun h3=>?_) (fun h3=>?_))))
     ·
      have hb2:zhq c.turns[j] = true:=by simpa [zhq] using h3
      refine zuy (zh (zE8 (zn Y Y) (zo (zf (zP (qF (zQ (zQ (qF (zQ ?_))))))))))
      exact ⟨.inr Y, AVle.of (by simp only[jA, List.any_eq_true.2 ⟨_, List.getElem_mem hlt2, hb2⟩, Bool.not_true, Bool.and_false])⟩
     ·
      have hb2:zhq c.turns[j] = false:=by simpa [zhq] using h3
      refine zC (zD (zf (zh (zE8 (zi Y Y) (zE8 (zV Y Y Y ⟨(by omega), (by omega)⟩) (zE8 (zn Y Y) (zo ?_)))))))
      exact ⟨⟨j + 1, by omega, zaE hj.2 hlt2 hb2⟩, by dsimp only; omega, zt _ ⟨Y, Y, trivial⟩ (Y)⟩
    ·
     have hge2:c.turns.length <= j:=by simpa [zO] using h2
     refine qp (zL (zL (qw (zf (zuy (zh (zE8 (zu Y Y jS) (zE8 (zA Y Y Y zah) (zE8 (qh Y Y Y Tryz.underlying22) (zE8 (zy (av:=[_, _, _]) Y ⟨Y, Y, Y, trivial⟩ (f93 _ _ _)) (zE8 (zi Y Y) ?_)))))))))))
     refine zE9 Y (fun hg=>zu Y Y kU) (zE9 Y (fun hg=>zA Y (if_pos hg) Y jO) (zE9 Y (fun hg=>qh Y Y (if_pos hg) Tryz.underlying23) (zE9 Y (fun hg=>qJ Y (if_pos hg) Y) (zE8 (qI Y Y Y Y) (zE8 (zi Y Y) (zE9 Y (fun hg=>zu Y Y jZ) (zE9 Y (fun hg=>zA Y (if_pos hg) Y ty3) (zE9 Y (fun hg=>zy (av:=[_, _, _]) Y ⟨((if_pos hg)), Y, Y, trivial⟩ (f93 _ _ _)) (zE8 (qI Y Y Y Y) (zE8 (zn Y Y) (zo ?_)))))))))))
     refine zf (zP ?_)
     exact ⟨.inr Y, AVle.of (by rw [List.take_of_length_le hge] at hk; rw [List.take_of_length_le hge2] at hj; simp [jA, hk.2, hj.2, zO])⟩
end Go.Av
end
