import Derived.Test.YtaphehlgijlfeaaGreatDoorWiX1
import Derived.Test.YtaphehlgijlfeaaGreatDoorWiO
import Derived.Test.YtaphehlgijlfeaaGreatDoorPlatF
import Derived.Lib.ConvBytes
import Derived.Test.YtaphehlgijlfeaaGreatDoorWiB2
import Derived.Test.YtaphehlgijlfeaaGreatDoorPlatQ
import Derived.Test.YtaphehlgijlfeaaGreatDoorExK
set_option linter.unusedVariables false
set_option linter.unusedSimpArgs false
section
namespace Go.Av
open Go.Proofs Go.RowKit
set_option maxRecDepth 100000
set_option maxHeartbeats 1000000
variable {G:Glob}
theorem zEF:(Tryz.prog.info? 193).bind (·.zero) = some (.nilFunc):=by kernel_rfl
theorem zzD {x y:Code} {st st':ASt} {w0 w:World} {ok0:Nat -> Prop} {a:Act} {Qr:Exit -> Act -> World -> Prop} (hG:G.holds w0) (hok:∀ b, ok0 b -> b < w0.heap.size) (hs:Sit w0 ok0 st a w)
  (hx:wL (r:=none) Tryz.prog G x st (fun e s=>e = .normal /\ s = st')) (h:∀ a' w', Sit w0 ok0 st' a' w' -> y.wpIn (FW none) 0 Tryz.prog Qr a' w'):(Code.seq x y).wpIn (FW none) 0 Tryz.prog Qr a w:=
 wpIn_seq (wpIn_mono (hx w0 ok0 a w hG hok hs) fun e a' w' ⟨s, hs', he, e2⟩=>by subst he; subst e2; exact h a' w' hs')
def zw0 (b i:Nat):Nat:=((List.range i).flatMap fun m=>ext b m []).length
theorem zAX (b i:Nat):zw0 b (i + 1) = zw0 b i + (ext b i []).length:=by simp [zw0, List.range_succ]
theorem zCj {b i j:Nat} {l:List Int} (hi:i <= b) (hl:(ext b i [])[j]? = some l):(lists b)[zw0 b i + j]? = some l:=by
 have:=zwl (fun m=>ext b m []) (List.range (b + 1)) i i (List.getElem?_range (by omega)) j l hl
 rw [List.take_range, Nat.min_eq_left (by omega)] at this
 exact this
def zEQ (k':Nat) (e:Exit) (ph:Ph) (fr:Nat -> EV):Prop:=(e = .normal ∨ e = .ret) /\ (ph = .on k' ∨ ∃ j, ph = .off j)
theorem zyT {C:Sx Tryz.prog G} {okc:Nat -> Prop} {gb:Nat} {yb bb:Value} {b i:Nat} {W0:World} (hb:b <= 900) (hi:i <= b) (hqs:C.qs = (lists b).map fun l=>[zO l]):
  ∀ ok w, R142 C okc gb yb bb b [] none 0 W0 ok w -> C.V (zw0 b i) -> CallsIn (FW none) 0 Tryz.prog 142 ([Value.slice none 0 0, Value.int .i64 (i:Int)] ++ [yb, bb, Value.pointer (some ⟨gb, 0, none⟩)]).toArray w (fun e W'=>(e = .returned (.bool true) /\ C.V (zw0 b (i + 1)) /\ Below w.heap.size w W') ∨ (e = .returned (.bool false) /\ C.Off W')):=by
 intro ok w h hV
 have hq:∀ (j:Nat) (l:List Int), (ext b i [])[j]? = some l -> C.qs[zw0 b i + j]? = some [zO l]:=fun j l hl=>by
  rw [hqs, List.getElem?_map, zCj hi hl]; rfl
 have hs:SR C b i [] (zw0 b i) (zw0 b i + (ext b i []).length):=f142 C b hb i (zw0 b i) [] (by simp; omega) (by simp [frm]) (by simp [frm]) hq
 have h0:=hs okc gb yb bb none 0 w h.env (fun g e=>by cases e) rfl hV
 have e0:(([.slice none 0 0, .int .i64 (i:Int)]:List Value) ++ [yb, bb, .pointer (some ⟨gb, 0, none⟩)]:List Value).toArray = #[zvM none 0 ([]:List Int).length, .int .i64 (i:Int), yb, bb, .pointer (some ⟨gb, 0, none⟩)]:=by simp [zvM, PB.sl]
 rw [e0]
 refine h0.mono fun e W' hp=>?_
 rcases hp with ⟨h1, h2, h3, h4⟩ | h
 ·
  rw [zAX]
  exact .inl ⟨h1, h2, h3.below (Nat.le_refl _) (fun g e=>by cases e)⟩
 ·
  exact .inr h
theorem zBo {C:Sx Tryz.prog G} {okc:Nat -> Prop} {gb:Nat} {yb bb:Value} {b:Nat} {W0:World} {fr:Nat -> EV} (hb:b <= 900) (hqs:C.qs = (lists b).map fun l=>[zO l]) (h1:fr 1 = .pub (.ptr [ei (b:Int)])) (h3:fr 3 = .pub (.v (.pointer (some ⟨gb, 0, none⟩)))):
  ∀ x0 x1 x2 c, Tryz.f141.body = some (.seq x0 (.seq x1 (.seq x2 c))) -> zuX C 16 (R142 C okc gb yb bb b [] none 0 W0) c (.on 0) fr (zEQ (lists b).length):=by
 intro x0 x1 x2 c hc
 injection hc with hc
 injection hc with _ hc
 injection hc with _ hc
 injection hc with _ hc
 subst hc
 refine zva (zuU (zu6 rgood142 Y Y (zA (x:=.tmp 1) Y h1 Y ty3) (zu6 rgood142 Y Y (zV Y Y Y ⟨by omega, by omega⟩) (zu6 rgood142 Y Y (zi Y Y) (zu5 (zuI ?_))))))
 refine zxb (zCt (ι:={i:Nat // i <= b + 1}) (fun i=>[.pub .top, .pub .top, .pub .top, .pub (.v (.pointer (some ⟨gb, 0, none⟩))), .pub .top, .pub .top, .pub .top, I ((b:Int) + 1), I ((i.1:Nat):Int)])
  (fun i=>zw0 b i.1) (fun i=>b + 1 - i.1) ⟨0, Nat.zero_le _⟩ ?_ ?_ ?_)
 ·
  rfl
 ·
  exact ⟨.inl Y, .inl Y, .inl Y, .inr h3.symm, .inl Y, .inl Y, .inl Y, .inr Y, .inr Y, trivial⟩
 rintro ⟨i, hi⟩
 refine zva (zuU (zu6 rgood142 Y Y (qi Y Y Y) (zu5 (zuI ?_))))
 refine zva (zvK (b:=decide ((i:Int) < (b:Int) + 1)) Y (fun hlt=>zwU (zuI ?_)) (fun hge=>zBB ?_))
 ·
  have hlt':i <= b:=by
   have:(i:Int) < (b:Int) + 1:=by simpa using hlt
   omega
  refine zva (zxb (zva (zuU (zu6 rgood142 Y Y (zi Y Y) (zu6 rgood142 Y Y (zn Y Y) (zu5 (zuI ?_)))))))
  refine zva (zuU (zB7 (u:=.func (.func 142) #[] #[yb, bb, .pointer (some ⟨gb, 0, none⟩)]) Y Y Y zB5 Y Y (fun ok w h=>h.env.box) (zu6 rgood142 Y Y (zi Y Y) (zBR (us:=[.slice none 0 0, .int .i64 (i:Int)]) (vs:=[yb, bb, .pointer (some ⟨gb, 0, none⟩)]) (k':=zw0 b (i + 1)) rgood142 Y Y ⟨_, Tryz.func142, Y, Y⟩ Y Y Y (zyT hb hlt' hqs) ?_ ?_))))
  ·
   refine zu6 rgood142 Y Y (je Y Y) (zu5 (zuI ?_))
   refine zvK (b:=false) Y (fun h=>by cases h) (fun _=>zwU (zxZ (zuI ?_)))
   refine zuU (zu6 rgood142 Y Y (zV Y Y Y ⟨by show -9223372036854775808 <= (i:Int) + 1; omega, by show (i:Int) + 1 <= 9223372036854775807; omega⟩) (zu6 rgood142 Y Y (zi Y Y) (zu5 (zuI ?_))))
   exact ⟨⟨i + 1, by omega⟩, by show b + 1 - (i + 1) < b + 1 - i; omega, Y, .inl Y, .inl Y, .inl Y, .inr Y, .inl Y, .inl Y, .inl Y, .inr Y, .inr (by show I ((i + 1:Nat):Int) = I ((i:Int) + 1); rw [Int.natCast_add, Int.natCast_one]), trivial⟩
  ·
   refine zu6 rgood142 Y Y (je Y Y) (zu5 (zuI ?_))
   refine zvK (b:=true) Y (fun _=>?_) (fun h=>by cases h)
   exact zyz (zx5 (zwm (zwm (zx5 ⟨.inr Y, .inr ⟨_, Y⟩⟩))))
 ·
  have hge':i = b + 1:=by
   have:¬ (i:Int) < (b:Int) + 1:=by simpa using hge
   omega
  refine zxc (zxc (zAo ⟨.inl Y, .inl ?_⟩))
  show Ph.on (zw0 b i) = _
  rw [hge']; rfl
theorem zEZ (G:Glob) (b:Nat) (hb:b <= 900):zDH Tryz.prog G 141 [] [.ptr [ei (b:Int)]] ((lists b).map fun l=>[zO l]):=by
 refine ⟨⟨_, Tryz.func141, Y, Y⟩, fun C w ok us vs hqs hV hOn hB hok hus hvs=>?_⟩
 simp only[FitsL] at hus hvs
 subst hus
 obtain ⟨bb, _, rfl, hbb, rfl⟩:=hvs
 refine callsIn_of_wp Tryz.func141 Y trivial ?_
 have hfit:FitsL ok w [.v (.func (.yield C.l) #[] #[]), .ptr [ei (b:Int)]] [Value.func (.yield C.l) #[] #[], bb]:=by
  simp only[FitsL]
  exact ⟨_, _, Y, by simp [Fits, Value.oneCell'], _, _, Y, hbb, Y⟩
 have hs0:=(zzj (n:=16) (fun x hx=>(hok x hx).1) (by simp) hfit).sit
 have hG:=C.glob _ hOn
 have hok':∀ x, ok x -> x < w.heap.size:=fun x hx=>(hok x hx).1
 refine zzD hG hok' hs0 (zh (zE8 (jf (cs:=[.v (.func (.yield C.l) #[] #[])]) Y (jF Y)) (zo ⟨Y, Y⟩))) fun a1 w1 hs1=>?_
 refine zzD hG hok' hs1 (zh (jb Y (wJ Y Y zEF Y Y) (zo ⟨Y, Y⟩))) fun a2 w2 hs2=>?_
 refine zzD hG hok' hs2 (zh (zE8 (zjz Y) (jb Y (qG Y Y Y Y Y Y (zrP Y) zB5 (by rfl) (by exact zLb Y)) (zo ⟨Y, Y⟩)))) fun a3 w3 hs3=>?_
 obtain ⟨s0, s1, s2, ok1, bs, s3, s4, s5, s6⟩:=hs3
 have sl3:=s6.1 3
 have sl1:FitsE ok1 w3 bs _ (.pub (.ptr [ei (b:Int)])) (a3.tmps.getD 1 undef):=s6.1 1
 simp only[FitsE] at sl1
 have sl3':FitsE ok1 w3 bs [.row [[.fnm 142 [] [.pub (.ptr [.v (.func (.yield C.l) #[] #[])]), .pub (.ptr [ei (b:Int)]), .pp 0 1 0 0]]]] (.pp 0 1 0 0) (a3.tmps.getD 3 undef):=sl3
 have s5':MemOK w.heap.size ok1 w3 bs [.row [[.fnm 142 [] [.pub (.ptr [.v (.func (.yield C.l) #[] #[])]), .pub (.ptr [ei (b:Int)]), .pp 0 1 0 0]]]]:=s5
 clear sl3 s5
 simp only[FitsE] at sl3'
 obtain ⟨bk, hbk, h⟩:=sl3'
 obtain ⟨gb, hgb, e3⟩:=(h _ rfl).2 rfl
 simp only[Nat.zero_mul, Nat.zero_add] at e3
 obtain ⟨F, hc, h1, hF⟩:=zfA s5' hbk rfl hgb (i:=0) (j:=0) rfl rfl
 simp only[Nat.zero_mul, Nat.zero_add] at hc
 simp only[FitsE, FitsEL] at hF
 obtain ⟨us', vs', rfl, rfl, yb, _, rfl, hyb, bb', _, rfl, hbb', u2, _, rfl, ⟨bk', hbk', hp⟩, rfl⟩:=hF
 rw [hbk] at hbk'
 injection hbk' with hbk'
 subst hbk'
 obtain ⟨gb', hgb', e4⟩:=(hp _ rfl).2 rfl
 rw [hgb] at hgb'
 injection hgb' with hgb'
 subst hgb'
 simp only[Nat.zero_mul, Nat.zero_add] at e4
 subst e4
 have hown:=s5'.own' 0 bk _ gb hbk rfl rfl hgb
 have hgl:=s5'.live_lt hbk rfl rfl hgb
 have hE:SEnv C ok1 gb yb bb' b w3:=⟨C.onAb _ _ hOn (by rw [hB]; exact s2), ⟨by rw [hB]; exact hown.1, hgl⟩, hc, fun x hx=>⟨s5'.lt x hx, fun e=>hown.2 (e ▸ hx), (s4 x hx).elim (fun h=>(hok x h).2) (fun h=>C.up x (by rw [hB]; exact h))⟩, hyb, hbb'⟩
 have hrs:RS ok1 16 (frE [.pub .top, .pub (.ptr [ei (b:Int)]), .pub .top, .pub (.v (.pointer (some ⟨gb, 0, none⟩)))]) a3 w3:=by
  refine ⟨s0, s1.1.none, s5'.lt, fun t=>?_⟩
  match t with
  | 0=>simp [frE, FitsE, Fits]
  | 1=>
   show FitsE ok1 w3 [] [] (.pub (.ptr [ei (b:Int)])) _
   simp only[FitsE]
   exact sl1
  | 2=>simp [frE, FitsE, Fits]
  | 3=>
   show FitsE ok1 w3 [] [] (.pub (.v (.pointer (some ⟨gb, 0, none⟩)))) _
   simp only[FitsE, Fits]
   exact ⟨e3, Y⟩
  | t + 4=>simp [frE, FitsE, Fits]
 refine wpIn_mono (zBo (okc:=ok1) (gb:=gb) (yb:=yb) (bb:=bb') (W0:=w3) hb hqs Y Y _ _ _ _ Y a3 w3 ⟨hV, ok1, ⟨hE, (fun g e=>by cases e), Y, .refl _ _, fun x hx=>(hE.pubs x hx).2.2⟩, hrs⟩) fun e a' w' ⟨ph, fr', hs, he, hph⟩=>?_
 obtain ⟨ok', hrs'⟩:=hs.rs
 have hpost:(C.V ((lists b).map fun l=>[zO l]).length /\ C.On w') ∨ C.Off w':=by
  rcases hph with rfl | ⟨j, rfl⟩
  ·
   obtain ⟨hV', _, hr, _⟩:=hs
   rw [List.length_map]
   exact .inl ⟨hV', hr.env.on⟩
  ·
   obtain ⟨_, hOff, _⟩:=hs
   exact .inr hOff
 rcases he with rfl | rfl
 ·
  exact ⟨hrs'.dfs, _, results_none Y _ _ _, _, Y, hpost⟩
 ·
  exact ⟨hrs'.dfs, _, results_none Y _ _ _, _, Y, hpost⟩
theorem f97 (b:Nat):ACall Tryz.prog G 97 [ei (b:Int)] (.fn 141 [] [.ptr [ei (b:Int)]]):=by
 refine zS Tryz.func97 Y (by kernel_rfl) Y ?_
 refine zuy (zh (zE8 (jf (cs:=[ei (b:Int)]) Y (jF Y)) (zE8 (zn Y Y) (zo (zf ?_)))))
 refine zuy (zh (zE8 (zcA (fs:=[]) (cs:=[.ptr [ei (b:Int)]]) Y Y Y) (zE8 (zW Y Y) (zo (zf ?_)))))
 refine zP ?_
 exact ⟨.inr Y, zhe Y (AVle.refl _)⟩
end Go.Av
end
section
namespace Go.Av
open Go.Proofs
set_option maxRecDepth 100000
set_option maxHeartbeats 1000000
variable {G:Glob}
theorem zwh:elemIs Tryz.prog 26 34 1 24:=⟨Tryz.underlying26, Tryz.t34, _, by kernel_rfl, rfl, rfl, rfl, rfl, by decide⟩
def zuT (l:List (List (List UInt8))) (x:List Int):List (List (List UInt8)):=x.map fun i=>l.getD i.toNat []
theorem zDn (c:Cod) (l:List (List (List UInt8))) (hc:c.fields.length <= 1000 /\ c.turns.length <= 1000) (hl:l.length <= 1000) (hgl:∀ g ∈ l, g.length <= 1000) (hA:yT c l ≠ 0):ACall Tryz.prog G 95 [.agg (qK c), qO l] (.tup [.agg [.top, .top, .top, .top], ei (yT c l)]):=by
 unfold yT at hA ⊢
 by_cases h3:3 < l.length
 ·
  rw [if_pos h3]; exact zob c l hc hl hgl h3
 ·
  rw [if_neg h3] at hA ⊢
  cases hb:zcH c l with
  | true=>rw [hb] at hA; simp at hA
  | false=>exact zpP c l hc hl hgl (by omega) hb
theorem zFb {l:List (List (List UInt8))} {x:List Int} (h:decide (0 < ((x.length:Nat):Int)) = true):0 < (zuT l x).length:=by
 simp only[decide_eq_true_eq] at h
 simp only[zuT, List.length_map]; omega
theorem zCu {b:Nat}:∀ {x:List Int} {lo:Int}, 0 <= lo -> Inc b lo x -> ∀ y ∈ x, 0 <= y /\ y < (b:Int)
 | [], _, _, _, y, hy=>by cases hy
 | z :: t, lo, h0, h, y, hy=>by
  rcases List.mem_cons.1 hy with rfl | hy
  ·
   exact ⟨Int.le_trans h0 h.1, h.2.1⟩
  ·
   exact zCu (lo:=z + 1) (by have:=h.1; omega) h.2.2 y hy
theorem zym {l:List (List (List UInt8))} {v:Int} (h:0 <= v /\ v < (l.length:Int)):(l.map fun g=>[jD g])[v.toNat]? = some [jD (l.getD v.toNat [])]:=by
 have hv:v.toNat < l.length:=by omega
 simp [hv]
theorem zwY {α β:Type} (f:α -> β) (x:List α) (d:α) {i:Nat} (h:i < x.length):(x.take i).map f ++ [f (x.getD i d)] = (x.take (i + 1)).map f:=by
 simp only[List.take_add_one, List.getElem?_eq_getElem h, List.map_append, Option.toList_some, List.map_cons, List.map_nil, List.getD_eq_getElem?_getD, Option.getD_some]
theorem zuW {P:Program} {fr:Nat -> EV} {mem:List PO} {o:Oper} {x y:Bool} (h:x = y) (ho:OpY P G fr mem o (B x)):OpY P G fr mem o (B y):=h ▸ ho
theorem zEq {L:List Int} (h:L = []):AVle (.v (.slice none 0 0)) (zO L):=by subst h; exact AVle.nil
theorem zAp {α:Type} {p:α -> Bool}:∀ {L:List α} {k:Nat} {x:α}, L[k]? = some x -> p x = true -> (∀ (i:Nat) (y:α), i < k -> L[i]? = some y -> p y = false) -> L.find? p = some x
 | [], k, x, h, _, _=>by simp at h
 | z :: L, 0, x, h, hp, _=>by
  simp at h; subst h
  rw [List.find?_cons, hp]
 | z :: L, k + 1, x, h, hp, hV=>by
  rw [List.find?_cons, hV 0 z (by omega) rfl]
  exact zAp (by simpa using h) hp fun i y hi hy=>hV (i + 1) y (by omega) (by simpa using hy)
theorem zBM {c:Cod} {l:List (List (List UInt8))} {x:List Int} (hbd:∀ y ∈ x, 0 <= y /\ y < (l.length:Int)) (h:∀ g ∈ l, jX c g = true):∀ g ∈ zuT l x, jX c g = true:=fun g hg=>by
 obtain ⟨y, hy, rfl⟩:=List.mem_map.1 hg
 have hb:=hbd y hy
 have hv:y.toNat < l.length:=by omega
 simp only[List.getD_eq_getElem?_getD, List.getElem?_eq_getElem hv, Option.getD_some]
 exact h _ (List.getElem_mem hv)
def zvZ (c:Cod) (l:List (List (List UInt8))) (x:List Int):Bool:=!x.isEmpty && (kC c (zuT l x)).isEmpty
theorem zxj (l:List (List (List UInt8))) (x:List Int):((zuT l x).map fun s=>[EV.pub (jD s)]) = ((zuT l x).map fun s=>[jD s]).map (·.map .pub):=by rw [List.map_map]; rfl
theorem zxq (l:List (List (List UInt8))) (x:List Int):((zuT l x).map fun s=>[jD s]).length = x.length:=by simp [zuT]
theorem zAj (c:Cod) (l:List (List (List UInt8))) (y:List Int):(!y.isEmpty && zvZ c l y) = zvZ c l y:=by
 unfold zvZ
 cases y.isEmpty <;> simp
theorem zBv {c:Cod} {l:List (List (List UInt8))} {k:Nat} {x:List Int} (hq:(lists l.length)[k]? = some x) (hp:zvZ c l x = true) (hV:∀ (i:Nat) (y:List Int), i < k -> (lists l.length)[i]? = some y -> zvZ c l y = false):x = zw1 (zvZ c l) l.length:=by
 unfold zw1
 simp only[zAj]
 rw [zAp hq hp hV]; rfl
theorem zzJ {c:Cod} {l:List (List (List UInt8))} (hV:∀ (i:Nat) (y:List Int), i < (lists l.length).length -> (lists l.length)[i]? = some y -> zvZ c l y = false):zw1 (zvZ c l) l.length = []:=by
 unfold zw1
 simp only[zAj]
 rw [List.find?_eq_none.2 fun y hy=>?_]
 ·
  rfl
 ·
  obtain ⟨i, hi, rfl⟩:=List.mem_iff_getElem.1 hy
  rw [hV i _ hi (List.getElem?_eq_getElem hi)]
  simp
theorem zAs {c:Cod} {l:List (List (List UInt8))} {k:Nat} {x:List Int} (hq:(lists l.length)[k]? = some x) (hp:zvZ c l x = false) (hV:∀ (i:Nat) (y:List Int), i < k -> (lists l.length)[i]? = some y -> zvZ c l y = false):
  ∀ (i:Nat) (y:List Int), i < k + 1 -> (lists l.length)[i]? = some y -> zvZ c l y = false:=fun i y hi hy=>by
 by_cases h:i < k
 ·
  exact hV i y h hy
 ·
  have:i = k:=by omega
  subst this
  rw [hq] at hy
  injection hy with hy
  subst hy
  exact hp
theorem case2 (c:Cod) (l:List (List (List UInt8))) (x:List Int):(zvZ c l x = true /\ 0 < x.length /\ kC c (zuT l x) = []) ∨ zvZ c l x = false:=by
 unfold zvZ
 cases x with
 | nil=>exact .inr rfl
 | cons z t=>
  cases hm:kC c (zuT l (z :: t)) with
  | nil=>exact .inl ⟨rfl, by simp, rfl⟩
  | cons a b=>exact .inr rfl
theorem zFd {c:Cod} {l:List (List (List UInt8))} {x:List Int} (h:zvZ c l x = false) (h2:(decide (0 < ((x.length:Nat):Int)) && (((kC c (zuT l x)).length:Int) == 0)) = true):False:=by
 simp only[zLa, decide_eq_true_eq, beq_iff_eq] at h2
 have h3:kC c (zuT l x) = []:=List.eq_nil_of_length_eq_zero (by omega)
 unfold zvZ at h
 rw [h3] at h
 cases x with
 | nil=>simp at h2
 | cons z t=>simp at h
theorem zy8 {n:Nat} (h:0 < n):decide (0 < ((n:Nat):Int)) = true:=by simp; omega
theorem zCK (c:Cod) (l:List (List (List UInt8))) (hc:c.fields.length <= 1000 /\ c.turns.length <= 1000) (hl:l.length <= 1000) (hgl:∀ g ∈ l, g.length <= 1000) (hA:yT c l ≠ 0):ACall Tryz.prog G 37 [.agg (qK c), qO l] (.tup [.sl [], ei (yT c l)]):=by
 refine zS Tryz.func37 Y (by kernel_rfl) Y ?_
 refine zuy (zh (zE8 (jf Y (zY Y)) (zE8 (jf (cs:=[_]) Y (kQ Y)) (zE8 (zn Y Y) (zE8 (zn Y Y) (zo (zf ?_)))))))
 refine zvQ ?_
 refine zuy (zh (zE8 (zZ Y Y wH (by exact zLb Y)) (zE8 (zA Y Y Y zr5) (zE8 (zy (av:=[_, _]) Y ⟨Y, Y, trivial⟩ (zDn c l hc hl hgl hA)) (zE8 (zq Y Y) (zE8 (zN Y Y Y) (zE8 (zN Y Y Y) ?_)))))))
 refine vI  Y Y Y Y Y Y Y ze3 xJ Y (by rfl) (zY Y) Y ?_
 refine zE8 (zn Y Y) (zo (zf (zuy (zuy (zh (zE8 (zi Y Y) (zE8 (vg Y Y Y) (zo (zf (zx Y (fun h_0=>?_) (fun h_0=>?_)))))))))))
 ·
  refine zuy (zh (zE8 (zi Y Y) (zE8 (zn Y Y) (zE8 (zn Y Y) (zo (zf (zP (zQ ?_))))))))
  refine zwM ?_
  exact ⟨.inr Y, ⟨_, Y, ⟨_, _, Y, AVle.nil, ⟨_, _, Y, AVle.refl _, Y⟩⟩⟩⟩
 ·
  exfalso; simp at h_0; exact hA h_0
theorem zCh (c:Cod) (l:List (List (List UInt8))) (hc:c.fields.length <= 1000 /\ c.turns.length <= 1000) (hl:l.length <= 1000) (hgl:∀ g ∈ l, g.length <= 1000) (h3:l.length <= 3) (hb:zcH c l = true) (hm:kC c l ≠ []):ACall Tryz.prog G 37 [.agg (qK c), qO l] (.tup [.sl [], ei 5]):=by
 have hq:=zbq.1 hb
 refine zS Tryz.func37 Y (by kernel_rfl) Y ?_
 refine zuy (zh (zE8 (jf Y (zY Y)) (zE8 (jf (cs:=[_]) Y (kQ Y)) (zE8 (zn Y Y) (zE8 (zn Y Y) (zo (zf ?_)))))))
 refine zvQ ?_
 refine zuy (zh (zE8 (zZ Y Y wH (by exact zLb Y)) (zE8 (zA Y Y Y zr5) (zE8 (zy (av:=[_, _]) Y ⟨Y, Y, trivial⟩ (zoB c l hc hl hgl h3 hb)) (zE8 (zq Y Y) (zE8 (zN Y Y Y) (zE8 (zN Y Y Y) ?_)))))))
 refine vI  Y Y Y Y Y Y Y ze3 xJ Y (by rfl) (zY Y) Y ?_
 refine zE8 (zn Y Y) (zo (zf (zuy (zuy (zh (zE8 (zi Y Y) (zE8 (vg Y Y Y) (zo (zf (zx Y (fun h_0=>?_) (fun h_0=>?_)))))))))))
 ·
  exfalso; simp at h_0
 ·
  refine zC (zf (zuy (zuy (zh (zE8 (zZ Y Y xJ (by exact zLb Y)) (zE8 (zy (av:=[_]) Y ⟨Y, trivial⟩ (f96 c l hq.1 h3 hq.2.1 hq.2.2)) (zE8 (qh Y Y Y Tryz.underlying30) (zE8 (qR Y Y Y) (zo (zf (zx Y (fun h_1=>?_) (fun h_1=>?_))))))))))))
  ·
   refine zuy (zh (zE8 (zn Y Y) (zE8 (zn Y Y) (zo (zf (zP (zQ ?_)))))))
   refine zwM ?_
   exact ⟨.inr Y, ⟨_, Y, ⟨_, _, Y, AVle.nil, ⟨_, _, Y, AVle.refl _, Y⟩⟩⟩⟩
  ·
   exfalso; simp at h_1; exact hm h_1
theorem zCH (c:Cod) (l:List (List (List UInt8))) (hc:c.fields.length <= 1000 /\ c.turns.length <= 1000) (hl:l.length <= 1000) (hgl:∀ g ∈ l, g.length <= 1000) (h3:l.length <= 3) (hb:zcH c l = true) (hm:kC c l = []):ACall Tryz.prog G 37 [.agg (qK c), qO l] (.tup [zO (zw1 (zvZ c l) l.length), ei 0]):=by
 have hqs:=zbq.1 hb
 refine zS Tryz.func37 Y (by kernel_rfl) Y ?_
 refine zuy (zh (zE8 (jf Y (zY Y)) (zE8 (jf (cs:=[_]) Y (kQ Y)) (zE8 (zn Y Y) (zE8 (zn Y Y) (zo (zf ?_)))))))
 refine zvQ ?_
 refine zuy (zh (zE8 (zZ Y Y wH (by exact zLb Y)) (zE8 (zA Y Y Y zr5) (zE8 (zy (av:=[_, _]) Y ⟨Y, Y, trivial⟩ (zoB c l hc hl hgl h3 hb)) (zE8 (zq Y Y) (zE8 (zN Y Y Y) (zE8 (zN Y Y Y) ?_)))))))
 refine vI  Y Y Y Y Y Y Y ze3 xJ Y (by rfl) (zY Y) Y ?_
 refine zE8 (zn Y Y) (zo (zf (zuy (zuy (zh (zE8 (zi Y Y) (zE8 (vg Y Y Y) (zo (zf (zx Y (fun h_0=>?_) (fun h_0=>?_)))))))))))
 ·
  exfalso; simp at h_0
 ·
  refine zC (zf (zuy (zuy (zh (zE8 (zZ Y Y xJ (by exact zLb Y)) (zE8 (zy (av:=[_]) Y ⟨Y, trivial⟩ (f96 c l hqs.1 h3 hqs.2.1 hqs.2.2)) (zE8 (qh Y Y Y Tryz.underlying30) (zE8 (qR Y Y Y) (zo (zf (zx Y (fun h_1=>?_) (fun h_1=>?_))))))))))))
  ·
   exfalso; simp [hm] at h_1
  ·
   refine zC (zf (zuy (zh (jb Y (wJ Y Y ztc Y Y) (zo (zf (zuy ?_)))))))
   refine zzo ?_
   refine zf (zuy (zuy (zh (zE8 (zA Y Y Y zr5) (zE8 (zuB Y Y Tryz.underlying26) (zE8 (zy (av:=[_]) Y ⟨Y, trivial⟩ (f97 l.length)) (zo (zf (zB ?_)))))))))
   refine qx (zt (mem':=[.row [[wZ]]]) [(2, .pub (.ptr (qK c))), (3, .pub (.ptr [qO l])), (8, .pp 0 1 0 0), (28, .pub (.fn 141 [] [.ptr [ei (l.length:Int)]]))] ?_ ?_) ?_
   ·
    exact ⟨Y, Y, Y, Y, trivial⟩
   ·
    rfl
   refine zxM (lists l.length) (fun (x:List Int)=>[zO x]) [2, 3, 8] (fun k=>∀ (i:Nat) (y:List Int), i < k -> (lists l.length)[i]? = some y -> zvZ c l y = false) ([.row [[wZ]]]) ((fun i y h=>absurd h (Nat.not_lt_zero i))) Y (zEZ _ l.length (by omega)) Y (fun _=>rfl) Y Y ?_ ?_
   ·
    intro k x hq hV
    have hin:=zzM.1 (List.mem_of_getElem? hq)
    have hbd:=zCu (by omega) hin
    have hxl:x.length <= 3:=by have:=zyu (by omega) hin; omega
    have hpl:(zuT l x).length <= 3:=by simp only[zuT, List.length_map]; exact hxl
    have hpc:=zBM hbd hqs.2.2
    refine Or.elim (case2 c l x) (fun hp=>?_) (fun hp=>?_)
    ·
     refine .inr (fun gh lp hd1 hd2=>?_)
     have hx0:=hp.2.1
     have hmz:=hp.2.2
     have hxc:=zBv hq hp.1 hV
     have hpp:0 < (zuT l x).length:=by simp only[zuT, List.length_map]; exact hx0
     refine zh (zE8 (zW Y Y) (zo ?_))
     refine ⟨Y, Y, ?_⟩
     refine zB (zuy (zh (zE8 (zZ Y Y wH (by exact zLb Y)) ?_)))
     refine zE8 (zb3 (cs:=[_, _, _, _]) Y zoR Y ⟨_, _, Y, zY Y, Y⟩ (by rfl) (by simp [ofV, zO])) ?_
     refine jb Y (wJ Y Y ze3 Y Y) ?_
     refine jb Y (qG Y Y Y Y Y Y (zY Y) xJ (by rfl) (by exact zLb Y)) ?_
     refine zo (zf (zuy (zuy (zh (zE8 (zq Y Y) (zE8 (zuB Y Y Tryz.underlying23) (zE8 (zi Y Y) (zo (zf (zB ?_))))))))))
     refine qx (zl2 (k:=1) (i:=0) (j:=3) Y Y Y) ?_
     refine qy (ι:={ i:Nat // i <= x.length }) (fun i=>⟨(NS.round 59 gh hd2), frL [(2, .pub (.ptr (qK c))), (3, .pub (.ptr [qO l])), (8, .pp 0 1 0 0), (9, .pub (zO x)), (10, .pp 1 1 0 0), (32, .pub (zO x)), (33, I (x.length:Int)), (34, I (i.1:Int))], [.row [[wZ]], .row [(qK c).map .pub ++ [.psl 2 i.1]], .row ((x.take i.1).map fun j=>[EV.pub (jD (l.getD j.toNat []))])]⟩) (fun i=>x.length - i.1) (⟨0, Nat.zero_le _⟩) ?_ ?_
     ·
      exact zt _ ⟨Y, Y, Y, Y, Y, Y, Y, Y, trivial⟩ (Y)
     ·
      rintro ⟨i, hi⟩
      dsimp only
      refine zuy (zh (zE8 (qi Y Y Y) (zo (zf (zuy (zx Y (fun h_2=>?_) (fun h_2=>?_)))))))
      ·
       have hi2:i < x.length:=by simp only[decide_eq_true_eq] at h_2; omega
       have hb2:=hbd (x.getD i 0) (by simp [hi2])
       have hrow:((x.take i).map fun j=>[EV.pub (jD (l.getD j.toNat []))]) ++ [[EV.pub (jD (l.getD (x.getD i 0).toNat []))]] = ((x.take (i + 1)).map fun j=>[EV.pub (jD (l.getD j.toNat []))]):=zwY _ x 0 hi2
       have hln:((x.take i).map fun j=>[EV.pub (jD (l.getD j.toNat []))]).length = i:=by rw [List.length_map, List.length_take]; omega
       have hr1:∀ r ∈ ((x.take i).map fun j=>[EV.pub (jD (l.getD j.toNat []))]), r.length = 1:=fun r hr=>by obtain ⟨z, _, rfl⟩:=List.mem_map.1 hr; rfl
       have hl1:(((x.take i).map fun j=>[EV.pub (jD (l.getD j.toNat []))]) ++ [[EV.pub (jD (l.getD (x.getD i 0).toNat []))]]).length = i + 1:=by rw [List.length_append, hln]; rfl
       refine zC (zf (zuy (zB (zuy (zh (zE8 (zG Y Y Y jv (by omega) (ztu (k:=i) hi2) jC) (zE8 (zA Y Y Y ty3) (zE8 (zn Y Y) (zo (zf ?_))))))))))
       refine wR (fun m=>∃ rows, m[1]? = some (.row rows) /\ rows.length = 1) (fun k=>match k with | 0=>.stable | 2=>.stable | 3=>.stable | 4=>.stable | 5=>.stable | 7=>.writes | 8=>.stable | 9=>.writes | _=>.here) mixed (by kernel_rfl) rfl (by kernel_rfl) ⟨_, rfl, rfl⟩ ?_
       refine zuC Y Y (fun m hm=>qE Y Y hm.choose_spec.1 hm.choose_spec.2 zjF) (zX Y Y (zK Y Y Y Y Y Y zr5) (zuC Y Y (fun m hm=>zA Y Y Y zr5) (zuC Y Y (fun m hm=>zi Y Y) ?_)))
       refine zuC Y Y (fun m hm=>zG Y Y Y zbo hb2.1 (zym hb2) (by simp)) ?_
       refine zuC Y Y (fun m hm=>zA Y Y Y zfC) ?_
       refine zX Y Y (qg (size:=1) (rows:=[[_]]) Y Tryz.underlying26 zj9 Y (by decide) Y (by decide) ⟨_, _, Y, (kQ Y), Y⟩ (by rfl) (by simp [ofV]) Y (by simp)) ?_
       refine zaw Y Y (zj3 Y Y Y hln Y zwh hr1 (by simp) (by simp; omega) (by unfold maxLen; simp; omega)) ⟨_, Y, Y⟩ ?_
       refine zuC Y Y (fun m hm=>qE Y Y hm.choose_spec.1 hm.choose_spec.2 zjF) ?_
       refine zaw Y Y (jk Y Y Y Y Y Y (zbO Y Y hl1) zr5 (by rfl) (by rfl)) ⟨_, Y, Y⟩ ?_
       refine wQ (zD (zf (zh (zE8 (zV Y Y Y ⟨(by omega), (by omega)⟩) (zE8 (zi Y Y) (zo ?_))))))
       exact ⟨⟨i + 1, by omega⟩, by dsimp only; omega, zt _ ⟨Y, Y, Y, Y, Y, Y, Y, Y, trivial⟩ (congrArg (fun z:List (List EV)=>[PO.row [[wZ]], PO.row [(qK c).map EV.pub ++ [EV.psl 2 (i + 1)]], PO.row z]) hrow)⟩
      ·
       have hi2:i = x.length:=by simp only[decide_eq_false_iff_not] at h_2; omega
       have hpx:((x.take i).map fun j=>[EV.pub (jD (l.getD j.toNat []))]) = ((zuT l x).map fun s=>[EV.pub (jD s)]):=by rw [hi2, List.take_length]; simp [zuT]
       refine qp (zL (zL (qw (zf (zuy ?_)))))
       refine qx (zt (mem':=[.row [[wZ]], .row [(qK c).map .pub ++ [.psl 2 x.length]], .row ((zuT l x).map fun s=>[EV.pub (jD s)])]) [(2, .pub (.ptr (qK c))), (3, .pub (.ptr [qO l])), (8, .pp 0 1 0 0), (9, .pub (zO x)), (10, .pp 1 1 0 0)] ?_ ?_) ?_
       ·
        exact ⟨Y, Y, Y, Y, Y, trivial⟩
       ·
        exact (show ([.row [[wZ]], .row [(qK c).map .pub ++ [.psl 2 i]], .row ((x.take i).map fun j=>[EV.pub (jD (l.getD j.toNat []))])]:List PO) = [.row [[wZ]], .row [(qK c).map .pub ++ [.psl 2 x.length]], .row ((zuT l x).map fun s=>[EV.pub (jD s)])] from by rw [hpx, hi2])
       refine qx (kY (k:=2) (m:=x.length) (c:=1) (i:=0) (j:=3) (rows:=(zuT l x).map fun s=>[jD s]) ?_ ?_ Y Y Y Y) ?_
       ·
        exact (congrArg (fun z=>some (PO.row z)) (zxj l x))
       ·
        exact zxq l x
       refine zh (zE8 (zq Y Y) (zE8 (zuB Y Y Tryz.underlying23) (zE8 (zuW (y:=true) (zy8 hx0) (qR Y Y Y)) (zE8 (zi Y Y) (zE9 Y (fun hg=>qN (cs:=yc c (zuT l x)) Y Y Y Y Y (by exact zLb Y) Y xJ) (zE9 Y (fun hg=>zy (av:=[.agg (yc c (zuT l x))]) Y ⟨Y, trivial⟩ (f96 c (zuT l x) hqs.1 hpl hpp hpc)) (zE9 Y (fun hg=>zuB Y Y Tryz.underlying30) (zE9 Y (fun hg=>qJ Y Y Y) (zE8 (qI Y Y Y Y) (zo (zf (zx Y (fun h_3=>?_) (fun h_3=>?_)))))))))))))
       ·
        refine zuy (zh (zE8 (zq Y Y) ?_))
        refine jb Y (qG Y Y Y Y Y Y (kQ Y) jO (by rfl) (by exact zLb Y)) ?_
        refine zo (zf (qp ?_))
        refine zBJ Y ?_
        refine ⟨Y, ?_⟩
        refine qw (zf (zuy (zh (zE8 (zK Y Y Y Y Y Y jO) (zE8 (zW Y Y) (zE8 (zn Y Y) (zo (zf (zP ?_)))))))))
        refine zwM ?_
        exact ⟨.inr Y, ⟨_, Y, ⟨_, _, Y, AVle.of (congrArg zO hxc), ⟨_, _, Y, AVle.refl _, Y⟩⟩⟩⟩
       ·
        exfalso; rw [hmz] at h_3; simp at h_3
    ·
     refine .inl ⟨zAs hq hp hV, fun lp=>?_⟩
     refine zh (zE8 (zW Y Y) (zo ?_))
     refine ⟨Y, Y, ?_⟩
     refine zB (zuy (zh (zE8 (zZ Y Y wH (by exact zLb Y)) ?_)))
     refine zE8 (zb3 (cs:=[_, _, _, _]) Y zoR Y ⟨_, _, Y, zY Y, Y⟩ (by rfl) (by simp [ofV, zO])) ?_
     refine jb Y (wJ Y Y ze3 Y Y) ?_
     refine jb Y (qG Y Y Y Y Y Y (zY Y) xJ (by rfl) (by exact zLb Y)) ?_
     refine zo (zf (zuy (zuy (zh (zE8 (zq Y Y) (zE8 (zuB Y Y Tryz.underlying23) (zE8 (zi Y Y) (zo (zf (zB ?_))))))))))
     refine qx (zl2 (k:=0) (i:=0) (j:=3) Y Y Y) ?_
     refine qy (ι:={ i:Nat // i <= x.length }) (fun i=>⟨(NS.round 59 [] []), frL [(2, .pub (.ptr (qK c))), (3, .pub (.ptr [qO l])), (9, .pub (zO x)), (10, .pp 0 1 0 0), (32, .pub (zO x)), (33, I (x.length:Int)), (34, I (i.1:Int))], [.row [(qK c).map .pub ++ [.psl 1 i.1]], .row ((x.take i.1).map fun j=>[EV.pub (jD (l.getD j.toNat []))])]⟩) (fun i=>x.length - i.1) (⟨0, Nat.zero_le _⟩) ?_ ?_
     ·
      exact zt _ ⟨Y, Y, Y, Y, Y, Y, Y, trivial⟩ (Y)
     ·
      rintro ⟨i, hi⟩
      dsimp only
      refine zuy (zh (zE8 (qi Y Y Y) (zo (zf (zuy (zx Y (fun h_2=>?_) (fun h_2=>?_)))))))
      ·
       have hi2:i < x.length:=by simp only[decide_eq_true_eq] at h_2; omega
       have hb2:=hbd (x.getD i 0) (by simp [hi2])
       have hrow:((x.take i).map fun j=>[EV.pub (jD (l.getD j.toNat []))]) ++ [[EV.pub (jD (l.getD (x.getD i 0).toNat []))]] = ((x.take (i + 1)).map fun j=>[EV.pub (jD (l.getD j.toNat []))]):=zwY _ x 0 hi2
       have hln:((x.take i).map fun j=>[EV.pub (jD (l.getD j.toNat []))]).length = i:=by rw [List.length_map, List.length_take]; omega
       have hr1:∀ r ∈ ((x.take i).map fun j=>[EV.pub (jD (l.getD j.toNat []))]), r.length = 1:=fun r hr=>by obtain ⟨z, _, rfl⟩:=List.mem_map.1 hr; rfl
       have hl1:(((x.take i).map fun j=>[EV.pub (jD (l.getD j.toNat []))]) ++ [[EV.pub (jD (l.getD (x.getD i 0).toNat []))]]).length = i + 1:=by rw [List.length_append, hln]; rfl
       refine zC (zf (zuy (zB (zuy (zh (zE8 (zG Y Y Y jv (by omega) (ztu (k:=i) hi2) jC) (zE8 (zA Y Y Y ty3) (zE8 (zn Y Y) (zo (zf ?_))))))))))
       refine wR (fun m=>∃ rows, m[0]? = some (.row rows) /\ rows.length = 1) (fun k=>match k with | 0=>.stable | 2=>.stable | 3=>.stable | 4=>.stable | 5=>.stable | 7=>.writes | 8=>.stable | 9=>.writes | _=>.here) mixed (by kernel_rfl) rfl (by kernel_rfl) ⟨_, rfl, rfl⟩ ?_
       refine zuC Y Y (fun m hm=>qE Y Y hm.choose_spec.1 hm.choose_spec.2 zjF) (zX Y Y (zK Y Y Y Y Y Y zr5) (zuC Y Y (fun m hm=>zA Y Y Y zr5) (zuC Y Y (fun m hm=>zi Y Y) ?_)))
       refine zuC Y Y (fun m hm=>zG Y Y Y zbo hb2.1 (zym hb2) (by simp)) ?_
       refine zuC Y Y (fun m hm=>zA Y Y Y zfC) ?_
       refine zX Y Y (qg (size:=1) (rows:=[[_]]) Y Tryz.underlying26 zj9 Y (by decide) Y (by decide) ⟨_, _, Y, (kQ Y), Y⟩ (by rfl) (by simp [ofV]) Y (by simp)) ?_
       refine zaw Y Y (zj3 Y Y Y hln Y zwh hr1 (by simp) (by simp; omega) (by unfold maxLen; simp; omega)) ⟨_, Y, Y⟩ ?_
       refine zuC Y Y (fun m hm=>qE Y Y hm.choose_spec.1 hm.choose_spec.2 zjF) ?_
       refine zaw Y Y (jk Y Y Y Y Y Y (zbO Y Y hl1) zr5 (by rfl) (by rfl)) ⟨_, Y, Y⟩ ?_
       refine wQ (zD (zf (zh (zE8 (zV Y Y Y ⟨(by omega), (by omega)⟩) (zE8 (zi Y Y) (zo ?_))))))
       exact ⟨⟨i + 1, by omega⟩, by dsimp only; omega, zt _ ⟨Y, Y, Y, Y, Y, Y, Y, trivial⟩ (congrArg (fun z:List (List EV)=>[PO.row [(qK c).map EV.pub ++ [EV.psl 1 (i + 1)]], PO.row z]) hrow)⟩
      ·
       have hi2:i = x.length:=by simp only[decide_eq_false_iff_not] at h_2; omega
       have hpx:((x.take i).map fun j=>[EV.pub (jD (l.getD j.toNat []))]) = ((zuT l x).map fun s=>[EV.pub (jD s)]):=by rw [hi2, List.take_length]; simp [zuT]
       refine qp (zL (zL (qw (zf (zuy ?_)))))
       refine qx (zt (mem':=[.row [(qK c).map .pub ++ [.psl 1 x.length]], .row ((zuT l x).map fun s=>[EV.pub (jD s)])]) [(2, .pub (.ptr (qK c))), (3, .pub (.ptr [qO l])), (9, .pub (zO x)), (10, .pp 0 1 0 0)] ?_ ?_) ?_
       ·
        exact ⟨Y, Y, Y, Y, trivial⟩
       ·
        exact (show ([.row [(qK c).map .pub ++ [.psl 1 i]], .row ((x.take i).map fun j=>[EV.pub (jD (l.getD j.toNat []))])]:List PO) = [.row [(qK c).map .pub ++ [.psl 1 x.length]], .row ((zuT l x).map fun s=>[EV.pub (jD s)])] from by rw [hpx, hi2])
       refine qx (kY (k:=1) (m:=x.length) (c:=0) (i:=0) (j:=3) (rows:=(zuT l x).map fun s=>[jD s]) ?_ ?_ Y Y Y Y) ?_
       ·
        exact (congrArg (fun z=>some (PO.row z)) (zxj l x))
       ·
        exact zxq l x
       refine zh (zE8 (zq Y Y) (zE8 (zuB Y Y Tryz.underlying23) (zE8 (qR Y Y Y) (zE8 (zi Y Y) (zE9 Y (fun hg=>qN (cs:=yc c (zuT l x)) Y Y Y Y Y (by exact zLb Y) Y xJ) (zE9 Y (fun hg=>zy (av:=[.agg (yc c (zuT l x))]) Y ⟨ifp hg, trivial⟩ (f96 c (zuT l x) hqs.1 hpl (zFb hg) hpc)) (zE9 Y (fun hg=>zuB Y (ifp hg) Tryz.underlying30) (zE9 Y (fun hg=>qJ Y (ifp hg) Y) (zE8 (qI Y Y Y Y) (zo (zf (zx Y (fun h_3=>?_) (fun h_3=>?_)))))))))))))
       ·
        exact (zFd hp h_3).elim
       ·
        refine zC (zD ?_)
        exact Y
   ·
    intro hVn
    have hcl:=zzJ hVn
    refine zD (zf (zuy (zh (zE8 (zK Y Y Y Y Y Y jO) (zE8 (zn Y Y) (zE8 (zn Y Y) (zo (zf (zP ?_)))))))))
    refine zwM ?_
    exact ⟨.inr Y, ⟨_, Y, ⟨_, _, Y, zEq hcl, ⟨_, _, Y, AVle.refl _, Y⟩⟩⟩⟩
def clR (c:Cod) (l:List (List (List UInt8))):List Int:=if yT c l = 0 /\ kC c l = [] then zw1 (zvZ c l) l.length else []
def clE (c:Cod) (l:List (List (List UInt8))):Int:=if yT c l = 0 then (if kC c l = [] then 0 else 5) else yT c l
theorem f37 (c:Cod) (l:List (List (List UInt8))) (hc:c.fields.length <= 1000 /\ c.turns.length <= 1000) (hl:l.length <= 1000) (hgl:∀ g ∈ l, g.length <= 1000):ACall Tryz.prog G 37 [.agg (qK c), qO l] (.tup [zO (clR c l), ei (clE c l)]):=by
 unfold clR clE
 by_cases hA:yT c l = 0
 ·
  have h:=zh6 hA
  have hb:zcH c l = true:=zbq.2 ⟨h.1, h.2.2.1, h.2.2.2⟩
  rw [if_pos hA]
  by_cases hm:kC c l = []
  ·
   rw [if_pos ⟨hA, hm⟩, if_pos hm]; exact zCH c l hc hl hgl h.2.1 hb hm
  ·
   rw [if_neg (fun e=>hm e.2), if_neg hm]; exact zCh c l hc hl hgl h.2.1 hb hm
 ·
  rw [if_neg (fun e=>hA e.1), if_neg hA]; exact zCK c l hc hl hgl hA
end Go.Av
end
