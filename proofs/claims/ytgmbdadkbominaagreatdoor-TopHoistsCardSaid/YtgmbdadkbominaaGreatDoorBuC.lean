import Derived.Test.YtgmbdadkbominaaGreatDoorBuB
import Derived.Test.YtgmbdadkbominaaGreatDoorPlatY
set_option linter.unusedVariables false
set_option linter.unusedSimpArgs false
section
namespace Go.Av
namespace Hs
open Go.Proofs
set_option maxRecDepth 100000
set_option maxHeartbeats 1000000
variable {G:Glob}
theorem zEV:(Tryz.prog.info? 328).bind (·.zero) = some (.agg #[.int .i64 0, .int .i64 0, .int .i64 0, .int .i64 0, .int .i64 0, .int .i64 0, .int .i64 0, .int .i64 0, .slice none 0 0, .map none]):=by kernel_rfl
theorem zF8:vM Tryz.prog 328 [(0, 9), (9, 1)] [.int .i64 0, .int .i64 0, .int .i64 0, .int .i64 0, .int .i64 0, .int .i64 0, .int .i64 0, .int .i64 0, .slice none 0 0, .map none]:=⟨_, Tryz.underlying328, by kernel_rfl, by kernel_rfl⟩
def rG (g:Gls) (e:EV):List EV:=[I g.hl, I g.hh, I g.gl, I g.gh, I g.dr, I g.rd, I g.ea, I g.sl, .pub (.sl (g.ck.map eChk)), e]
theorem zFw {g:Gls} {l k:Nat} (h:l < k):PO.okL k (.row [rG g (.mpv l)]):=fun r hr x hx=>by
 rw [List.mem_singleton] at hr; subst hr
 simp only[rG, List.mem_cons, List.not_mem_nil, or_false] at hx
 rcases hx with rfl | rfl | rfl | rfl | rfl | rfl | rfl | rfl | rfl | rfl <;> simp [EV.lt, I, h]
theorem zGv (g:Gls) (A B C:PO) (hA:PO.okL 5 A) (hB:PO.okL 5 B) (hC:PO.okL 5 C):zeq Tryz.prog G 268 [.pub (.agg (zDL g))] [A, B, C] (.ret (.mix (rG g (.mpv 4))) [A, B, C, .row [rG g (.mpv 4)], .map []]):=by
 refine zo5 Tryz.func268 rfl (by kernel_rfl) rfl (fun gh hold=>?_)
 refine zn (jy rfl rfl (ql rfl (zQ rfl)) (qL rfl (jr rfl rfl zEV rfl rfl) (zo (zn (jy rfl rfl (zK rfl rfl zDX (by exact zLb rfl)) (qL rfl (zgX rfl rfl) ?_))))))
 refine jy rfl rfl (zvd (cs:=[_, _, _, _, _, _, _, _, _, _]) rfl zF8 rfl ⟨_, _, rfl, (zQ rfl), ⟨_, _, rfl, (zoi rfl rfl), rfl⟩⟩ (by rfl) (by simp [ofV])) ?_
 refine qL rfl (qw rfl rfl rfl rfl rfl rfl (zkj rfl) zDP (by rfl) (by exact zLb rfl)) ?_
 refine zo (zN ?_)
 exact zaE [] rfl ⟨hA, hB, hC, zFw (by simp), (by intro p hp; cases hp), trivial⟩ (by simp) (.inr rfl) (by simp [EV.lt, EV.ltL, rG, I]) ⟨_, _, rfl, by simp, rfl, .inr ⟨_, by first | exact zDP | exact rfl, by exact zLb rfl, rfl⟩⟩
def zG:List EV:=[I 0, I 0, I 0, I 0, I 0, I 0, I 0, I 0, .pub (.v (.slice none 0 0)), .pub (.v (.map none))]
theorem zF0 {k:Nat}:PO.okL k (.row [zG]):=fun r hr x hx=>by
 rw [List.mem_singleton] at hr; subst hr
 simp only[zG, List.mem_cons, List.not_mem_nil, or_false] at hx
 rcases hx with rfl | rfl | rfl | rfl | rfl | rfl | rfl | rfl | rfl | rfl <;> simp [EV.lt, I]
theorem zGk {g:Gls} (hs:zC1 g = true) (hc:clB g = false) (A B:PO) (hA:PO.okL 5 A) (hB:PO.okL 5 B):zeq Tryz.prog G 214 [.pub (.agg (zDL g)), .pub (.v (.bool true))] [A, B] (.ret (.tpl [.mix (rG g (.mpv 4)), I 0]) [A, B, .row [rG g (.mpv 4)], .row [rG g (.mpv 4)], .map []]):=by
 have hgk:=zDZ hs
 refine zwW Tryz.func214 rfl (by kernel_rfl) rfl (fun gh hold=>?_)
 refine zn (jy rfl rfl (ql rfl (zQ rfl)) (qL rfl (jr rfl rfl zEV rfl rfl) (jy rfl rfl (zg rfl rfl) (zo (zt (zn (jy rfl rfl (zK rfl rfl zDX (by exact zLb rfl)) (jy rfl rfl (zB (av:=[_]) rfl ⟨rfl, trivial⟩ (f267 g (by omega))) ?_))))))))
 refine jy rfl rfl (qJ rfl rfl) (jy rfl rfl (zh rfl rfl) (zjW rfl rfl rfl (fun hg=>zh rfl rfl) (zjW rfl rfl rfl (fun hg=>qJ rfl (if_pos hg)) (jy rfl rfl (jf rfl rfl rfl rfl) (zo (zA rfl (fun h0=>?_) (fun h0=>?_)))))))
 ·skip
  exfalso; simp [hs] at h0
 ·skip
  refine zH (zk (zn (jy rfl rfl (zK rfl rfl zDX (by exact zLb rfl)) (qL rfl (zfW (f:=268) (fs:=[]) (cs:=[]) (av:=[.pub (.agg (zDL g))]) rfl rfl ⟨rfl, rfl, rfl⟩ ⟨rfl, trivial⟩ (zGv g A B (.row [zG]) hA hB zF0)) (qL rfl (jr rfl rfl zEV rfl rfl) ?_)))))
  refine qL rfl (qw rfl rfl rfl rfl rfl rfl (zkj rfl) zDP (by rfl) (by exact zLb rfl)) ?_
  refine zo (zt (zn (jy rfl rfl (za9 rfl rfl rfl rfl rfl (by exact zLb rfl) rfl zDP) (jy rfl rfl (zeO (av:=[.agg (eGs g)]) rfl ⟨_, _, rfl, AVle.refl _, rfl⟩ (f269 hs hc)) (jy rfl rfl (zI rfl rfl) (jy rfl rfl (zU rfl rfl rfl) (jy rfl rfl (zU rfl rfl rfl) (jy rfl rfl (zU rfl rfl rfl) (jy rfl rfl (qG rfl rfl) ?_)))))))))
  refine jy rfl rfl (qG rfl rfl) (jy rfl rfl (zg rfl rfl) (zo (zn (jy rfl rfl (zh rfl rfl) (zo (zA rfl (fun h1=>?_) (fun h1=>?_)))))))
  ·skip
   exfalso; simp at h1
  ·skip
   refine zH (zk (zn (jy rfl rfl (za9 rfl rfl rfl rfl rfl (by exact zLb rfl) rfl zDP) ?_)))
   refine qL rfl (qw rfl rfl rfl rfl rfl rfl (zkj rfl) zDP (by rfl) (by exact zLb rfl)) ?_
   refine jy rfl rfl (zg rfl rfl) (zo (zN ?_))
   exact zwY [.row [rG g (.mpv 4)]] rfl ⟨hA, hB, zFw (by simp), zFw (by simp), (by intro p hp; cases hp), trivial⟩ (by simp) (.inr rfl) (by simp [EV.lt, EV.ltL, rG, I]) ⟨by decide, _, rfl, _, _, rfl, ⟨_, _, rfl, by simp, rfl, .inr ⟨_, zDP, by exact zLb rfl, rfl⟩⟩, _, _, rfl, rfl, rfl⟩
end Hs
end Go.Av
end
section
namespace Go.Av
namespace Hs
open Go.Proofs
set_option maxRecDepth 100000
set_option maxHeartbeats 1000000
variable {G:Glob}
theorem zFR:tyIs Tryz.prog 326 false 1 = true:=by kernel_rfl
theorem zEp:fldIs Tryz.prog 328 1 9 = true:=by kernel_rfl
def zFd (a:Int):Value:=.int .i64 a
theorem zGl:KeyT Tryz.prog 3 zFd:=zpb Tryz.underlying3
theorem zF5:(Tryz.prog.info? 46).bind (·.zero) = some (.agg #[.int .i64 0, .int .i64 0]):=by kernel_rfl
theorem zF3 {G:Glob} {fr:Nat -> EV} {mem:List PO} {o:Oper} {x i:Operand} {l:Nat} {d:Int} (ho:o.op = .lookup 326 x i true) (hx:evO fr x = .mpv l) (hm:mem[l]? = some (.map [])) (hi:evO fr i = .pub (.v (.int .i64 d))):OpY Tryz.prog G fr mem o (.pub (.tup [.agg [ei 0, ei 0], .v (.bool false)])):=
 zEA (P:=Tryz.prog) (G:=G) (enc:=zFd) (es:=[]) (a:=d) (kx:=.v (.int .i64 d)) ho hx hm hi zps Tryz.underlying326 zGl zF5
def loS (g:Gls) (d:Int) (l:List Chk):Int:=l.foldl (fun a c=>max a (c.lo - g.dr * far d c.t)) (-2000)
def hiS (g:Gls) (d:Int) (l:List Chk):Int:=l.foldl (fun a c=>min a (c.hi + g.dr * far d c.t)) 2000
theorem zD9 {β:Type} {f:Int -> β -> Int} {z:Int} {l:List β} {j:Nat} {x:β} (h:l[j]? = some x):(l.take (j + 1)).foldl f z = f ((l.take j).foldl f z) x:=by
 have hl:j < l.length:=(zLg h).1
 have he:l[j] = x:=(zLg h).2
 rw [List.take_succ_eq_append_getElem hl, List.foldl_append, he]; rfl
theorem zGr {g:Gls} {d:Int} {A B C D:PO} {j:Nat} {x:Chk} (h:g.ck[j]? = some x):[A, B, C, D, .map [], .row [rG g (.mpv 4)], .row [[I 0, I 0]], .row [[I (max (loS g d (g.ck.take j)) (x.lo - g.dr * far d x.t)), I (min (hiS g d (g.ck.take j)) (x.hi + g.dr * far d x.t))]]] = [A, B, C, D, .map [], .row [rG g (.mpv 4)], .row [[I 0, I 0]], .row [[I (loS g d (g.ck.take (j + 1))), I (hiS g d (g.ck.take (j + 1)))]]]:=by
 rw [show loS g d (g.ck.take (j + 1)) = max (loS g d (g.ck.take j)) (x.lo - g.dr * far d x.t) from zD9 h, show hiS g d (g.ck.take (j + 1)) = min (hiS g d (g.ck.take j)) (x.hi + g.dr * far d x.t) from zD9 h]
theorem mqE {g:Gls} {d:Int} {A B C D:PO}:[A, B, C, D, .map [], .row [rG g (.mpv 4)], .row [[I 0, I 0]], .row [[I (loS g d (g.ck.take g.ck.length)), I (hiS g d (g.ck.take g.ck.length))]]] = [A, B, C, D, .map [], .row [rG g (.mpv 4)], .row [[I 0, I 0]], .row [[I (loS g d g.ck), I (hiS g d g.ck)]]]:=by rw [List.take_length]
theorem zGh {g:Gls} (hs:zC1 g = true) (d:Int) (hd:0 <= d /\ d <= 400) (A B C D:PO) (hA:PO.okL 5 A) (hB:PO.okL 5 B) (hC:PO.okL 5 C) (hD:PO.okL 5 D):zeq Tryz.prog G 216 [.mix (rG g (.mpv 4)), .pub (.v (.int .i64 d))] [A, B, C, D, .map []] (.ret (.mix [I (loS g d g.ck), I (hiS g d g.ck)]) [A, B, C, D, .map [(zFd d, .pub (.agg [ei (loS g d g.ck), ei (hiS g d g.ck)]))]]):=by
 refine zo5 Tryz.func216 rfl (by kernel_rfl) rfl (fun gh hold=>?_)
 refine zn (qL rfl (zru rfl rfl (zkj rfl)) (qL rfl (jr rfl rfl zwq rfl rfl) (zo (zt (zn (jy rfl rfl (jJ rfl rfl rfl rfl zEp) (jy rfl rfl (zX rfl rfl rfl rfl rfl rfl zFR) (jy rfl rfl (zh rfl rfl) ?_))))))))
 refine jy rfl rfl (zF3 rfl rfl rfl rfl) (jy rfl rfl (zI rfl rfl) (jy rfl rfl (zU rfl rfl rfl) (jy rfl rfl (zU rfl rfl rfl) ?_)))
 refine qP  rfl rfl rfl rfl rfl rfl rfl zwq zuz rfl (by rfl) (zQ rfl) rfl ?_
 refine jy rfl rfl (zg rfl rfl) (zo (zn (jy rfl rfl (zh rfl rfl) (zo (zA rfl (fun h0=>?_) (fun h0=>?_))))))
 ·exfalso; simp at h0
 ·refine zH (zk (zn ?_))
  refine jy rfl rfl (yl (cs:=[_, _]) rfl ztP rfl ⟨_, _, rfl, (qU rfl), ⟨_, _, rfl, (qU rfl), rfl⟩⟩ (by rfl) (by simp [ofV])) ?_
  refine qL rfl (jr rfl rfl zwq rfl rfl) ?_
  refine qL rfl (qw rfl rfl rfl rfl rfl rfl (zQ rfl) zuz (by rfl) (by exact zLb rfl)) ?_
  refine zo (zt (zn (jy rfl rfl (za9 rfl rfl rfl rfl rfl (by exact zLb rfl) rfl zDP) (jy rfl rfl (zh rfl rfl) (jy rfl rfl (zeO (av:=[.agg (eGs g), .v (.int .i64 d)]) rfl ⟨_, _, rfl, AVle.refl _, _, _, rfl, AVle.refl _, rfl⟩ (f270 g d)) (zo (zF ?_)))))))
  refine zgG g.ck ((bdQ g d)) [1, 2, 4, 7] (fun j=>True) (fun j=>[A, B, C, D, .map [], .row [rG g (.mpv 4)], .row [[I 0, I 0]], .row [[I (loS g d (g.ck.take j)), I (hiS g d (g.ck.take j))]]]) (trivial) rfl (zGb hs d hd) rfl (fun _=>rfl) rfl rfl ?_ ?_
  ·intro j x gh lp hd1 hd2 hq hV
   refine zx ?_
   refine qP  rfl rfl rfl rfl rfl rfl rfl zwq zuz rfl (by rfl) (zQ rfl) rfl ?_
   refine zM ?_
   refine ⟨rfl, rfl, ?_⟩
   refine zF ?_
   refine zfD (fun _=>True) (fun k=>match k with | 13=>.writes | _=>.here) mixed (by kernel_rfl) rfl (by kernel_rfl) trivial ?_
   refine znG rfl rfl (jJ rfl rfl rfl rfl zqK) (znG rfl rfl (zX rfl rfl rfl rfl rfl rfl ty3) (znG rfl rfl (zi rfl rfl zqK) (znG rfl rfl (zl rfl rfl rfl ty3) ?_)))
   refine znG rfl rfl (qy (size:=1) (rows:=[[_], [_]]) rfl Tryz.underlying24 ti3 rfl (by decide) rfl (by decide) ⟨_, _, rfl, (qU rfl), ⟨_, _, rfl, (qU rfl), rfl⟩⟩ (by rfl) (by simp [ofV]) rfl (by simp)) ?_
   refine znG rfl rfl (zB (av:=[_]) rfl ⟨rfl, trivial⟩ (f271 _ _)) (znG rfl rfl (jJ rfl rfl rfl rfl zqc) (znG rfl rfl (zX rfl rfl rfl rfl rfl rfl ty3) (znG rfl rfl (zi rfl rfl zqc) (znG rfl rfl (zl rfl rfl rfl ty3) ?_))))
   refine znG rfl rfl (qy (size:=1) (rows:=[[_], [_]]) rfl Tryz.underlying24 ti3 rfl (by decide) rfl (by decide) ⟨_, _, rfl, (qU rfl), ⟨_, _, rfl, (qU rfl), rfl⟩⟩ (by rfl) (by simp [ofV]) rfl (by simp)) ?_
   refine znG rfl rfl (zB (av:=[_]) rfl ⟨rfl, trivial⟩ (f272 _ _)) ?_
   refine znG rfl rfl (yl (cs:=[_, _]) rfl ztP rfl ⟨_, _, rfl, (qU rfl), ⟨_, _, rfl, (qU rfl), rfl⟩⟩ (by rfl) (by simp [ofV])) ?_
   refine zpt rfl rfl (zd0 rfl rfl rfl rfl rfl rfl (zQ rfl) zuz (by rfl) (by rfl)) trivial ?_
   refine zfa (zJ ?_)
   exact ⟨rfl, trivial, zy (mem':=[A, B, C, D, .map [], .row [rG g (.mpv 4)], .row [[I 0, I 0]], .row [[I (loS g d (g.ck.take (j + 1))), I (hiS g d (g.ck.take (j + 1)))]]]) [] trivial ((zGr hq))⟩
  ·intro hVn
   refine zJ (zk (zt ?_))
   refine qY (zy (mem':=[A, B, C, D, .map [], .row [rG g (.mpv 4)], .row [[I 0, I 0]], .row [[I (loS g d g.ck), I (hiS g d g.ck)]]]) [(1, .pub (.v (.int .i64 d))), (2, .pp 5 1 0 0), (4, .pp 6 1 0 0), (7, .pp 7 1 0 0)] ?_ ?_) ?_
   ·exact ⟨rfl, rfl, rfl, rfl, trivial⟩
   ·exact mqE
   refine zx (jy rfl rfl (jJ rfl rfl rfl rfl zEp) (jy rfl rfl (zX rfl rfl rfl rfl rfl rfl zFR) (jy rfl rfl (zh rfl rfl) (jy rfl rfl (qV (cs:=[_, _]) rfl rfl rfl rfl rfl (by exact zLb rfl) rfl zuz) (qL rfl (zjw (enc:=zFd) (es:=[]) (a:=d) (.inl rfl) rfl rfl rfl rfl zps Tryz.underlying326 zGl rfl) (zo (zn (jy rfl rfl (qV (cs:=[_, _]) rfl rfl rfl rfl rfl (by exact zLb rfl) rfl zuz) ?_))))))))
   refine qL rfl (qw rfl rfl rfl rfl rfl rfl (zQ rfl) zuz (by rfl) (by exact zLb rfl)) ?_
   refine zo (zN ?_)
   exact zaE [.row [rG g (.mpv 4)], .row [[I (loS g d g.ck), I (hiS g d g.ck)]], .row [[I (loS g d g.ck), I (hiS g d g.ck)]]] rfl ⟨hA, hB, hC, hD, (by intro p hp; simp at hp; subst hp; simp [EV.lt, EV.ltL, I]), trivial⟩ (by simp) (.inr rfl) (by simp [EV.lt, EV.ltL, I]) ⟨_, _, rfl, by simp, rfl, .inr ⟨_, zuz, by exact zLb rfl, rfl⟩⟩
end Hs
end Go.Av
end
section
namespace Go.Av
namespace Hs
open Go.Proofs
set_option maxRecDepth 100000
set_option maxHeartbeats 1000000
variable {G:Glob}
theorem zGg {g:Gls} (hs:zC1 g = true) (hc:clB g = false) (A B:PO):zeq Tryz.prog G 214 [.pub (.agg (zDL g)), .pub (.v (.bool true))] [A, B] (.ret (.tpl [.mix (rG g (.mpv 4)), I 0]) [A, B, .row [rG g (.mpv 4)], .row [rG g (.mpv 4)], .map []]):=
 zAT (zGk (G:=G) hs hc .dead .dead trivial trivial).1 fun hk=>zGk hs hc A B (PO.okL_mono (by simp) hk.1) (PO.okL_mono (by simp) hk.2.1)
theorem zF6 {g:Gls} (hs:zC1 g = true) (hc:clB g = false):∀ {m:List PO}, m.length = 2 -> zeq Tryz.prog G 214 [.pub (.agg (zDL g)), .pub (.v (.bool true))] m (.ret (.tpl [.mix (rG g (.mpv 4)), I 0]) (m ++ [.row [rG g (.mpv 4)], .row [rG g (.mpv 4)], .map []]))
 | [A, B], _=>zGg hs hc A B
theorem zGd {g:Gls} (hs:zC1 g = true) (d:Int) (hd:0 <= d /\ d <= 400) (A B C D:PO):zeq Tryz.prog G 216 [.mix (rG g (.mpv 4)), .pub (.v (.int .i64 d))] [A, B, C, D, .map []] (.ret (.mix [I (loS g d g.ck), I (hiS g d g.ck)]) [A, B, C, D, .map [(zFd d, .pub (.agg [ei (loS g d g.ck), ei (hiS g d g.ck)]))]]):=
 zAT (zGh (G:=G) hs d hd .dead .dead .dead .dead trivial trivial trivial trivial).1 fun hk=>zGh hs d hd A B C D (PO.okL_mono (by simp) hk.1) (PO.okL_mono (by simp) hk.2.1) (PO.okL_mono (by simp) hk.2.2.1) (PO.okL_mono (by simp) hk.2.2.2.1)
theorem f135 {g:Gls} (hs:zC1 g = true) (hc:clB g = false):ACall Tryz.prog G 135 [.agg (zDL g), ei 0] (.tup [.agg [.top, .top], ei 0]):=by
 refine zO Tryz.func135 rfl (by kernel_rfl) rfl ?_
 refine zn (jy rfl rfl (ql rfl (zQ rfl)) (qL rfl (jr rfl rfl zwq rfl rfl) (jy rfl rfl (zg rfl rfl) (zo (zt ?_)))))
 refine qY zgO ?_
 refine zfD (fun _=>True) (fun k=>match k with | 0=>.stable | 1=>.stable | 2=>.stable | 3=>.grow [] 2 | 4=>.stable | 5=>.stable | 6=>.stable | 7=>.own 1 | 8=>.writes | 9=>.stable | _=>.here) mixed (by kernel_rfl) rfl (by kernel_rfl) trivial ?_
 refine jv rfl rfl (fun m hm=>zK rfl rfl zDX (by exact zLb rfl)) (jv rfl rfl (fun m hm=>zh rfl rfl) (jv rfl rfl (fun m hm=>zB (av:=[_, _, _]) rfl ⟨rfl, rfl, rfl, trivial⟩ (f215 _ _ _)) ?_))
 refine zGu [] rfl rfl rfl (fun _=>trivial) (fun m hn hm=>zBu (av:=[.pub (.agg (zDL g)), .pub (.v (.bool true))]) rfl ⟨rfl, rfl, trivial⟩ (zF6 hs hc hn) (by simp) (fun l h=>List.getElem?_append_left h)) ?_
 refine jv rfl rfl (fun m hm=>zwN rfl rfl) (jv rfl rfl (fun m hm=>zvs rfl rfl rfl) (jv rfl rfl (fun m hm=>zvs rfl rfl rfl) ?_))
 refine ztC rfl rfl (zmH rfl zEV rfl rfl rfl) ?_
 refine zpt rfl rfl (zd0 rfl rfl rfl rfl rfl rfl (zkj rfl) zDP (by rfl) (by rfl)) trivial ?_
 refine jv rfl rfl (fun m hm=>zg rfl rfl) (zfa (zk (zt (zn (jy rfl rfl (zh rfl rfl) (jy rfl rfl (wE rfl rfl rfl) (zo (zA rfl (fun h0=>?_) (fun h0=>?_)))))))))
 ·exfalso; simp at h0
 ·refine zH (zk (zn (jy rfl rfl (za9 rfl rfl rfl rfl rfl (by exact zLb rfl) rfl zDP) (jy rfl rfl (zh rfl rfl) (qL rfl (zfW (f:=216) (fs:=[]) (cs:=[]) (av:=[.mix (rG g (.mpv 4)), .pub (.v (.int .i64 0))]) rfl rfl ⟨rfl, rfl, rfl⟩ ⟨rfl, rfl, trivial⟩ (zGd hs 0 (by omega) _ _ _ _)) ?_)))))
  refine qL rfl (qw rfl rfl rfl rfl rfl rfl (zkj rfl) zuz (by rfl) (by exact zLb rfl)) ?_
  refine jy rfl rfl (zg rfl rfl) (zo (zN ?_))
  exact ⟨.inr rfl, ⟨_, rfl, ⟨_, _, rfl, (jd rfl rfl rfl rfl zuz rfl ⟨_, _, rfl, AVle.top _, ⟨_, _, rfl, AVle.top _, rfl⟩⟩), ⟨_, _, rfl, AVle.refl _, rfl⟩⟩⟩⟩
end Hs
end Go.Av
end
section
namespace Go.Av
namespace Hs
open Go.Proofs
set_option maxRecDepth 100000
set_option maxHeartbeats 1000000
variable {G:Glob}
def zzP (l:List Rep):List (List EV):=l.map fun r=>(eRep r).map .pub
theorem zzU {l:List Rep}:(zzP l).length = l.length:=by simp [zzP]
theorem zA6 {l:List Rep}:∀ r ∈ zzP l, r.length = 7:=fun r hr=>by
 obtain ⟨q, _, rfl⟩:=List.mem_map.1 hr; rfl
theorem zz0 {l:List Rep} {k:Nat}:PO.okL k (.row (zzP l)):=fun r hr x hx=>by
 obtain ⟨b, _, rfl⟩:=List.mem_map.1 hr
 obtain ⟨y, _, rfl⟩:=List.mem_map.1 hx
 simp [EV.lt]
def rSK (e r:EV) (s:Sut):List EV:=[e, .pub (.sl (s.code.fields.map Wr.eSpn)), .pub (eI s.code.turns), I s.code.most, I s.op, I s.fr, I s.mo, I s.wide, I s.rows, I s.slope,
 I s.w.n, r, .pub (.sl (s.w.lnks.map eLnk)), .pub (.sl (s.w.prts.map ePrt)), I s.w.fall, I s.w.win, I s.w.hold, I s.w.dawn, I s.w.dusk, I s.cls, .pub (eI s.wts), I s.pb, I s.pr, I s.pl, I s.days]
def cSu (s:Sut) (k n:Nat):List EV:=rSK (.pub (.sl (s.st.map eBSt))) (.psl k n) s
theorem zDf {s:Sut} {k:Nat} {e r:EV} (he:e.lt k) (hr:r.lt k):PO.okL k (.row [rSK e r s]):=fun q hq x hx=>by
 rw [List.mem_singleton] at hq; subst hq
 simp only[rSK, List.mem_cons, List.not_mem_nil, or_false] at hx
 rcases hx with rfl | rfl | rfl | rfl | rfl | rfl | rfl | rfl | rfl | rfl | rfl | rfl | rfl | rfl | rfl | rfl | rfl | rfl | rfl | rfl | rfl | rfl | rfl | rfl | rfl <;> simp [EV.lt, I, he, hr]
theorem zDo (l:List Rep) (hl:l.length <= 1000) (A B C:PO):zeq Tryz.prog G 140 [.pub (.sl (l.map eRep))] [A, B, C] (.ret (.psl 3 l.length) [A, B, C, .row (zzP l)]):=by
 refine qj Tryz.func140 rfl (by kernel_rfl) rfl (fun gh hold hmk=>?_)
 refine zn (jy rfl rfl (zg rfl rfl) (zo (zn (jy rfl rfl (zI rfl rfl) ?_))))
 refine qL rfl (zvK rfl rfl rfl rfl rfl zBU (zCP (zz7 fun _=>rfl)) (by simp; omega) (by unfold maxLen; simp; omega)) ?_
 refine jy rfl rfl (jm rfl rfl) (zo (zN ?_))
 exact zaE [] (congrArg (fun z=>[A, B, C, PO.row z]) (by rw [zzP, List.map_map]; rfl)) ⟨PO.okL_mono (by simp) hmk.1, PO.okL_mono (by simp) hmk.2.1, PO.okL_mono (by simp) hmk.2.2.1, zz0, trivial⟩ (by simp) (.inr rfl) (by simp [EV.lt]) (congrArg (EV.psl 3) (by simp))
theorem m52 (s:Sut) (hsm:smB s = true):zeq Tryz.prog G 52 [.pub (.agg (eSut s))] [] (.ret (.mix (cSu s 3 s.w.reps.length)) [.row [cSu s 3 s.w.reps.length], .row [cSu s 3 s.w.reps.length], .dead, .row (zzP s.w.reps)]):=by
 obtain ⟨⟨hn1, hn2, hn3, hn4, hn5, hn6, hn7⟩, hck⟩:=zBL hsm
 refine qj Tryz.func52 rfl (by kernel_rfl) rfl (fun gh hold hmk=>?_)
 refine zn (qL rfl (zru rfl rfl (zQ rfl)) (qL rfl (jr rfl rfl zDq rfl rfl) (zo (zn (jy rfl rfl (jJ rfl rfl rfl rfl zAp) (jy rfl rfl (zX rfl rfl rfl rfl rfl rfl kS) (qL rfl (zfW (f:=136) (fs:=[]) (cs:=[]) (av:=[.pub (.sl (s.st.map eBSt))]) rfl rfl ⟨rfl, rfl, rfl⟩ ⟨rfl, trivial⟩ (zt3 s.st (by omega) (.row [rSu (.pub (.sl (s.st.map eBSt))) s]) (.row [zSu]) zDi zDj)) (jy rfl rfl (jJ rfl rfl rfl rfl zAp) ?_))))))))
 refine qL rfl (qw rfl rfl rfl rfl rfl rfl (zc7 rfl rfl zzW) kS (by rfl) (by exact zLb rfl)) ?_
 refine zo (zt (zn (jy rfl rfl (jJ rfl rfl rfl rfl zAp) (jy rfl rfl (zX rfl rfl rfl rfl rfl rfl kS) (jy rfl rfl (zwU rfl rfl rfl zzW Tryz.underlying22) (jy rfl rfl (zh rfl rfl) (zo (zF ?_))))))))
 refine qm (ι:={ a:Nat // a <= s.st.length }) (fun a=>⟨⟨Tryz.f52.ntmps, [], gh, false, hold⟩, frL [(1, .pp 0 1 0 0), (2, .pp 1 1 0 0), (11, I (s.st.length:Int)), (12, I (a.1:Int))], mK s⟩) (fun a=>s.st.length - a.1) (⟨0, by omega⟩) ?_ ?_
 ·exact zy _ ⟨rfl, rfl, rfl, rfl, trivial⟩ (rfl)
 ·rintro ⟨a, ha⟩
  dsimp only
  refine zn (jy rfl rfl (qx rfl rfl rfl) (zo (zt (zA rfl (fun h0=>?_) (fun h0=>?_)))))
  ·skip
   have hlt:a < s.st.length:=by simpa using h0
   refine zH (zk (zt (zF (zn (jy rfl rfl (zh rfl rfl) (jy rfl rfl (zg rfl rfl) (zo (zn ?_))))))))
   refine jy rfl rfl (jJ rfl rfl rfl rfl zAp) (jy rfl rfl (zX rfl rfl rfl rfl rfl rfl kS) (jy rfl rfl (zh rfl rfl) (jy rfl rfl (jw rfl rfl rfl rfl zzW zaC (by omega) (by omega) zCK) (jy rfl rfl (jJ rfl rfl rfl zzW zBV) (jy rfl rfl (zvO rfl rfl) (zo (zx (jy rfl rfl (zwN rfl rfl) (jy rfl rfl (zwN rfl rfl) (jy rfl rfl (qi rfl rfl rfl zzW) ?_))))))))))
   refine jy rfl rfl (jJ rfl rfl rfl zzW zA0) (jy rfl rfl (zX (r:=(eBSt s.st[a]).map .pub) rfl rfl rfl zzW (zBc hlt) rfl zCl) ?_)
   refine jy rfl rfl (zB (av:=[_]) rfl ⟨rfl, trivial⟩ (f137 _ (by have:=hck _ (List.getElem_mem hlt); omega))) ?_
   refine jy rfl rfl (qi rfl rfl rfl zzW) (jy rfl rfl (jJ rfl rfl rfl zzW zA0) ?_)
   refine qL rfl (qw rfl rfl rfl rfl zzW (zBc hlt) (zjo rfl) zCl (by rfl) (by exact zLb rfl)) ?_
   refine zM (zJ (zk (zx (jy rfl rfl (zW rfl rfl rfl ⟨by omega, by omega⟩) (jy rfl rfl (zh rfl rfl) (zM ?_))))))
   exact ⟨⟨a + 1, by omega⟩, by dsimp only; omega, zy _ ⟨rfl, rfl, rfl, rfl, trivial⟩ ((zCN hlt))⟩
  ·skip
   refine zAj (zS (zS (zAi (zk (zt ?_)))))
   refine zfD (fun mm=>mm = mK s) (fun k=>match k with | 0=>.stable | 1=>.stable | 2=>.stable | 3=>.stable | 4=>.stable | 5=>.stable | 6=>.stable | 7=>.stable | 8=>.stable | 9=>.stable | 10=>.writes | 11=>.stable | 12=>.stable | 13=>.writes | _=>.here) mixed (by kernel_rfl) rfl (by kernel_rfl) rfl ?_
   refine jv rfl rfl (fun m hm=>jJ rfl rfl (show _ = some (PO.row [rSu (.psl 2 s.st.length) s]) by rw [hm]; rfl) rfl zAq) ?_
   refine jv rfl rfl (fun m hm=>jJ rfl rfl (show _ = some (PO.row [rSu (.psl 2 s.st.length) s]) by rw [hm]; rfl) rfl zqf) ?_
   refine jv rfl rfl (fun m hm=>zX (rows:=[rSu (.psl 2 s.st.length) s]) (r:=rSu (.psl 2 s.st.length) s) rfl rfl (by rw [hm]; rfl) rfl rfl rfl zcX) ?_
   refine jv rfl rfl (fun m hm=>zB (av:=[_]) rfl ⟨rfl, trivial⟩ (f138 _ (by omega))) ?_
   refine jv rfl rfl (fun m hm=>jJ rfl rfl (show _ = some (PO.row [rSu (.psl 2 s.st.length) s]) by rw [hm]; rfl) rfl zAq) ?_
   refine jv rfl rfl (fun m hm=>jJ rfl rfl (show _ = some (PO.row [rSu (.psl 2 s.st.length) s]) by rw [hm]; rfl) rfl zqo) ?_
   refine jv rfl rfl (fun m hm=>zX (rows:=[rSu (.psl 2 s.st.length) s]) (r:=rSu (.psl 2 s.st.length) s) rfl rfl (by rw [hm]; rfl) rfl rfl rfl kN) ?_
   refine jv rfl rfl (fun m hm=>zB (av:=[_]) rfl ⟨rfl, trivial⟩ (f139 _ (by omega))) ?_
   refine jv rfl rfl (fun m hm=>jJ rfl rfl (show _ = some (PO.row [rSu (.psl 2 s.st.length) s]) by rw [hm]; rfl) rfl zAq) ?_
   refine jv rfl rfl (fun m hm=>jJ rfl rfl (show _ = some (PO.row [rSu (.psl 2 s.st.length) s]) by rw [hm]; rfl) rfl zqf) ?_
   refine zpt rfl rfl (zd0 rfl rfl rfl rfl rfl rfl (zjo rfl) zcX (by rfl) (by rfl)) rfl ?_
   refine jv rfl rfl (fun m hm=>jJ rfl rfl (show _ = some (PO.row [rSu (.psl 2 s.st.length) s]) by rw [hm]; rfl) rfl zAq) ?_
   refine jv rfl rfl (fun m hm=>jJ rfl rfl (show _ = some (PO.row [rSu (.psl 2 s.st.length) s]) by rw [hm]; rfl) rfl zqo) ?_
   refine zpt rfl rfl (zd0 rfl rfl rfl rfl rfl rfl (zjo rfl) kN (by rfl) (by rfl)) rfl ?_
   refine zfa (zk (zt ?_))
   refine zfD (fun mm=>∃ e, mm[0]? = some (PO.row [rSK (.psl 2 s.st.length) e s])) (fun k=>match k with | 0=>.stable | 1=>.stable | 2=>.rd [0] | 3=>.writes | 4=>.stable | 5=>.stable | 6=>.stable | 7=>.stable | 8=>.stable | 9=>.stable | 10=>.stable | 11=>.stable | 12=>.stable | 13=>.stable | 14=>.writes | 15=>.stable | 16=>.stable | 17=>.writes | 18=>.stable | 19=>.stable | 20=>.writes | _=>.here) mixed (by kernel_rfl) rfl (by kernel_rfl) ⟨_, rfl⟩ ?_
   refine jv rfl rfl (fun m hm=>jJ (rows:=[rSK (.psl 2 s.st.length) hm.choose s]) rfl rfl hm.choose_spec rfl zDs) (jv rfl rfl (fun m hm=>jJ (rows:=[rSK (.psl 2 s.st.length) hm.choose s]) rfl rfl hm.choose_spec rfl zzR) ?_)
   refine zsH [0] rfl rfl (fun m hm hC=>zX (rows:=[rSK (.psl 2 s.st.length) (.pub (.sl (s.w.reps.map eRep))) s]) (r:=rSK (.psl 2 s.st.length) (.pub (.sl (s.w.reps.map eRep))) s) rfl rfl (hm.one 0 rfl) rfl rfl rfl zq0) ?_
   refine zpt rfl rfl (zBu (av:=[.pub (.sl (s.w.reps.map eRep))]) rfl ⟨rfl, trivial⟩ (zDo s.w.reps (by omega) _ _ _) (by simp [mK]) (fun l h=>by have:l = 0 ∨ l = 1 ∨ l = 2:=(by simp [mK] at h; omega); rcases this with rfl | rfl | rfl <;> rfl)) ⟨_, rfl⟩ ?_
   refine jv rfl rfl (fun m hm=>jJ (rows:=[rSK (.psl 2 s.st.length) hm.choose s]) rfl rfl hm.choose_spec rfl zDs) (jv rfl rfl (fun m hm=>jJ (rows:=[rSK (.psl 2 s.st.length) hm.choose s]) rfl rfl hm.choose_spec rfl zBn) (jv rfl rfl (fun m hm=>zX (rows:=[rSK (.psl 2 s.st.length) hm.choose s]) (r:=rSK (.psl 2 s.st.length) hm.choose s) rfl rfl hm.choose_spec rfl rfl rfl zei) (jv rfl rfl (fun m hm=>zB (av:=[_]) rfl ⟨rfl, trivial⟩ (f141 _ (by omega))) (jv rfl rfl (fun m hm=>jJ (rows:=[rSK (.psl 2 s.st.length) hm.choose s]) rfl rfl hm.choose_spec rfl zDs) (jv rfl rfl (fun m hm=>jJ (rows:=[rSK (.psl 2 s.st.length) hm.choose s]) rfl rfl hm.choose_spec rfl zAa) (jv rfl rfl (fun m hm=>zX (rows:=[rSK (.psl 2 s.st.length) hm.choose s]) (r:=rSK (.psl 2 s.st.length) hm.choose s) rfl rfl hm.choose_spec rfl rfl rfl zBt) (jv rfl rfl (fun m hm=>zB (av:=[_]) rfl ⟨rfl, trivial⟩ (f142 _ (by omega))) (jv rfl rfl (fun m hm=>jJ (rows:=[rSK (.psl 2 s.st.length) hm.choose s]) rfl rfl hm.choose_spec rfl zDs) (jv rfl rfl (fun m hm=>jJ (rows:=[rSK (.psl 2 s.st.length) hm.choose s]) rfl rfl hm.choose_spec rfl zzR) ?_)))))))))
   refine zpt rfl rfl (zd0 rfl rfl rfl rfl rfl rfl (zc7 rfl rfl zzU) zq0 (by rfl) (by rfl)) ⟨_, rfl⟩ ?_
   refine jv rfl rfl (fun m hm=>jJ (rows:=[rSK (.psl 2 s.st.length) hm.choose s]) rfl rfl hm.choose_spec rfl zDs) (jv rfl rfl (fun m hm=>jJ (rows:=[rSK (.psl 2 s.st.length) hm.choose s]) rfl rfl hm.choose_spec rfl zBn) ?_)
   refine zpt rfl rfl (zd0 rfl rfl rfl rfl rfl rfl (zjo rfl) zei (by rfl) (by rfl)) ⟨_, rfl⟩ ?_
   refine jv rfl rfl (fun m hm=>jJ (rows:=[rSK (.psl 2 s.st.length) hm.choose s]) rfl rfl hm.choose_spec rfl zDs) (jv rfl rfl (fun m hm=>jJ (rows:=[rSK (.psl 2 s.st.length) hm.choose s]) rfl rfl hm.choose_spec rfl zAa) ?_)
   refine zpt rfl rfl (zd0 rfl rfl rfl rfl rfl rfl (zjo rfl) zBt (by rfl) (by rfl)) ⟨_, rfl⟩ ?_
   refine zfa (zk (zn (jy rfl rfl (jJ rfl rfl rfl rfl zBp) (jy rfl rfl (zX rfl rfl rfl rfl rfl rfl kN) (jy rfl rfl (zB (av:=[_]) rfl ⟨rfl, trivial⟩ (f139 _ (by omega))) (jy rfl rfl (jJ rfl rfl rfl rfl zBp) ?_))))))
   refine qL rfl (qw rfl rfl rfl rfl rfl rfl (zjo rfl) kN (by rfl) (by exact zLb rfl)) ?_
   refine zo (zt ?_)
   refine qY (zy (mem':=[.row [rSK (.psl 2 s.st.length) (.psl 3 s.w.reps.length) s], .row [zSu], .row (rBS s.st), .row (zzP s.w.reps)]) [(1, .pp 0 1 0 0), (2, .pp 1 1 0 0)] ⟨rfl, rfl, trivial⟩ rfl) ?_
   refine qY (zmE (k:=2) (c:=0) (i:=0) (j:=0) (rows:=s.st.map eBSt) (by rw [List.map_map]; rfl) (by simp) rfl rfl rfl rfl) ?_
   refine zx (jy rfl rfl (za9 rfl rfl rfl rfl rfl (by exact zLb rfl) rfl zAf) ?_)
   refine qL rfl (qw rfl rfl rfl rfl rfl rfl (zkj rfl) zAf (by rfl) (by exact zLb rfl)) ?_
   refine zo (zN ?_)
   exact zaE [] rfl ⟨zDf (by simp [EV.lt]) (by simp [EV.lt]), zDf (by simp [EV.lt]) (by simp [EV.lt]), trivial, zz0, trivial⟩ (by simp) (.inr rfl) (by simp [EV.lt, EV.ltL, cSu, rSK, I]) ⟨_, _, rfl, by simp, rfl, .inr ⟨_, zAf, by exact zLb rfl, rfl⟩⟩
end Hs
end Go.Av
end
