import Derived.Test.YtdjncbjfejdamaaGreatDoorPlatB
set_option linter.unusedVariables false
set_option linter.unusedSimpArgs false
section
namespace Go.Av
open Go.RowKit
section
variable {P:Program} {G:Glob} {st:ASt} {o:Oper}
theorem set_self {α:Type}:∀ {l:List α} {k:Nat} {x:α}, l[k]? = some x -> l.set k x = l
 | [], k, x, h=>by simp at h
 | y :: l, 0, x, h=>by simp at h; simp [h]
 | y :: l, k + 1, x, h=>by simp at h; simp [set_self h]
theorem zGS {T E:TypeId} {s x:Operand} {c0 l:Nat} {ns:List (List EV)} {size bytes:Nat} (ho:o.op = .call { callee:=.builtin .append, args:=#[s, x], argTypes:=#[T, T] }) (hd:vC o st.n = true)
  (hs:evO st.fr s = .pub (.v (.slice none 0 c0))) (hc0:c0 = 0) (hm:st.mem[l]? = some (.row [])) (hx:zoj st.mem (evO st.fr x) ns) (ht:elemIs P T E size bytes) (hs2:∀ r ∈ ns, r.length = size)
  (hby:ns.length * bytes <= 140737488355328) (hmax:ns.length <= maxLen):
  OpM P G st o ⟨st.n, jr st.fr o.dst (.psl l ns.length), st.mem.set l (.row ns)⟩:=by
 subst hc0
 intro w0 ok0 a w hG hok hsit K Q hK
 obtain ⟨h0, h1', h2, ok, bs, h3, h4, h5, h6⟩:=hsit
 have e:a.eval s = .slice none 0 0:=by
  have hse:=jd (fr:=st.fr) (a:=a) (x:=s) fun t _=>h6.1 t
  rw [hs] at hse
  simp only[FitsE, Fits] at hse
  exact hse.1
 obtain ⟨A, c, us, ex, u1, u2, u3, u4⟩:=src_of h5 (jd (fr:=st.fr) (a:=a) (x:=x) fun t _=>h6.1 t) hx hs2
 have hlm:l < st.mem.length:=(zLg hm).1
 have hlb:l < bs.length:=by rw [h5.len]; exact hlm
 have hb:bs[l]? = some bs[l]:=by simp [hlb]
 have hrow:=h5.row l _ _ hb hm
 rcases Nat.eq_zero_or_pos ns.length with hz | hpos
 ·
  have hns:ns = []:=List.eq_nil_of_length_eq_zero hz
  subst hns
  have hrun:(execOp a.eval o).run P w = .ok (.value (.slice none 0 0)) w:=append_exec ho (by rw [e, ex]; exact append_none ht o.type none A 0 0 c (Nat.le_refl _) w)
  have hbn:(bs[l]).blk = none:=by
   cases hg:(bs[l]).blk with
   | none=>rfl
   | some g=>have:=hrow.pos g hg; simp at this
  rw [set_self hm] at hK
  refine jT hrun (hK _ _ ⟨(size_put ..).trans h0, h1'.put (.refl _) (qM hd), h2, ok, bs, h3, h4, h5, wX h6 ?_ (fun d hdd=>by rw [h0]; exact xB hd d hdd)⟩)
  simp only[FitsE]
  refine ⟨bs[l], hb, fun rows hr=>?_⟩
  rw [hm] at hr
  injection hr with hr
  injection hr with hr
  subst hr
  exact ⟨by simp, fun _=>by simp [PB.sl, hbn]⟩
 ·
  obtain ⟨ba, off, rfl, hbl, hcell⟩:=u3 hpos
  obtain ⟨w', g', cap', e', cur', r1, r2, r3, r4, r5, r6, r7, r8, r9⟩:=zkc ht o.type w ⟨none, 0, E, size⟩ 0 #[] rfl ba off ns.length c us u1 hcell u2 hpos (by simpa using hby) (by simpa using hmax) (fun t htt=>by simp at htt)
  have hg':w.heap.size = g':=r8.resolve_left (by simp)
  have hrun:(execOp a.eval o).run P w = .ok (.value (.slice (some ⟨g', 0, none⟩) (0 + ns.length) cap')) w':=append_exec ho (by rw [e, ex]; exact r1)
  have hbel:Below w.heap.size w w':=⟨r9.os, r9.tape, r9.output, r9.size, fun t htt=>r9.block t htt (by simp)⟩
  have hturn:=h5.turn (w':=w') (b':=⟨some g', cap', e', size⟩) (rows':=ns) hb hm r9.size (fun t htt _=>hbel.block t htt) (by simp) (fun hl=>by simp at hl; omega)
   (fun g hg=>by simp at hg; exact .inr (by omega)) h2.size (fun hfit=>by
   refine ⟨hs2, fun hnn=>(by simp at hnn), fun _ _=>hpos, fun g hg=>?_⟩
   simp at hg
   subst hg
   refine ⟨cur', r2, r3, by simpa using r4, r5, fun i j r x hr hx=>?_⟩
   exact zmq (rows:=[]) (ns:=ns) (cur':=cur') (us:=us) (ok:=ok) (w':=w') (bs':=bs.set l ⟨some g', cap', e', size⟩) (mem':=st.mem.set l (.row ns)) hs2 (by simp) (fun t htt=>by simpa using r7 t htt) u2 (fun i j r x hr hx=>by
    obtain ⟨v, c1, c2⟩:=u4 i j r x hr hx
    exact ⟨v, c1, hfit _ _ c2⟩) i j r x (by simpa using hr) hx)
  refine jT hrun (hK _ _ ⟨(size_put ..).trans h0, h1'.put (.of_below hbel) (qM hd), yf h2 h2.size hbel, ok, _, h3, h4, hturn.1, ?_⟩)
  refine wX (h6.map hturn.2) ?_ (fun d hdd=>by rw [h0]; exact xB hd d hdd)
  simp only[FitsE]
  refine ⟨⟨some g', cap', e', size⟩, by simp [hlb], fun rows hr=>?_⟩
  simp [hlm] at hr
  subst hr
  exact ⟨Nat.le_refl _, fun _=>by simp [PB.sl]⟩
theorem zGk {fr:Nat -> EV} {mem:List PO} {T E:TypeId} {s x:Operand} {c0 l:Nat} {ns:List (List EV)} {size bytes:Nat} (ho:o.op = .call { callee:=.builtin .append, args:=#[s, x], argTypes:=#[T, T] })
  (hs:evO fr s = .pub (.v (.slice none 0 c0))) (hc0:c0 = 0) (hm:mem[l]? = some (.row [])) (hx:zoj mem (evO fr x) ns) (ht:elemIs P T E size bytes) (hs2:∀ r ∈ ns, r.length = size)
  (hby:ns.length * bytes <= 140737488355328) (hmax:ns.length <= maxLen):OpB P G fr mem o (.psl l ns.length) (mem.set l (.row ns)):=fun N fr2 he hd=>
 zGS (P:=P) (G:=G) (st:=⟨N, fr2, mem⟩) ho hd ((he s (by simp [ho, Op.operands, Call.operands])).trans hs) hc0 hm (by simp only; rw [he x (by simp [ho, Op.operands, Call.operands])]; exact hx) ht hs2 hby hmax
end
end Go.Av
end
