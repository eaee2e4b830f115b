import Derived.Test.YtigbomcjnlikjaaGreatDoorLaD
import Derived.Test.YtigbomcjnlikjaaGreatDoorPlatN
set_option linter.unusedVariables false
set_option linter.unusedSimpArgs false
set_option maxRecDepth 100000
set_option maxHeartbeats 9000000
section
namespace Go.Av
namespace Bu
open Go.Proofs Tryz Go.RowKit
variable{G:Glob}
theorem SX:tP.stoodInHeld 63=false:=nR
theorem XQ(w:World)(a b c d:Int):(Op.equal 63 (.agg #[.int .i64 a,.int .i64 b]) (.agg #[.int .i64 c,.int .i64 d])).run tP w=.ok (a==c&&b==d) w:=by
 unfold Op.equal;rw[show Op.maxDepth=9998+1+1 from rfl,run_equalIn_struct w _ _ _ _ (by rw[underlying63];simp only[Program.fieldsOf,underlying63]) SX];simp only[Program.fieldsOf,underlying63,Op.eqFields];simp only[ne_eq,String.reduceEq,not_false_eq_true,if_true,Sem.run_bind];simp[part,Sem.run_bind,run_equalIn_int w _ _ _ _ _ _ underlying3]
 by_cases h1:a=c<;>by_cases h2:b=d<;>simp[h1,h2]
theorem Nj{ok:Nat->Prop}{w:World}{bs:List PB}{m:TP}{e:EV}{u:Value}{a b:Int}(h:FitsE ok w bs m e u)(he:e=.pub (.agg [ei a,ei b])):u=.agg #[.int .i64 a,.int .i64 b]:=by
 subst he;simp only[FitsE,Fits,FitsL]at h;obtain⟨vs,rfl,hh⟩:=h;obtain⟨h1,u1,us,rfl,⟨rfl,_⟩,u2,us2,rfl,⟨rfl,_⟩,rfl⟩:=hh;rfl
theorem Qk{fr:Nat->EV}{mem:TP}{o:Oper}{U:TypeId}{x y:Operand}{a b c d:Int}(ho:o.op=.binOp .eql 63 x y U)(hx:evO fr x=.pub (.agg [ei a,ei b]))(hy:evO fr y=.pub (.agg [ei c,ei d])):OpY tP G fr mem o (B (a==c&&b==d)):=
 qb fun ok bs w a' _ _ hf=>by
  have h1:=Nj (hf x (by simp[ho,Op.operands])) hx;have h2:=Nj (hf y (by simp[ho,Op.operands])) hy;refine⟨.bool (a==c&&b==d),?_,qA Y⟩;simp only[execOp,ho,h1,h2];simp[eqGuard,Sem.run_bind,binOp,XQ]
end Bu
end Go.Av
namespace Go.Av
namespace Bu
open Go.Proofs Tryz
variable{G:Glob}
theorem NE:(tP.info? 63).bind (·.zero)=some (.agg #[nZ,nZ]):=nR
variable{s:Hs.Sut}{pick:Int}{D:List Ac}{j:Nat}{a:Ac}
theorem Jh{i:Nat}(h:i<D.length)(h6:¬D[i].w=6):ye s pick D i=ye s pick D (i+1):=by
 have hg:D.getD i ac0=D[i]:=by simp[h]
 simp only[ye,i7];rw[hg,zLy h6];omega
theorem PC{i:Nat}(h:i<D.length)(h6:D[i].w=6)(hj:j=i):ye s pick D i+ar s pick D[i] (D.take j)=ye s pick D (i+1):=by
 have hg:D.getD i ac0=D[i]:=by simp[h]
 simp only[ye,i7];rw[hg,zLc h6,hj]
theorem QH(h:j<D.length)(hn:¬(D[j].w=5/\dn D[j]=dn a)){x:Int}:x+ar s pick a (D.take j)=x+ar s pick a (D.take (j+1)):=by
 rw[zLt h];unfold ar;rw[←mA];unfold trm;rw[zLy hn];omega
theorem Kt(h:j<D.length)(hn:D[j].w=5/\dn D[j]=dn a){x w g c:Int}(hw:w=s.wts.getD (a.n.getD 1 0).toNat 0)(hc:c=clP s.cls (a.n.getD 2 0) pick)(hg:g=gnL (D[j].n.drop 2) c.toNat):x+ar s pick a (D.take j)+w*g=x+ar s pick a (D.take (j+1)):=by
 rw[zLt h];unfold ar;rw[←mA];unfold trm;rw[zLc hn,hw,hg,hc];omega
theorem P9{M:TP}{K:Nat}{l:List Ac}(h:M[K]?=some (.row (rAc l))):DV M (.psl K l.length) (.sl (l.map eAc)):=
 .psl h jm (by rw[show rAc l=(l.map eAc).map (·.map .pub) from by rw[List.map_map];rfl];exact DVR.pubs _)
theorem Mc{m:Ac}:dn m=dn a↔m.n.getD 0 0=a.n.getD 0 0/\m.n.getD 1 0=a.n.getD 1 0:=by simp[dn]
theorem Gy{cls set p q:Int}{c:Nat}(h:c<cls.toNat)(hb:yj set p.toNat=false)(e:clG cls set (cls.toNat-c) p=q):clG cls set (cls.toNat-(c+1)) ((p+1) % cls)=q:=by
 obtain⟨m,hm⟩:∃m,cls.toNat-c=m+1:=⟨cls.toNat-c-1,oM⟩;rw[hm,clG,zLy (by rw[hb];decide)]at e;rw[show cls.toNat-(c+1)=m by omega];exact e
theorem f6(h14:ACall tP G 14 [] (.v (.bool true)))(s:Hs.Sut)(l:List Ac)(pick:Int):ACall tP G 6 [.agg (Hs.eSut s),.sl (l.map eAc),ei pick] (.v (.bool true)):=by
 obtain⟨M,K,b5,D5,hp⟩:=Fv (G:=G) s l pick;refine aC func6 ?_;refine Z9 ?_;refine zb (qk Y Y EP bL) ?_;refine yc (f17 s) ?_;refine Z2 ?_;refine zh Y (fun hg=>qk Y Y EP bL) ?_;refine zh Y (fun hg=>zi (av:=[_]) Y ⟨((by first|exact Y|exact(zLc hg))),trivial⟩ (Hs.f7 s (by simpa using hg))) ?_;refine zh Y (fun hg=>q0 Y ((zLc hg))) (zb (ju Y Y Y Y) ?_);refine Z2 ?_;refine zh Y (fun hg=>zi (av:=[_]) Y ⟨((by first|exact Y|exact(zLc hg))),trivial⟩ (f19 l)) ?_;refine zh Y (fun hg=>q0 Y ((zLc hg))) (zb (ju Y Y Y Y) ?_);refine Z2 ?_;refine zh Y (fun hg=>y6 Y ((zLc hg)) Y) (zb (ju Y Y Y Y) ?_);refine Z2 ?_;refine nC ?_ ?_<;>intro h0
 ·skip;refine Z2 ?_;refine yc h14 ?_;refine Z5 ?_;exact aR
 ·skip;refine zt (zd (mem':=[]) [(1,.pub (.sl (l.map eAc))),(2,I pick),(3,.pub (.ptr (Hs.eSut s)))] ?_ ?_) ?_
  ·exact rL
  ·exact Y
  have h0s:Hs.smB s=true/\Hs.suB s=true/\brB l=true/\0<=pick:=by
   simp at h0;exact⟨h0.1.1.1,h0.1.1.2,h0.1.2,oM⟩
  have hf:=hp h0s;have hl66:=hf.l66;have hd66:=hf.d66;have htot:=hf.ik.tot hf.sp hf.bi;have hti:=OZ hf.sp hf.p0 hf.ik hf.ru;have hcl:=ft hf.sp;have hp0:=hf.p0;have h32:=q32 (G:=G) s hf.sp b5 hf.ik.k (by have:=hf.ik.l;have:=hf.bi.a60;omega);have h33:=q33 (G:=G) s b5 hf.sp.pap htot.1 htot.2 h32;have hwl:(s.wts.map fun n=>[ei n]).length=s.wts.length:=sI;refine Z4 ?_;refine zb (qk Y Y EP bL) (Z ?_);refine mc hf.c15 ?_;refine Z11 ?_;refine zt (zd [(2,I pick),(3,.pub (.ptr (Hs.eSut s))),(7,.pp 5 1 0 0),(8,.psl K D5.length),(9,.pub (.v (.bool true)))] ⟨Y,Y,Y,Y,Y,trivial⟩ Y) ?_;refine zt (yH (l:=[(2,I pick),(3,.pub (.ptr (Hs.eSut s))),(7,.pp 5 1 0 0),(8,.psl K D5.length),(9,.pub (.v (.bool true)))]) (mem:=M) (l':=[(2,ei pick),(3,.ptr (Hs.eSut s)),(7,.ptr (eBu s b5)),(8,.sl (D5.map eAc)),(9,.v (.bool true))]) ⟨Y,.r,Y,.r,Y,hf.dv,Y,P9 hf.dn,Y,.r,trivial⟩) ?_;refine Z5 ?_;refine nC ?_ ?_<;>intro h1
  ·skip;exfalso;simp at h1
  ·skip;refine Z5 ?_;refine yc h32 ?_;refine Z3 ?_;refine zI Y Y Y Y Y Y Y NE vd Y rF (zF Y) Y (Z6 ?_);refine yc h33 ?_;refine Z3 ?_;refine zI Y Y Y Y Y Y Y NE vd Y rF (zF Y) Y (Z10 ?_);refine zh Y (fun hg=>fM Y (Y) Y) (zb (ju Y Y Y Y) ?_);refine Z ?_;refine zh Y (fun hg=>zf Y Y ag) (zh Y (fun hg=>zl Y (Y) Y ki) ?_);refine zh Y (fun hg=>zi (av:=[_]) Y ⟨((by first|exact Y|exact(zLc hg))),trivial⟩ (q34 _)) ?_;refine zh Y (fun hg=>q0 Y (Y)) (zb (ju Y Y Y Y) ?_);refine Z ?_;refine zh Y (fun hg=>zf Y Y xE) (zh Y (fun hg=>zl Y ((zLc hg)) Y ki) ?_);refine zh Y (fun hg=>zi (av:=[_]) Y ⟨((by first|exact Y|exact(zLc hg))),trivial⟩ (q34 _)) ?_;refine zh Y (fun hg=>q0 Y ((zLc hg))) (zb (ju Y Y Y Y) ?_);refine Z2 ?_;refine nC ?_ ?_<;>intro h2
   ·skip;exfalso;simp[Hs.inB]at h2;omega
   ·skip;refine Z14 ?_;refine zD (ι:={i:Nat//i<=D5.length}) (fun i=>⟨Tryz.f6.ntmps,frL [(2,I pick),(3,.pub (.ptr (Hs.eSut s))),(8,.pub (.sl (D5.map eAc))),(10,.pub (.ptr [ei (cI s b5),ei (cU s b5)])),(12,.pub (.ptr [ei (dB s.pb s.pr s.pl (cI s b5)),ei (dB s.pb s.pr s.pl (cU s b5))])),(14,I (ye s pick D5 i.1)),(15,I (i.1:Int))],[]⟩) (fun i=>D5.length-i.1) (⟨0,oM⟩) ?_ ?_
    ·exact zd _ rL (Y)
    ·rintro⟨i,hi⟩;dsimp only;refine Z5 ?_;refine zb (zM Y Y Y underlying38) (Z3 ?_);refine nC ?_ ?_<;>intro h3
     ·skip;have hlt:i<D5.length:=by simpa using h3
      have hfo:=V1 (hf.fo _ (zLm hlt));have hab:=F4 hf.sp hf.p0 hf.ik hf.ru hf.d66 i oM;refine Z8 ?_;refine zb (zc Y Y Y sA oM (by exact Hs.mp_at (e:=eAc) hlt) (Hs.mp_len fun _=>rfl)) ?_;refine zb (zf Y Y pS) (zb (zl Y Y Y hU) ?_);refine Z5 ?_;refine zN mixed nR Y ?_;refine Z2 ?_;refine zH Y (zc Y Y Y sA oM (by exact Hs.mp_at (e:=eAc) hlt) (Hs.mp_len fun _=>rfl)) ?_;refine zH Y (zf Y Y rh) (zH Y (zl Y Y Y ki) ?_);refine Z3 ?_;refine zq Y (fun hg=>zc Y (zLc hg) Y zY oM (by exact zA (ds:=D5[i].n) (i:=1) oM) zn) ?_;refine zq Y (fun hg=>zl Y (zLc hg) Y ki) (Z4 ?_);refine zq Y (fun hg=>zc Y (zLc hg) Y zY oM (by exact zA (ds:=D5[i].n) (i:=1) oM) zn) ?_;refine zq Y (fun hg=>zl Y (zLc hg) Y ki) (zq Y (fun hg=>zf Y Y rR) (zq Y (fun hg=>zl Y (zLc hg) Y hU) (zq Y (fun hg=>zM Y Y (zLc hg) underlying24) ?_)));refine Z4 ?_;refine nC ?_ ?_<;>intro h4
      ·skip
       have h6:¬D5[i].w=6:=fun h6=>by
        obtain⟨h7,_⟩:=hf.ru.cm _ (zLm hlt) h6;rw[gd oM]at h7;simp[h6]at h4;omega
       refine Z9 ?_;exact⟨⟨i+1,oM⟩,by dsimp only;omega,zd _ ⟨Y,Y,Y,Y,Y,(zLz I (Jh hlt h6)),Y,trivial⟩ (Y)⟩
      ·skip
       have h6:D5[i].w=6:=by
        by_cases h6:D5[i].w=6
        ·exact h6
        ·simp[h6]at h4
       have hcm:=hf.ru.cm _ (zLm hlt) h6;rw[gd oM,gd (by have:=hfo.2.1 h6;omega)]at hcm;have hn3:=hfo.2.1 h6;have hsh:=Ny hf.sp;have hcc:(0<=D5[i].n[2]/\D5[i].n[2]<=1000)/\True:=⟨oM,trivial⟩;have hcp:=ti (s:=s) (pick:=pick) hf.sp hf.p0 hcm.2.1 hcm.2.2
       have h35:∀c:Int,0<=c/\c<=10->ACall tP G 35 [ei D5[i].n[2],ei c] (.v (.bool (yj D5[i].n[2] c.toNat))):=fun c hc=>by
        have:=q35 (G:=G) D5[i].n[2] c.toNat hcc.1 oM;rwa[show((c.toNat:Nat):Int)=c by omega]at this
       refine Z8 ?_;refine zD (ι:={j:Nat//j<=i}) (fun j=>⟨Tryz.f6.ntmps,frL [(2,I pick),(3,.pub (.ptr (Hs.eSut s))),(8,.pub (.sl (D5.map eAc))),(10,.pub (.ptr [ei (cI s b5),ei (cU s b5)])),(12,.pub (.ptr [ei (dB s.pb s.pr s.pl (cI s b5)),ei (dB s.pb s.pr s.pl (cU s b5))])),(14,I (ye s pick D5 i+ar s pick D5[i] (D5.take j.1))),(15,I (i:Int)),(16,.pub (eI D5[i].n)),(17,I (j.1:Int))],[]⟩) (fun j=>i-j.1) (⟨0,oM⟩) ?_ ?_
       ·exact zd _ ⟨Y,Y,Y,Y,Y,(zLz I (by simp[ar,sumF])),Y,Y,Y,trivial⟩ (Y)
       ·rintro⟨j,hj⟩;dsimp only;refine Z8 ?_;refine nC ?_ ?_<;>intro h5
        ·skip;have hji:j<i:=by simp at h5;omega
         have hjl:j<D5.length:=oM;have hfj:=V1 (hf.fo _ (zLm hjl));have hrb:=NM hf.sp hf.p0 hf.ik hf.ru (zLm hlt) h6 (l:=D5.take j) (fun m hm=>List.mem_of_mem_take hm);rw[List.length_take]at hrb;have htb:=Nh hf.sp hf.p0 hf.ik hf.ru (zLm hlt) h6 (zLm hjl);refine Z8 ?_;refine zb (zc Y Y Y sA oM (by exact Hs.mp_at (e:=eAc) hjl) (Hs.mp_len fun _=>rfl)) ?_;refine zb (zf Y Y pS) (zb (zl Y Y Y hU) ?_);refine Z5 ?_;refine zN mixed nR Y ?_;refine Z2 ?_;refine zH Y (zc Y Y Y sA oM (by exact Hs.mp_at (e:=eAc) hjl) (Hs.mp_len fun _=>rfl)) ?_;refine zH Y (zf Y Y rh) (zH Y (zl Y Y Y ki) ?_);refine Z3 ?_;refine zq Y (fun hg=>zc Y (zLc hg) Y zY oM (by exact zA (ds:=D5[j].n) (i:=0) oM) zn) ?_;refine zq Y (fun hg=>zl Y (zLc hg) Y ki) (Z ?_);refine zq Y (fun hg=>zc Y (zLc hg) Y zY oM (by exact zA (ds:=D5[i].n) (i:=0) oM) zn) ?_;refine zq Y (fun hg=>zl Y (zLc hg) Y ki) (Z4 ?_);refine zq Y (fun hg=>zc Y (zLc hg) Y zY oM (by exact zA (ds:=D5[j].n) (i:=1) oM) zn) ?_
         refine zq Y (fun hg=>zl Y (zLc hg) Y ki) (Z ?_);refine zq Y (fun hg=>zc Y (zLc hg) Y zY oM (by exact zA (ds:=D5[i].n) (i:=1) oM) zn) ?_;refine zq Y (fun hg=>zl Y (zLc hg) Y ki) (Z4 ?_);refine nC ?_ ?_<;>intro h6
         ·skip
          have hno:¬(D5[j].w=5/\dn D5[j]=dn D5[i]):=fun h=>by
           rw[Mc,gd oM,gd oM,gd oM,gd oM]at h;simp[h.1,h.2.1,h.2.2]at h6
          refine Z9 ?_;exact⟨⟨j+1,oM⟩,by dsimp only;omega,zd _ ⟨Y,Y,Y,Y,Y,(zLz I (QH hjl hno)),Y,Y,Y,trivial⟩ (Y)⟩
         ·skip
          have hyes:D5[j].w=5/\dn D5[j]=dn D5[i]:=by
           rw[Mc,gd oM,gd oM,gd oM,gd oM]
           by_cases h7:D5[j].w=5
           ·refine⟨h7,?_⟩;simp[h7]at h6;omega
           ·simp[h7]at h6
          have hn7:=hfj.2.2 hyes.1;have hpt:=hf.ru.part hf.ik (zLm hjl) hyes.1;refine Z5 ?_;refine zb (zf Y Y fB) (zb (zl Y Y Y ki) ?_);refine zb (fW Y Y Y ⟨hf.p0,oM⟩) (Z10 ?_);refine zD (ι:={q:Nat × Int//q.1<=s.cls.toNat/\(0<=q.2/\q.2<s.cls)/\clG s.cls D5[i].n[2] (s.cls.toNat-q.1) q.2=clP s.cls D5[i].n[2] pick}) (fun q=>⟨Tryz.f6.ntmps,frL [(2,I pick),(3,.pub (.ptr (Hs.eSut s))),(8,.pub (.sl (D5.map eAc))),(10,.pub (.ptr [ei (cI s b5),ei (cU s b5)])),(12,.pub (.ptr [ei (dB s.pb s.pr s.pl (cI s b5)),ei (dB s.pb s.pr s.pl (cU s b5))])),(14,I (ye s pick D5 i+ar s pick D5[i] (D5.take j))),(15,I (i:Int)),(16,.pub (eI D5[i].n)),(17,I (j:Int)),(18,.pub (eI D5[j].n)),(19,I q.1.2),(20,I (q.1.1:Int))],[]⟩) (fun q=>s.cls.toNat-q.1.1) (⟨(0,pick % s.cls),oM,⟨Int.emod_nonneg _ oM,Int.emod_lt_of_pos _ oM⟩,Y⟩) ?_ ?_
          ·exact zd _ rL (Y)
          ·rintro⟨⟨c,cz⟩,hc9,hcls⟩;dsimp only at hc9 hcls⊢;have hcx:0<=cz/\cz<=10:=oM;have hcls:(0<=cz/\cz<s.cls)/\True/\clG s.cls D5[i].n[2] (s.cls.toNat-c) cz=clP s.cls D5[i].n[2] pick:=⟨hcls.1,trivial,hcls.2⟩;refine Z4 ?_;refine zb (zf Y Y fB) (zb (zl Y Y Y ki) ?_);refine Z3 ?_;refine zh Y (fun hg=>zc Y (zLc hg) Y zY oM (by exact zA (ds:=D5[i].n) (i:=2) oM) zn) ?_;refine zh Y (fun hg=>zl Y (zLc hg) Y ki) (Z ?_);refine yd Y (fun hg=>(h35 _ hcx)) ?_;refine Z4 ?_;refine nC ?_ ?_<;>intro h7
           ·skip;have hclt:c<s.cls.toNat:=by by_cases hz:(c:Int)<s.cls<;>simp[hz]at h7;omega
            have hbf:yj D5[i].n[2] cz.toNat=false:=by by_cases hz:(c:Int)<s.cls<;>simp[hz]at h7;exact h7
            refine Z7 ?_;refine zb (zf Y Y fB) (zb (zl Y Y Y ki) ?_);refine zb (fW Y Y Y ⟨oM,oM⟩) (Z9 ?_);exact⟨⟨(c+1,(cz+1) % s.cls),by dsimp only;omega,⟨Int.emod_nonneg _ oM,Int.emod_lt_of_pos _ oM⟩,Gy hclt hbf hcls.2.2⟩,by dsimp only;omega,zd _ rL (Y)⟩
           ·skip
            have hcf:cz=clP s.cls D5[i].n[2] pick:=by
             rw[←hcls.2.2]
             by_cases hz:(c:Int)<s.cls
             ·obtain⟨m,hm⟩:∃m,s.cls.toNat-c=m+1:=⟨s.cls.toNat-c-1,oM⟩;have hb:yj D5[i].n[2] cz.toNat=true:=by simp[hz]at h7;exact h7
              rw[hm,clG,zLc hb]
             ·rw[show s.cls.toNat-c=0 by omega];rfl
            have hgB:gB (D5[j].n.drop 2) cz=true:=by unfold gB;rw[hpt.1,Bool.true_and,Hs.inB_iff];omega
            have hgb:=Rb hpt.1 (c:=cz.toNat) oM;have hmb:=DZ ⟨hgb.1,hgb.2⟩ (Oo (AD hf.sp) (D5[i].n[1]).toNat);rw[Int.mul_comm,gd oM]at hmb;have hmc:-1000000<=s.wts[(D5[i].n[1]).toNat]*(if gB (D5[j].n.drop 2) cz=true then gnL (D5[j].n.drop 2) cz.toNat else 0)/\s.wts[(D5[i].n[1]).toNat]*(if gB (D5[j].n.drop 2) cz=true then gnL (D5[j].n.drop 2) cz.toNat else 0)<=1000000:=by rw[zLc hgB];exact hmb
            refine Z8 ?_;refine zb (UA Y Y oM) (Z ?_);refine yc (f51 (D5[j].n.drop 2) (by simp;omega) cz) ?_;refine Z14 ?_;refine zh Y (fun hg=>y6 Y ((zLc hg)) Y) (zb (ju Y Y Y Y) ?_);refine Z2 ?_;refine zh Y (fun hg=>yq Y ((zLc hg)) Y) (zb (ju Y Y Y Y) ?_);refine Z2 ?_;refine nC ?_ ?_<;>intro h8
            ·skip;exfalso;simp[hgB]at h8;omega
            ·skip;refine Z2 ?_;refine zN mixed nR Y ?_;refine Z ?_;refine zH Y (zf Y Y rR) (zH Y (zl Y Y Y hU) ?_);refine Z ?_;refine zH Y (zc Y Y Y zY oM (by exact zA (ds:=D5[i].n) (i:=1) oM) zn) ?_;refine zH Y (zl Y Y Y ki) ?_;refine zH Y (zc Y Y Y zY oM (by exact zA (ds:=s.wts) (i:=(D5[i].n[1]).toNat) oM) zn) ?_;refine zH Y (zl Y Y Y ki) (Z12 ?_);exact⟨⟨j+1,oM⟩,by dsimp only;omega,zd _ ⟨Y,Y,Y,Y,Y,(zLz I (Kt (c:=cz) hjl hyes (by rw[gd (l:=D5[i].n) (i:=1) oM,gd oM]) (by rw[gd oM];exact hcf) (zLc hgB))),Y,Y,Y,trivial⟩ (Y)⟩
        ·skip;have hjg:j=i:=by simp at h5;omega
         refine Z11 ?_;exact⟨⟨i+1,oM⟩,by dsimp only;omega,zd _ ⟨Y,Y,Y,Y,Y,(zLz I (PC hlt h6 hjg)),Y,trivial⟩ (Y)⟩
     ·skip;have hge:i=D5.length:=by simp at h3;omega
      refine Z7 ?_;refine zb (zf Y Y pN) (zb (qk Y Y A7 bL) (zb (zf Y Y ag) (zb (zl Y Y Y ki) ?_)));refine yc (q37 s.pb s.pr s.pl (cI s b5) hf.sp.pap htot.1) ?_;refine Z9 ?_;refine zb (zf Y Y pN) (zb (qk Y Y A7 bL) (zb (zf Y Y xE) (zb (zl Y Y Y ki) ?_)));refine yc (q37 s.pb s.pr s.pl (cU s b5) hf.sp.pap htot.2) ?_;refine Z8 ?_;refine zN mixed nR Y ?_;refine Z4 ?_;refine zq Y (fun hg=>vr Y (Y) Y) (zH Y (vB Y Y Y Y) ?_);refine Z ?_;refine zq Y (fun hg=>qk Y Y vd bL) (Z2 ?_);refine zq Y (fun hg=>zi (av:=[_,_]) Y ⟨((by first|exact Y|exact(zLc hg))),((by first|exact Y|exact(zLc hg))),trivial⟩ (f53 _ _)) ?_;refine zq Y (fun hg=>Qk Y Y Y) (zH Y (vB Y Y Y Y) ?_);refine Z2 ?_;refine zq Y (fun hg=>zf Y Y ag) (zq Y (fun hg=>zl Y ((zLc hg)) Y ki) (zq Y (fun hg=>g9 Y ((zLc hg)) ((zLc hg))) (zH Y (vB Y Y Y Y) ?_)));refine Z2 ?_;refine zq Y (fun hg=>zf Y Y xE) (zq Y (fun hg=>zl Y ((zLc hg)) Y ki) (zq Y (fun hg=>bE Y ((zLc hg)) ((zLc hg))) (zH Y (vB Y Y Y Y) ?_)))
      refine Z ?_;refine zq Y (fun hg=>zi (av:=[]) Y trivial h14) (zH Y (vB Y Y Y Y) ?_);refine Z4 ?_;exact⟨.inr Y,AVle.of (by have h9:D5.length=i:=hge.symm;simp[hge,hti.1,hti.2])⟩
end Bu
end Go.Av
end
