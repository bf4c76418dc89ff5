/- .. -/
import Derived.Test.YtanhdliaaccacaaGreatUB37
namespace Go.Proofs.YtanhdliaaccacaaGreat
open Go.RowKit
set_option linter.unusedVariables false
set_option maxHeartbeats 64000000
set_option maxRecDepth 100000
structure Cw (s:SD) (Fr:List cz) (k n:Nat):Prop where
 so:rW s Fr k n
 rm:Rm s.1 (200000+600 * n) (2 * n)
 aa:s.2.l.m.aa.length+n≤62
 next:s.2.l.m.next+n≤63
 only:Only s.1 (Mine s.2.l.m.aa)
theorem Nl {r:Rec} {v:Int} (hv:di v=true) (hm:bR r=true):(dI r v).1.body.length≤200:=by
 unfold dI
 rw [if_neg (by simp [hv]),if_neg (by simp [hm])]
 exact lC _ hm
theorem Cw.less {s:SD} {Fr:List cz} {k n n':Nat} (h:Cw s Fr k n) (hn:n'≤n):Cw s Fr k n':=
 ⟨h.so.less hn,h.rm.le (by omega) (by omega),by have:=h.aa;omega,by have:=h.next;omega,h.only⟩
theorem Cw.write {s:SD} {Fr:List cz} {k n:Nat} (h:Cw s Fr k (n+1)) {r:Rec} (wr:nS r):∃ zt,Cw (bW r s).1 zt k n:=by
 obtain⟨a1,a2,a3,a4⟩:=h.so.write wr
 rcases a4 with ⟨e,f,g⟩|⟨_,e⟩
 case inr=>rw [e];exact⟨Fr,h.less (by omega)⟩
 refine⟨Fr++[f],?_⟩
 obtain⟨hm,e1,e2⟩:=Dt e
 obtain⟨_,_,b3,b4⟩:=h.so.app wr hm
 have hv:=h.so.inv.ak
 have hb:(fI r s).1.body.length≤200:=Nl hv hm
 have hok:=(Ai (r:=r) (v:=s.2.l.m.ak) (qU wr hv hm).1).1
 have hk:(fI r s).1.kind < 256:=hok.kind
 have iK:s.2.l.m.ak≤255:=by have:=hv;unfold di at this;simp at this;omega
 have hp:gu (fI r s).1.kind s.2.l.m.ak (fI r s).1.body.length=0:=by
  unfold gu
  rw [if_neg (by omega),if_neg (by omega)]
 have hr:Rm s.1 (200000+600 * n+278+(16+(fI r s).1.body.length)) (2 * n+2):=h.rm.le (by omega) (by omega)
 have c1:=Dn (h.so.inv.EK h.so.loose) h.so.loose _ _ hr (by have:=h.aa;omega) (by have:=h.next;omega) hp
 have c2:=Jp (h.so.inv.EK h.so.loose) h.so.loose _ _ hr (by have:=h.aa;omega) (by have:=h.next;omega) hp h.only
 refine⟨g,by rw [e1];exact c1.2.1,?_,?_,by rw [e1,e2];exact c2⟩
 ·rw [e2];have:=h.aa;omega
 ·rw [e2];have:=h.next;omega
theorem Cw.start {v:Int} (hv:1≤v∧v≤3) (size:Int):∃ s:SD,createS v size (iU 300000)=(s.1,some s.2,0)∧Cw s [] 0 61∧s.2.st=aH∧s.2.sure=aH∧(s.2.l.m.ak:Int)=v∧s.2.l.size=sized size:=by
 obtain⟨s,h1,h2,h3,h4,h5,h6⟩:=rW.start hv size 300000 61 (by omega) (by omega)
 have hr:Rm (iU 300000) (200000+600 * 61+278) (2 * 61+2):=⟨rfl,by decide,by decide,by decide⟩
 obtain⟨d',g1,g2,g3⟩:=Dp (d:=iU 300000) (B:=200000+600 * 61) (n:=2 * 61) (wE _) hr rfl (v:=v.toNat) (by omega) size
 have TN:(v.toNat:Int)=v:=by omega
 rw [TN] at g1
 have h1':createS v size (iU 300000)=(d',some ⟨⟨sized size,firstM v.toNat,false⟩,aH,aH⟩,0):=by unfold createS;rw [g1]
 have e:=h1.symm.trans h1'
 have e1:s.1=d':=congrArg Prod.fst e
 have e2:s.2=⟨⟨sized size,firstM v.toNat,false⟩,aH,aH⟩:=Option.some.inj (congrArg (fun x=>x.2.1) e)
 refine⟨s,h1,⟨h2,by rw [e1];exact g3,by rw [e2];exact Nat.le_refl _,by rw [e2];exact Nat.le_refl _,?_⟩,h3,h4,h5,h6⟩
 rw [e1,e2]
 have ho:Only (iU 300000) (Mine []):=fun n hn=>absurd rfl hn
 have hb:=Cc (wE 300000) (s:=1) (by omega) (hr.le (Nat.le_refl _) (by omega):Rm _ (200000+600 * 61+278) (2 * 61+1+1)) ho
 obtain⟨b1,b2,b3,b4⟩:=wK (wE 300000) (s:=1) (by omega) (hr.le (Nat.le_refl _) (by omega):Rm _ (200000+600 * 61+278) (2 * 61+1+1))
 unfold cu at g1
 rw [if_neg (by omega),if_neg (by decide)] at g1
 simp only at g1
 generalize dM 1 (iU 300000)=r1 at *
 rw [aT b1] at g1
 obtain⟨j,j1,_,_⟩:=b4
 obtain⟨c1,c2,c3⟩:=mP b3 b2 j1
 have c4:=gG b3 (ai 1)
 have c5:=nR hb (ai 1)
 generalize aW r1.1 (ai 1)=r2 at *
 rw [aT c1] at g1
 have hm:fJ (firstM v.toNat)=true:=bQ.2 ⟨⟨by show 1≤v.toNat;omega,by show v.toNat≤3;omega,Nat.le_refl _,by show 1≤64;omega,by show 1≤2;omega,by show 2≤1000000;omega⟩,by show upB 2 0 [1]=true;decide⟩
 have c6:Only r2.1 (Mine (firstM v.toNat).aa):=c5.mono (fun x hx=>by
  rcases hx with (hx | ⟨s,hs,_⟩) | hx
  ·exact Or.inl hx
  ·cases hs
  ·exact Or.inr ⟨1,by simp [firstM],hx⟩)
 have c7:=tZ c4 hm c2 c6 (Or.inl rfl)
 have e3:(aG (firstM v.toNat) r2.1).1=d':=by
  split at g1
  ·exact absurd (congrArg (fun x=>x.2.1) g1) (by simp)
  ·exact congrArg Prod.fst g1
 rw [← e3];exact c7
structure kP (k z:Nat) (v:Int) (s:SD):Prop where
 su:uF 61 k z s
 ak:(s.2.l.m.ak:Int)=v
 fmt:nD v s.2.st
 nt:∃ Fr kk,Cw s Fr kk (61 - k)
theorem kP.fi {k z:Nat} {v:Int} {s:SD} (h:kP k z v s):Gm k z v s:=⟨h.su,h.ak,h.fmt⟩
theorem kP.write {k z:Nat} {v:Int} {s:SD} (h:kP k z v s) (hk:k < 61) {r:Rec} (wr:nS r):kP (k+1) z v (bW r s).1:=by
 have h1:=h.fi.write hk wr
 obtain⟨Fr,kk,g⟩:=h.nt
 rw [show 61 - k=(61 - (k+1))+1 by omega] at g
 obtain⟨zt,g'⟩:=g.write wr
 exact⟨h1.su,h1.ak,h1.fmt,zt,kk,g'⟩
theorem kP.more {k z:Nat} {v:Int} {s:SD} (h:kP k z v s):kP (k+1) z v s:=by
 obtain⟨Fr,kk,g⟩:=h.nt
 exact⟨h.su.more,h.ak,h.fmt,Fr,kk,g.less (by omega)⟩
theorem kP.to {k z:Nat} {v:Int} {s:SD} (h:kP k z v s):∀ {j:Nat},k≤j→kP j z v s
 | 0,hj=>by
  have e:k=0:=Nat.le_zero.1 hj
  subst e
  exact h
 | j+1,hj=>by
  by_cases e:k=j+1
  ·subst e;exact h
  ·exact (h.to (by omega)).more
theorem kP.start {v:Int} (hv:1≤v∧v≤3) (size:Int):∃ s:SD,createS v size (iU 300000)=(s.1,some s.2,0)∧kP 0 (sized size) v s:=by
 obtain⟨s,h1,h2⟩:=Gm.start hv size
 obtain⟨s',g1,g2,_⟩:=Cw.start hv size
 have e:=h1.symm.trans g1
 obtain⟨e1,e4⟩:=Prod.mk.inj e
 have e2:s.2=s'.2:=Option.some.inj (Prod.mk.inj e4).1
 have e3:s=s':=Prod.ext e1 e2
 subst e3
 exact⟨s,h1,h2.su,h2.ak,h2.fmt,[],0,g2⟩
section
variable {W w:World} {R:List ax}
def Jr (sb lb bd dA n z:Nat) (v:Int) (W:World) (R:List ax) (i:Value) (wr:World):Prop:=
 ∃ (k:Nat) (s:SD),k≤n∧i=.int .i64 k∧kP (min k 60) z v s∧In [] W wr (vQ sb lb bd dA s R)
def YP (z:Nat) (v:Int) (W:World) (R:List ax) (e:Ending) (w':World):Prop:=
 ∃ sb lb bd dA s,e=.returned (.tuple #[aF bd,pR sb])∧kP 60 z v s∧In [] W w' (vQ sb lb bd dA s R)
theorem Zr {v:Value} {cs:List kS} {ak:Int} (iK:1≤ak∧ak≤3) (size:Int) (h:In [] W w R) (hv:uW W v cs) :
  Calls Tryz.prog 14 #[.int .i64 ak,.int .i64 size,v] w (YP (sized size) ak W R):=by
 obtain⟨a,cap,rfl,hc1,hc2,hcn,hc⟩:=hv.ex
 have HC:=Lib.hid hc
 unfold maxLen at hc2
 have KN:=Lib.hid (Kv h 300000 (by omega) (by omega))
 obtain⟨s0,hc0,hst⟩:=kP.start iK size
 have KC:Hid (∀ bd w',In [] W w' (bJ bd (iU 300000)::R)→Calls Tryz.prog 22 #[aF bd,.int .i64 ak,.int .i64 size] w' (jP bd (s0.1,some s0.2,0) [] W R)):=Lib.hid (fun bd w' h'=>by
  have:=o_socreate h' (by decide) ak size
  rw [hc0] at this;exact this)
 have HST:=Lib.hid hst
 clear h hv hc hcn hc0 hst
 go_enter Tryz.func14,Tryz.ntmps14
 go_wp2_with fail
 refine KN.out.mono ?_
 rintro e w2 ⟨bd,rfl,g2⟩
 have C1:=Lib.hid (KC.out bd w2 g2)
 clear g2 KN KC
 go_wp2_with fail
 refine C1.out.mono ?_
 intro e w3 hp
 obtain⟨sb,lb,dA,rfl,g3⟩:=hp.some rfl
 have HR:Hid (Jr sb lb bd dA cs.length (sized size) ak W R (.int .i64 0) w3):=Lib.hid ⟨0,s0,Nat.zero_le _,rfl,HST.out,g3⟩
 clear hp C1 g3 HST
 go_wp2_with fail
 go_loopw [29] (Jr sb lb bd dA cs.length (sized size) ak W R) (fun i _=>cs.length - (intOf i).toNat)
 case atStart=>exact HR.out
 case round=>
  obtain⟨k,s,hk,rfl,hst,ho⟩:=hrel
  clear HR
  by_cases hlt:k < cs.length
  ·obtain⟨x,hx⟩:∃ x,cs[k]?=some x:=⟨cs[k],List.getElem?_eq_getElem hlt⟩
   obtain⟨g,o,csx,rfl,hcr,hcell⟩:=HC.out k x hx
   obtain⟨ab,cb,ar,cr,ap,cp,rfl,hsrc,hnn,hbl,hwf,hvr,_,hrl⟩:=Ml hcr
   have hlt':(k:Int) < (cs.length:Int):=by omega
   have hw2:wrap64 ((k:Int)+1)=(k:Int)+1:=by unfold wrap64;omega
   have HRG:=Lib.hid (CO ho hcell)
   obtain⟨hth,h4⟩:=Hd ho x ab cb ar cr ap cp
   have HTH:=Lib.hid hth
   obtain⟨w4,hw4⟩:∃ w4,w4=(wr.alloc (.cells CK 67)).setCells wr.heap.size 0 (nT x ab cb ar cr ap cp).toArray.toList:=⟨_,rfl⟩
   rw [← hw4] at h4
   unfold maxLen at hbl
   have H5:=Lib.hid h4.drop
   have c12:w4.cell? ⟨wr.heap.size,12,none⟩=some (.slice ab x.r.au.length cb):=cell_of (h4.block 0 rfl) Ha
   have WU:=Lib.hid (Am (h4.block 0 rfl))
   have WW:=Lib.hid hw4
   have HST:=Lib.hid hst
   have HM:=Lib.hid (dS hlt')
   have HK:Hid (k+1≤cs.length):=Lib.hid hlt
   have JZ:=Lib.hid hsrc
   have HNN:=Lib.hid hnn
   have PG:=Lib.hid hwf
   have SQ:Hid (s.1.ops≤5000):=Lib.hid (by have:=hst.su.ops;omega)
   have HLG:=Lib.hid (hst.su.LQ (tQ size))
   clear ho h4 hvr hx hlt hcell hcr hw4 hth hsrc hnn hwf hst hrl hk
   go_upto_region 7 with fail
   go_cut [11,12] (fun YQ YR wx=>YQ=.int .i64 k∧YR=.pointer (some ⟨wr.heap.size,0,none⟩)∧wx=w4)
   case first=>
    go_wp2_with (first | (refine wpList_load_mid (by rfl) 67 (.tmp 32) rfl g (o+k * 18) rfl (nT x ab cb ar cr ap cp) _ HRG.out Tryz.underlying67 rfl (by kernel_rfl) ?_) | (refine wpList_store_mid (by rfl) 67 (.tmp 12) (.tmp 33) rfl wr.heap.size 0 (nT x ab cb ar cr ap cp).toArray (by rfl) (by rfl) HTH.out (by kernel_rfl) CL ?_))
    go_meet
    exact⟨rfl,rfl,WW.out.symm⟩
   case rest=>
   obtain⟨rfl,rfl,rfl⟩:=hcut
   clear HRG HTH WW
   generalize wr.heap.size=fb at *
   by_cases q1:k < 60
   case neg=>
    have q1':decide ((k:Int) < 60)=false:=decide_eq_false (by omega)
    have HR:Hid (Jr sb lb bd dA cs.length (sized size) ak W R (.int .i64 ((k:Int)+1)) wc):=Lib.hid ⟨k+1,s,HK.out,by rw [Int.natCast_add];rfl,HST.out.to (by omega),H5.out⟩
    clear q1 H5 HST
    go_wp2_with fail
    go_roundw
    case rel=>(try rw [hw2]);exact HR.out
    case measure=>(try rw [hw2]);exact HM.out
   have q1':(k:Int) < 60:=by omega
   by_cases q2:x.r.au.length≤40
   case neg=>
    have q2':decide ((x.r.au.length:Int)≤40)=false:=decide_eq_false (by omega)
    have HR:Hid (Jr sb lb bd dA cs.length (sized size) ak W R (.int .i64 ((k:Int)+1)) wc):=Lib.hid ⟨k+1,s,HK.out,by rw [Int.natCast_add];rfl,HST.out.to (by omega),H5.out⟩
    clear q1 q2 H5 HST
    go_wp2_with fail
    go_roundw
    case rel=>(try rw [hw2]);exact HR.out
    case measure=>(try rw [hw2]);exact HM.out
   have q2':(x.r.au.length:Int)≤40:=by omega
   have KW:=Lib.hid (yB (r:=x.r) (A:=ab) (c:=cb) HLG.out (by have:=SQ.out;omega) (fun w' h'=>JZ.out.old h') HNN.out (by omega) PG.out.rr H5.out)
   have HN:Hid (kP (min (k+1) 60) (sized size) ak (bW x.r s).1):=Lib.hid (by
    have h1:=HST.out
    rw [Nat.min_eq_left (by omega)] at h1
    rw [Nat.min_eq_left (by omega)]
    exact h1.write (by omega) PG.out.rr)
   clear HST H5 q1 q2
   go_wp2_with (refine wpList_load_mid (by rfl) 59 (.tmp 44) rfl fb 2 rfl (Qd x.r ab cb) _ WU.out Tryz.underlying59 rfl (by kernel_rfl) ?_)
   refine KW.out.mono ?_
   rintro e w5 ⟨rfl,g5⟩
   have HR:Hid (Jr sb lb bd dA cs.length (sized size) ak W R (.int .i64 ((k:Int)+1)) w5):=Lib.hid ⟨k+1,_,HK.out,by rw [Int.natCast_add];rfl,HN.out,g5⟩
   clear g5 KW WU c12 HN
   go_wp2_with fail
   go_roundw
   case rel=>(try rw [hw2]);exact HR.out
   case measure=>(try rw [hw2]);exact HM.out
  ·have hge:(cs.length:Int)≤(k:Int):=by omega
   have G:=Lib.hid (kP.to hst (show min k 60≤60 by omega))
   have GO:=Lib.hid ho
   clear ho hlt hk hst
   go_wp2_with fail
   go_ret2
   exact⟨sb,lb,bd,dA,s,rfl,G.out,GO.out⟩
end
end Go.Proofs.YtanhdliaaccacaaGreat
