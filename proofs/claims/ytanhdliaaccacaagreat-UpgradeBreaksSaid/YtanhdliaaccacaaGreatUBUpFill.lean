/- .. -/
import Derived.Test.YtanhdliaaccacaaGreatUB38
namespace Go.Proofs.YtanhdliaaccacaaGreat
open Go.RowKit
set_option linter.unusedVariables false
set_option maxHeartbeats 64000000
set_option maxRecDepth 100000
def YS (v size:Int):SD:=((createS v size (iU 300000)).1,((createS v size (iU 300000)).2.1).getD ⟨default,aH,aH⟩)
def oH (cs:List kS) (s0:SD):Nat→SD
 | 0=>s0
 | k+1=>if k < 60 then (match cs[k]? with
  | some x=>if x.r.au.length≤40 then (bW x.r (oH cs s0 k)).1 else oH cs s0 k
  | none=>oH cs s0 k) else oH cs s0 k
def WX (v size:Int) (cs:List kS):SD:=oH cs (YS v size) cs.length
theorem Cf {cs:List kS} {s0:SD} {k:Nat} (h:¬ k < 60):oH cs s0 (k+1)=oH cs s0 k:=if_neg h
theorem Cg {cs:List kS} {s0:SD} {k:Nat} {x:kS} (hx:cs[k]?=some x) (h2:¬ x.r.au.length≤40):oH cs s0 (k+1)=oH cs s0 k:=by
 show (if k < 60 then _ else _)=_
 rw [hx]
 simp only
 rw [if_neg h2,ite_self]
theorem LZ {cs:List kS} {s0:SD} {k:Nat} {x:kS} (h:k < 60) (hx:cs[k]?=some x) (h2:x.r.au.length≤40):oH cs s0 (k+1)=(bW x.r (oH cs s0 k)).1:=by
 show (if k < 60 then _ else _)=_
 rw [if_pos h,hx]
 simp only
 rw [if_pos h2]
theorem kP.start' {v:Int} (hv:1≤v∧v≤3) (size:Int):createS v size (iU 300000)=((YS v size).1,some (YS v size).2,0)∧kP 0 (sized size) v (YS v size):=by
 obtain⟨s,h1,h2⟩:=kP.start hv size
 have e:YS v size=s:=by unfold YS;rw [h1];rfl
 rw [e]
 exact⟨h1,h2⟩
section
variable {W w:World} {R:List ax}
def Js (cs:List kS) (s0:SD) (sb lb bd dA n z:Nat) (v:Int) (W:World) (R:List ax) (i:Value) (wr:World):Prop:=
 ∃ (k:Nat),k≤n∧i=.int .i64 k∧kP (min k 60) z v (oH cs s0 k)∧In [] W wr (vQ sb lb bd dA (oH cs s0 k) R)
def YT (s:SD) (z:Nat) (v:Int) (W:World) (R:List ax) (e:Ending) (w':World):Prop:=
 ∃ sb lb bd dA,e=.returned (.tuple #[aF bd,pR sb])∧kP 60 z v s∧In [] W w' (vQ sb lb bd dA s R)
theorem Zt {v:Value} {cs:List kS} {ak:Int} (iK:1≤ak∧ak≤3) (size:Int) (h:In [] W w R) (hv:uW W v cs) :
  Calls Tryz.prog 14 #[.int .i64 ak,.int .i64 size,v] w (YT (WX ak size cs) (sized size) ak W R):=by
 obtain⟨a,cap,rfl,hc1,hc2,hcn,hc⟩:=hv.ex
 have HC:=Lib.hid hc
 unfold maxLen at hc2
 have KN:=Lib.hid (Kv h 300000 (by omega) (by omega))
 obtain⟨hc0,hst⟩:=kP.start' iK size
 unfold WX
 obtain⟨s0,hs0⟩:∃ s0,s0=YS ak size:=⟨_,rfl⟩
 rw [← hs0] at hc0 hst ⊢
 have KC:Hid (∀ bd w',In [] W w' (bJ bd (iU 300000)::R)→Calls Tryz.prog 22 #[aF bd,.int .i64 ak,.int .i64 size] w' (jP bd (s0.1,some s0.2,0) [] W R)):=Lib.hid (fun bd w' h'=>by
  have:=o_socreate h' (by decide) ak size
  rw [hc0] at this;exact this)
 have HST:=Lib.hid hst
 clear h hv hc hcn hc0 hst hs0
 go_enter Tryz.func14,Tryz.ntmps14
 go_wp2_with fail
 refine KN.out.mono ?_
 rintro e w2 ⟨bd,rfl,g2⟩
 have C1:=Lib.hid (KC.out bd w2 g2)
 clear g2 KN KC
 go_wp2_with fail
 refine C1.out.mono ?_
 intro e w3 hp
 obtain⟨sb,lb,dA,rfl,g3⟩:=hp.some rfl
 have HR:Hid (Js cs s0 sb lb bd dA cs.length (sized size) ak W R (.int .i64 0) w3):=Lib.hid ⟨0,Nat.zero_le _,rfl,HST.out,g3⟩
 clear hp C1 g3 HST
 go_wp2_with fail
 go_loopw [29] (Js cs s0 sb lb bd dA cs.length (sized size) ak W R) (fun i _=>cs.length - (intOf i).toNat)
 case atStart=>exact HR.out
 case round=>
  obtain⟨k,hk,rfl,hst,ho⟩:=hrel
  clear HR
  obtain⟨s,hs⟩:∃ s,s=oH cs s0 k:=⟨_,rfl⟩
  rw [← hs] at hst ho
  have Co:=Lib.hid hs
  clear hs
  by_cases hlt:k < cs.length
  ·obtain⟨x,hx⟩:∃ x,cs[k]?=some x:=⟨cs[k],List.getElem?_eq_getElem hlt⟩
   obtain⟨g,o,csx,rfl,hcr,hcell⟩:=HC.out k x hx
   obtain⟨ab,cb,ar,cr,ap,cp,rfl,hsrc,hnn,hbl,hwf,hvr,_,hrl⟩:=Ml hcr
   have hlt':(k:Int) < (cs.length:Int):=by omega
   have hw2:wrap64 ((k:Int)+1)=(k:Int)+1:=by unfold wrap64;omega
   have HRG:=Lib.hid (CO ho hcell)
   obtain⟨hth,h4⟩:=Hd ho x ab cb ar cr ap cp
   have HTH:=Lib.hid hth
   obtain⟨w4,hw4⟩:∃ w4,w4=(wr.alloc (.cells CK 67)).setCells wr.heap.size 0 (nT x ab cb ar cr ap cp).toArray.toList:=⟨_,rfl⟩
   rw [← hw4] at h4
   unfold maxLen at hbl
   have H5:=Lib.hid h4.drop
   have c12:w4.cell? ⟨wr.heap.size,12,none⟩=some (.slice ab x.r.au.length cb):=cell_of (h4.block 0 rfl) Ha
   have WU:=Lib.hid (Am (h4.block 0 rfl))
   have WW:=Lib.hid hw4
   have HST:=Lib.hid hst
   have HX:=Lib.hid hx
   have HM:=Lib.hid (dS hlt')
   have HK:Hid (k+1≤cs.length):=Lib.hid hlt
   have JZ:=Lib.hid hsrc
   have HNN:=Lib.hid hnn
   have PG:=Lib.hid hwf
   have SQ:Hid (s.1.ops≤5000):=Lib.hid (by have:=hst.su.ops;omega)
   have HLG:=Lib.hid (hst.su.LQ (tQ size))
   clear ho h4 hvr hx hlt hcell hcr hw4 hth hsrc hnn hwf hst hrl hk
   go_upto_region 7 with fail
   go_cut [11,12] (fun YQ YR wx=>YQ=.int .i64 k∧YR=.pointer (some ⟨wr.heap.size,0,none⟩)∧wx=w4)
   case first=>
    go_wp2_with (first | (refine wpList_load_mid (by rfl) 67 (.tmp 32) rfl g (o+k * 18) rfl (nT x ab cb ar cr ap cp) _ HRG.out Tryz.underlying67 rfl (by kernel_rfl) ?_) | (refine wpList_store_mid (by rfl) 67 (.tmp 12) (.tmp 33) rfl wr.heap.size 0 (nT x ab cb ar cr ap cp).toArray (by rfl) (by rfl) HTH.out (by kernel_rfl) CL ?_))
    go_meet
    exact⟨rfl,rfl,WW.out.symm⟩
   case rest=>
   obtain⟨rfl,rfl,rfl⟩:=hcut
   clear HRG HTH WW
   generalize wr.heap.size=fb at *
   by_cases q1:k < 60
   case neg=>
    have q1':decide ((k:Int) < 60)=false:=decide_eq_false (by omega)
    have HR:Hid (Js cs s0 sb lb bd dA cs.length (sized size) ak W R (.int .i64 ((k:Int)+1)) wc):=Lib.hid ⟨k+1,HK.out,by rw [Int.natCast_add];rfl,by rw [Cf q1,← Co.out];exact HST.out.to (by omega),by rw [Cf q1,← Co.out];exact H5.out⟩
    clear q1 H5 HST
    go_wp2_with fail
    go_roundw
    case rel=>(try rw [hw2]);exact HR.out
    case measure=>(try rw [hw2]);exact HM.out
   have q1':(k:Int) < 60:=by omega
   by_cases q2:x.r.au.length≤40
   case neg=>
    have q2':decide ((x.r.au.length:Int)≤40)=false:=decide_eq_false (by omega)
    have HR:Hid (Js cs s0 sb lb bd dA cs.length (sized size) ak W R (.int .i64 ((k:Int)+1)) wc):=Lib.hid ⟨k+1,HK.out,by rw [Int.natCast_add];rfl,by rw [Cg HX.out q2,← Co.out];exact HST.out.to (by omega),by rw [Cg HX.out q2,← Co.out];exact H5.out⟩
    clear q1 q2 H5 HST
    go_wp2_with fail
    go_roundw
    case rel=>(try rw [hw2]);exact HR.out
    case measure=>(try rw [hw2]);exact HM.out
   have q2':(x.r.au.length:Int)≤40:=by omega
   have KW:=Lib.hid (yB (r:=x.r) (A:=ab) (c:=cb) HLG.out (by have:=SQ.out;omega) (fun w' h'=>JZ.out.old h') HNN.out (by omega) PG.out.rr H5.out)
   have HN:Hid (kP (min (k+1) 60) (sized size) ak (bW x.r s).1):=Lib.hid (by
    have h1:=HST.out
    rw [Nat.min_eq_left (by omega)] at h1
    rw [Nat.min_eq_left (by omega)]
    exact h1.write (by omega) PG.out.rr)
   have HFS:Hid (oH cs s0 (k+1)=(bW x.r s).1):=Lib.hid (by rw [Co.out];exact LZ q1 HX.out q2)
   clear HST H5 q1 q2
   go_wp2_with (refine wpList_load_mid (by rfl) 59 (.tmp 44) rfl fb 2 rfl (Qd x.r ab cb) _ WU.out Tryz.underlying59 rfl (by kernel_rfl) ?_)
   refine KW.out.mono ?_
   rintro e w5 ⟨rfl,g5⟩
   have HR:Hid (Js cs s0 sb lb bd dA cs.length (sized size) ak W R (.int .i64 ((k:Int)+1)) w5):=Lib.hid ⟨k+1,HK.out,by rw [Int.natCast_add];rfl,by rw [HFS.out];exact HN.out,by rw [HFS.out];exact g5⟩
   clear g5 KW WU c12 HN
   go_wp2_with fail
   go_roundw
   case rel=>(try rw [hw2]);exact HR.out
   case measure=>(try rw [hw2]);exact HM.out
  ·have hge:(cs.length:Int)≤(k:Int):=by omega
   have hkl:k=cs.length:=by omega
   subst hkl
   rw [Co.out] at hst ho
   have G:=Lib.hid (kP.to hst (show min cs.length 60≤60 by omega))
   have GO:=Lib.hid ho
   clear ho hlt hk hst
   go_wp2_with fail
   go_ret2
   exact⟨sb,lb,bd,dA,rfl,G.out,GO.out⟩
end
end Go.Proofs.YtanhdliaaccacaaGreat
