/- What is proved here: contracts of the program's functions, and plain laws, on which the proofs of StoreSure and CompactBreaks rest; without conditions. -/
import Derived.Test.YtogclkhpbjfadaaGreatCB5
import Derived.Test.YtogclkhpbjfadaaGreatCB33
namespace Go.Proofs.YtogclkhpbjfadaaGreat
open Go.RowKit
set_option linter.unusedVariables false
set_option maxHeartbeats 64000000
set_option maxRecDepth 100000
theorem writeS_ops (r:Rec) (s:SD):(writeS r s).1.1.ops≤s.1.ops+11:=by
 have h:=appendL_ops ((writeE r s).1.kind:Int) (writeE r s).1.body (s.1,s.2.l)
 unfold writeS
 repeat' split
 all_goals first | exact Nat.le_add_right _ _ | exact h
theorem syncS_ops (s:SD):(syncS s).1.1.ops≤s.1.ops+2:=syncL_ops (s.1,s.2.l)
structure SuSt (M k z:Nat) (s:SD):Prop where
 rm:∃ Fr kk,SoRm s Fr kk (M - k)
 size:s.2.l.size=z
 ops:s.1.ops≤1000+20 * k
theorem SuSt.inv {M k z:Nat} {s:SD} (h:SuSt M k z s):∃ Fr kk,SoInv s Fr kk Fr kk:=by
 obtain⟨Fr,kk,g⟩:=h.rm
 exact⟨Fr,kk,g.inv⟩
theorem SuSt.oks {M k z:Nat} {s:SD} (h:SuSt M k z s):OkSt s.2.sure:=by
 obtain⟨_,_,g⟩:=h.inv
 exact g.oks
theorem SuSt.lens {M k z:Nat} {s:SD} (h:SuSt M k z s):s.2.sure.bks.length≤1000000∧s.2.sure.drs.length≤1000000∧s.2.sure.fls.length≤1000000:=by
 obtain⟨h1,h2,h3⟩:=h.oks.lens
 exact⟨by omega,by omega,by omega⟩
theorem SuSt.lgOk {M k z:Nat} {s:SD} (h:SuSt M k z s) (hz:16≤z∧z≤1048576):LgOk s.2.l:=by
 obtain⟨_,_,g⟩:=h.inv
 exact⟨by rw [h.size];exact hz.1,by rw [h.size];exact hz.2,g.log.now.1⟩
theorem SuSt.more {M k z:Nat} {s:SD} (h:SuSt M k z s):SuSt M (k+1) z s:=by
 obtain⟨Fr,kk,g⟩:=h.rm
 exact⟨⟨Fr,kk,g.less (by omega)⟩,h.size,by have:=h.ops;omega⟩
theorem SuSt.write {M k z:Nat} {s:SD} (h:SuSt M k z s) (hk:k < M) {r:Rec} (wr:WfR r):SuSt M (k+1) z (writeS r s).1∧(writeS r s).1.2.sure=s.2.sure:=by
 obtain⟨Fr,kk,g⟩:=h.rm
 rw [show M - k=(M - (k+1))+1 by omega] at g
 obtain⟨a1,a2,a3,a4⟩:=g.write wr
 have ho:=writeS_ops r s
 refine⟨⟨?_,by rw [a1];exact h.size,by have:=h.ops;omega⟩,a3⟩
 rcases a4 with ⟨_,f,b⟩|⟨_,b⟩
 ·exact⟨_,_,b⟩
 ·rw [b];exact⟨Fr,kk,g.less (by omega)⟩
theorem SuSt.sync {M k z:Nat} {s:SD} (h:SuSt M k z s):SuSt M (k+1) z (syncS s).1∧(syncS s).2=0∧(syncS s).1.2.sure=s.2.st∧(syncS s).1.2.st=s.2.st:=by
 obtain⟨Fr,kk,g⟩:=h.rm
 obtain⟨a1,a2,a3,a4,a5⟩:=g.sync
 have ho:=syncS_ops s
 exact⟨⟨⟨_,_,a5.less (by omega)⟩,by rw [a4];exact h.size,by have:=h.ops;omega⟩,a1,a2,a3⟩
theorem ver_of (n:Int):1≤wrap64 (1+wrap64 ((IntKind.u64.wrap n).tmod 3))∧wrap64 (1+wrap64 ((IntKind.u64.wrap n).tmod 3))≤3:=by
 have e:IntKind.u64.wrap n=n % 18446744073709551616:=rfl
 rw [e]
 have h1:(n % 18446744073709551616).tmod 3=(n % 18446744073709551616) % 3:=Int.tmod_eq_emod_of_nonneg (by omega)
 rw [h1]
 unfold wrap64;omega
theorem dNew_ops (q:Int):(dNew q).ops=0:=rfl
theorem created_ops {v size:Int} {d:DiskD}:(createD v size d).1.ops≤d.ops+20:=by
 unfold createD
 by_cases h1:v < 1∨3 < v
 ·rw [if_pos h1];exact Nat.le_add_right _ _
 rw [if_neg h1]
 by_cases h2:(nmAt d.now nmHead).isSome=true
 ·rw [if_pos h2];exact Nat.le_add_right _ _
 rw [if_neg h2]
 have hb:=thenD_le (μ:=fun d:DiskD=>d.ops) (r:=thenD (beginD 1 d) (fun d=>dSync d (segName 1))) (f:=fun d=>((commitD (firstM v.toNat) d).1,(commitD (firstM v.toNat) d).2.2)) (a:=d.ops+3) (b:=5) (thenD_le (μ:=fun d:DiskD=>d.ops) (a:=d.ops+2) (b:=1) (beginD_ops 1 d) fun t=>dSync_ops t _) (fun t=>commitD_ops _ t)
 simp only
 split
 ·simp only;omega
 ·simp only;omega
theorem SuSt.start (M:Nat) (hM:M≤62) {v:Int} (hv:1≤v∧v≤3) (size:Int):∃ s:SD,createS v size (dNew 300000)=(s.1,some s.2,0)∧SuSt M 0 (sized size) s∧s.2.st=zeroSt∧s.2.sure=zeroSt∧(s.2.l.m.ver:Int)=v:=by
 obtain⟨s,h1,h2,h3,h4,h5,h6⟩:=SoRm.start hv size 300000 M (by omega) hM
 refine⟨s,h1,⟨⟨_,_,h2⟩,h6,?_⟩,h3,h4,h5⟩
 have ho:=created_ops (v:=v) (size:=size) (d:=dNew 300000)
 have e:s.1=(createD v size (dNew 300000)).1:=by
  have:=congrArg Prod.fst h1
  rw [← this]
  unfold createS
  cases (createD v size (dNew 300000)).2.1 <;> rfl
 rw [e]
 rw [dNew_ops] at ho
 omega
section
variable {W:World}
def SuRel (sb lb bd stb wb n:Nat) (W:World) (i:Value) (wr:World):Prop:=
 ∃ (k:Nat) (s:SD) (A:Option Addr) (a:Nat) (D:Option Addr) (d:Nat) (F:Option Addr) (f:Nat),k≤n∧i=.int .i64 k∧SuSt 61 k (sized 300) s∧In [] W wr (SoL sb lb bd stb s [Cells wb #[.int .i64 s.2.sure.gen,.slice A s.2.sure.bks.length a,.slice D s.2.sure.drs.length d,.slice F s.2.sure.fls.length f] 62,BkR (.slice A s.2.sure.bks.length a) s.2.sure.bks,DrR (.slice D s.2.sure.drs.length d) s.2.sure.drs,FlR (.slice F s.2.sure.fls.length f) s.2.sure.fls])
theorem walk_StoreSure (W:World) (version:Int) (wsz:(Lit.int .i64 version).wf=true) {v:Value} {cs:List CallR} (hv:ArgCalls15 W v cs) :
  Calls Tryz.prog 6 #[.int .i64 version,v] W (TrueP W):=by
 have HAW:=Lib.hid (fun w' (R:List Asrt) (h':In [] W w' R)=>o_awake15 h')
 have KLI:=Lib.hid (o_light (Own.nil W) hv)
 obtain⟨a,cap,rfl,hc1,hc2,hcn,hc⟩:=hv.ex
 have HC:=Lib.hid hc
 unfold maxLen at hc2
 have HVER:=Lib.hid (ver_of version)
 clear hv hc wsz hcn
 go_enter Tryz.func6,Tryz.ntmps6
 go_wp2_with fail
 refine KLI.out.mono ?_
 rintro e w1 ⟨bs,rfl,hli,g1⟩
 cases bs with
 | false=>
  have K:=Lib.hid (HAW.out w1 [] g1)
  clear g1 KLI HAW hli
  go_wp2_with fail
  refine K.out.mono ?_
  rintro e w2 ⟨rfl,g⟩
  have G:=Lib.hid g.mod
  clear g K
  go_wp2_with fail
  go_ret
  exact⟨rfl,G.out⟩
 | true=>
  have HLI:=Lib.hid (hli rfl)
  have KN:=Lib.hid (o_dnew g1 300000 (by omega) (by omega))
  clear g1 KLI hli
  go_wp2_with fail
  refine KN.out.mono ?_
  rintro e w2 ⟨bd,rfl,g2⟩
  generalize wrap64 (1+wrap64 ((IntKind.u64.wrap version).tmod 3))=z at *
  obtain⟨s0,hc0,hst,hz1,hz2,hz3⟩:=SuSt.start 61 (by omega) HVER.out 300
  have C1:=o_socreate g2 (by decide) z 300
  rw [hc0] at C1
  have C1':=Lib.hid C1
  have HST:=Lib.hid hst
  have HZ:=Lib.hid hz2
  clear g2 hc0 hst KN C1 hz1 hz2 hz3
  go_wp2_with fail
  refine C1'.out.mono ?_
  intro e w3 hp
  obtain⟨sb,lb,stb,rfl,g3⟩:=hp.some rfl
  clear hp C1'
  have g4:=(((g3.cells #[.int .i64 0,.slice none 0 0,.slice none 0 0,.slice none 0 0] 62).rownil 160 3).rownil 166 2).rownil 67 8
  have HR:Hid (SuRel sb lb bd stb w3.heap.size cs.length W (.int .i64 0) (w3.alloc (.cells #[.int .i64 0,.slice none 0 0,.slice none 0 0,.slice none 0 0] 62))):=Lib.hid ⟨0,s0,none,0,none,0,none,0,Nat.zero_le _,rfl,HST.out,by
   rw [HZ.out]
   have:=g4.sel2 (R1:=[_,_,_,_,_,_,_,_]) (R2:=[]) [4,5,6,7,3,2,1,0] (by decide) rfl
   exact this⟩
  clear g3 g4 HST HZ
  go_wp2_with fail
  generalize w3.heap.size=wb at *
  go_loopw [34] (SuRel sb lb bd stb wb cs.length W) (fun i _=>cs.length - (intOf i).toNat)
  case atStart=>exact HR.out
  case round=>
   obtain⟨k,s,A,a',D,d,F,f,hk,rfl,hst,ho⟩:=hrel
   clear HR
   by_cases hlt:k < cs.length
   ·obtain⟨x,hx⟩:∃ x,cs[k]?=some x:=⟨cs[k],List.getElem?_eq_getElem hlt⟩
    obtain⟨g,o,csx,rfl,hcr,hcell⟩:=HC.out k x hx
    obtain⟨ab,cb,ar,cr,ap,cp,rfl,hsrc,hnn,hbl,hwf,hvr,_,hrl⟩:=call_of hcr
    have hlt':(k:Int) < (cs.length:Int):=by omega
    have hlen:=HLI.out.len
    have hlc:=HLI.out.each x (List.mem_of_getElem? hx)
    have hw2:wrap64 ((k:Int)+1)=(k:Int)+1:=by unfold wrap64;omega
    have HRG:=Lib.hid (range_old ho hcell)
    obtain⟨hth,h4⟩:=call_box ho x ab cb ar cr ap cp
    have HTH:=Lib.hid hth
    obtain⟨w4,hw4⟩:∃ w4,w4=(wr.alloc (.cells zCall 72)).setCells wr.heap.size 0 (callV x ab cb ar cr ap cp).toArray.toList:=⟨_,rfl⟩
    rw [← hw4] at h4
    have H5:=Lib.hid (h4.sel2 (R1:=[_,_,_,_,_,_,_,_,_]) (R2:=[]) [1,2,3,4,0,5,6,7,8] (by decide) rfl)
    have c0:w4.cell? ⟨wr.heap.size,0,none⟩=some (.int .i64 x.act):=cell_of (h4.block 0 rfl) callV_0
    have HRB:=Lib.hid (call_range (h4.block 0 rfl))
    have HW4:=Lib.hid hw4
    have HST:=Lib.hid hst
    have HM:=Lib.hid (meas_lt hlt')
    have HK:Hid (k+1≤cs.length):=Lib.hid hlt
    have HSRC:=Lib.hid hsrc
    have HNN:=Lib.hid hnn
    have HWF:=Lib.hid hwf
    have HBL:=Lib.hid hlc.b
    have HKM:Hid (k < 61):=Lib.hid (by omega)
    have HOP:Hid (s.1.ops≤5000):=Lib.hid (by have:=hst.ops;omega)
    have HLG:=Lib.hid (hst.lgOk (sized_ok 300))
    clear ho h4 hvr hx hlt hcell hcr hw4 hth hsrc hnn hwf hlc hlen hst hbl hrl hk
    go_upto_region 10 with fail
    go_cut [9] (fun x9 wx=>x9=.pointer (some ⟨wr.heap.size,0,none⟩)∧wx=w4)
    case first=>
     go_wp2_with (first | (refine wpList_load_mid (by rfl) 72 (.tmp 36) rfl g (o+k * 18) rfl (callV x ab cb ar cr ap cp) _ HRG.out Tryz.underlying72 rfl (by kernel_rfl) ?_) | (refine wpList_store_mid (by rfl) 72 (.tmp 9) (.tmp 37) rfl wr.heap.size 0 (callV x ab cb ar cr ap cp).toArray (by rfl) (by rfl) HTH.out (by kernel_rfl) callV_one ?_))
     go_meet
     exact⟨rfl,HW4.out.symm⟩
    case rest=>
    obtain⟨rfl,rfl⟩:=hcut
    clear HRG HTH HW4
    generalize wr.heap.size=fb at *
    by_cases h0:x.act=0
    ·have KW:=Lib.hid (o_sowrite (r:=x.r) (A:=ab) (c:=cb) HLG.out (by have:=HOP.out;omega) (fun w' h'=>HSRC.out.old h') HNN.out (by have:=HBL.out;omega) HWF.out.rr H5.out)
     obtain⟨q1,q2⟩:=HST.out.write HKM.out HWF.out.rr
     have HS2':=Lib.hid q1
     have HQ2:=Lib.hid q2
     have q0:(x.act == 0)=true:=by rw [beq_iff_eq];exact h0
     have q01:(x.act == 1)=false:=by rw [beq_eq_false_iff_ne];omega
     clear HST H5 q1 q2 h0
     go_wp2_with (refine wpList_load_mid (by rfl) 69 (.tmp 43) rfl fb 2 rfl (recV x.r ab cb) _ HRB.out Tryz.underlying69 rfl (by kernel_rfl) ?_)
     refine KW.out.mono ?_
     rintro e w5 ⟨rfl,g5⟩
     clear KW HRB c0
     obtain⟨s2,hs2⟩:∃ s2,s2=(writeS x.r s).1:=⟨_,rfl⟩
     have HT:Hid (In [] W w5 (SoL sb lb bd stb s2 (Cells fb (callV x ab cb ar cr ap cp).toArray 72::[Cells wb #[.int .i64 s2.2.sure.gen,.slice A s2.2.sure.bks.length a',.slice D s2.2.sure.drs.length d,.slice F s2.2.sure.fls.length f] 62,BkR (.slice A s2.2.sure.bks.length a') s2.2.sure.bks,DrR (.slice D s2.2.sure.drs.length d) s2.2.sure.drs,FlR (.slice F s2.2.sure.fls.length f) s2.2.sure.fls]))):=Lib.hid (by
      rw [hs2]
      rw [HQ2.out]
      exact g5)
     have HS2:Hid (SuSt 61 (k+1) (sized 300) s2):=Lib.hid (by rw [hs2];exact HS2'.out)
     clear g5 hs2 HS2' HQ2
     have hz0:=cells4 ((HT.out.drewN 1).block 5 rfl)
     have K8:=Lib.hid (o_sosure HS2.out.oks (HT.out.drewN 1))
     clear HT
     go_wp2_with fail
     go_region_held3 (fun w'=>w'.cell? ⟨wb,0,none⟩=some (.int .i64 s2.2.sure.gen)∧w'.cell? ⟨wb,1,none⟩=some (.slice A s2.2.sure.bks.length a')∧w'.cell? ⟨wb,2,none⟩=some (.slice D s2.2.sure.drs.length d)∧w'.cell? ⟨wb,3,none⟩=some (.slice F s2.2.sure.fls.length f)) (first | exact hz2 | exact hz1 | exact hz0) (first
      | (go_at_call 36;refine K8.out.mono ?_;rintro e w8 ⟨A8,a8,D8,d8,F8,f8,rfl,g8⟩;have hz1:=cells4 (g8.block 8 rfl);have K9:=Lib.hid (o_stsame (a1:=a8) (e1:=d8) (h1:=f8) (a2:=a') (e2:=d) (h2:=f) (stV_of 0 1 2 rfl rfl rfl) (stV_of 9 10 11 rfl rfl rfl) HS2.out.lens.1 HS2.out.lens.2.1 HS2.out.lens.2.2 g8);clear g8)
      | (go_at_call 35;refine K9.out.mono ?_;rintro e w9 ⟨rfl,g9⟩;simp only [decide_true];have hz2:=cells4 (g9.block 8 rfl);have G9:=Lib.hid g9;clear g9))
     have HR:Hid (SuRel sb lb bd stb wb cs.length W (.int .i64 ((k:Int)+1)) w9):=Lib.hid ⟨k+1,s2,A,a',D,d,F,f,HK.out,by rw [Int.natCast_add];rfl,HS2.out,G9.out.sel2 (R1:=[_,_,_,_,_,_,_,_,_,_,_,_]) (R2:=[]) [3,4,5,6,8,9,10,11] (by decide) rfl⟩
     clear G9 hz0 hz1 hz2 K8 K9 HS2
     go_wp2_with fail
     go_roundw
     case rel=>(try rw [hw2]);exact HR.out
     case measure=>(try rw [hw2]);exact HM.out
    by_cases h1:x.act=1
    ·have KW:=Lib.hid (o_sosync HLG.out (by have:=HOP.out;omega) H5.out)
     obtain⟨q1,q2,q3,q4⟩:=HST.out.sync
     have HS2':=Lib.hid q1
     have HQ2:=Lib.hid q2
     have HQ3:Hid ((syncS s).1.2.sure=(syncS s).1.2.st):=Lib.hid (by rw [q3,q4])
     have q0:(x.act == 0)=false:=by rw [beq_eq_false_iff_ne];exact h0
     have q01:(x.act == 1)=true:=by rw [beq_iff_eq];exact h1
     clear HST H5 q1 q2 q3 q4 h0 h1
     go_wp2_with fail
     refine KW.out.mono ?_
     rintro e w5 ⟨rfl,g5⟩
     rw [HQ2.out]
     have KS:=Lib.hid (o_sostate g5)
     have KV:=Lib.hid (o_stview' (g5.sel2 (R1:=[_,_,_,_,_,_,_,_,_]) (R2:=[]) [3,0,1,2,4,5,6,7,8] (by decide) rfl))
     clear g5 KW HRB c0
     go_wp2_with fail
     refine KS.out.mono ?_
     rintro e w6 ⟨rfl,rfl⟩
     go_wp2_with fail
     refine KV.out.mono ?_
     rintro e w7 ⟨A1,a1,D1,d1,F1,f1,rfl,g7⟩
     have QT:=Lib.hid (there_of (g7.block 8 rfl))
     have g8:=g7.setFull 8 rfl (xs:=[.int .i64 (syncS s).1.2.st.gen,.slice A1 (syncS s).1.2.st.bks.length a1,.slice D1 (syncS s).1.2.st.drs.length d1,.slice F1 (syncS s).1.2.st.fls.length f1]) (b:=wb) (C:=#[.int .i64 s.2.sure.gen,.slice A s.2.sure.bks.length a',.slice D s.2.sure.drs.length d,.slice F s.2.sure.fls.length f]) (T:=62) rfl
     obtain⟨s2,hs2⟩:∃ s2,s2=(syncS s).1:=⟨_,rfl⟩
     have HT:Hid (In [] W (w7.setCells wb 0 [.int .i64 (syncS s).1.2.st.gen,.slice A1 (syncS s).1.2.st.bks.length a1,.slice D1 (syncS s).1.2.st.drs.length d1,.slice F1 (syncS s).1.2.st.fls.length f1]) (SoL sb lb bd stb s2 (Cells fb (callV x ab cb ar cr ap cp).toArray 72::[Cells wb #[.int .i64 s2.2.sure.gen,.slice A1 s2.2.sure.bks.length a1,.slice D1 s2.2.sure.drs.length d1,.slice F1 s2.2.sure.fls.length f1] 62,BkR (.slice A1 s2.2.sure.bks.length a1) s2.2.sure.bks,DrR (.slice D1 s2.2.sure.drs.length d1) s2.2.sure.drs,FlR (.slice F1 s2.2.sure.fls.length f1) s2.2.sure.fls]))):=Lib.hid (by
      rw [hs2]
      rw [HQ3.out]
      exact g8.sel2 (R1:=[_,_,_,_,_,_,_,_,_,_,_,_]) (R2:=[]) [4,5,6,3,7,8,0,1,2] (by decide) rfl)
     have HS2:Hid (SuSt 61 (k+1) (sized 300) s2):=Lib.hid (by rw [hs2];exact HS2'.out)
     clear g7 g8 hs2 HS2' HQ3 KS KV
     have hz0:=cells4 ((HT.out.drewN 1).block 5 rfl)
     have K8:=Lib.hid (o_sosure HS2.out.oks (HT.out.drewN 1))
     clear HT
     go_wp2_with (refine wpList_store_mid (by rfl) 62 (.tmp 7) (.tmp 53) rfl wb 0 #[.int .i64 (syncS s).1.2.st.gen,.slice A1 (syncS s).1.2.st.bks.length a1,.slice D1 (syncS s).1.2.st.drs.length d1,.slice F1 (syncS s).1.2.st.fls.length f1] (by rfl) (by rfl) QT.out (by kernel_rfl) (st4_all2 _ _ _ _ _ _ _ _ _ _) ?_)
     go_region_held3 (fun w'=>w'.cell? ⟨wb,0,none⟩=some (.int .i64 s2.2.sure.gen)∧w'.cell? ⟨wb,1,none⟩=some (.slice A1 s2.2.sure.bks.length a1)∧w'.cell? ⟨wb,2,none⟩=some (.slice D1 s2.2.sure.drs.length d1)∧w'.cell? ⟨wb,3,none⟩=some (.slice F1 s2.2.sure.fls.length f1)) (first | exact hz2 | exact hz1 | exact hz0) (first
      | (go_at_call 36;refine K8.out.mono ?_;rintro e w8 ⟨A8,a8,D8,d8,F8,f8,rfl,g8⟩;have hz1:=cells4 (g8.block 8 rfl);have K9:=Lib.hid (o_stsame (a1:=a8) (e1:=d8) (h1:=f8) (a2:=a1) (e2:=d1) (h2:=f1) (stV_of 0 1 2 rfl rfl rfl) (stV_of 9 10 11 rfl rfl rfl) HS2.out.lens.1 HS2.out.lens.2.1 HS2.out.lens.2.2 g8);clear g8)
      | (go_at_call 35;refine K9.out.mono ?_;rintro e w9 ⟨rfl,g9⟩;simp only [decide_true];have hz2:=cells4 (g9.block 8 rfl);have G9:=Lib.hid g9;clear g9))
     have HR:Hid (SuRel sb lb bd stb wb cs.length W (.int .i64 ((k:Int)+1)) w9):=Lib.hid ⟨k+1,s2,A1,a1,D1,d1,F1,f1,HK.out,by rw [Int.natCast_add];rfl,HS2.out,G9.out.sel2 (R1:=[_,_,_,_,_,_,_,_,_,_,_,_]) (R2:=[]) [3,4,5,6,8,9,10,11] (by decide) rfl⟩
     clear G9 hz0 hz1 hz2 K8 K9 HS2
     go_wp2_with fail
     go_roundw
     case rel=>(try rw [hw2]);exact HR.out
     case measure=>(try rw [hw2]);exact HM.out
    ·have q0:(x.act == 0)=false:=by rw [beq_eq_false_iff_ne];exact h0
     have q01:(x.act == 1)=false:=by rw [beq_eq_false_iff_ne];exact h1
     obtain⟨s2,hs2⟩:∃ s2,s2=s:=⟨_,rfl⟩
     have HT:Hid (In [] W wc (SoL sb lb bd stb s2 (Cells fb (callV x ab cb ar cr ap cp).toArray 72::[Cells wb #[.int .i64 s2.2.sure.gen,.slice A s2.2.sure.bks.length a',.slice D s2.2.sure.drs.length d,.slice F s2.2.sure.fls.length f] 62,BkR (.slice A s2.2.sure.bks.length a') s2.2.sure.bks,DrR (.slice D s2.2.sure.drs.length d) s2.2.sure.drs,FlR (.slice F s2.2.sure.fls.length f) s2.2.sure.fls]))):=Lib.hid (by rw [hs2];exact H5.out)
     have HS2:Hid (SuSt 61 (k+1) (sized 300) s2):=Lib.hid (by rw [hs2];exact HST.out.more)
     clear HST H5 h0 h1 hs2 HRB
     have hz0:=cells4 ((HT.out.drewN 1).block 5 rfl)
     have K8:=Lib.hid (o_sosure HS2.out.oks (HT.out.drewN 1))
     clear HT
     go_wp2_with fail
     go_region_held3 (fun w'=>w'.cell? ⟨wb,0,none⟩=some (.int .i64 s2.2.sure.gen)∧w'.cell? ⟨wb,1,none⟩=some (.slice A s2.2.sure.bks.length a')∧w'.cell? ⟨wb,2,none⟩=some (.slice D s2.2.sure.drs.length d)∧w'.cell? ⟨wb,3,none⟩=some (.slice F s2.2.sure.fls.length f)) (first | exact hz2 | exact hz1 | exact hz0) (first
      | (go_at_call 36;refine K8.out.mono ?_;rintro e w8 ⟨A8,a8,D8,d8,F8,f8,rfl,g8⟩;have hz1:=cells4 (g8.block 8 rfl);have K9:=Lib.hid (o_stsame (a1:=a8) (e1:=d8) (h1:=f8) (a2:=a') (e2:=d) (h2:=f) (stV_of 0 1 2 rfl rfl rfl) (stV_of 9 10 11 rfl rfl rfl) HS2.out.lens.1 HS2.out.lens.2.1 HS2.out.lens.2.2 g8);clear g8)
      | (go_at_call 35;refine K9.out.mono ?_;rintro e w9 ⟨rfl,g9⟩;simp only [decide_true];have hz2:=cells4 (g9.block 8 rfl);have G9:=Lib.hid g9;clear g9))
     have HR:Hid (SuRel sb lb bd stb wb cs.length W (.int .i64 ((k:Int)+1)) w9):=Lib.hid ⟨k+1,s2,A,a',D,d,F,f,HK.out,by rw [Int.natCast_add];rfl,HS2.out,G9.out.sel2 (R1:=[_,_,_,_,_,_,_,_,_,_,_,_]) (R2:=[]) [3,4,5,6,8,9,10,11] (by decide) rfl⟩
     clear G9 hz0 hz1 hz2 K8 K9 HS2
     go_wp2_with fail
     go_roundw
     case rel=>(try rw [hw2]);exact HR.out
     case measure=>(try rw [hw2]);exact HM.out
   ·have hge:(cs.length:Int)≤(k:Int):=by omega
    have K:=Lib.hid (HAW.out wr _ ho)
    clear ho hlt hk hst
    go_wp2_with fail
    refine K.out.mono ?_
    rintro e w2 ⟨rfl,g⟩
    have G:=Lib.hid g.mod
    clear g K
    go_wp2_with fail
    go_ret
    exact⟨rfl,G.out⟩
end
end Go.Proofs.YtogclkhpbjfadaaGreat
