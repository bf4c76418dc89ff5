/- Rows.StoreReadsSaid -/
import Derived.Test.YtaopfagclnocdaaGreatRD34
import Derived.Test.YtaopfagclnocdaaGreatRD42
import Derived.Test.YtaopfagclnocdaaGreatRD43
import Derived.Test.YtaopfagclnocdaaGreatRD44
import Derived.Deep.DeepCutAuto
namespace Go.Proofs.YtaopfagclnocdaaGreat
open Go.RowKit
set_option linter.unusedVariables false
set_option maxHeartbeats 64000000
set_option maxRecDepth 100000
theorem ViewA.all {k:Nat} {a:Option Addr} {n cap:Nat} {xs:List Value} {w:World} {F:List Nat} (h:ViewA k (.slice a n cap) n xs w F):Src w a n k xs:=by
 have e:=h.src (Nat.le_refl n)
 rwa [List.take_of_length_le (by rw [h.1];exact Nat.le_refl _)] at e
theorem QRows.rowsV {F0:List Nat} {w0:World} {R:List Asrt} {s:StD} {a d f:Option Addr} {ac dc fc:Nat} (h:QRows F0 w0 R s (.slice a s.bks.length ac) (.slice d s.drs.length dc) (.slice f s.fls.length fc)):RowsV F0 w0 R s a d f:=
 ⟨fun w' h'=>by obtain⟨F,hF⟩:=h.bk w' h';exact hF.all,fun w' h'=>by obtain⟨F,hF⟩:=h.dr w' h';exact hF.all,fun w' h'=>by obtain⟨F,hF⟩:=h.fl w' h';exact hF.all⟩
theorem AStV.rowsV {F0:List Nat} {w0:World} {R:List Asrt} {s:StD} {a d f:Option Addr} (h:AStV F0 w0 R s a d f):RowsV F0 w0 R s a d f:=⟨h.bks,h.drs,h.fls⟩
theorem RowsV.of {F0:List Nat} {w0:World} {R R0:List Asrt} {s:StD} {a d f:Option Addr} (h:RowsV F0 w0 R0 s a d f) (hR:∀ W,In F0 w0 W R→In F0 w0 W R0):RowsV F0 w0 R s a d f:=⟨fun w' h'=>h.bk w' (hR w' h'),fun w' h'=>h.dr w' (hR w' h'),fun w' h'=>h.fl w' (hR w' h')⟩
section
variable {W:World}
def RdsRel (z:Int) (zz:Nat) (rs:List Rec) (mb sb lb bd stb:Nat) (W:World) (i:Value) (wr:World):Prop:=
 ∃ (k:Nat) (s:SD) (bv dv fv:Value) (N:Asrt),k≤rs.length∧i=.int .i64 k∧SuSt 61 k zz s∧(s.2.l.m.ver:Int)=z∧OkSt s.2.st∧QRows [] W [N] s.2.st bv dv fv∧In [] W wr (QS mb s.2.st bv dv fv::SoL sb lb bd stb s [N])
theorem walk_StoreReads (W:World) (version:Int) (wv:(Lit.int .i64 version).wf=true) (size:Int) (ws:(Lit.int .i64 size).wf=true) {v:Value} {rs:List Rec} (hv:ArgRecs W v rs) :
  Calls Tryz.prog 3 #[.int .i64 version,.int .i64 size,v] W (TrueP W):=by
 have HAW:=Lib.hid (fun w' (R:List Asrt) (h':In [] W w' R)=>o_awake15 h')
 obtain⟨a,cap,rfl,hc1,hc2,hcn,hrs⟩:=hv.ex
 have HRS:=Lib.hid hrs
 have HVER:=Lib.hid (ver_of version)
 unfold maxLen at hc2
 clear hv hcn hrs wv ws
 by_cases q:60 < rs.length
 ·have q':decide ((60:Int) < (rs.length:Int))=true:=decide_eq_true (by omega)
  have q'':(60:Int) < (rs.length:Int):=by omega
  have K:=Lib.hid (HAW.out W [] (Own.nil W))
  clear q HAW
  go_enter Tryz.func3,Tryz.ntmps3
  go_wp2_with fail
  refine K.out.mono ?_
  rintro e w2 ⟨rfl,g⟩
  have G:=Lib.hid g.mod
  clear g K
  go_wp2_with fail
  go_ret
  exact⟨rfl,G.out⟩
 have q':decide ((60:Int) < (rs.length:Int))=false:=decide_eq_false (by omega)
 have q'':¬ (60:Int) < (rs.length:Int):=by omega
 have HQ:Hid (rs.length≤60):=Lib.hid (by omega)
 have KN:=Lib.hid (o_dnew (Own.nil W) 300000 (by omega) (by omega))
 clear q
 go_enter Tryz.func3,Tryz.ntmps3
 go_wp2_with fail
 generalize wrap64 (1+wrap64 ((IntKind.u64.wrap version).tmod 3))=z at *
 generalize wrap64 ((IntKind.u64.wrap size).tmod 500)=sz at *
 refine KN.out.mono ?_
 rintro e w2 ⟨bd,rfl,g2⟩
 obtain⟨s0,hc0,hst,hz1,hz2,hz3⟩:=SuSt.start 61 (by omega) HVER.out sz
 have C1:=o_socreate g2 (by decide) z sz
 rw [hc0] at C1
 have C1':=Lib.hid C1
 have HST:=Lib.hid hst
 have HZ1:=Lib.hid hz1
 have HZ3:=Lib.hid hz3
 clear g2 hc0 hst KN C1 hz1 hz2 hz3
 go_wp2_with fail
 refine C1'.out.mono ?_
 intro e w3 hp
 obtain⟨sb,lb,stb,rfl,g3⟩:=hp.some rfl
 clear hp C1'
 have g4:=(g3.rownil 43 8).cells #[.int .i64 0,.slice none 0 0,.slice none 0 0,.slice none 0 0] 38
 have HR:Hid (RdsRel z (sized sz) rs w3.heap.size sb lb bd stb W (.int .i64 0) (w3.alloc (.cells #[.int .i64 0,.slice none 0 0,.slice none 0 0,.slice none 0 0] 38))):=Lib.hid ⟨0,s0,.slice none 0 0,.slice none 0 0,.slice none 0 0,RowA 43 8 (.slice none 0 0) 0 [],Nat.zero_le _,rfl,HST.out,HZ3.out,by rw [HZ1.out];exact OkSt.zero,by
  rw [HZ1.out]
  have hv:∀ (kk:Nat) (W':World),∃ F,ViewA kk (.slice none 0 0) 0 [] W' F:=fun kk W'=>⟨[],by simp,none,0,rfl,Nat.le_refl _,by decide,Or.inl ⟨rfl,rfl,rfl⟩⟩
  exact⟨fun W' _=>hv 3 W',fun W' _=>hv 2 W',fun W' _=>hv 8 W'⟩,by
  have e:QS w3.heap.size s0.2.st (.slice none 0 0) (.slice none 0 0) (.slice none 0 0)=Cells w3.heap.size #[.int .i64 0,.slice none 0 0,.slice none 0 0,.slice none 0 0] 38:=by rw [HZ1.out];rfl
  rw [e]
  exact g4.sel2 (R1:=[_,_,_,_,_,_]) (R2:=[]) [0,2,3,4,5,1] (by decide) rfl⟩
 clear g3 g4 HST HZ1 HZ3
 go_wp2_with fail
 generalize w3.heap.size=mb at *
 go_loopw [49] (RdsRel z (sized sz) rs mb sb lb bd stb W) (fun i _=>rs.length - (intOf i).toNat)
 case atStart=>exact HR.out
 case round=>
  obtain⟨k,s,bv,dv,fv,N,hk,rfl,hst,hver,hok,hqr,ho⟩:=hrel
  clear HR
  have hN:=ho.sel2 (R1:=[_,_,_,_,_,_]) (R2:=[]) [5] (by decide) rfl
  obtain⟨Fb,hxb⟩:=hqr.bk wr hN
  obtain⟨ba,bc,rfl,-,-⟩:=hxb.shape
  obtain⟨Fd,hxd⟩:=hqr.dr wr hN
  obtain⟨da,dc,rfl,-,-⟩:=hxd.shape
  obtain⟨Ff,hxf⟩:=hqr.fl wr hN
  obtain⟨fa,fc,rfl,-,-⟩:=hxf.shape
  clear hN hxb hxd hxf
  by_cases hlt:k < rs.length
  ·obtain⟨x,hx⟩:∃ x,rs[k]?=some x:=⟨rs[k],List.getElem?_eq_getElem hlt⟩
   obtain⟨g,o,csx,rfl,hcr,hcell⟩:=HRS.out k x hx
   obtain⟨ax,cx,rfl,hsrc,hnn,hbl,hwf⟩:=rec_of hcr
   have hlt':(k:Int) < (rs.length:Int):=Int.ofNat_lt.2 hlt
   have hw2:wrap64 ((k:Int)+1)=(k:Int)+1:=by have:=HQ.out;unfold wrap64;omega
   have HRG:=Lib.hid (range_old ho hcell)
   obtain⟨hth,h4⟩:=rec_box ho x ax cx
   have HTH:=Lib.hid hth
   obtain⟨w4,hw4⟩:∃ w4,w4=(wr.alloc (.cells zRec 45)).setCells wr.heap.size 0 (recV x ax cx).toArray.toList:=⟨_,rfl⟩
   rw [← hw4] at h4
   have c10:w4.cell? ⟨wr.heap.size,10,none⟩=some (.slice ax x.bks.length cx):=cell_of (h4.block 0 rfl) recV_10
   have HRB:Hid (∀ w':World,w'.heap[wr.heap.size]?=some (.cells (recV x ax cx).toArray 45 (0,0))→w'.rangeAt wr.heap.size 0 (recV x ax cx)):=Lib.hid fun w' hb' j u hu=>by rw [Nat.zero_add];exact cell_of hb' (by rw [List.getElem?_toArray];exact hu)
   have HM:=Lib.hid (meas_lt hlt')
   have HW4:=Lib.hid hw4
   have H5:=Lib.hid (h4.sel2 (R1:=[_,_,_,_,_,_,_]) (R2:=[]) [2,3,4,5,1,0,6] (by decide) rfl)
   have HS4:=Lib.hid (And.intro hsrc (And.intro hnn hwf))
   have HK:Hid (k+1≤rs.length):=Lib.hid hlt
   have HST:=Lib.hid hst
   have HVR:=Lib.hid hver
   have HOK:=Lib.hid hok
   have HQR:=Lib.hid hqr
   clear ho h4 hx hlt hcell hcr hw4 hth hsrc hnn hwf hbl hk hst hver hok hqr
   go_upto_region 11 with fail
   go_cut [12] (fun x1 wx=>x1=.pointer (some ⟨wr.heap.size,0,none⟩)∧wx=w4)
   case first=>
    go_wp2_with (first | (refine wpList_load_mid (by rfl) 45 (.tmp 51) rfl g (o+k * 14) rfl (recV x ax cx) _ HRG.out Tryz.underlying45 rfl (by kernel_rfl) ?_) | (refine wpList_store_mid (by rfl) 45 (.tmp 12) (.tmp 52) rfl wr.heap.size 0 (recV x ax cx).toArray (by rfl) (by rfl) HTH.out (by kernel_rfl) recV_one ?_))
    go_meet
    exact⟨rfl,HW4.out.symm⟩
   case rest=>
   obtain⟨rfl,rfl⟩:=hcut
   clear HRG HTH HW4
   generalize wr.heap.size=rb at *
   by_cases hb:x.bks.length≤40
   case neg=>
    have hb':decide ((40:Int) < (x.bks.length:Int))=true:=decide_eq_true (by omega)
    have hb'':(40:Int) < (x.bks.length:Int):=by omega
    have K:=Lib.hid (HAW.out _ _ H5.out)
    clear H5 HS4 HRB hb HAW
    go_wp2_with fail
    refine K.out.mono ?_
    rintro e w2 ⟨rfl,g⟩
    have G:=Lib.hid g.mod
    clear g K
    go_wp2_with fail
    go_ret
    exact⟨rfl,G.out⟩
   have hb':decide ((40:Int) < (x.bks.length:Int))=false:=decide_eq_false (by omega)
   have KW:=Lib.hid (o_sowrite (r:=x) (A:=ax) (c:=cx) (s:=(s.1,s.2)) (HST.out.lgOk (sized_ok sz)) (by show s.1.ops≤99990000;have:=HST.out.ops;have:=HQ.out;have:=HK.out;omega) (fun w' h'=>HS4.out.1.old h') HS4.out.2.1 (Nat.le_trans hb (by decide)) HS4.out.2.2.rr (R:=[QS mb s.2.st (.slice ba s.2.st.bks.length bc) (.slice da s.2.st.drs.length dc) (.slice fa s.2.st.fls.length fc),Cells rb (recV x ax cx).toArray 45,N]) H5.out)
   have HRB1:=Lib.hid (HRB.out _ (H5.out.block 5 rfl))
   have HBL:Hid (x.bks.length≤40):=Lib.hid hb
   have HKM:Hid (k < 61):=Lib.hid (by have:=HQ.out;have:=HK.out;omega)
   have HRD:Hid ((writeS x (s.1,s.2)).2=(applySt s.2.st x).2∧((writeS x (s.1,s.2)).2=0→(writeS x (s.1,s.2)).1.2.st=(applySt s.2.st (inRec x z)).1)∧((writeS x (s.1,s.2)).2≠0→(writeS x (s.1,s.2)).1.2.st=s.2.st)):=Lib.hid (by
    obtain⟨Fr,kk,hrm⟩:=HST.out.rm
    rw [show 61 - k=(61 - (k+1))+1 by have:=HKM.out;omega] at hrm
    have:=hrm.reads HS4.out.2.2.rr
    rw [HVR.out] at this
    exact this)
   have HNX:Hid (SuSt 61 (k+1) (sized sz) (writeS x (s.1,s.2)).1∧((writeS x (s.1,s.2)).1.2.l.m.ver:Int)=z∧OkSt (writeS x (s.1,s.2)).1.2.st):=Lib.hid (by
    have h1:=(HST.out.write HKM.out HS4.out.2.2.rr).1
    obtain⟨Fr,kk,hrm⟩:=HST.out.rm
    have h2:=(hrm.inv.write HS4.out.2.2.rr).2.1
    obtain⟨_,_,h3⟩:=h1.inv
    exact⟨h1,by rw [← HVR.out];exact congrArg Nat.cast h2,h3.ok⟩)
   clear H5 hb
   go_wp2_with (refine wpList_load_mid (by rfl) 45 (.tmp 12) rfl rb 0 rfl (recV x ax cx) _ HRB1.out Tryz.underlying45 rfl (by kernel_rfl) ?_)
   refine KW.out.mono ?_
   rintro e w5 ⟨rfl,g5⟩
   clear KW HRB1 c10
   have m0:w5.cell? ⟨mb,0,none⟩=some (.int .i64 s.2.st.gen):=cell_of (g5.block 4 rfl) rfl
   have m1:w5.cell? ⟨mb,1,none⟩=some (.slice ba s.2.st.bks.length bc):=cell_of (g5.block 4 rfl) rfl
   have m2:w5.cell? ⟨mb,2,none⟩=some (.slice da s.2.st.drs.length dc):=cell_of (g5.block 4 rfl) rfl
   have m3:w5.cell? ⟨mb,3,none⟩=some (.slice fa s.2.st.fls.length fc):=cell_of (g5.block 4 rfl) rfl
   have g6:=g5.cells #[.int .i64 s.2.st.gen,.slice ba s.2.st.bks.length bc,.slice da s.2.st.drs.length dc,.slice fa s.2.st.fls.length fc] 38
   have HRB2:=Lib.hid (HRB.out _ (g6.block 6 rfl))
   have KA:=Lib.hid (o_qapply (r:=x) (A:=ax) (c:=cx) (mb:=w5.heap.size) (R0:=[N]) HOK.out (fun w' h'=>HS4.out.1.old h') (Nat.le_trans HBL.out (by decide)) HQR.out ⟨[_,_,_,_,_,_],rfl⟩ g6)
   clear g5 g6
   go_wp2_with (refine wpList_load_mid (by rfl) 45 (.tmp 12) rfl rb 0 rfl (recV x ax cx) _ HRB2.out Tryz.underlying45 rfl (by kernel_rfl) ?_)
   refine KA.out.mono ?_
   rintro e w6 ⟨b1,d1,f1,N1,rfl,g6,-⟩
   clear KA HRB2 m0 m1 m2 m3
   rw [← HRD.out.1]
   obtain⟨er,her⟩:∃ er,er=(writeS x (s.1,s.2)).2:=⟨_,rfl⟩
   have hbn:(er != er)=false:=bne_self_eq_false er
   have HER:=Lib.hid her
   rw [← her]
   clear her
   have H6:=Lib.hid g6
   by_cases h0:er=0
   case neg=>
    have h0':(er == 0)=false:=beq_eq_false_iff_ne.2 h0
    have HR:Hid (RdsRel z (sized sz) rs mb sb lb bd stb W (.int .i64 ((k:Int)+1)) w6):=Lib.hid (by
     have e:=HRD.out.2.2 (by rw [← HER.out];exact h0)
     refine⟨k+1,(writeS x (s.1,s.2)).1,.slice ba s.2.st.bks.length bc,.slice da s.2.st.drs.length dc,.slice fa s.2.st.fls.length fc,N,HK.out,by rw [Int.natCast_add];rfl,HNX.out.1,HNX.out.2.1,HNX.out.2.2,?_,?_⟩
     ·rw [e];exact HQR.out
     ·rw [show QS mb (writeS x (s.1,s.2)).1.2.st (.slice ba s.2.st.bks.length bc) (.slice da s.2.st.drs.length dc) (.slice fa s.2.st.fls.length fc)=QS mb s.2.st (.slice ba s.2.st.bks.length bc) (.slice da s.2.st.drs.length dc) (.slice fa s.2.st.fls.length fc) by rw [e]]
      exact g6.sel2 (R1:=[_,_,_,_,_,_,_,_,_]) (R2:=[]) [6,2,3,4,5,8] (by decide) rfl)
    clear g6 H6 h0 HNX HRD HER HQR HRB
    go_wp2_with fail
    go_roundw
    case rel=>(try rw [hw2]);exact HR.out
    case measure=>(try rw [hw2]);exact HM.out
   subst h0
   have hz0:((0:Int) == 0)=true:=rfl
   have HVZ:verOk z=true:=by have:=HVER.out;unfold verOk;exact decide_eq_true this
   have HRB3:=Lib.hid (HRB.out _ (g6.block 7 rfl))
   have KI:=Lib.hid (o_qin (r:=x) (A:=ax) (c:=cx) HVZ (fun w' h'=>HS4.out.1.old h') (Nat.le_trans HBL.out (by decide)) g6)
   have HS0:=Lib.hid (HRD.out.2.1 HER.out.symm)
   clear g6 H6 HRD HER HRB HVZ
   go_wp2_with (refine wpList_load_mid (by rfl) 45 (.tmp 12) rfl rb 0 rfl (recV x ax cx) _ HRB3.out Tryz.underlying45 rfl (by kernel_rfl) ?_)
   refine KI.out.mono ?_
   rintro e w7 ⟨pv,rfl,g7⟩
   obtain⟨Fp,hp⟩:=g7.get 0 rfl
   obtain⟨pa,pc,rfl,-,-,-⟩:=RowA.shape hp
   have g8:=g7.sel2 (R1:=[_,_,_,_,_,_,_,_,_,_]) (R2:=[]) [7,0,1,2,3,4,5,6,8,9] (by decide) rfl
   have hbl2:(inRec x z).bks.length≤1000000:=by
    have h:=HBL.out
    have hp2:(plainRec x).bks.length≤40:=by
     unfold plainRec
     repeat' split
     all_goals first | exact h | exact Nat.zero_le _
    unfold inRec
    split
    ·exact Nat.zero_le _
    ·simp only [List.length_map];omega
   have KA2:=Lib.hid (o_qapply (r:=inRec x z) (A:=pa) (c:=pc) (mb:=mb) (R0:=[N]) HOK.out (bks_row (l:=(inRec x z).bks) rfl 0 rfl) hbl2 HQR.out ⟨[_,_,_,_,_,_,_,_],rfl⟩ g8)
   clear g7 g8 hp hbl2 KI HRB3
   go_wp2_with fail
   refine KA2.out.mono ?_
   rintro e w8 ⟨b2,d2,f2,N2,rfl,g9,hq9⟩
   have HR:Hid (RdsRel z (sized sz) rs mb sb lb bd stb W (.int .i64 ((k:Int)+1)) w8):=Lib.hid (by
    have hfr:∀ A∈[N2,N],Framed A:=fun A hA=>g9.framed A (by simp only [List.mem_cons,List.not_mem_nil,or_false] at hA ⊢;rcases hA with rfl | rfl <;> simp)
    refine⟨k+1,(writeS x (s.1,s.2)).1,b2,d2,f2,Star [N2,N],HK.out,by rw [Int.natCast_add];rfl,HNX.out.1,HNX.out.2.1,HNX.out.2.2,?_,?_⟩
    ·rw [HS0.out]
     exact hq9.of (fun W' hW=>by have:=In.unjoin (R:=[]) hfr hW;simpa using this)
    ·rw [show QS mb (writeS x (s.1,s.2)).1.2.st b2 d2 f2=QS mb (applySt s.2.st (inRec x z)).1 b2 d2 f2 by rw [HS0.out]]
     have h1:=g9.sel2 (R1:=[_,_,_,_,_,_,_,_,_,_,_]) (R2:=[]) [1,10,0,5,6,7,8] (by decide) rfl
     have h2:=In.join (A1:=[N2,N]) h1
     exact h2.sel2 (R1:=[_,_,_,_,_,_]) (R2:=[]) [1,2,3,4,5,0] (by decide) rfl)
   clear g9 hq9 KA2 HQR HNX HS0
   go_wp2_with fail
   go_roundw
   case rel=>(try rw [hw2]);exact HR.out
   case measure=>(try rw [hw2]);exact HM.out
  ·have hge:(rs.length:Int)≤(k:Int):=Int.ofNat_le.2 (Nat.le_of_not_lt hlt)
   obtain⟨Fr,kk,hrm⟩:=hst.rm
   obtain⟨d',l',hop⟩:=open_now hrm.inv hrm.rm.fail sz
   have KO:=o_soopen (ho.sel2 (R1:=[_,_,_,_,_,_]) (R2:=[]) [3,0,1,2,4,5] (by decide) rfl) (by have:=hst.ops;have:=HQ.out;omega) 3 sz
   rw [hop] at KO
   have KO':=Lib.hid KO
   have HRV:=Lib.hid hqr.rowsV
   have HLE:=Lib.hid hok.lens
   clear KO hop hrm ho hst hver hok hqr hlt
   generalize s.2.st=st at *
   go_wp2_with fail
   refine KO'.out.mono ?_
   intro e w4 hp
   obtain⟨sb2,lb2,stb2,rfl,g4⟩:=hp.some rfl
   clear hp KO'
   have G0:=Lib.hid (g4.drewN 1)
   have hz0:=cells4 ((g4.drewN 1).block 4 rfl)
   clear g4
   go_wp2_with fail
   go_region_held3 (fun w'=>w'.cell? ⟨mb,0,none⟩=some (.int .i64 st.gen)∧w'.cell? ⟨mb,1,none⟩=some (.slice ba st.bks.length bc)∧w'.cell? ⟨mb,2,none⟩=some (.slice da st.drs.length dc)∧w'.cell? ⟨mb,3,none⟩=some (.slice fa st.fls.length fc)) (first | exact hz5 | exact hz4 | exact hz3 | exact hz2 | exact hz1 | exact hz0) (first
    | (go_at_call 6;refine (HAW.out _ _ G4.out).mono ?_;rintro e w9 ⟨rfl,g9⟩;have hz5:=cells4 (g9.block 11 rfl);have G5:=Lib.hid g9;clear g9)
    | (go_at_call 14;refine (o_qsamest (s:=st) (t:=st) (stV_of 0 1 2 rfl rfl rfl).rowsV (HRV.out.of (fun W' hW=>hW.sel2 (R1:=[_,_,_,_,_,_,_,_,_,_,_,_,_,_,_]) (R2:=[]) [14] (by decide) rfl)) (by have:=HLE.out;omega) (by have:=HLE.out;omega) (by have:=HLE.out;omega) G3.out).mono ?_;rintro e w8 ⟨rfl,g8⟩;simp only [decide_true];have hz4:=cells4 (g8.block 11 rfl);have G4:=Lib.hid g8;clear g8)
    | (go_at_call 16;refine (o_stview' (G2.out.sel2 (R1:=[_,_,_,_,_,_,_,_,_,_,_,_]) (R2:=[]) [7,0,1,2,3,4,5,6,8,9,10,11] (by decide) rfl)).mono ?_;rintro e w7 ⟨A8,a8,D8,d8,F8,f8,rfl,g7⟩;have hz3:=cells4 (g7.block 11 rfl);have G3:=Lib.hid g7;clear g7)
    | (go_at_call 15;refine (o_sostate (G2.out.sel2 (R1:=[_,_,_,_,_,_,_,_,_,_,_,_]) (R2:=[]) [4] (by decide) rfl)).mono ?_;rintro e w6 ⟨rfl,rfl⟩)
    | (go_at_call 14;refine (o_qsamest (s:=st) (t:=st) (stV_of 0 1 2 rfl rfl rfl).rowsV (HRV.out.of (fun W' hW=>hW.sel2 (R1:=[_,_,_,_,_,_,_,_,_,_,_,_]) (R2:=[]) [11] (by decide) rfl)) (by have:=HLE.out;omega) (by have:=HLE.out;omega) (by have:=HLE.out;omega) G1.out).mono ?_;rintro e w6 ⟨rfl,g6⟩;simp only [decide_true];have hz2:=cells4 (g6.block 8 rfl);have G2:=Lib.hid g6;clear g6)
    | (go_at_call 16;refine (o_stview' (G0.out.sel2 (R1:=[_,_,_,_,_,_,_,_,_]) (R2:=[]) [7,0,1,2,3,4,5,6,8] (by decide) rfl)).mono ?_;rintro e w5 ⟨A7,a7,D7,d7,F7,f7,rfl,g5⟩;have hz1:=cells4 (g5.block 8 rfl);have G1:=Lib.hid g5;clear g5)
    | (go_at_call 15;refine (o_sostate (G0.out.sel2 (R1:=[_,_,_,_,_,_,_,_,_]) (R2:=[]) [5] (by decide) rfl)).mono ?_;rintro e w5 ⟨rfl,rfl⟩))
   have G:=Lib.hid G5.out.mod
   clear G0 G1 G2 G3 G4 G5 hz0 hz1 hz2 hz3 hz4 hz5
   go_wp2_with fail
   go_ret
   exact⟨rfl,G.out⟩
end
end Go.Proofs.YtaopfagclnocdaaGreat
