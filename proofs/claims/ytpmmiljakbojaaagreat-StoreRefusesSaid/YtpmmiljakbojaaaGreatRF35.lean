/- Rows.StoreRefusesSaid -/
import Derived.Test.YtpmmiljakbojaaaGreatRF33
import Derived.Test.YtpmmiljakbojaaaGreatRF34
import Derived.Test.YtpmmiljakbojaaaGreatRF30
import Derived.Test.YtpmmiljakbojaaaGreatRF31
namespace Go.Proofs.YtpmmiljakbojaaaGreat
open Go.RowKit
set_option linter.unusedVariables false
set_option maxHeartbeats 64000000
set_option maxRecDepth 100000
section
variable {W:World}
def RfRel (sb lb bd stb n:Nat) (z:Int) (W:World) (i:Value) (wr:World):Prop:=
 ∃ (k:Nat) (s:SD),k≤n∧i=.int .i64 k∧SuSt 61 k (sized 300) s∧(s.2.l.m.ver:Int)=z∧In [] W wr (SoL sb lb bd stb s [])
theorem row_zero {T:TypeId} {k n n' c:Nat} {a:Option Addr} {xs:List Value} {w:World} {F:List Nat} (h:RowA T k (.slice a n c) n' xs w F) (ha:a=none):n=0:=by
 obtain⟨_,_,h2⟩:=h
 rcases h2 with ⟨e1,e2⟩|⟨g,cc,cur,e1,_⟩
 ·exact (Value.slice.inj e1).2.1
 ·rw [ha] at e1;exact absurd (Value.slice.inj e1).1 (by simp)
def RfRel2 (N:NmL) (L:List Asrt) (W:World) (i:Value) (wr:World):Prop:=∃ j:Nat,j≤N.length∧i=.int .i64 j∧In [] W wr L
theorem walk_StoreRefuses (W:World) (version:Int) (wsz:(Lit.int .i64 version).wf=true) (wi:Int) (wwi:(Lit.int .i64 wi).wf=true) {v:Value} {cs:List CallR} (hv:ArgCalls15 W v cs) :
  Calls Tryz.prog 3 #[.int .i64 version,.int .i64 wi,v] W (TrueP W):=by
 have HAW:=Lib.hid (fun w' (R:List Asrt) (h':In [] W w' R)=>o_awake15 h')
 have KLI:=Lib.hid (o_light (Own.nil W) hv)
 obtain⟨a,cap,rfl,hc1,hc2,hcn,hc⟩:=hv.ex
 have HC:=Lib.hid hc
 unfold maxLen at hc2
 have HVER:=Lib.hid (ver_of version)
 clear hv hc wsz wwi hcn
 go_enter Tryz.func3,Tryz.ntmps3
 go_wp2_with fail
 refine KLI.out.mono ?_
 rintro e w1 ⟨bs,rfl,hli,g1⟩
 cases bs with
 | false=>
  have K:=Lib.hid (HAW.out w1 [] g1)
  clear g1 KLI HAW hli
  go_wp2_with fail
  refine K.out.mono ?_
  rintro e w2 ⟨rfl,g⟩
  have G:=Lib.hid g.mod
  clear g K
  go_wp2_with fail
  go_ret
  exact⟨rfl,G.out⟩
 | true=>
  have HLI:=Lib.hid (hli rfl)
  have KN:=Lib.hid (o_dnew g1 300000 (by omega) (by omega))
  clear g1 KLI hli
  go_wp2_with fail
  refine KN.out.mono ?_
  rintro e w2 ⟨bd,rfl,g2⟩
  generalize wrap64 (1+wrap64 ((IntKind.u64.wrap version).tmod 3))=z at *
  obtain⟨s0,hc0,hst,hz1,hz2,hz3⟩:=SuSt.start 61 (by omega) HVER.out 300
  have C1:=o_socreate g2 (by decide) z 300
  rw [hc0] at C1
  have C1':=Lib.hid C1
  have HST:=Lib.hid (And.intro hst hz3)
  clear g2 hc0 hst KN C1 hz1 hz2 hz3
  go_wp2_with fail
  refine C1'.out.mono ?_
  intro e w3 hp
  obtain⟨sb,lb,stb,rfl,g3⟩:=hp.some rfl
  clear hp C1'
  have HR:Hid (RfRel sb lb bd stb cs.length z W (.int .i64 0) w3):=Lib.hid ⟨0,s0,Nat.zero_le _,rfl,HST.out.1,HST.out.2,g3⟩
  clear g3 HST
  go_wp2_with fail
  go_loopw [45] (RfRel sb lb bd stb cs.length z W) (fun i _=>cs.length - (intOf i).toNat)
  case atStart=>exact HR.out
  case round=>
   obtain⟨k,s,hk,rfl,hst,hsv,ho⟩:=hrel
   clear HR
   by_cases hlt:k < cs.length
   ·obtain⟨x,hx⟩:∃ x,cs[k]?=some x:=⟨cs[k],List.getElem?_eq_getElem hlt⟩
    obtain⟨g,o,csx,rfl,hcr,hcell⟩:=HC.out k x hx
    obtain⟨ab,cb,ar,cr,ap,cp,rfl,hsrc,hnn,hbl,hwf,hvr,_,hrl⟩:=call_of hcr
    have hlt':(k:Int) < (cs.length:Int):=by omega
    have hlen:=HLI.out.len
    have hlc:=HLI.out.each x (List.mem_of_getElem? hx)
    have hw2:wrap64 ((k:Int)+1)=(k:Int)+1:=by unfold wrap64;omega
    have HRG:=Lib.hid (range_old ho hcell)
    obtain⟨hth,h4⟩:=call_box ho x ab cb ar cr ap cp
    have HTH:=Lib.hid hth
    obtain⟨w4,hw4⟩:∃ w4,w4=(wr.alloc (.cells zCall 43)).setCells wr.heap.size 0 (callV x ab cb ar cr ap cp).toArray.toList:=⟨_,rfl⟩
    rw [← hw4] at h4
    have H5:=Lib.hid (h4.sel2 (R1:=[_,_,_,_,_]) (R2:=[]) [1,2,3,4,0] (by decide) rfl)
    have HRB:=Lib.hid (call_range (h4.block 0 rfl))
    have HW4:=Lib.hid hw4
    have HST:=Lib.hid hst
    have HSV:=Lib.hid hsv
    have HM:=Lib.hid (meas_lt hlt')
    have HK:Hid (k+1≤cs.length):=Lib.hid hlt
    have HSRC:=Lib.hid hsrc
    have HNN:=Lib.hid hnn
    have HWF:=Lib.hid hwf
    have HBL:=Lib.hid hlc.b
    have HKM:Hid (k < 61):=Lib.hid (by omega)
    have HOP:Hid (s.1.ops≤5000):=Lib.hid (by have:=hst.ops;omega)
    have HLG:=Lib.hid (hst.lgOk (sized_ok 300))
    clear ho h4 hvr hx hlt hcell hcr hw4 hth hsrc hnn hwf hlc hlen hst hsv hbl hrl hk
    go_upto_region 10 with fail
    go_cut [11] (fun x11 wx=>x11=.pointer (some ⟨wr.heap.size,0,none⟩)∧wx=w4)
    case first=>
     go_wp2_with (first | (refine wpList_load_mid (by rfl) 43 (.tmp 47) rfl g (o+k * 18) rfl (callV x ab cb ar cr ap cp) _ HRG.out Tryz.underlying43 rfl (by kernel_rfl) ?_) | (refine wpList_store_mid (by rfl) 43 (.tmp 11) (.tmp 48) rfl wr.heap.size 0 (callV x ab cb ar cr ap cp).toArray (by rfl) (by rfl) HTH.out (by kernel_rfl) callV_one ?_))
     go_meet
     exact⟨rfl,HW4.out.symm⟩
    case rest=>
    obtain⟨rfl,rfl⟩:=hcut
    clear HRG HTH HW4
    generalize wr.heap.size=fb at *
    have KW:=Lib.hid (o_sowrite (r:=x.r) (A:=ab) (c:=cb) HLG.out (by have:=HOP.out;omega) (fun w' h'=>HSRC.out.old h') HNN.out (by have:=HBL.out;omega) HWF.out.rr H5.out)
    have HN:Hid (SuSt 61 (k+1) (sized 300) (writeS x.r s).1∧((writeS x.r s).1.2.l.m.ver:Int)=z):=Lib.hid (by
     obtain⟨q1,q2⟩:=HST.out.write HKM.out HWF.out.rr
     obtain⟨Fr,kk,gg⟩:=HST.out.inv
     exact⟨q1,by rw [(gg.write HWF.out.rr).2.1];exact HSV.out⟩)
    clear HST H5
    go_wp2_with (refine wpList_load_mid (by rfl) 39 (.tmp 50) rfl fb 2 rfl (recV x.r ab cb) _ HRB.out Tryz.underlying39 rfl (by kernel_rfl) ?_)
    refine KW.out.mono ?_
    rintro e w5 ⟨rfl,g5⟩
    have HR:Hid (RfRel sb lb bd stb cs.length z W (.int .i64 ((k:Int)+1)) w5):=Lib.hid ⟨k+1,_,HK.out,by rw [Int.natCast_add];rfl,HN.out.1,HN.out.2,g5.sel2 (R1:=[_,_,_,_,_]) (R2:=[]) [0,1,2,3] (by decide) rfl⟩
    clear g5 KW HRB HN
    go_wp2_with fail
    go_roundw
    case rel=>(try rw [hw2]);exact HR.out
    case measure=>(try rw [hw2]);exact HM.out
   ·have hge:(cs.length:Int)≤(k:Int):=by omega
    obtain⟨Fr,kk,gg⟩:=hst.inv
    have hpk:=peek_on (gg.log.now.on gg.log.ok)
    rw [hsv] at hpk
    have HOPS:Hid (s.1.ops≤5000):=Lib.hid (by have:=hst.ops;have:=HLI.out.len;omega)
    have HFEW:Hid (s.1.now.length≤200):=Lib.hid gg.log.ok.now.few
    have HNMD:Hid (∀ x∈s.1.now,x.1.size≤maxLen):=Lib.hid (fun x hx=>by
     have h3:=gg.log.ok.now.named x hx
     unfold namedB at h3
     have h4:=of_decide_eq_true h3
     unfold maxLen;omega)
    have hop:(decide (z≤wi) && decide (wi≤3))=false→openS wi 300 s.1=(s.1,none,10):=fun hb=>by
     unfold openS
     rw [hpk]
     simp only
     rw [if_neg (by simp),if_pos]
     simp at hb
     by_cases q:z≤wi
     ·exact Or.inr (hb q)
     ·exact Or.inl (by omega)
    have HO:=Lib.hid ho
    have HOPN:=Lib.hid hop
    clear ho hst hsv hpk hop gg hlt hk
    go_upto_region 13 with fail
    go_cut [60] (fun x60 wx=>x60=.bool (decide (z≤wi) && decide (wi≤3))∧wx=wr)
    case first=>
     by_cases b1:z≤wi
     ·by_cases b2:wi≤3
      ·have b1':=decide_eq_true b1
       have b2':=decide_eq_true b2
       go_wp2_with fail
       go_meet
       exact⟨by rw [b1',b2'];rfl,rfl⟩
      ·have b2':decide (wi≤3)=false:=decide_eq_false b2
       have b1':=decide_eq_true b1
       go_wp2_with fail
       go_meet
       exact⟨by rw [b1',b2'];rfl,rfl⟩
     ·have b1':decide (z≤wi)=false:=decide_eq_false b1
      go_wp2_with fail
      go_meet
      exact⟨by rw [b1',Bool.false_and],rfl⟩
    case rest=>
    obtain⟨rfl,rfl⟩:=hcut
    cases hb:(decide (z≤wi) && decide (wi≤3)) with
    | true=>
     have K:=Lib.hid (HAW.out _ _ HO.out)
     clear HO HOPN HAW
     go_wp2_with fail
     refine K.out.mono ?_
     rintro e w2 ⟨rfl,g⟩
     have G:=Lib.hid g.mod
     clear g K
     go_wp2_with fail
     go_ret
     exact⟨rfl,G.out⟩
    | false=>
     have hop2:=HOPN.out hb
     have KC:=Lib.hid (o_dcopy HO.out 2 rfl (by have:=HOPS.out;omega))
     clear hb HO HOPN
     go_wp2_with fail
     refine KC.out.mono ?_
     rintro e w5 ⟨bd',d',rfl,hal,g5⟩
     have KO:=Lib.hid (o_soopen (g5.sel2 (R1:=[_,_,_,_,_]) (R2:=[]) [3,0] (by decide) rfl) (by have:=HOPS.out;omega) wi 300)
     rw [hop2] at KO
     have HAL:=Lib.hid hal
     clear g5 KC hal hop2
     go_wp2_with fail
     refine KO.out.mono ?_
     rintro e w6 ⟨rfl,g6⟩
     have KN1:=Lib.hid (o_dnames g6 0 rfl)
     clear g6 KO
     go_wp2_with fail
     refine KN1.out.mono ?_
     rintro e w7 ⟨a1,c1,rfl,g7⟩
     have KN2:=Lib.hid (o_dnames g7 2 rfl)
     clear g7 KN1
     go_wp2_with fail
     refine KN2.out.mono ?_
     rintro e w8 ⟨a2,c2,rfl,g8⟩
     have KS:=Lib.hid (o_samenames g8 1 0 rfl rfl HAL.out.1 (by have:=HFEW.out;omega))
     clear g8 KN2
     go_wp2_with fail
     refine KS.out.mono ?_
     rintro e w9 ⟨rfl,g9⟩
     have KP1:=Lib.hid (o_dops g9 2 rfl)
     have KP2:=Lib.hid (o_dops g9 3 rfl)
     rw [HAL.out.2.1] at KP2
     have KN3:=Lib.hid (o_dnames (g9.sel2 (R1:=[_,_,_,_]) (R2:=[]) [2,3] (by decide) rfl) 0 rfl)
     clear g9 KS
     go_wp2_with fail
     refine KP1.out.mono ?_
     rintro e w10 ⟨rfl,rfl⟩
     go_wp2_with fail
     refine KP2.out.mono ?_
     rintro e w11 ⟨rfl,rfl⟩
     clear KP1 KP2
     go_wp2_with fail
     refine KN3.out.mono ?_
     rintro e w12 ⟨a3,c3,rfl,g12⟩
     have HR:Hid (RfRel2 s.1.now [NmRowA (.slice a3 s.1.now.length c3) s.1.now,DkA bd s.1,DkA bd' d'] W (.int .i64 0) w12):=Lib.hid ⟨0,Nat.zero_le _,rfl,g12⟩
     clear g12 KN3
     obtain⟨N,hN⟩:∃ N,N=s.1.now:=⟨_,rfl⟩
     rw [← hN] at HR HFEW HNMD ⊢
     clear hN
     go_wp2_with fail
     go_loopw [94] (RfRel2 N [NmRowA (.slice a3 N.length c3) N,DkA bd s.1,DkA bd' d'] W) (fun i _=>N.length - (intOf i).toNat)
     case atStart=>exact HR.out
     case round=>
      obtain⟨j,hj,rfl,ho⟩:=hrel
      clear HR
      by_cases hlt:j < N.length
      ·obtain⟨x,hx⟩:∃ x,N[j]?=some x:=⟨N[j],List.getElem?_eq_getElem hlt⟩
       have hxm:=HNMD.out x (List.mem_of_getElem? hx)
       obtain⟨F1,r1⟩:=ho.get 0 rfl
       obtain⟨b1,rfl,cx⟩:=nm_row_at r1 hx
       have hlt':(j:Int) < (N.length:Int):=by omega
       have hw2:wrap64 ((j:Int)+1)=(j:Int)+1:=by have:=HFEW.out;unfold wrap64;omega
       have HM:=Lib.hid (meas_lt hlt')
       have HJ:Hid (j+1≤N.length):=Lib.hid hlt
       have KR1:=Lib.hid (o_dread ho 1 rfl x.1 hxm)
       have HXM:=Lib.hid hxm
       clear ho r1 hx hxm hlt hj
       generalize x.1=xn at *
       go_wp2_with fail
       refine KR1.out.mono ?_
       intro e w13 hp
       unfold ReadPost at hp
       obtain⟨v1,rfl,g13⟩:=hp
       obtain⟨A1,C1,rfl,hs1⟩:=row_bytes g13 (i:=0) rfl
       have KR2:=Lib.hid (o_dread g13 3 rfl xn HXM.out)
       clear g13 KR1
       go_wp2_with fail
       refine KR2.out.mono ?_
       intro e w14 hp
       unfold ReadPost at hp
       rw [HAL.out.2.2 xn] at hp
       obtain⟨v2,rfl,g14⟩:=hp
       generalize (dRead s.1 xn).getD []=bs at *
       obtain⟨Fa,ra⟩:=g14.get 0 rfl
       obtain⟨Fb,rb⟩:=g14.get 1 rfl
       obtain⟨A2,C2,rfl,-,-,-⟩:=ra.shape
       have hcv1:(convert 41 9 (.slice A1 bs.length C1)).run Tryz.prog w14=.ok (.string ⟨bs.toArray⟩) w14:=conv_str rb.all (row_zero rb)
       have hcv2:(convert 41 9 (.slice A2 bs.length C2)).run Tryz.prog w14=.ok (.string ⟨bs.toArray⟩) w14:=conv_str ra.all (row_zero ra)
       have hs:((⟨bs.toArray⟩:ByteArray).toList == (⟨bs.toArray⟩:ByteArray).toList)=true:=by simp
       have HR:Hid (RfRel2 N [NmRowA (.slice (some ⟨b1,0,none⟩) N.length c3) N,DkA bd s.1,DkA bd' d'] W (.int .i64 ((j:Int)+1)) w14):=Lib.hid ⟨j+1,HJ.out,by go_num,g14.drop.drop⟩
       clear g14 ra rb hs1 KR2
       go_wp2_with fail
       go_roundw
       case rel=>(try rw [hw2]);exact HR.out
       case measure=>(try rw [hw2]);exact HM.out
      ·have hge2:(N.length:Int)≤(j:Int):=by omega
       have K:=Lib.hid (HAW.out _ _ ho)
       clear ho hlt hj
       go_wp2_with fail
       refine K.out.mono ?_
       rintro e w13 ⟨rfl,g⟩
       have G:=Lib.hid g.mod
       clear g K
       go_wp2_with fail
       go_ret
       exact⟨rfl,G.out⟩
end
end Go.Proofs.YtpmmiljakbojaaaGreat
