/- Rows.LogCleansCardSaid -/
import Derived.Test.YtaopfagclnocdaaGreatDoorLC21
import Derived.Test.YtaopfagclnocdaaGreatDoorLC17
import Derived.Test.YtaopfagclnocdaaGreatDoorLC10
import Derived.Deep.DeepCutAuto
import Derived.Deep.RegionHeld3
import Derived.Lib.SlBytesConst
namespace Go.Proofs.YtaopfagclnocdaaGreatDoor
open Go.RowKit
set_option linter.unusedVariables false
set_option maxHeartbeats 64000000
set_option maxRecDepth 100000
theorem ArgStrs.readC {w:World} {a:Option Addr} {len cap:Nat} {ss:List ByteArray} (h:ArgStrs w a len cap ss) {i:Nat} {x:ByteArray} (hi:ss[i]?=some x) :
  ∃ b o,a=some ⟨b,o,none⟩∧b < w.heap.size∧x.size≤maxLen∧w.cell? ⟨b,o+i,none⟩=some (.string x):=by
 obtain⟨hlt,rfl⟩:=List.getElem?_eq_some_iff.1 hi
 have hl:=h.length
 rcases h.at' with h0 | ⟨b,o,rfl,hb,hc⟩
 ·omega
 ·exact⟨b,o,rfl,hb,h.small _ (List.getElem_mem hlt),hc i hlt⟩
def LcRel1 (bd lb gx:Nat) (L:List (List UInt8)) (W:World) (i:Value) (wr:World):Prop:=
 ∃ (k:Nat) (d:DiskD) (l:LogD),k≤L.length∧i=.int .i64 k∧OpSt 10 k 3 1 (sized 100) L d l∧Only d (Mine l.m.segs) ∧
  In [] W wr [LgA lb bd l,DkA bd d,Cells gx #[dptr lb] 27]
def LcRel2 (bd lb gx bm:Nat) (n:Nat) (l:LogD) (Fr:List FrD) (W:World) (i:Value) (wr:World):Prop:=
 ∃ (k:Nat) (d:DiskD) (M:List (ByteArray×Int)),k≤n∧i=.int .i64 k∧LcN l Fr d (M.map (·.1))∧d.ops≤2000+10 * k ∧
  In [] W wr [LgA lb bd l,Cells gx #[dptr lb] 27,DkA bd d,TabA Tryz.prog 9 ekW evW bm M]
def LcRel3 (n:Nat) (X:List Asrt) (W:World) (i:Value) (wr:World):Prop:=
 ∃ k:Nat,k≤n∧i=.int .i64 k∧In [] W wr X
theorem o_dput {F0:List Nat} {w0 w:World} {bd:Nat} {d:DiskD} {R:List Asrt} (h:In F0 w0 w (DkA bd d::R)) (ho:d.ops≤100000000) (n:ByteArray) (hn:n.size≤maxLen) :
  Calls Tryz.prog 17 #[dptr bd,.string n,.slice (some ⟨w.heap.size,0,none⟩) 1 1] (w.alloc (.cells #[.int .u8 120] 5 (1,2))) fun e w'=>e=.returned (.int .i64 (dAppend d n [120]).2)∧In F0 w0 w' (DkA bd (dAppend d n [120]).1::R):=by
 have h1:=h.frz #[.int .u8 120] 5 (1,2)
 have h2:Calls Tryz.prog 17 #[dptr bd,.string n,.slice (some ⟨w.heap.size,0,none⟩) 1 1] (w.alloc (.cells #[.int .u8 120] 5 (1,2))) fun e w'=>e=.returned (.int .i64 (dAppend d n [120]).2)∧In F0 w0 w' ((Frz w.heap.size #[.int .u8 120] 5 (1,2)::DkA bd d::R).set 1 (DkA bd (dAppend d n [120]).1)):=
  own_valX h1 1 rfl (DkA.framed _ _) fun F G hF hG hFG _=>by
   refine dappend (bs:=[120]) hF ho n hn (by simp) fun w' hw'=>?_
   obtain⟨G1,G2,g1,g2,g3,rfl⟩:∃ G1 G2,Frz w.heap.size #[.int .u8 120] 5 (1,2) (w.alloc (.cells #[.int .u8 120] 5 (1,2))) G1∧Star R (w.alloc (.cells #[.int .u8 120] 5 (1,2))) G2∧_∧G=G1++G2:=hG
   have g4:Frz w.heap.size #[.int .u8 120] 5 (1,2) w' G1:=(Frz.framed _ _ _ _).keep g1 (fun b hb=>hw'.block b ((Frz.framed _ _ _ _).lt g1 b hb) (fun hbF=>hFG b hbF (List.mem_append_left _ hb)))
   exact Src.of_block (k:=1) g4.2 rfl
 exact h2.mono fun e w' hp=>⟨hp.1,hp.2.drop⟩
theorem want_look {F0:List Nat} {w0 w:World} {R:List Asrt} {b:Nat} {M:List (ByteArray×Int)} (h:In F0 w0 w R) (i:Nat) (hA:R[i]?=some (TabA Tryz.prog 9 ekW evW b M)) {n:ByteArray} (hn:n.size≤maxLen) :
  ∃ z:Int,(Instr.lookup 49 (.map (some b)) (.string n) false).run Tryz.prog w=.ok (.int .i64 z) w∧((∀ x∈M,x.1≠n)→z=0):=by
 rcases tab_look h i hA strKey Tryz.underlying49 (z:=.int .i64 0) (by kernel_rfl) (Go.WideMaps.keyOf_string_mk Tryz.underlying9 hn) false with ⟨x,hx,e,hr⟩|⟨_,hr⟩
 ·exact⟨x.2,hr,fun hh=>absurd (Value.string.inj e) (hh x hx)⟩
 ·exact⟨0,hr,fun _=>rfl⟩
theorem want_put {F0:List Nat} {w0 w:World} {R:List Asrt} {b:Nat} {M:List (ByteArray×Int)} (h:In F0 w0 w R) (i:Nat) (hA:R[i]?=some (TabA Tryz.prog 9 ekW evW b M)) {n:ByteArray} (hn:n.size≤maxLen) (hM:(M.map (·.1)).Nodup) (z:Int) :
  ∃ w',(Instr.mapUpdate 49 (.map (some b)) (.string n) (.int .i64 z)).run Tryz.prog w=.ok () w'∧In F0 w0 w' (R.set i (TabA Tryz.prog 9 ekW evW b ((n,z)::M.filter (fun x=>decide (x.1≠n))))):=by
 obtain⟨w',h1,_,h2⟩:=tab_put h i hA strKey Tryz.underlying49 (n,z) (Go.WideMaps.keyOf_string_mk Tryz.underlying9 hn) (ekW_inj hM) (fun x=>decide (x.1≠n)) (fun x _=>by simp [ekW])
 exact⟨w',h1,h2⟩
theorem walk_LogCleans (W:World) {a0:Option Addr} {len0 cap0:Nat} {ss:List ByteArray} (hs:ArgStrs W a0 len0 cap0 ss) {a1:Option Addr} {len1 cap1:Nat} {L:List (List UInt8)} (h1:ArgBss W a1 len1 cap1 L) :
  Calls Tryz.prog 4 #[.slice a0 len0 cap0,.slice a1 len1 cap1] W (TrueP W):=by
 have hl0:=hs.length
 have hl1:=h1.length
 have hmost:=h1.most
 have hroom:=h1.room
 unfold maxLen at hmost
 have HAW:=Lib.hid (fun w' (R:List Asrt) (h':In [] W w' R)=>o_awake6 h')
 have H0:=Lib.hid (Own.nil W)
 by_cases k0:20 < len0
 ·have q0:(20:Int) < (len0:Int):=by omega
  have K:=Lib.hid (HAW.out W [] H0.out)
  clear hs h1 HAW H0 k0
  go_enter Tryz.func4,Tryz.ntmps4
  go_wp2_with fail
  refine K.out.mono ?_
  rintro e w1 ⟨rfl,g⟩
  have G:=Lib.hid g.mod
  clear g K
  go_wp2_with fail
  go_ret
  exact⟨rfl,G.out⟩
 have q0:decide ((20:Int) < (len0:Int))=false:=by simp;omega
 by_cases k1:10 < len1
 ·have q1:(10:Int) < (len1:Int):=by omega
  have K:=Lib.hid (HAW.out W [] H0.out)
  clear hs h1 HAW H0 k1
  go_enter Tryz.func4,Tryz.ntmps4
  go_wp2_with fail
  refine K.out.mono ?_
  rintro e w1 ⟨rfl,g⟩
  have G:=Lib.hid g.mod
  clear g K
  go_wp2_with fail
  go_ret
  exact⟨rfl,G.out⟩
 have q1:decide ((10:Int) < (len1:Int))=false:=by simp;omega
 have hmf:∀ (fn:Fn) (first cap:Array Value) (w:World),(Instr.makeFunc fn first cap).run Tryz.prog w=.ok (.func fn first cap) w:=fun _ _ _ _=>rfl
 have hmm:=@run_makeMap Tryz.prog
 have KN:=Lib.hid (o_dnew H0.out 200000 (by omega) (by omega))
 have H1:=Lib.hid h1
 have HS:=Lib.hid hs
 clear h1 H0 hs
 go_enter Tryz.func4,Tryz.ntmps4
 go_wp2_with fail
 refine KN.out.mono ?_
 rintro e w1 ⟨bd,rfl,g1⟩
 obtain⟨d0,hc0,hst⟩:=OpSt.start (M:=10) (ver:=1) L 3 100 (by omega) (by omega)
 have C1:=Lib.hid (o_create g1 (by decide) 1 100)
 have hc0':createD 1 100 (dNew 200000)=(d0,some ⟨sized 100,firstM 1,false⟩,0):=hc0
 have ho0:=start_only hc0'
 rw [hc0'] at C1
 have HST:=Lib.hid (And.intro hst ho0)
 clear g1 hc0 hc0' hst KN ho0
 go_wp2_with fail
 refine C1.out.mono ?_
 intro e w2 hp
 obtain⟨lb,rfl,g2⟩:=hp.some rfl
 have g3:=g2.cells #[dptr lb] 27
 have cg:(w2.alloc (.cells #[dptr lb] 27)).cell? ⟨w2.heap.size,0,none⟩=some (dptr lb):=cell_of (g3.block 0 rfl) rfl
 have HR:Hid (LcRel1 bd lb w2.heap.size L W (.int .i64 0) (w2.alloc (.cells #[dptr lb] 27))):=Lib.hid ⟨0,d0,_,Nat.zero_le _,rfl,HST.out.1,HST.out.2,g3.sel2 (R1:=[_,_,_]) (R2:=[]) [1,2,0] (by decide) rfl⟩
 clear hp g2 g3 C1 HST
 go_wp2_with fail
 go_loopw [45] (LcRel1 bd lb w2.heap.size L W) (fun k _=>len1 - (intOf k).toNat)
 case atStart=>exact HR.out
 case round=>
  obtain⟨k,d,l,hk,rfl,hst,hon,ho⟩:=hrel
  clear HR
  have cg':wr.cell? ⟨w2.heap.size,0,none⟩=some (dptr lb):=cell_of (ho.block 2 rfl) rfl
  by_cases hlt:k < len1
  ·obtain⟨x,hx⟩:∃ x,L[k]?=some x:=⟨L[k]'(by omega),List.getElem?_eq_getElem _⟩
   obtain⟨gx,ox,vx,rfl,cx,hax⟩:=H1.out.at' k x hx
   obtain⟨ax,capx,rfl,sx,hxc,hxm⟩:=hax.ex
   have cx':=cell_old ho cx
   have hlt':(k:Int) < (len1:Int):=by omega
   have hw2:wrap64 ((k:Int)+1)=(k:Int)+1:=by unfold wrap64;omega
   unfold maxLen at hxm
   by_cases h3:300 < x.length
   ·have q3:(300:Int) < (x.length:Int):=by omega
    have K:=Lib.hid (HAW.out wr _ ho)
    clear ho hst hon hax cx sx hx h3
    go_wp2_with fail
    refine K.out.mono ?_
    rintro e w3 ⟨rfl,g⟩
    have G:=Lib.hid g.mod
    clear g K
    go_wp2_with fail
    go_ret
    exact⟨rfl,G.out⟩
   ·have q3:decide ((300:Int) < (x.length:Int))=false:=by simp;omega
    obtain⟨b1,b2⟩:=hst.step hx (by omega) (by omega) (by omega) (by omega) (by omega)
    have b3:=append_only (B:=1000) (n:=10) hst.firm hst.loose 3 x (hst.rm.le (by omega) (by omega)) (by have:=hst.segs;omega) (by have:=hst.next;omega) (by unfold putErr;rw [hst.ver,if_neg (by omega),if_neg (by omega)]) hon
    have KA:=Lib.hid (o_append (c:=capx) ho (hst.ok (sized_ok 100)) (by have:=hst.ops;omega) 3 (A:=ax) (body:=x) (by omega) (fun w' h'=>sx.old h'))
    rw [show ((3:Nat):Int)=3 from rfl] at b1 b2
    rw [b1] at KA
    have HR:Hid (∀ w',In [] W w' [LgA lb bd (appendL 3 x (d,l)).1.2,DkA bd (appendL 3 x (d,l)).1.1,Cells w2.heap.size #[dptr lb] 27]→LcRel1 bd lb w2.heap.size L W (.int .i64 ((k:Int)+1)) w'):=Lib.hid (fun w' h'=>⟨k+1,_,_,by omega,by go_num,b2,b3,h'⟩)
    have HM2:=Lib.hid (meas_lt hlt')
    clear hst hon hax cx sx hx h3 b1 b2 b3 ho hlt hk
    generalize appendL 3 x (d,l)=r at *
    go_wp2_with fail
    refine KA.out.mono ?_
    rintro e w3 ⟨rfl,g⟩
    have HR3:=Lib.hid (HR.out w3 g)
    clear g KA HR
    go_wp2_with fail
    go_roundw
    case rel=>(try rw [hw2]);exact HR3.out
    case measure=>(try rw [hw2]);exact HM2.out
  ·have hge:(len1:Int)≤(k:Int):=by omega
   obtain rfl:k=len1:=by omega
   obtain⟨Fr,hFr⟩:∃ Fr,Fr=(L.take k).map (fun b=>(⟨3,1,b⟩:FrD)):=⟨_,rfl⟩
   have hFl:Fr.length=k:=by rw [hFr];simp;omega
   have hfirm:Firm d l.m Fr 0:=by rw [hFr];exact hst.firm
   have hN:=LcN.start hfirm hst.rm.fail hon
   have HSG:Hid (∀ s∈l.m.segs,1≤s∧s < 100):=Lib.hid (fun s hs=>by
    have h1:=mayM_seg hfirm.now.1 hs
    have h2:=hst.next
    omega)
   have HLO:=Lib.hid (hst.ok (sized_ok 100))
   have HFL:=Lib.hid hFl
   have h9:=tab_make ho Tryz.prog 9 ekW evW
   have HR:Hid (LcRel2 bd lb w2.heap.size wr.heap.size ss.length l Fr W (.int .i64 0) (wr.alloc (.map #[] 0))):=Lib.hid ⟨0,d,[],Nat.zero_le _,rfl,hN,by have:=hst.ops;omega,h9.sel2 (R1:=[_,_,_,_]) (R2:=[]) [1,3,2,0] (by decide) rfl⟩
   clear ho hst hon hfirm hFr hlt hFl hN h9 hk H1 cg'
   go_wp2_with fail
   generalize wr.heap.size=bm at *
   generalize w2.heap.size=gx at *
   go_loopw [64] (LcRel2 bd lb gx bm ss.length l Fr W) (fun i _=>len0 - (intOf i).toNat)
   case atStart=>exact HR.out
   case round=>
    obtain⟨j,d,M,hj,rfl,hN,hops,ho⟩:=hrel
    clear HR
    by_cases hlt:j < len0
    ·obtain⟨x,hx⟩:∃ x,ss[j]?=some x:=⟨ss[j]'(by omega),List.getElem?_eq_getElem _⟩
     obtain⟨gs,os,rfl,hbs,hxm,cx⟩:=HS.out.readC hx
     have cx':=cell_old ho cx
     have hlt':(j:Int) < (len0:Int):=by omega
     have hw2:wrap64 ((j:Int)+1)=(j:Int)+1:=by unfold wrap64;omega
     have hmi:=mine_iff (l:=l) (n:=x)
     have KM:=Lib.hid (o_mine HLO.out HSG.out x ho)
     have HM2:=Lib.hid (meas_lt hlt')
     have HJ:Hid (j+1≤ss.length):=Lib.hid (by rw [hl0];exact hlt)
     have HOPS:=Lib.hid hops
     have HN:=Lib.hid hN
     have HXM:=Lib.hid hxm
     clear ho hx hj hN hops hxm hbs cx hlt
     by_cases hm:mineB l x=true
     ·rw [hm] at KM
      clear hm hmi
      go_wp2_with fail
      refine KM.out.mono ?_
      rintro e w3 ⟨rfl,g⟩
      have HR:Hid (LcRel2 bd lb gx bm ss.length l Fr W (.int .i64 ((j:Int)+1)) w3):=Lib.hid ⟨j+1,d,M,HJ.out,by go_num,HN.out,by have:=HOPS.out;omega,g⟩
      clear g KM
      go_wp2_with fail
      go_roundw
      case rel=>(try rw [hw2]);exact HR.out
      case measure=>(try rw [hw2]);exact HM2.out
     ·have hnm:¬ Mine l.m.segs x:=fun h=>hm (hmi.2 h)
      rw [Bool.eq_false_iff.2 hm] at KM
      have hdi:=dirty_iff hnm
      have HNM:=Lib.hid hnm
      have HAO:Hid ((dAppend d x [120]).1.ops=d.ops+1):=Lib.hid (dOps d x x [120] 0).1
      have KP:=Lib.hid (fun w' (h':In [] W w' [LgA lb bd l,Cells gx #[dptr lb] 27,DkA bd d,TabA Tryz.prog 9 ekW evW bm M])=>(show Calls Tryz.prog 17 #[dptr bd,.string x,.slice (some ⟨w'.heap.size,0,none⟩) 1 1] (w'.alloc (.cells #[.int .u8 120] 5 (1,2))) _ from o_dput (h'.sel2 (R1:=[_,_,_,_]) (R2:=[]) [2,0,1,3] (by decide) rfl) (by have:=HOPS.out;omega) x HXM.out))
      clear hm hmi hnm
      go_wp2_with fail
      refine KM.out.mono ?_
      rintro e w3 ⟨rfl,g⟩
      have KP3:=Lib.hid (KP.out w3 g)
      have hcv:=Lib.run_convert_bytes_const (P:=Tryz.prog) w3 32 5 #[.int .u8 120] 1 1 Tryz.underlying32 Tryz.underlying5
      clear g KM KP
      go_wp2_with fail
      refine KP3.out.mono ?_
      rintro e w4 ⟨rfl,g⟩
      clear KP3
      have HSK:Hid ((dAppend d x [120]).2≠0∨¬ dirtyD l x=true→LcRel2 bd lb gx bm ss.length l Fr W (.int .i64 ((j:Int)+1)) w4):=Lib.hid (fun hq=>⟨j+1,_,M,HJ.out,by go_num,HN.out.skip HNM.out hq,by have:=HOPS.out;have:=HAO.out;omega,g.sel2 (R1:=[_,_,_,_]) (R2:=[]) [1,2,0,3] (by decide) rfl⟩)
      have HPT:Hid ((dAppend d x [120]).2=0→dirtyD l x=true→∀ (z:Int) w5,In [] W w5 [DkA bd (dAppend d x [120]).1,LgA lb bd l,Cells gx #[dptr lb] 27,TabA Tryz.prog 9 ekW evW bm ((x,z)::M.filter (fun y=>decide (y.1≠x)))]→LcRel2 bd lb gx bm ss.length l Fr W (.int .i64 ((j:Int)+1)) w5):=Lib.hid (fun h0 hd z w5 h5=>⟨j+1,_,_,HJ.out,by go_num,HN.out.put HNM.out h0 hd z,by have:=HOPS.out;have:=HAO.out;omega,h5.sel2 (R1:=[_,_,_,_]) (R2:=[]) [1,2,0,3] (by decide) rfl⟩)
      have HG:=Lib.hid g
      clear g HNM HOPS HAO HJ
      by_cases h0:(dAppend d x [120]).2=0
      ·have KS:=Lib.hid (q_segnum x HXM.out w4)
       obtain⟨z0,hlk,-⟩:=want_look HG.out 3 rfl HXM.out
       obtain⟨w5,hpt,g5⟩:=want_put HG.out 3 rfl HXM.out HN.out.nodup (wrap64 (z0+1))
       have HX:=Lib.hid (HPT.out h0)
       have H5:=Lib.hid g5
       have HY:=Lib.hid (HSK.out)
       rw [h0]
       clear h0 HPT HSK HN g5 HG
       cases hs:(numD x).isSome with
       | true=>
        rw [hs] at KS hdi
        have HR:Hid (LcRel2 bd lb gx bm ss.length l Fr W (.int .i64 ((j:Int)+1)) w5):=Lib.hid (HX.out (by rw [hdi];simp) _ _ H5.out)
        clear HX HY H5 hdi hs
        go_wp2_with fail
        refine KS.out.mono ?_
        rintro e w6 ⟨rfl,rfl⟩
        clear KS
        go_wp2_with fail
        go_roundw
        case rel=>(try rw [hw2]);exact HR.out
        case measure=>(try rw [hw2]);exact HM2.out
       | false=>
        rw [hs] at KS hdi
        have q2:=eq_bytes x nmFresh
        have hm:nmFresh.toList=[109,46,110,101,119]:=by unfold nmFresh;rw [ByteArray.toList_mk]
        rw [hm] at q2
        by_cases he:x=nmFresh
        ·rw [decide_eq_true he] at q2 hdi
         have HR:Hid (LcRel2 bd lb gx bm ss.length l Fr W (.int .i64 ((j:Int)+1)) w5):=Lib.hid (HX.out (by rw [hdi];rfl) _ _ H5.out)
         clear HX HY H5 hdi hs he hm
         go_wp2_with fail
         refine KS.out.mono ?_
         rintro e w6 ⟨rfl,rfl⟩
         clear KS
         go_wp2_with fail
         go_roundw
         case rel=>(try rw [hw2]);exact HR.out
         case measure=>(try rw [hw2]);exact HM2.out
        ·rw [decide_eq_false he] at q2 hdi
         have HR:Hid (LcRel2 bd lb gx bm ss.length l Fr W (.int .i64 ((j:Int)+1)) w4):=Lib.hid (HY.out (Or.inr (by rw [hdi];decide)))
         clear HX HY H5 hdi hs he hm hlk hpt
         go_wp2_with fail
         refine KS.out.mono ?_
         rintro e w6 ⟨rfl,rfl⟩
         clear KS
         go_wp2_with fail
         go_roundw
         case rel=>(try rw [hw2]);exact HR.out
         case measure=>(try rw [hw2]);exact HM2.out
      ·have HR:=Lib.hid (HSK.out (Or.inl h0))
       have qz:((dAppend d x [120]).2 == 0)=false:=by rw [beq_eq_false_iff_ne];exact h0
       clear h0 HPT HSK HN HG hdi
       generalize (dAppend d x [120]).2=rv at *
       go_wp2_with fail
       go_roundw
       case rel=>(try rw [hw2]);exact HR.out
       case measure=>(try rw [hw2]);exact HM2.out
    ·have hge2:(len0:Int)≤(j:Int):=by omega
     obtain⟨e1,e2,e3,e4,e5,e6⟩:=hN.clean
     have ho1:=ho.sel2 (R1:=[_,_,_,_]) (R2:=[]) [0,2,1,3] (by decide) rfl
     have KC1:=Lib.hid (o_lgcleanC HLO.out (by omega) ho1)
     rw [e1,List.length_map] at KC1
     have hops2:(cleanD l (dNames d) d).ops≤10000:=by
      have h1:=cleanD_ops l (dNames d) d
      have h2:=hN.firm.ok.now.few
      have h3:(dNames d).length≤200:=by unfold dNames;rw [List.length_map];exact h2
      omega
     generalize cleanD l (dNames d) d=d2 at *
     have KC2:=Lib.hid (fun w' (h':In [] W w' [LgA lb bd l,DkA bd d2,Cells gx #[dptr lb] 27,TabA Tryz.prog 9 ekW evW bm M])=>o_lgcleanC HLO.out (by omega) h')
     rw [e5,e6] at KC2
     have HE:=Lib.hid (And.intro e2 (And.intro e3 e4))
     have HOP:=Lib.hid hops2
     have cgw:wr.cell? ⟨gx,0,none⟩=some (dptr lb):=cell_of (ho.block 1 rfl) rfl
     clear ho ho1 hN hops hops2 e1 e2 e3 e4 e5 e6 hj hlt
     go_wp2_with fail
     refine KC1.out.mono ?_
     rintro e w3 ⟨rfl,g⟩
     have cg3:w3.cell? ⟨gx,0,none⟩=some (dptr lb):=cell_of (g.block 2 rfl) rfl
     have hln:∀ ty,(Builtin.len_ #[49] ty #[.map (some bm)]).run Tryz.prog w3=.ok (.int .i64 M.length) w3:=fun ty=>tab_len g 3 rfl Tryz.underlying49 ty
     have KC3:=Lib.hid (KC2.out w3 g)
     clear g KC1 KC2
     go_wp2_with fail
     refine KC3.out.mono ?_
     rintro e w4 ⟨rfl,g⟩
     have HR:Hid (LcRel3 ss.length [LgA lb bd l,DkA bd d2,Cells gx #[dptr lb] 27,TabA Tryz.prog 9 ekW evW bm M] W (.int .i64 0) w4):=Lib.hid ⟨0,Nat.zero_le _,rfl,g⟩
     clear g KC3
     go_wp2_with fail
     go_loopw [107] (LcRel3 ss.length [LgA lb bd l,DkA bd d2,Cells gx #[dptr lb] 27,TabA Tryz.prog 9 ekW evW bm M] W) (fun i _=>len0 - (intOf i).toNat)
     case atStart=>exact HR.out
     case round=>
      obtain⟨j,hj,rfl,ho⟩:=hrel
      clear HR
      by_cases hlt:j < len0
      ·obtain⟨x,hx⟩:∃ x,ss[j]?=some x:=⟨ss[j]'(by omega),List.getElem?_eq_getElem _⟩
       obtain⟨gs,os,rfl,hbs,hxm,cx⟩:=HS.out.readC hx
       have cx':=cell_old ho cx
       have hlt':(j:Int) < (len0:Int):=by omega
       have hw2:wrap64 ((j:Int)+1)=(j:Int)+1:=by unfold wrap64;omega
       have KR:=Lib.hid (o_dread ho 1 rfl x hxm)
       have HM2:=Lib.hid (meas_lt hlt')
       have HJ:Hid (j+1≤ss.length):=Lib.hid (by rw [hl0];exact hlt)
       have HXM:=Lib.hid hxm
       clear ho hx hj hxm hbs cx hlt
       unfold ReadPost at KR
       by_cases hs:(dRead d2 x).isSome=true
       ·rw [hs] at KR
        have HNI:Hid (∀ y∈M,y.1≠x):=Lib.hid (fun y hy e=>by
         have:=HE.out.2.2 x (List.mem_map.2 ⟨y,hy,e⟩)
         rw [this] at hs
         exact absurd hs (by decide))
        generalize (dRead d2 x).getD []=bs at *
        clear hs
        go_wp2_with fail
        refine KR.out.mono ?_
        rintro e w5 ⟨v5,rfl,g⟩
        obtain⟨z,hlk,hz⟩:=want_look g 4 rfl HXM.out
        rw [hz HNI.out] at hlk
        have HR:Hid (LcRel3 ss.length [LgA lb bd l,DkA bd d2,Cells gx #[dptr lb] 27,TabA Tryz.prog 9 ekW evW bm M] W (.int .i64 ((j:Int)+1)) w5):=Lib.hid ⟨j+1,HJ.out,by go_num,g.drop⟩
        clear g KR hz
        go_wp2_with fail
        go_roundw
        case rel=>(try rw [hw2]);exact HR.out
        case measure=>(try rw [hw2]);exact HM2.out
       ·rw [Bool.eq_false_iff.2 hs] at KR
        generalize (dRead d2 x).getD []=bs at *
        clear hs
        go_wp2_with fail
        refine KR.out.mono ?_
        rintro e w5 ⟨v5,rfl,g⟩
        have HR:Hid (LcRel3 ss.length [LgA lb bd l,DkA bd d2,Cells gx #[dptr lb] 27,TabA Tryz.prog 9 ekW evW bm M] W (.int .i64 ((j:Int)+1)) w5):=Lib.hid ⟨j+1,HJ.out,by go_num,g.drop⟩
        clear g KR
        go_wp2_with fail
        go_roundw
        case rel=>(try rw [hw2]);exact HR.out
        case measure=>(try rw [hw2]);exact HM2.out
      ·have hge3:(len0:Int)≤(j:Int):=by omega
       obtain⟨d3,t1,t2,t3⟩:=told_on (HE.out.1.now.on HE.out.1.ok) HE.out.2.1 100
       have KT:=Lib.hid (o_told (ho.sel2 (R1:=[_,_,_,_]) (R2:=[]) [1] (by decide) rfl) (by have:=HOP.out;omega) 100)
       rw [show openL tellF 100 d2 []=_ from t1] at KT
       simp only at KT
       clear ho hlt hj t1 t2 t3
       go_wp2_with fail
       refine KT.out.mono ?_
       rintro e w5 ⟨v1,rfl,g4⟩
       obtain⟨F1,p1⟩:=g4.get 0 rfl
       obtain⟨A1,C1,rfl⟩:=frsA_shape p1
       have G5:=Lib.hid (HAW.out w5 _ g4)
       rw [HFL.out] 
       clear g4 p1 KT
       go_wp2_with fail
       refine G5.out.mono ?_
       rintro e w6 ⟨rfl,g6⟩
       have G6:=Lib.hid g6.mod
       clear g6 G5
       go_wp2_with fail
       go_ret
       exact⟨rfl,G6.out⟩
end Go.Proofs.YtaopfagclnocdaaGreatDoor
