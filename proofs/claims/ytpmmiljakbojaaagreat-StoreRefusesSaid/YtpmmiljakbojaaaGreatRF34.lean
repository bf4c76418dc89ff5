/- Rows.StoreRefusesSaid -/
import Derived.Test.YtpmmiljakbojaaaGreatRF33
import Derived.Test.YtpmmiljakbojaaaGreatRF16
import Derived.Test.YtpmmiljakbojaaaGreatRF3
import Derived.Deep.QuietTactic
import Derived.BigQuiet
namespace Go.Proofs.YtpmmiljakbojaaaGreat
open Go.RowKit
set_option linter.unusedVariables false
set_option maxHeartbeats 64000000
set_option maxRecDepth 100000
def CpRel1 (bt gt bd bn bs:Nat) (vch:Value) (ads:List Nat) (d:DiskD) (ob obn obs r:Nat) (F0:List Nat) (w0:World) (v:Value) (wr:World):Prop:=
 ∃ S na done n,CpSt d.files.length S na∧NmIn S done∧done.Nodup∧(∀ x∈done,x∈d.now)∧In F0 w0 wr (CpAll bt gt bd bn bs vch ads d (IterN Tryz.prog 9 ekN (evN ads) bn r d.now done n) (NTab bs ads d.sure) ob obn obs (.slice none 0 0) S na done [] [] [])
def CpRel2 (bt gt bd bn bs:Nat) (vch:Value) (ads:List Nat) (d:DiskD) (ob obn obs r:Nat) (F0:List Nat) (w0:World) (v:Value) (wr:World):Prop:=
 ∃ S na done n,CpSt d.files.length S na∧NmIn S d.now∧NmIn S done∧done.Nodup∧(∀ x∈done,x∈d.sure)∧In F0 w0 wr (CpAll bt gt bd bn bs vch ads d (NTab bn ads d.now) (IterN Tryz.prog 9 ekN (evN ads) bs r d.sure done n) ob obn obs (.slice none 0 0) S na d.now done [] [])
def CpRel3 (bt gt bd bn bs:Nat) (vch:Value) (ads:List Nat) (d:DiskD) (ob obn obs:Nat) (F0:List Nat) (w0:World) (v:Value) (wr:World):Prop:=
 ∃ (S na:List Nat) (k:Nat) (och:Value),v=.int .i64 k∧k≤d.ch.length∧CpSt d.files.length S na∧NmIn S d.now∧NmIn S d.sure∧(∀ c∈d.ch.take k,ChIn S c)∧In F0 w0 wr (CpAll bt gt bd bn bs vch ads d (NTab bn ads d.now) (NTab bs ads d.sure) ob obn obs och S na d.now d.sure (d.ch.take k) [])
def CpPost (bd bn bs:Nat) (vch:Value) (ads:List Nat) (d:DiskD) (F0:List Nat) (w0:World) (e:Ending) (w':World):Prop:=
 ∃ (S na:List Nat) (ob obn obs:Nat) (och:Value) (bt gt:Nat),e=.returned (dptr ob)∧CpSt d.files.length S na∧NmIn S d.now∧NmIn S d.sure∧(∀ c∈d.ch,ChIn S c) ∧
  In F0 w0 w' (CpAll bt gt bd bn bs vch ads d (NTab bn ads d.now) (NTab bs ads d.sure) ob obn obs och S na d.now d.sure d.ch [])
theorem keys_snoc {N done:NmL} (hN:NmRow N) {y:ByteArray×Nat} (hd:done.Nodup) (hs:∀ x∈done,x∈N) (hy:y∈N) (hyd:y ∉ done):((done++[y]).map (·.1)).Nodup:=by
 have h1:(done++[y]).Nodup:=List.nodup_append.2 ⟨hd,by simp,fun a ha b hb=>by simp at hb;subst hb;exact fun e=>hyd (e ▸ ha)⟩
 have h2:∀ x∈done++[y],x∈N:=fun x hx=>by
  rcases List.mem_append.1 hx with hx | hx
  ·exact hs x hx
  ·simp at hx;subst hx;exact hy
 generalize done++[y]=L at *
 clear hd hs hyd hy
 induction L with
 | nil=>simp
 | cons x r ih=>
  obtain⟨k1,k2⟩:=List.nodup_cons.1 h1
  rw [List.map_cons]
  refine List.nodup_cons.2 ⟨fun hm=>?_,ih k2 (fun z hz=>h2 z (by simp [hz]))⟩
  obtain⟨z,hz,e⟩:=List.mem_map.1 hm
  have hzx:z=x:=by
   have a1:=h2 z (by simp [hz])
   have a2:=h2 x (by simp)
   have:=nm_key hN.keys (n:=x.1) (f:=z.2) (g:=x.2) (by rw [← e];exact a1) a2
   exact Prod.ext e this
  exact k1 (hzx ▸ hz)
theorem dcopy {d:DiskD} {bd bn bs:Nat} {vch:Value} {ads:List Nat} {F0:List Nat} {w0 w:World} (h:In F0 w0 w (DkR bd bn bs vch ads d)) (hok:DiskOk d) (ho:d.ops≤100000000) (hl:ads.length=d.files.length) :
  Calls Tryz.prog 9 #[dptr bd] w (CpPost bd bn bs vch ads d F0 w0):=by
 have hmf:∀ (fn:Fn) (first cap:Array Value) (w:World),(Instr.makeFunc fn first cap).run Tryz.prog w=.ok (.func fn first cap) w:=fun _ _ _ _=>rfl
 have hmm:=@run_makeMap Tryz.prog
 have h1:=(pt_make h).cells #[.map (some w.heap.size)] 79
 have hb:=h1.block 2 rfl
 have e1:(w.alloc (Obj.map #[] 0)).heap.size=w.heap.size+1:=Array.size_push _
 rw [e1] at h1
 have H1:=Lib.hid h1
 obtain⟨wx,hwx⟩:∃ wx,wx=(w.alloc (Obj.map #[] 0)).alloc (.cells #[.map (some w.heap.size)] 79):=⟨_,rfl⟩
 rw [← hwx] at hb
 have b0:wx.cell? ⟨bd,0,none⟩=some (.int .i64 d.quota):=cell_of hb rfl
 have b4:wx.cell? ⟨bd,4,none⟩=some (.int .i64 d.ops):=cell_of hb rfl
 have b5:wx.cell? ⟨bd,5,none⟩=some (.int .i64 (failV d)):=cell_of hb rfl
 have hal:∀ (w':World) (o:Obj),w'.heap[bd]?=some (.cells (dkCells d bn bs vch) 64 (0,0))→(w'.alloc o).heap[bd]?=some (.cells (dkCells d bn bs vch) 64 (0,0)):=fun w' o h'=>(hp_alloc_old (hp_lt h')).trans h'
 have HY:Hid (∀ (o1 o2 o3:Obj),((wx.alloc o1).cell? ⟨bd,0,none⟩=some (.int .i64 d.quota)∧(wx.alloc o1).cell? ⟨bd,4,none⟩=some (.int .i64 d.ops)∧(wx.alloc o1).cell? ⟨bd,5,none⟩=some (.int .i64 (failV d))) ∧
   (((wx.alloc o1).alloc o2).cell? ⟨bd,0,none⟩=some (.int .i64 d.quota)∧((wx.alloc o1).alloc o2).cell? ⟨bd,4,none⟩=some (.int .i64 d.ops)∧((wx.alloc o1).alloc o2).cell? ⟨bd,5,none⟩=some (.int .i64 (failV d))) ∧
   ((((wx.alloc o1).alloc o2).alloc o3).cell? ⟨bd,0,none⟩=some (.int .i64 d.quota)∧(((wx.alloc o1).alloc o2).alloc o3).cell? ⟨bd,4,none⟩=some (.int .i64 d.ops)∧(((wx.alloc o1).alloc o2).alloc o3).cell? ⟨bd,5,none⟩=some (.int .i64 (failV d)))):=
  Lib.hid fun o1 o2 o3=>⟨⟨cell_of (hal _ o1 hb) rfl,cell_of (hal _ o1 hb) rfl,cell_of (hal _ o1 hb) rfl⟩,⟨cell_of (hal _ o2 (hal _ o1 hb)) rfl,cell_of (hal _ o2 (hal _ o1 hb)) rfl,cell_of (hal _ o2 (hal _ o1 hb)) rfl⟩,⟨cell_of (hal _ o3 (hal _ o2 (hal _ o1 hb))) rfl,cell_of (hal _ o3 (hal _ o2 (hal _ o1 hb))) rfl,cell_of (hal _ o3 (hal _ o2 (hal _ o1 hb))) rfl⟩⟩
 have HWX:=Lib.hid hwx
 clear h h1 hb hal
 go_enter Tryz.func9,Tryz.ntmps9
 unfold dptr
 go_wp2_with fail
 rw [← HWX.out] at H1 ⊢
 clear hwx HWX e1
 generalize w.heap.size=bt at *
 clear w
 generalize bt+1=gt at *
 go_upto_region 5 with fail
 go_cut [5] (fun x5 wy=>∃ ob obn obs,x5=.pointer (some ⟨ob,0,none⟩)∧In F0 w0 wy (CpAll bt gt bd bn bs vch ads d (NTab bn ads d.now) (NTab bs ads d.sure) ob obn obs (.slice none 0 0) [] [] [] [] [] []))
 case first=>
  go_region_held3 (fun w'=>w'.cell? ⟨bd,0,none⟩=some (.int .i64 d.quota)∧w'.cell? ⟨bd,4,none⟩=some (.int .i64 d.ops)∧w'.cell? ⟨bd,5,none⟩=some (.int .i64 (failV d))) (first | exact⟨b0,b4,b5⟩ | exact (HY.out _ default default).1 | exact (HY.out _ _ default).2.1 | exact (HY.out _ _ _).2.2 | go_keep) (fail)
  all_goals
   clear b0 b4 b5 HY
   go_wp2_with fail
   go_meet
   have e1:(wx.alloc (Obj.map #[] 0)).heap.size=wx.heap.size+1:=Array.size_push _
   have e2:((wx.alloc (Obj.map #[] 0)).alloc (Obj.map #[] 0)).heap.size=wx.heap.size+1+1:=by rw [show ((wx.alloc (Obj.map #[] 0)).alloc (Obj.map #[] 0)).heap.size=(wx.alloc (Obj.map #[] 0)).heap.size+1 from Array.size_push _,e1]
   first
    | (refine⟨wx.heap.size+1+1,wx.heap.size,wx.heap.size+1,rfl,?_⟩
       unfold CpAll CpL
       rw [show NewR d.files [] []=[] from rfl,List.append_nil]
       have g1:=(((tab_make (tab_make H1.out Tryz.prog 9 ekN (evN [])) Tryz.prog 9 ekN (evN [])).cells #[.int .i64 d.quota,.map (some wx.heap.size),.map (some (wx.heap.size+1)),.slice none 0 0,.int .i64 d.ops,.int .i64 (failV d)] 64).rownil 86 4).drewN 1
       rw [e1,e2] at g1
       exact g1.sel2 (R1:=[_,_,_,_,_,_,_,_,_,_]) (R2:=filesR ads d.files) [5,4,6,7,8,9,1,3,2,0] (by decide) rfl)
    | (refine⟨wx.heap.size+1+1,wx.heap.size+1,wx.heap.size,rfl,?_⟩
       unfold CpAll CpL
       rw [show NewR d.files [] []=[] from rfl,List.append_nil]
       have g1:=(((tab_make (tab_make H1.out Tryz.prog 9 ekN (evN [])) Tryz.prog 9 ekN (evN [])).cells #[.int .i64 d.quota,.map (some (wx.heap.size+1)),.map (some wx.heap.size),.slice none 0 0,.int .i64 d.ops,.int .i64 (failV d)] 64).rownil 86 4).drewN 1
       rw [e1,e2] at g1
       exact g1.sel2 (R1:=[_,_,_,_,_,_,_,_,_,_]) (R2:=filesR ads d.files) [5,4,6,7,8,9,1,2,3,0] (by decide) rfl)
 case rest=>
  obtain⟨ob,obn,obs,rfl,g⟩:=hcut
  clear H1 HY b0 b4 b5
  have hnow:NmRow d.now:=hok.now.row
  have g':In F0 w0 wc (PTab bt (tabOf ads [] [])::Cells gt #[.map (some bt)] 79::Cells bd (dkCells d bn bs vch) 64::NTab bn ads d.now::_):=g
  have c1:wc.cell? ⟨bd,1,none⟩=some (.map (some bn)):=cell_of (g'.block 2 rfl) rfl
  obtain⟨o,hrg,h2⟩:=tab_range g' 3 rfl (ekN_inj hnow) Tryz.underlying61
  have h3:=iterN_of h2 3 rfl
  have HR:Hid (CpRel1 bt gt bd bn bs vch ads d ob obn obs wc.heap.size F0 w0 (.bool false) (wc.alloc o)):=Lib.hid ⟨[],[],[],_,⟨List.nodup_nil,by simp,rfl⟩,by intro x hx;simp at hx,List.nodup_nil,by simp,h3⟩
  have HOK:=Lib.hid hok
  have HL:=Lib.hid hl
  clear g g' h2 h3 hok hl
  go_wp2_with fail
  go_loopw [6] (CpRel1 bt gt bd bn bs vch ads d ob obn obs wc.heap.size F0 w0) (fun _ wr=>wr.rangeLeft bn wc.heap.size)
  case atStart=>exact HR.out
  case round=>
   obtain⟨S,na,done,n,st,hin,hnd,hsub,g⟩:=hrel
   clear HR hrg c1
   obtain⟨hn,g2⟩:=iterN_to g 3 rfl
   have g2':In F0 w0 wr (CpAll bt gt bd bn bs vch ads d (IterA Tryz.prog 9 ekN (evN ads) bn wc.heap.size d.now done) (NTab bs ads d.sure) ob obn obs (.slice none 0 0) S na done [] [] []):=g2
   rcases tab_next g2' 3 rfl 0 with ⟨hp,hrun⟩|⟨y,hy,hyd,w',hrun,g3,hlt,hen⟩
   ·have hin2:NmIn S d.now:=fun x hx=>hin x (hp.mem_iff.2 hx)
    have g4:In F0 w0 wr (CpAll bt gt bd bn bs vch ads d (NTab bn ads d.now) (NTab bs ads d.sure) ob obn obs (.slice none 0 0) S na done [] [] []):=tab_done g2' 3 rfl
    have g5:In F0 w0 wr (CpAll bt gt bd bn bs vch ads d (NTab bn ads d.now) (NTab bs ads d.sure) ob obn obs (.slice none 0 0) S na d.now [] [] []):=g4.imp (A:=NTab obn na (mapN S done)) (A':=NTab obn na (mapN S d.now)) 7 rfl (TabA.framed _ _) (fun F hF=>TabA.perm hF (hp.symm.map _))
    have hsure:NmRow d.sure:=(hist_files HOK.out.hist).row
    have g6:In F0 w0 wr (PTab bt (tabOf ads S na)::Cells gt #[.map (some bt)] 79::Cells bd (dkCells d bn bs vch) 64::NTab bn ads d.now::NTab bs ads d.sure::_):=g5
    have c2:wr.cell? ⟨bd,2,none⟩=some (.map (some bs)):=cell_of (g6.block 2 rfl) rfl
    obtain⟨o2,hrg2,h7⟩:=tab_range g6 4 rfl (ekN_inj hsure) Tryz.underlying61
    have h8:=iterN_of h7 4 rfl
    have HR2:Hid (CpRel2 bt gt bd bn bs vch ads d ob obn obs wr.heap.size F0 w0 (.bool false) (wr.alloc o2)):=Lib.hid ⟨S,na,[],_,st,hin2,by intro x hx;simp at hx,List.nodup_nil,by simp,h8⟩
    clear g g2 g2' g4 g5 g6 h7 h8 hin hin2 hnd hsub hp hn st
    go_wp2_with fail
    generalize wr.heap.size=r2 at *
    go_loopw [8] (CpRel2 bt gt bd bn bs vch ads d ob obn obs r2 F0 w0) (fun _ wr=>wr.rangeLeft bs r2)
    case atStart=>exact HR2.out
    case round=>
     obtain⟨S,na,done,n,st,hiN,hin,hnd,hsub,g⟩:=hrel
     clear HR2 hrg2 c2
     obtain⟨hn,g2⟩:=iterN_to g 4 rfl
     have g2':In F0 w0 wr (CpAll bt gt bd bn bs vch ads d (NTab bn ads d.now) (IterA Tryz.prog 9 ekN (evN ads) bs r2 d.sure done) ob obn obs (.slice none 0 0) S na d.now done [] []):=g2
     rcases tab_next g2' 4 rfl 0 with ⟨hp,hrun⟩|⟨y,hy,hyd,w',hrun,g3,hlt,hen⟩
     ·have hin2:NmIn S d.sure:=fun x hx=>hin x (hp.mem_iff.2 hx)
      have g4:In F0 w0 wr (CpAll bt gt bd bn bs vch ads d (NTab bn ads d.now) (NTab bs ads d.sure) ob obn obs (.slice none 0 0) S na d.now done [] []):=tab_done g2' 4 rfl
      have g5:In F0 w0 wr (CpAll bt gt bd bn bs vch ads d (NTab bn ads d.now) (NTab bs ads d.sure) ob obn obs (.slice none 0 0) S na d.now d.sure [] []):=g4.imp (A:=NTab obs na (mapN S done)) (A':=NTab obs na (mapN S d.sure)) 8 rfl (TabA.framed _ _) (fun F hF=>TabA.perm hF (hp.symm.map _))
      have g6:In F0 w0 wr (PTab bt (tabOf ads S na)::Cells gt #[.map (some bt)] 79::Cells bd (dkCells d bn bs vch) 64::NTab bn ads d.now::NTab bs ads d.sure::RowA 86 4 vch d.ch.length (flatC ads d.ch)::_):=g5
      have c3:wr.cell? ⟨bd,3,none⟩=some vch:=cell_of (g6.block 2 rfl) rfl
      obtain⟨Fv,hv⟩:=g6.get 5 rfl
      obtain⟨ac,cc,rfl,kc1,kc2,-⟩:=hv.shape
      have HR3:Hid (CpRel3 bt gt bd bn bs (.slice ac d.ch.length cc) ads d ob obn obs F0 w0 (.int .i64 0) wr):=Lib.hid ⟨S,na,0,.slice none 0 0,rfl,Nat.zero_le _,st,hiN,hin2,by simp,g5⟩
      have hcl:=HOK.out.chops
      clear g g2 g2' g4 g5 g6 hiN hin hin2 hnd hsub hp hn st hv
      go_wp2_with fail
      go_loopw [73] (CpRel3 bt gt bd bn bs (.slice ac d.ch.length cc) ads d ob obn obs F0 w0) (fun i _=>d.ch.length - (intOf i).toNat)
      case atStart=>exact HR3.out
      case round=>
       obtain⟨S,na,k,och,rfl,hk,st,hiN,hiS,hic,g⟩:=hrel
       clear HR3 c3
       by_cases hlt:k < d.ch.length
       ·obtain⟨c0,hc0⟩:∃ c0,d.ch[k]?=some c0:=⟨d.ch[k],List.getElem?_eq_getElem hlt⟩
        obtain⟨xi,xs,xt,xq,hx⟩:=encC_shape ads c0
        obtain⟨f0,f1,f2,f3⟩:=flatC_at hc0 hx
        have g6:In F0 w0 wr (PTab bt (tabOf ads S na)::Cells gt #[.map (some bt)] 79::Cells bd (dkCells d bn bs (.slice ac d.ch.length cc)) 64::NTab bn ads d.now::NTab bs ads d.sure::RowA 86 4 (.slice ac d.ch.length cc) d.ch.length (flatC ads d.ch)::_):=g
        obtain⟨Fr,hr⟩:=g6.get 5 rfl
        obtain⟨g0,rfl,e0⟩:=hr.at.2 _ _ f0
        obtain⟨g',hg',e1⟩:=hr.at.2 _ _ f1
        cases hg'
        obtain⟨g',hg',e2⟩:=hr.at.2 _ _ f2
        cases hg'
        obtain⟨g',hg',e3⟩:=hr.at.2 _ _ f3
        cases hg'
        have hlt':(k:Int) < (d.ch.length:Int):=by omega
        have hw2:wrap64 ((k:Int)+1)=(k:Int)+1:=by unfold wrap64;omega
        have HM2:=Lib.hid (show d.ch.length - (intOf (.int .i64 ((k:Int)+1))).toNat < d.ch.length - (intOf (.int .i64 (k:Int))).toNat from by simp [intOf];omega)
        have hcells:=g.cells #[.int .i64 xi,.string xs,.string xt,.pointer xq] 86
        have z3:(wr.alloc (.cells #[.int .i64 xi,.string xs,.string xt,.pointer xq] 86)).cell? ⟨wr.heap.size,3,none⟩=some (.pointer xq):=cell_of hp_alloc_new rfl
        have hin4:In F0 w0 (wr.alloc (.cells #[.int .i64 xi,.string xs,.string xt,.pointer xq] 86)) (CpAll bt gt bd bn bs (.slice (some ⟨g0,0,none⟩) d.ch.length cc) ads d (NTab bn ads d.now) (NTab bs ads d.sure) ob obn obs och S na d.now d.sure (d.ch.take k) [Cells wr.heap.size #[.int .i64 xi,.string xs,.string xt,.pointer xq] 86]):=hcells.sel2 (R1:=[_,_,_,_,_,_,_,_,_,_,_]) (R2:=filesR ads d.files++NewR d.files S na) [1,2,3,4,5,6,7,8,9,10,0] (by decide) rfl
        have HK3:Hid (Calls Tryz.prog 29 #[.pointer xq,.pointer (some ⟨gt,0,none⟩)] (wr.alloc (.cells #[.int .i64 xi,.string xs,.string xt,.pointer xq] 86)) fun e w'=>∃ (S' na':List Nat) (xr:Option Addr),CpSt d.files.length S' na'∧GrewSt S na S' na'∧ChIn S' c0∧encC na' (mapC S' c0)=[.int .i64 xi,.string xs,.string xt,.pointer xr]∧e=.returned (.pointer xr)∧In F0 w0 w' (CpAll bt gt bd bn bs (.slice (some ⟨g0,0,none⟩) d.ch.length cc) ads d (NTab bn ads d.now) (NTab bs ads d.sure) ob obn obs och S' na' d.now d.sure (d.ch.take k) [Cells wr.heap.size #[.int .i64 xi,.string xs,.string xt,.pointer xq] 86])):=Lib.hid (by
         have hid:=hist_ids HOK.out.hist c0 (List.mem_of_getElem? hc0)
         cases c0 with
         | made n f=>
          have hxq:ptrAt ads f=.pointer xq:=by simp only [encC,List.cons.injEq] at hx;exact hx.2.2.2.1
          have hx0:[Value.int .i64 1,.string n,.string ByteArray.empty,ptrAt ads f]=[.int .i64 xi,.string xs,.string xt,.pointer xq]:=hx
          rw [← hxq]
          rw [← hxq] at hin4
          refine (cp_call HOK.out HL.out st hiN hiS hic (hid:f < d.files.length) hin4).mono fun e w' hp=>?_
          obtain⟨S',na',s1,s2,s3,s4,q⟩:=hp
          refine⟨S',na',_,s1,s2,s3,?_,s4,q⟩
          simp only [List.cons.injEq] at hx0
          show [Value.int .i64 1,.string n,.string ByteArray.empty,ptrAt na' (S'.idxOf f)]=_
          rw [hx0.1,hx0.2.1,hx0.2.2.1];rfl
         | ren x y=>
          have hxq:Value.pointer none=.pointer xq:=by simp only [encC,List.cons.injEq] at hx;exact hx.2.2.2.1
          cases hxq
          refine (o_cpnil hin4).mono fun e w' hp=>?_
          exact⟨S,na,none,st,GrewSt.refl _ _,trivial,hx,hp.1,hp.2⟩
         | rem x=>
          have hxq:Value.pointer none=.pointer xq:=by simp only [encC,List.cons.injEq] at hx;exact hx.2.2.2.1
          cases hxq
          refine (o_cpnil hin4).mono fun e w' hp=>?_
          exact⟨S,na,none,st,GrewSt.refl _ _,trivial,hx,hp.1,hp.2⟩)
        have HC0:=Lib.hid hc0
        have HIN:=Lib.hid (And.intro hiN (And.intro hiS hic))
        have hl3:(d.ch.take k).length=k:=by rw [List.length_take];omega
        have HKL:Hid (k+1≤d.ch.length):=Lib.hid hlt
        clear hr f0 f1 f2 f3 g g6 hcells hx hc0 hin4 hiN hiS hic
        go_wp2_with fail
        refine HK3.out.mono ?_
        rintro e w4 ⟨S',na',xr,s1,s2,s3,s4,rfl,q⟩
        generalize wr.heap.size=cb at *
        have q':In F0 w0 w4 (PTab bt (tabOf ads S' na')::Cells gt #[.map (some bt)] 79::Cells bd (dkCells d bn bs (.slice (some ⟨g0,0,none⟩) d.ch.length cc)) 64::NTab bn ads d.now::NTab bs ads d.sure::RowA 86 4 (.slice (some ⟨g0,0,none⟩) d.ch.length cc) d.ch.length (flatC ads d.ch)::Cells ob #[.int .i64 d.quota,.map (some obn),.map (some obs),och,.int .i64 d.ops,.int .i64 (failV d)] 64::NTab obn na' (mapN S' d.now)::NTab obs na' (mapN S' d.sure)::RowA 86 4 och (d.ch.take k).length (flatC na' ((d.ch.take k).map (mapC S')))::Cells cb #[.int .i64 xi,.string xs,.string xt,.pointer xq] 86::(filesR ads d.files++NewR d.files S' na')):=q
        obtain⟨Fo,hro⟩:=q'.get 9 rfl
        obtain⟨a1,c1,rfl,-,-,-⟩:=hro.shape
        have frz:w4.frozen? ⟨cb,3,none⟩=false:=free_of (q'.block 10 rfl)
        have zz:w4.cell? ⟨cb,3,none⟩=some (.pointer xq):=cell_of (q'.block 10 rfl) rfl
        have q5:In F0 w0 (w4.setCell ⟨cb,3,none⟩ (.pointer xr)) (PTab bt (tabOf ads S' na')::Cells gt #[.map (some bt)] 79::Cells bd (dkCells d bn bs (.slice (some ⟨g0,0,none⟩) d.ch.length cc)) 64::NTab bn ads d.now::NTab bs ads d.sure::RowA 86 4 (.slice (some ⟨g0,0,none⟩) d.ch.length cc) d.ch.length (flatC ads d.ch)::Cells ob #[.int .i64 d.quota,.map (some obn),.map (some obs),.slice a1 (d.ch.take k).length c1,.int .i64 d.ops,.int .i64 (failV d)] 64::NTab obn na' (mapN S' d.now)::NTab obs na' (mapN S' d.sure)::RowA 86 4 (.slice a1 (d.ch.take k).length c1) (d.ch.take k).length (flatC na' ((d.ch.take k).map (mapC S')))::Cells cb #[.int .i64 xi,.string xs,.string xt,.pointer xr] 86::(filesR ads d.files++NewR d.files S' na')):=q'.put 10 rfl 3 (.pointer xr)
        have HQ5:=Lib.hid q5
        obtain⟨w5,hw5⟩:∃ w5,w5=w4.setCell ⟨cb,3,none⟩ (.pointer xr):=⟨_,rfl⟩
        rw [← hw5] at HQ5 q5
        have co3:w5.cell? ⟨ob,3,none⟩=some (.slice a1 (d.ch.take k).length c1):=cell_of (q5.block 6 rfl) rfl
        have co3':∀ o,(w5.alloc o).cell? ⟨ob,3,none⟩=some (.slice a1 (d.ch.take k).length c1):=fun o=>cell_of ((q5.alloc o).block 6 rfl) rfl
        have y0:w5.cell? ⟨cb,0,none⟩=some (.int .i64 xi):=cell_of (q5.block 10 rfl) rfl
        have y1:w5.cell? ⟨cb,1,none⟩=some (.string xs):=cell_of (q5.block 10 rfl) rfl
        have y2:w5.cell? ⟨cb,2,none⟩=some (.string xt):=cell_of (q5.block 10 rfl) rfl
        have y3:w5.cell? ⟨cb,3,none⟩=some (.pointer xr):=cell_of (q5.block 10 rfl) rfl
        have HW5:=Lib.hid hw5
        rw [hl3] at co3 co3'
        clear q q' q5 hro HK3 hw5
        go_wp2_with fail
        rw [← HW5.out]
        clear frz zz HW5
        rw [hl3] at HQ5
        have HLL:=Lib.hid hl3
        clear hl3
        go_region_law
         (first
          | (refine app_step rfl (R:=Cells _ _ 86::PTab bt (tabOf ads S' na')::Cells gt #[.map (some bt)] 79::Cells bd (dkCells d bn bs (.slice (some ⟨g0,0,none⟩) d.ch.length cc)) 64::NTab bn ads d.now::NTab bs ads d.sure::RowA 86 4 (.slice (some ⟨g0,0,none⟩) d.ch.length cc) d.ch.length (flatC ads d.ch)::Cells ob #[.int .i64 d.quota,.map (some obn),.map (some obs),.slice a1 k c1,.int .i64 d.ops,.int .i64 (failV d)] 64::NTab obn na' (mapN S' d.now)::NTab obs na' (mapN S' d.sure)::RowA 86 4 (.slice a1 k c1) k (flatC na' ((d.ch.take k).map (mapC S')))::Cells cb #[.int .i64 xi,.string xs,.string xt,.pointer xr] 86::(filesR ads d.files++NewR d.files S' na')) (by exact (HQ5.out.drewN 1).cells _ _) 10 rfl (.tmp 86) (.tmp 88) 62 (by rfl) Tryz.underlying62 infoChange (by decide) (by decide) (by rfl) (by rfl) (by exact Src.of_block (((HQ5.out.drewN 1).cells _ _).block 0 rfl) rfl) (fun u hu=>by simp at hu;rcases hu with rfl | rfl | rfl | rfl <;> rfl) (by omega) ?_
             intro v1 w6 ho1 hg1
             have hc1:w6.cell? ⟨ob,3,none⟩=some (.slice a1 k c1):=cell_of (ho1.block 7 rfl) rfl
             have hf1:w6.frozen? ⟨ob,3,none⟩=false:=free_of (ho1.block 7 rfl)
             obtain⟨F1,hr1⟩:=ho1.get 10 rfl
             obtain⟨a2,c2,rfl,-,-,-⟩:=hr1.shape
             clear hr1
             have HO1:=Lib.hid ho1
             clear ho1 hg1))
        all_goals
         have h2:=(HO1.out.put 7 rfl 3 (.slice a2 (k+1) c2)).sel2 (R1:=[_,_,_,_,_,_,_,_,_,_,_,_]) (R2:=filesR ads d.files++NewR d.files S' na') [1,2,3,4,5,6,7,8,9,10] (by decide) rfl
         have HE:Hid (CpRel3 bt gt bd bn bs (.slice (some ⟨g0,0,none⟩) d.ch.length cc) ads d ob obn obs F0 w0 (.int .i64 ((k:Int)+1)) (w6.setCell ⟨ob,3,none⟩ (.slice a2 (k+1) c2))):=Lib.hid ⟨S',na',k+1,.slice a2 (k+1) c2,by go_num,HKL.out,s1,fun x hx=>s2.mem (HIN.out.1 x hx),fun x hx=>s2.mem (HIN.out.2.1 x hx),fun c hc=>by
          rw [List.take_add_one,HC0.out] at hc
          rcases List.mem_append.1 hc with hc | hc
          ·have:=HIN.out.2.2 c hc
           cases c with
           | made _ _=>exact s2.mem this
           | ren _ _=>trivial
           | rem _=>trivial
          ·simp at hc;subst hc;exact s3,by
          have et:d.ch.take (k+1)=d.ch.take k++[c0]:=by rw [List.take_add_one,HC0.out];rfl
          have el:(d.ch.take (k+1)).length=k+1:=by rw [et,List.length_append,HLL.out];rfl
          have ef:flatC na' ((d.ch.take (k+1)).map (mapC S'))=flatC na' ((d.ch.take k).map (mapC S'))++[.int .i64 xi,.string xs,.string xt,.pointer xr]:=by
           rw [et,List.map_append,flatC_append,← s4];simp [flatC]
          unfold CpAll CpL
          rw [el,ef]
          exact h2⟩
         clear h2 HO1
         go_wp2_with fail
         go_roundw
         case rel=>(try rw [hw2]);exact HE.out
         case measure=>(try rw [hw2]);exact HM2.out
       ·have hge:(d.ch.length:Int)≤(k:Int):=by omega
        have E:Hid (CpPost bd bn bs (.slice ac d.ch.length cc) ads d F0 w0 (.returned (dptr ob)) wr):=Lib.hid (by
         rw [List.take_of_length_le (by omega)] at hic g
         exact⟨S,na,ob,obn,obs,och,bt,gt,rfl,st,hiN,hiS,hic,g⟩)
        clear g st hiN hiS hic hk hlt
        go_wp2_with fail
        go_ret
        exact E.out
     ·have hyl:=(hist_files HOK.out.hist).lt y hy
      have hys:y.1.size≤maxLen:=by have:=(hist_files HOK.out.hist).named y hy;unfold namedB at this;have:=of_decide_eq_true this;unfold maxLen;omega
      have hks:=keys_snoc hsure hnd hsub hy hyd
      have g4:In F0 w0 w' (CpAll bt gt bd bn bs vch ads d (NTab bn ads d.now) (IterN Tryz.prog 9 ekN (evN ads) bs r2 d.sure (done++[y]) (w'.rangeLeft bs r2)) ob obn obs (.slice none 0 0) S na d.now done [] []):=iterN_of g3 4 rfl
      have KC:=Lib.hid (cp_call HOK.out HL.out st hiN hin (by intro c hc;simp at hc) hyl (g4.drewN 1))
      have hob:∀ (wq:World) (A:Asrt) S na N1,In F0 w0 wq (CpAll bt gt bd bn bs vch ads d (NTab bn ads d.now) A ob obn obs (.slice none 0 0) S na d.now N1 [] [])→wq.cell? ⟨ob,2,none⟩=some (.map (some obs)):=fun wq A S na N1 hq=>by
       have hq':In F0 w0 wq (_::_::_::_::_::_::Cells ob #[.int .i64 d.quota,.map (some obn),.map (some obs),.slice none 0 0,.int .i64 d.ops,.int .i64 (failV d)] 64::_):=hq
       exact cell_of (hq'.block 6 rfl) rfl
      have co:=hob _ _ _ _ _ g4
      have HNX:Hid (∀ S' na' w4,CpSt d.files.length S' na'→GrewSt S na S' na'→y.2∈S'→In F0 w0 w4 (CpAll bt gt bd bn bs vch ads d (NTab bn ads d.now) (IterN Tryz.prog 9 ekN (evN ads) bs r2 d.sure (done++[y]) (w'.rangeLeft bs r2)) ob obn obs (.slice none 0 0) S' na' d.now done [] []) →
        ∃ w5,(Instr.mapUpdate 61 (.map (some obs)) (.string y.1) (ptrAt na' (S'.idxOf y.2))).run Tryz.prog w4=.ok () w5∧w5.cell? ⟨ob,2,none⟩=some (.map (some obs))∧w5.rangeLeft bs r2=w'.rangeLeft bs r2∧CpRel2 bt gt bd bn bs vch ads d ob obn obs r2 F0 w0 (.bool false) w5):=Lib.hid (fun S' na' w4 s1 s2 s3 q=>by
       obtain⟨w5,q1,q2⟩:=cp_put (S:=S') (na:=na') (done:=done) (y:=y) q 8 rfl hks hys
       have q3:In F0 w0 w5 (CpAll bt gt bd bn bs vch ads d (NTab bn ads d.now) (IterN Tryz.prog 9 ekN (evN ads) bs r2 d.sure (done++[y]) (w'.rangeLeft bs r2)) ob obn obs (.slice none 0 0) S' na' d.now (done++[y]) [] []):=q2
       refine⟨w5,q1,hob _ _ _ _ _ q3,(iterN_to q3 4 rfl).1,S',na',done++[y],_,s1,fun x hx=>s2.mem (hiN x hx),?_,?_,?_,q3⟩
       ·intro x hx
        rcases List.mem_append.1 hx with hx | hx
        ·exact s2.mem (hin x hx)
        ·simp at hx;subst hx;exact s3
       ·exact List.nodup_append.2 ⟨hnd,by simp,fun a ha b hb=>by simp at hb;subst hb;exact fun e=>hyd (e ▸ ha)⟩
       ·intro x hx
        rcases List.mem_append.1 hx with hx | hx
        ·exact hsub x hx
        ·simp at hx;subst hx;exact hy)
      unfold evN ekN at hrun hen
      have HLT:=Lib.hid hlt
      obtain⟨y1,y2⟩:=y
      simp only at *
      have HOB:=Lib.hid hob
      clear g g2 g2' g3 g4 hiN hin hnd hsub hyd hy hyl hys hks hob hlt hn st
      go_wp2_with fail
      go_region_held3 (fun w'=>w'.cell? ⟨ob,2,none⟩=some (.map (some obs))) (first | exact co | exact hc4 | exact hc5 | go_keep) ((go_at_call 29;refine KC.out.mono ?_;rintro e w4 ⟨S',na',s1,s2,s3,rfl,q⟩;have hc4:=HOB.out _ _ _ _ _ q;obtain⟨w5,q1,hc5,q3,q4⟩:=HNX.out S' na' w4 s1 s2 s3 q))
      go_roundw
      case rel=>exact⟨.string y1,_,_,_,_,_,_,_,_,_,_,_,_,_,_,q4,rfl⟩
      case measure=>rw [q3];exact HLT.out
   ·have hyl:=HOK.out.now.lt y hy
    have hys:y.1.size≤maxLen:=by have:=HOK.out.now.named y hy;unfold namedB at this;have:=of_decide_eq_true this;unfold maxLen;omega
    have hks:=keys_snoc hnow hnd hsub hy hyd
    have g4:In F0 w0 w' (CpAll bt gt bd bn bs vch ads d (IterN Tryz.prog 9 ekN (evN ads) bn wc.heap.size d.now (done++[y]) (w'.rangeLeft bn wc.heap.size)) (NTab bs ads d.sure) ob obn obs (.slice none 0 0) S na done [] [] []):=iterN_of g3 3 rfl
    have KC:=Lib.hid (cp_call HOK.out HL.out st hin (by intro x hx;simp at hx) (by intro c hc;simp at hc) hyl (g4.drewN 1))
    have hob:∀ (wq:World) (A:Asrt) S na N1,In F0 w0 wq (CpAll bt gt bd bn bs vch ads d A (NTab bs ads d.sure) ob obn obs (.slice none 0 0) S na N1 [] [] [])→wq.cell? ⟨ob,1,none⟩=some (.map (some obn)):=fun wq A S na N1 hq=>by
     have hq':In F0 w0 wq (_::_::_::_::_::_::Cells ob #[.int .i64 d.quota,.map (some obn),.map (some obs),.slice none 0 0,.int .i64 d.ops,.int .i64 (failV d)] 64::_):=hq
     exact cell_of (hq'.block 6 rfl) rfl
    have co:=hob _ _ _ _ _ g4
    have HNX:Hid (∀ S' na' w4,CpSt d.files.length S' na'→GrewSt S na S' na'→y.2∈S'→In F0 w0 w4 (CpAll bt gt bd bn bs vch ads d (IterN Tryz.prog 9 ekN (evN ads) bn wc.heap.size d.now (done++[y]) (w'.rangeLeft bn wc.heap.size)) (NTab bs ads d.sure) ob obn obs (.slice none 0 0) S' na' done [] [] []) →
      ∃ w5,(Instr.mapUpdate 61 (.map (some obn)) (.string y.1) (ptrAt na' (S'.idxOf y.2))).run Tryz.prog w4=.ok () w5∧w5.cell? ⟨ob,1,none⟩=some (.map (some obn))∧w5.rangeLeft bn wc.heap.size=w'.rangeLeft bn wc.heap.size∧CpRel1 bt gt bd bn bs vch ads d ob obn obs wc.heap.size F0 w0 (.bool false) w5):=Lib.hid (fun S' na' w4 s1 s2 s3 q=>by
     obtain⟨w5,q1,q2⟩:=cp_put (S:=S') (na:=na') (done:=done) (y:=y) q 7 rfl hks hys
     have q3:In F0 w0 w5 (CpAll bt gt bd bn bs vch ads d (IterN Tryz.prog 9 ekN (evN ads) bn wc.heap.size d.now (done++[y]) (w'.rangeLeft bn wc.heap.size)) (NTab bs ads d.sure) ob obn obs (.slice none 0 0) S' na' (done++[y]) [] [] []):=q2
     refine⟨w5,q1,hob _ _ _ _ _ q3,(iterN_to q3 3 rfl).1,S',na',done++[y],_,s1,?_,?_,?_,q3⟩
     ·intro x hx
      rcases List.mem_append.1 hx with hx | hx
      ·exact s2.mem (hin x hx)
      ·simp at hx;subst hx;exact s3
     ·exact List.nodup_append.2 ⟨hnd,by simp,fun a ha b hb=>by simp at hb;subst hb;exact fun e=>hyd (e ▸ ha)⟩
     ·intro x hx
      rcases List.mem_append.1 hx with hx | hx
      ·exact hsub x hx
      ·simp at hx;subst hx;exact hy)
    unfold evN ekN at hrun hen
    have HLT:=Lib.hid hlt
    obtain⟨y1,y2⟩:=y
    simp only at *
    have HOB:=Lib.hid hob
    clear g g2 g2' g3 g4 hin hnd hsub hyd hy hyl hys hks hob hlt hn st
    go_wp2_with fail
    go_region_held3 (fun w'=>w'.cell? ⟨ob,1,none⟩=some (.map (some obn))) (first | exact co | exact hc4 | exact hc5 | go_keep) ((go_at_call 29;refine KC.out.mono ?_;rintro e w4 ⟨S',na',s1,s2,s3,rfl,q⟩;have hc4:=HOB.out _ _ _ _ _ q;obtain⟨w5,q1,hc5,q3,q4⟩:=HNX.out S' na' w4 s1 s2 s3 q))
    go_roundw
    case rel=>exact⟨.string y1,_,_,_,_,_,_,_,_,_,_,_,_,_,_,q4,rfl⟩
    case measure=>rw [q3];exact HLT.out
def AlikeD (d d':DiskD):Prop:=dNames d'=dNames d∧d'.ops=d.ops∧∀ n,dRead d' n=dRead d n
theorem In.exT {α:Type} {G:α→Asrt} {F0:List Nat} {w0 w:World} {R:List Asrt} (h:In F0 w0 w R) (i:Nat) (hA:R[i]?=some (fun w F=>∃ v,G v w F)) (hG:∀ v,Framed (G v)):∃ v,In F0 w0 w (R.set i (G v)):=by
 have hp:=h.perm (front hA)
 obtain⟨F,⟨F1,F2,⟨v,h1⟩,h2,h3,rfl⟩,hF⟩:=hp.star
 have:In F0 w0 w (G v::R.eraseIdx i):=⟨fun B hB=>by
  rcases List.mem_cons.1 hB with rfl | hB
  ·exact hG v
  ·exact hp.framed B (List.mem_cons_of_mem _ hB),⟨_,⟨F1,F2,h1,h2,h3,rfl⟩,hF⟩,h.mod⟩
 exact⟨v,this.perm (back hA)⟩
def CpG (bd:Nat) (d:DiskD) (v:Value) (q:Nat×DiskD):Asrt:=fun w F=>(v=dptr q.1∧AlikeD d q.2)∧Star [DkA bd d,DkA q.1 q.2] w F
theorem star2 {A B:Asrt} (hA:Framed A) (hB:Framed B):∀ C∈[A,B],Framed C:=by
 intro C hC
 rcases List.mem_cons.1 hC with rfl | hC
 ·exact hA
 ·simp at hC;subst hC;exact hB
theorem CpG.framed (bd:Nat) (d:DiskD) (v:Value) (q:Nat×DiskD):Framed (CpG bd d v q):=
 ⟨fun h hk=>⟨h.1,(Framed.star (star2 (DkA.framed bd d) (DkA.framed q.1 q.2))).keep h.2 hk⟩,fun h=>(Framed.star (star2 (DkA.framed bd d) (DkA.framed q.1 q.2))).lt h.2⟩
def CpA (bd:Nat) (d:DiskD) (v:Value):Asrt:=fun w F=>∃ q,CpG bd d v q w F
theorem CpA.framed (bd:Nat) (d:DiskD) (v:Value):Framed (CpA bd d v):=
 ⟨fun h hk=>⟨h.choose,(CpG.framed bd d v _).keep h.choose_spec hk⟩,fun h=>(CpG.framed bd d v _).lt h.choose_spec⟩
theorem dcopy_gives {d:DiskD} {bd:Nat} {w:World} {F:List Nat} (h:DkA bd d w F) (ho:d.ops≤100000000):Calls Tryz.prog 9 #[dptr bd] w (Gives w F (CpA bd d)):=by
 obtain⟨hok,bn,bs,vch,ads,hl,hs⟩:=h
 refine (dcopy (In.start DkR.framed hs) hok ho hl).mono fun e w' hp=>?_
 obtain⟨S,na,ob,obn,obs,och,bt,gt,rfl,st,h1,h2,h3,g⟩:=hp
 have hok2:DiskOk (dCopy S d):=dCopy_ok hok st.nodup st.lt h2 h3
 have g2:=g.drop.drop
 have e1:filesR na (S.map fun j=>d.files.getD j default)=filesR na (dCopy S d).files:=rfl
 have g3:In F w w' (DkR bd bn bs vch ads d++DkR ob obn obs och na (dCopy S d)):=g2.perm (by
  have e2:(dCopy S d).ch.length=d.ch.length:=List.length_map _
  unfold DkR
  rw [e2]
  show (([Cells bd (dkCells d bn bs vch) 64,NTab bn ads d.now,NTab bs ads d.sure,RowA 86 4 vch d.ch.length (flatC ads d.ch)]++([Cells ob (dkCells (dCopy S d) obn obs och) 64,NTab obn na (mapN S d.now),NTab obs na (mapN S d.sure),RowA 86 4 och d.ch.length (flatC na (d.ch.map (mapC S)))]++(filesR ads d.files++filesR na (dCopy S d).files)))).Perm _
  rw [List.append_assoc]
  exact List.Perm.append_left _ (List.perm_append_comm_assoc _ _ _))
 have g4:=(g3.join.perm (List.perm_append_comm (l₁:=[_]))).join
 have g5:=(g4.imp (A:=Star (DkR ob obn obs och na (dCopy S d))) (A':=DkA ob (dCopy S d)) 0 rfl (DkA.framed _ _) (fun F' hF'=>⟨hok2,obn,obs,och,na,by rw [show (dCopy S d).files.length=S.length from List.length_map _];exact st.len,hF'⟩)).imp (A:=Star (DkR bd bn bs vch ads d)) (A':=DkA bd d) 1 rfl (DkA.framed _ _) (fun F' hF'=>⟨hok,bn,bs,vch,ads,hl,hF'⟩)
 have g6:In F w w' [DkA bd d,DkA ob (dCopy S d)]:=g5.perm (List.Perm.swap _ _ _)
 exact g6.gives _ _ fun F' hF'=>⟨(ob,dCopy S d),⟨rfl,dCopy_names,rfl,fun n=>dCopy_read h1 n⟩,hF'⟩
theorem o_dcopy {F0:List Nat} {w0 w:World} {R:List Asrt} {bd:Nat} {d:DiskD} (h:In F0 w0 w R) (i:Nat) (hA:R[i]?=some (DkA bd d)) (ho:d.ops≤100000000) :
  Calls Tryz.prog 9 #[dptr bd] w fun e w'=>∃ bd' d',e=.returned (dptr bd')∧AlikeD d d'∧In F0 w0 w' (DkA bd' d'::R):=by
 refine (h.call i hA (CpA.framed bd d) (fun F hF=>dcopy_gives hF ho)).mono fun e w' hp=>?_
 obtain⟨v,rfl,g⟩:=hp
 have hlt:=(List.getElem?_eq_some_iff.1 hA).1
 obtain⟨q,g2⟩:=g.exT (G:=CpG bd d v) i (by rw [List.getElem?_set_self hlt];rfl) (CpG.framed bd d v)
 rw [List.set_set] at g2
 have hi:(R.set i (CpG bd d v q))[i]?=some (CpG bd d v q):=List.getElem?_set_self hlt
 obtain⟨F,hF⟩:=g2.get i hi
 have g3:=g2.imp (A':=Star [DkA bd d,DkA q.1 q.2]) i hi (Framed.star (star2 (DkA.framed bd d) (DkA.framed q.1 q.2))) (fun F hF=>hF.2)
 rw [List.set_set] at g3
 have g4:=g3.split (A:=DkA bd d) (B:=DkA q.1 q.2) i (List.getElem?_set_self hlt) (DkA.framed _ _) (DkA.framed _ _)
 rw [List.set_set] at g4
 obtain⟨hi',e'⟩:=List.getElem?_eq_some_iff.1 hA
 have e2:R.set i (DkA bd d)=R:=by rw [← e'];exact List.set_getElem_self hi'
 rw [e2] at g4
 exact⟨q.1,q.2,by rw [hF.1.1],hF.1.2,g4⟩
def SnRel (n:Nat) (R:List Asrt) (F0:List Nat) (w0:World) (v:Value) (wr:World):Prop:=∃ k:Nat,k≤n∧v=.int .i64 k∧In F0 w0 wr R
theorem o_samenames {F0:List Nat} {w0 w:World} {R:List Asrt} {a a':Option Addr} {c c':Nat} {N N':NmL} (h:In F0 w0 w R) (i j:Nat) (hA:R[i]?=some (NmRowA (.slice a N.length c) N)) (hB:R[j]?=some (NmRowA (.slice a' N'.length c') N')) (he:N'.map (·.1)=N.map (·.1)) (hl:N.length≤1000000) :
  Calls Tryz.prog 11 #[.slice a N.length c,.slice a' N'.length c'] w fun e w'=>e=.returned (.bool true)∧In F0 w0 w' R:=by
 have hle:N'.length=N.length:=by have:=congrArg List.length he;simpa using this
 have hne:((N.length:Int) != (N'.length:Int))=false:=by rw [hle];simp
 have HR:Hid (SnRel N.length R F0 w0 (.int .i64 0) w):=Lib.hid ⟨0,Nat.zero_le _,rfl,h⟩
 clear h
 rw [hle] at hB ⊢
 clear hne
 go_enter Tryz.func11,Tryz.ntmps11
 go_wp2_with fail
 go_loopw [13] (SnRel N.length R F0 w0) (fun k _=>N.length - (intOf k).toNat)
 case atStart=>exact HR.out
 case round=>
  obtain⟨k,hk,rfl,ho⟩:=hrel
  clear HR
  by_cases hlt:k < N.length
  ·obtain⟨x,hx⟩:∃ x,N[k]?=some x:=⟨N[k],List.getElem?_eq_getElem hlt⟩
   obtain⟨y,hy⟩:∃ y,N'[k]?=some y:=⟨N'[k]'(by omega),List.getElem?_eq_getElem _⟩
   have hxy:y.1=x.1:=by
    have h1:(N'.map (·.1))[k]?=some y.1:=by rw [List.getElem?_map,hy];rfl
    have h2:(N.map (·.1))[k]?=some x.1:=by rw [List.getElem?_map,hx];rfl
    rw [he,h2] at h1
    exact (Option.some.inj h1).symm
   obtain⟨F1,r1⟩:=ho.get i hA
   obtain⟨b1,rfl,k1⟩:=nm_row_at r1 hx
   obtain⟨F2,r2⟩:=ho.get j hB
   obtain⟨b2,rfl,k2⟩:=nm_row_at r2 hy
   rw [hxy] at k2
   have hlt':(k:Int) < (N.length:Int):=by omega
   have hge0:(0:Int)≤(k:Int):=by omega
   have hw2:wrap64 ((k:Int)+1)=(k:Int)+1:=by unfold wrap64;omega
   have HR:Hid (∀ q,SnRel N.length R F0 w0 (.int .i64 ((k:Int)+1)) (wr.drewN q)):=Lib.hid (fun q=>⟨k+1,hlt,by go_num,ho.drewN q⟩)
   have hs:(x.1.toList == x.1.toList)=true:=by simp
   clear ho r1 r2 hx hy hxy
   generalize x.1=xn at *
   go_wp2_with fail
   go_quiet (fail)
   go_wp2_with fail
   go_roundw
   case rel=>(try rw [hw2]);exact HR.out _
   case measure=>(try rw [hw2]);simp [intOf];omega
  ·have hge:(N.length:Int)≤(k:Int):=by omega
   have HO:=Lib.hid ho
   clear ho hlt
   go_wp2_with fail
   go_ret
   exact⟨rfl,HO.out⟩
end Go.Proofs.YtpmmiljakbojaaaGreat
