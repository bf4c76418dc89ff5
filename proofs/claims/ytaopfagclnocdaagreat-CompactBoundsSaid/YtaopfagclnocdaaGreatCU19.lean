/- Rows.CompactBoundsSaid -/
import Derived.Test.YtaopfagclnocdaaGreatCU16
import Derived.Test.YtaopfagclnocdaaGreatCU8
import Derived.RangeFuncNested
import Derived.RangeFuncBound
import Derived.RangeFuncCalls
import Derived.RangeFuncLeaves
import Derived.Shelf.Abstract
import Derived.Shelf.RegionOpen
import Derived.OwnWalkIn
import Derived.TacticsInMore
import Derived.LoopNIn
import Derived.LoopIn
import Derived.Maps.AppendAt
import Derived.Test.YtaopfagclnocdaaGreatCU2
namespace Go.Proofs.YtaopfagclnocdaaGreat
open Go.RowKit
open Go.RowKit Go.Shelf
open Go.Maps (Keyed)
set_option linter.unusedVariables false
set_option maxHeartbeats 64000000
set_option maxRecDepth 100000
section
variable {F0:List Nat} {w0 w:World} {R:List Asrt}
theorem infoRec:(Tryz.prog.info? 45).map (fun i=>(i.zero.map (fun z=>z.cells.size),i.size,i.bytes))=some (some 14,14,120):=by kernel_rfl
theorem rec_one (r:Rec):∀ u∈encN r,u.oneCell'=true:=by
 intro u hu
 simp only [List.mem_cons,List.not_mem_nil,or_false] at hu
 rcases hu with rfl | rfl | rfl | rfl | rfl | rfl | rfl | rfl | rfl | rfl | rfl | rfl | rfl | rfl <;> rfl
def RecRel1 (s:StD) (g:Nat) (A:Option Addr) (a:Nat) (D:Option Addr) (d:Nat) (F:Option Addr) (f:Nat) (pv:Value) (F0:List Nat) (w0:World) (R:List Asrt) (v i:Value) (wr:World):Prop:=
 ∃ (k:Nat) (ra:Option Addr) (rc:Nat),v=.slice ra (k+1) rc∧k≤s.drs.length∧i=.int .i64 k∧In F0 w0 wr (RowA 45 14 (.slice ra (k+1) rc) (k+1) (recsV pv (recGen s::(s.drs.take k).map recDr))::BkR pv s.bks::Cells g #[.int .i64 s.gen,.slice A s.bks.length a,.slice D s.drs.length d,.slice F s.fls.length f] 36::R)
def RecRel2 (s:StD) (g:Nat) (A:Option Addr) (a:Nat) (D:Option Addr) (d:Nat) (F:Option Addr) (f:Nat) (pv:Value) (F0:List Nat) (w0:World) (R:List Asrt) (v i:Value) (wr:World):Prop:=
 ∃ (k:Nat) (ra:Option Addr) (rc:Nat),v=.slice ra (s.drs.length+1+k) rc∧k≤s.fls.length∧i=.int .i64 k∧In F0 w0 wr (RowA 45 14 (.slice ra (s.drs.length+1+k) rc) (s.drs.length+1+k) (recsV pv (recGen s::(s.drs.map recDr++(s.fls.take k).map recFl)))::BkR pv s.bks::Cells g #[.int .i64 s.gen,.slice A s.bks.length a,.slice D s.drs.length d,.slice F s.fls.length f] 36::R)
theorem o_strecs {s:StD} {A D F:Option Addr} {a d f:Nat} (v:AStV F0 w0 R s A D F) (hn:A=none→a=0) (lb:s.bks.length≤1000) (ld:s.drs.length≤1000) (lf:s.fls.length≤1000) (h:In F0 w0 w R):Calls Tryz.prog 146 #[agSt s A a D d F f] w fun e w'=>∃ v pv,e=.returned v∧In F0 w0 w' (RowA 45 14 v (recsSt s).length (recsV pv (recsSt s))::BkR pv s.bks::R):=by
 obtain⟨w1,hw1⟩:∃ w1,w1=w.alloc (.cells #[.int .i64 s.gen,.slice A s.bks.length a,.slice D s.drs.length d,.slice F s.fls.length f] 36):=⟨_,rfl⟩
 have h1:=h.cells #[.int .i64 s.gen,.slice A s.bks.length a,.slice D s.drs.length d,.slice F s.fls.length f] 36
 rw [← hw1] at h1
 have c0:w1.cell? ⟨w.heap.size,0,none⟩=some (.int .i64 s.gen)∧w1.cell? ⟨w.heap.size,1,none⟩=some (.slice A s.bks.length a):=⟨cell_of (h1.block 0 rfl) rfl,cell_of (h1.block 0 rfl) rfl⟩
 have K1:Hid (Calls Tryz.prog 59 #[.slice A s.bks.length a] w1.drew fun e w'=>∃ v,e=.returned v∧In F0 w0 w' (BkR v s.bks::Cells w.heap.size #[.int .i64 s.gen,.slice A s.bks.length a,.slice D s.drs.length d,.slice F s.fls.length f] 36::R)):=Lib.hid (o_bkclone (h1.drewN 1) hn (v.bks _ (h1.drewN 1).drop) (Nat.le_trans lb (by decide)))
 have HW:=Lib.hid hw1
 clear h h1 hw1
 go_enter Tryz.func146,Tryz.ntmps146
 go_wp2_with fail
 rw [← HW.out]
 clear HW
 generalize w.heap.size=g at *
 go_region_held3 (fun w'=>w'.cell? ⟨g,0,none⟩=some (.int .i64 s.gen)∧w'.cell? ⟨g,1,none⟩=some (.slice A s.bks.length a)) (first | exact hz | exact c0 | go_keep)
  (first
   | (go_at_call 59
      refine K1.out.mono ?_
      rintro e w2 ⟨pv,rfl,g2⟩
      obtain⟨Fp,rp⟩:=g2.get 0 rfl
      obtain⟨pa,pc,rfl,-,-,-⟩:=RowA.shape rp
      have hz:w2.cell? ⟨g,0,none⟩=some (.int .i64 s.gen)∧w2.cell? ⟨g,1,none⟩=some (.slice A s.bks.length a):=⟨cell_of (g2.block 1 rfl) rfl,cell_of (g2.block 1 rfl) rfl⟩
      have G2:=Lib.hid g2
      clear g2 rp))
 have g3:=(G2.out.cells #[.int .i64 3,.int .u32 0,.int .u32 0,.int .i64 0,.int .i64 0,.int .i64 0,.int .i64 0,.int .i64 0,.int .i64 0,.int .i64 s.gen,.slice pa s.bks.length pc,.int .i64 0,.int .i64 0,.int .i64 0] 45).rowFull 0 (n:=1) (k:=14) rfl (by rfl) (by decide)
 have HR:Hid (RecRel1 s g A a D d F f (.slice pa s.bks.length pc) F0 w0 R (.slice (some ⟨w2.heap.size,0,none⟩) 1 1) (.int .i64 0) (w2.alloc (.cells #[.int .i64 3,.int .u32 0,.int .u32 0,.int .i64 0,.int .i64 0,.int .i64 0,.int .i64 0,.int .i64 0,.int .i64 0,.int .i64 s.gen,.slice pa s.bks.length pc,.int .i64 0,.int .i64 0,.int .i64 0] 45))):=Lib.hid ⟨0,_,_,rfl,Nat.zero_le _,rfl,g3⟩
 have c2:(w2.alloc (.cells #[.int .i64 3,.int .u32 0,.int .u32 0,.int .i64 0,.int .i64 0,.int .i64 0,.int .i64 0,.int .i64 0,.int .i64 0,.int .i64 s.gen,.slice pa s.bks.length pc,.int .i64 0,.int .i64 0,.int .i64 0] 45)).cell? ⟨g,2,none⟩=some (.slice D s.drs.length d):=cell_of (g3.block 2 rfl) rfl
 clear g3 G2 hz c0 K1
 go_wp2_with fail
 go_loopw [3,18] (RecRel1 s g A a D d F f (.slice pa s.bks.length pc) F0 w0 R) (fun _ k _=>s.drs.length - (intOf k).toNat)
 case atStart=>exact HR.out
 case round=>
  obtain⟨k,ra,rc,rfl,hk,rfl,hio⟩:=hrel
  clear HR c2
  by_cases hlt:k < s.drs.length
  ·obtain⟨x,hx⟩:∃ x,s.drs[k]?=some x:=⟨s.drs[k],List.getElem?_eq_getElem hlt⟩
   obtain⟨gd,od,rfl,sc⟩:=(v.drs wr hio.drop.drop.drop).plain (by omega) (by decide)
   have e0:wr.cell? ⟨gd,od+k * 2,none⟩=some (.int .i64 x.1):=by
    have:=sc (k * 2+0) _ (by rw [flat_at (enc:=encDr) (k:=2) (fun _=>rfl) hx 0 (by decide)];rfl)
    rwa [← Nat.add_assoc] at this
   have e1:wr.cell? ⟨gd,od+k * 2+1,none⟩=some (.int .i64 x.2):=by
    have:=sc (k * 2+1) _ (by rw [flat_at (enc:=encDr) (k:=2) (fun _=>rfl) hx 1 (by decide)];rfl)
    rwa [← Nat.add_assoc] at this
   have hlt':(k:Int) < (s.drs.length:Int):=Int.ofNat_lt.2 hlt
   have hw2:wrap64 ((k:Int)+1)=(k:Int)+1:=by unfold wrap64;omega
   have HO:=Lib.hid hio
   have HX:=Lib.hid hx
   have HK:Hid (k+1≤1000000000):=Lib.hid (by omega)
   have HV:=Lib.hid v
   clear hio hx hlt hk sc v lb ld lf hn
   have Hr:Hid (recsV (.slice pa s.bks.length pc) (recGen s::(s.drs.map recDr).take k)++encN (recDr x)=recsV (.slice pa s.bks.length pc) (recGen s::(s.drs.take (k+1)).map recDr)):=Lib.hid (by rw [recsV_snoc,List.take_add_one,HX.out,← List.map_take];simp)
   go_wp2_with (at_builtin;refine append_elem' ((HO.out.alloc _).alloc _) 0 rfl rfl (.tmp 22) (.tmp 28) 22 rfl Tryz.underlying22 infoRec (by decide) (by decide) rfl _ #[.int .i64 4,.int .u32 0,.int .u32 0,.int .i64 0,.int .i64 0,.int .i64 0,.int .i64 0,.int .i64 0,.int .i64 0,.int .i64 0,.slice none 0 0,.int .i64 x.1,.int .i64 x.2,.int .i64 0] rfl (hp_alloc_at (by simp)) rfl (fun u hu=>rec_one (recDr x) u hu) HK.out ?_)
   intro v' w3 ho
   have HR:Hid (RecRel1 s g A a (some ⟨gd,od,none⟩) d F f (.slice pa s.bks.length pc) F0 w0 R v' (.int .i64 ((k:Int)+1)) w3):=by
    replace ho:In F0 w0 w3 (RowA 45 14 v' (k+1+1) (recsV (.slice pa s.bks.length pc) (recGen s::(s.drs.map recDr).take k)++encN (recDr x))::BkR (.slice pa s.bks.length pc) s.bks::Cells g #[.int .i64 s.gen,.slice A s.bks.length a,.slice (some ⟨gd,od,none⟩) s.drs.length d,.slice F s.fls.length f] 36::R):=ho
    rw [Hr.out] at ho
    obtain⟨Fn,rn⟩:=ho.get 0 rfl
    obtain⟨na,nc,rfl,-,-,-⟩:=RowA.shape rn
    exact Lib.hid ⟨k+1,na,nc,rfl,(List.getElem?_eq_some_iff.1 HX.out).1,by rw [Int.natCast_add];rfl,ho⟩
   have HM:=Lib.hid (meas_lt hlt')
   clear ho HO HK HX Hr
   go_wp2_with fail
   go_roundw
   case rel=>(try rw [hw2]);exact HR.out
   case measure=>(try rw [hw2]);exact HM.out
  ·have hkl:k=s.drs.length:=by omega
   subst hkl
   rw [List.take_length] at hio
   have c3:wr.cell? ⟨g,3,none⟩=some (.slice F s.fls.length f):=cell_of (hio.block 2 rfl) rfl
   have HR2:Hid (RecRel2 s g A a D d F f (.slice pa s.bks.length pc) F0 w0 R (.slice ra (s.drs.length+1) rc) (.int .i64 0) wr):=Lib.hid ⟨0,ra,rc,rfl,Nat.zero_le _,rfl,by rw [List.take_zero,List.map_nil,List.append_nil];exact hio⟩
   have hge:decide ((s.drs.length:Int) < (s.drs.length:Int))=false:=decide_eq_false (by omega)
   clear hio hlt hk
   go_wp2_with fail
   go_loopw [3,34] (RecRel2 s g A a D d F f (.slice pa s.bks.length pc) F0 w0 R) (fun _ k _=>s.fls.length - (intOf k).toNat)
   case atStart=>exact HR2.out
   case round=>
    obtain⟨k,ra,rc,rfl,hk,rfl,hio⟩:=hrel
    clear HR2
    by_cases hlt:k < s.fls.length
    ·obtain⟨x,hx⟩:∃ x,s.fls[k]?=some x:=⟨s.fls[k],List.getElem?_eq_getElem hlt⟩
     obtain⟨gf,fo,rfl,sc⟩:=(v.fls wr hio.drop.drop.drop).plain (by omega) (by decide)
     have c0:wr.cell? ⟨gf,fo+k * 8,none⟩=some (.int .u32 x.t.src):=by
      have:=sc (k * 8+0) _ (by rw [flat_at (enc:=encFs) (k:=8) (fun _=>rfl) hx 0 (by decide)];rfl)
      rwa [← Nat.add_assoc] at this
     have c1:wr.cell? ⟨gf,fo+k * 8+1,none⟩=some (.int .u32 x.t.dst):=by
      have:=sc (k * 8+1) _ (by rw [flat_at (enc:=encFs) (k:=8) (fun _=>rfl) hx 1 (by decide)];rfl)
      rwa [← Nat.add_assoc] at this
     have c2:wr.cell? ⟨gf,fo+k * 8+2,none⟩=some (.int .i64 x.t.proto):=by
      have:=sc (k * 8+2) _ (by rw [flat_at (enc:=encFs) (k:=8) (fun _=>rfl) hx 2 (by decide)];rfl)
      rwa [← Nat.add_assoc] at this
     have c3:wr.cell? ⟨gf,fo+k * 8+3,none⟩=some (.int .i64 x.t.sport):=by
      have:=sc (k * 8+3) _ (by rw [flat_at (enc:=encFs) (k:=8) (fun _=>rfl) hx 3 (by decide)];rfl)
      rwa [← Nat.add_assoc] at this
     have c4:wr.cell? ⟨gf,fo+k * 8+4,none⟩=some (.int .i64 x.t.dport):=by
      have:=sc (k * 8+4) _ (by rw [flat_at (enc:=encFs) (k:=8) (fun _=>rfl) hx 4 (by decide)];rfl)
      rwa [← Nat.add_assoc] at this
     have c5:wr.cell? ⟨gf,fo+k * 8+5,none⟩=some (.int .i64 x.bk):=by
      have:=sc (k * 8+5) _ (by rw [flat_at (enc:=encFs) (k:=8) (fun _=>rfl) hx 5 (by decide)];rfl)
      rwa [← Nat.add_assoc] at this
     have c6:wr.cell? ⟨gf,fo+k * 8+6,none⟩=some (.int .i64 x.gen):=by
      have:=sc (k * 8+6) _ (by rw [flat_at (enc:=encFs) (k:=8) (fun _=>rfl) hx 6 (by decide)];rfl)
      rwa [← Nat.add_assoc] at this
     have c7:wr.cell? ⟨gf,fo+k * 8+7,none⟩=some (.int .i64 x.seen):=by
      have:=sc (k * 8+7) _ (by rw [flat_at (enc:=encFs) (k:=8) (fun _=>rfl) hx 7 (by decide)];rfl)
      rwa [← Nat.add_assoc] at this
     have hlt':(k:Int) < (s.fls.length:Int):=Int.ofNat_lt.2 hlt
     have hw2:wrap64 ((k:Int)+1)=(k:Int)+1:=by unfold wrap64;omega
     have HO:=Lib.hid hio
     have HX:=Lib.hid hx
     have HK:Hid (s.drs.length+1+k≤1000000000):=Lib.hid (by omega)
     have Hr:Hid (recsV (.slice pa s.bks.length pc) (recGen s::(s.drs.map recDr++(s.fls.map recFl).take k))++encN (recFl x)=recsV (.slice pa s.bks.length pc) (recGen s::(s.drs.map recDr++(s.fls.take (k+1)).map recFl))):=Lib.hid (by rw [recsV_snoc,List.take_add_one,hx,← List.map_take];simp)
     clear hio hx hlt hk sc v lb ld lf hn
     go_wp2_with (at_builtin;refine append_elem' ((HO.out.alloc _).alloc _) 0 rfl rfl (.tmp 38) (.tmp 41) 22 rfl Tryz.underlying22 infoRec (by decide) (by decide) rfl _ #[.int .i64 1,.int .u32 x.t.src,.int .u32 x.t.dst,.int .i64 x.t.proto,.int .i64 x.t.sport,.int .i64 x.t.dport,.int .i64 x.bk,.int .i64 x.gen,.int .i64 x.seen,.int .i64 0,.slice none 0 0,.int .i64 0,.int .i64 0,.int .i64 0] rfl (hp_alloc_at (by simp)) rfl (fun u hu=>rec_one (recFl x) u hu) HK.out ?_)
     intro v' w3 ho
     have HR:Hid (RecRel2 s g A a D d (some ⟨gf,fo,none⟩) f (.slice pa s.bks.length pc) F0 w0 R v' (.int .i64 ((k:Int)+1)) w3):=by
      replace ho:In F0 w0 w3 (RowA 45 14 v' (s.drs.length+1+k+1) (recsV (.slice pa s.bks.length pc) (recGen s::(s.drs.map recDr++(s.fls.map recFl).take k))++encN (recFl x))::BkR (.slice pa s.bks.length pc) s.bks::Cells g #[.int .i64 s.gen,.slice A s.bks.length a,.slice D s.drs.length d,.slice (some ⟨gf,fo,none⟩) s.fls.length f] 36::R):=ho
      rw [Hr.out] at ho
      obtain⟨Fn,rn⟩:=ho.get 0 rfl
      obtain⟨na,nc,rfl,-,-,-⟩:=RowA.shape rn
      exact Lib.hid ⟨k+1,na,nc,rfl,(List.getElem?_eq_some_iff.1 HX.out).1,by rw [Int.natCast_add];rfl,ho⟩
     have HM:=Lib.hid (meas_lt hlt')
     clear ho HO HK HX Hr
     go_wp2_with fail
     go_roundw
     case rel=>(try rw [hw2]);exact HR.out
     case measure=>(try rw [hw2]);exact HM.out
    ·have hkl:k=s.fls.length:=by omega
     subst hkl
     rw [List.take_length] at hio
     have hge:decide ((s.fls.length:Int) < (s.fls.length:Int))=false:=decide_eq_false (by omega)
     have hlen:s.drs.length+1+s.fls.length=(recsSt s).length:=by simp [recsSt];omega
     have G:Hid (In F0 w0 wr (RowA 45 14 (.slice ra (s.drs.length+1+s.fls.length) rc) (recsSt s).length (recsV (.slice pa s.bks.length pc) (recsSt s))::BkR (.slice pa s.bks.length pc) s.bks::R)):=Lib.hid (by
      have:=hio.sel2 (R1:=[_,_,_]) [0,1] (by decide) rfl
      rw [← hlen];exact this)
     clear hio hlt hk hlen
     go_wp2_with fail
     go_ret
     exact⟨_,_,rfl,G.out⟩
end
section
variable {F0:List Nat} {w0 w:World} {R:List Asrt}
def QRcRel1 (s:StD) (g:Nat) (A:Option Addr) (a:Nat) (D:Option Addr) (d:Nat) (F:Option Addr) (f:Nat) (F0:List Nat) (w0:World) (R:List Asrt) (v i:Value) (wr:World):Prop:=
 ∃ (k:Nat) (ra:Option Addr) (rc:Nat),v=.slice ra (k+1) rc∧k≤s.drs.length∧i=.int .i64 k∧In F0 w0 wr (RowA 45 14 (.slice ra (k+1) rc) (k+1) (recsV (.slice A s.bks.length a) (recGen s::(s.drs.take k).map recDr))::Cells g #[.int .i64 s.gen,.slice A s.bks.length a,.slice D s.drs.length d,.slice F s.fls.length f] 36::R)
def QRcRel2 (s:StD) (g:Nat) (A:Option Addr) (a:Nat) (D:Option Addr) (d:Nat) (F:Option Addr) (f:Nat) (F0:List Nat) (w0:World) (R:List Asrt) (v i:Value) (wr:World):Prop:=
 ∃ (k:Nat) (ra:Option Addr) (rc:Nat),v=.slice ra (s.drs.length+1+k) rc∧k≤s.fls.length∧i=.int .i64 k∧In F0 w0 wr (RowA 45 14 (.slice ra (s.drs.length+1+k) rc) (s.drs.length+1+k) (recsV (.slice A s.bks.length a) (recGen s::(s.drs.map recDr++(s.fls.take k).map recFl)))::Cells g #[.int .i64 s.gen,.slice A s.bks.length a,.slice D s.drs.length d,.slice F s.fls.length f] 36::R)
theorem o_qrecs {s:StD} {A D F:Option Addr} {a d f:Nat} (v:AStV F0 w0 R s A D F) (lb:s.bks.length≤1000) (ld:s.drs.length≤1000) (lf:s.fls.length≤1000) (h:In F0 w0 w R):Calls Tryz.prog 70 #[agSt s A a D d F f] w fun e w'=>∃ v,e=.returned v∧In F0 w0 w' (RowA 45 14 v (recsSt s).length (recsV (.slice A s.bks.length a) (recsSt s))::R):=by
 obtain⟨w1,hw1⟩:∃ w1,w1=w.alloc (.cells #[.int .i64 s.gen,.slice A s.bks.length a,.slice D s.drs.length d,.slice F s.fls.length f] 36):=⟨_,rfl⟩
 have h1:=h.cells #[.int .i64 s.gen,.slice A s.bks.length a,.slice D s.drs.length d,.slice F s.fls.length f] 36
 rw [← hw1] at h1
 have c0:w1.cell? ⟨w.heap.size,0,none⟩=some (.int .i64 s.gen):=cell_of (h1.block 0 rfl) rfl
 have c1:w1.cell? ⟨w.heap.size,1,none⟩=some (.slice A s.bks.length a):=cell_of (h1.block 0 rfl) rfl
 have hs1:w1.heap.size=w.heap.size+1:=by rw [hw1];exact World.size_alloc _ _
 have HW:=Lib.hid hw1
 have H1:=Lib.hid h1
 have HS1:=Lib.hid hs1
 clear hs1
 clear h h1 hw1
 go_enter Tryz.func70,Tryz.ntmps70
 go_wp2_with fail
 rw [← HW.out]
 clear HW
 generalize w.heap.size=g at *
 have g3:=(H1.out.cells #[.int .i64 3,.int .u32 0,.int .u32 0,.int .i64 0,.int .i64 0,.int .i64 0,.int .i64 0,.int .i64 0,.int .i64 0,.int .i64 s.gen,.slice A s.bks.length a,.int .i64 0,.int .i64 0,.int .i64 0] 45).rowFull 0 (n:=1) (k:=14) rfl (by rfl) (by decide)
 rw [HS1.out] at g3
 have HR:Hid (QRcRel1 s g A a D d F f F0 w0 R (.slice (some ⟨g+1,0,none⟩) 1 1) (.int .i64 0) (w1.alloc (.cells #[.int .i64 3,.int .u32 0,.int .u32 0,.int .i64 0,.int .i64 0,.int .i64 0,.int .i64 0,.int .i64 0,.int .i64 0,.int .i64 s.gen,.slice A s.bks.length a,.int .i64 0,.int .i64 0,.int .i64 0] 45))):=Lib.hid ⟨0,_,_,rfl,Nat.zero_le _,rfl,g3⟩
 have c2:(w1.alloc (.cells #[.int .i64 3,.int .u32 0,.int .u32 0,.int .i64 0,.int .i64 0,.int .i64 0,.int .i64 0,.int .i64 0,.int .i64 0,.int .i64 s.gen,.slice A s.bks.length a,.int .i64 0,.int .i64 0,.int .i64 0] 45)).cell? ⟨g,2,none⟩=some (.slice D s.drs.length d):=cell_of (g3.block 1 rfl) rfl
 clear g3 H1
 go_wp2_with fail
 go_loopw [3,17] (QRcRel1 s g A a D d F f F0 w0 R) (fun _ k _=>s.drs.length - (intOf k).toNat)
 case atStart=>exact HR.out
 case round=>
  obtain⟨k,ra,rc,rfl,hk,rfl,hio⟩:=hrel
  clear HR c2
  by_cases hlt:k < s.drs.length
  ·obtain⟨x,hx⟩:∃ x,s.drs[k]?=some x:=⟨s.drs[k],List.getElem?_eq_getElem hlt⟩
   obtain⟨gd,od,rfl,sc⟩:=(v.drs wr hio.drop.drop).plain (by omega) (by decide)
   have e0:wr.cell? ⟨gd,od+k * 2,none⟩=some (.int .i64 x.1):=by
    have:=sc (k * 2+0) _ (by rw [flat_at (enc:=encDr) (k:=2) (fun _=>rfl) hx 0 (by decide)];rfl)
    rwa [← Nat.add_assoc] at this
   have e1:wr.cell? ⟨gd,od+k * 2+1,none⟩=some (.int .i64 x.2):=by
    have:=sc (k * 2+1) _ (by rw [flat_at (enc:=encDr) (k:=2) (fun _=>rfl) hx 1 (by decide)];rfl)
    rwa [← Nat.add_assoc] at this
   have hlt':(k:Int) < (s.drs.length:Int):=Int.ofNat_lt.2 hlt
   have hw2:wrap64 ((k:Int)+1)=(k:Int)+1:=by unfold wrap64;omega
   have HO:=Lib.hid hio
   have HX:=Lib.hid hx
   have HK:Hid (k+1≤1000000000):=Lib.hid (by omega)
   have HV:=Lib.hid v
   clear hio hx hlt hk sc v lb ld lf
   have Hr:Hid (recsV (.slice A s.bks.length a) (recGen s::(s.drs.map recDr).take k)++encN (recDr x)=recsV (.slice A s.bks.length a) (recGen s::(s.drs.take (k+1)).map recDr)):=Lib.hid (by rw [recsV_snoc,List.take_add_one,HX.out,← List.map_take];simp)
   go_wp2_with (at_builtin;refine append_elem' ((HO.out.alloc _).alloc _) 0 rfl rfl (.tmp 21) (.tmp 27) 22 rfl Tryz.underlying22 infoRec (by decide) (by decide) rfl _ #[.int .i64 4,.int .u32 0,.int .u32 0,.int .i64 0,.int .i64 0,.int .i64 0,.int .i64 0,.int .i64 0,.int .i64 0,.int .i64 0,.slice none 0 0,.int .i64 x.1,.int .i64 x.2,.int .i64 0] rfl (hp_alloc_at (by simp)) rfl (fun u hu=>rec_one (recDr x) u hu) HK.out ?_)
   intro v' w3 ho
   have HR:Hid (QRcRel1 s g A a (some ⟨gd,od,none⟩) d F f F0 w0 R v' (.int .i64 ((k:Int)+1)) w3):=by
    replace ho:In F0 w0 w3 (RowA 45 14 v' (k+1+1) (recsV (.slice A s.bks.length a) (recGen s::(s.drs.map recDr).take k)++encN (recDr x))::Cells g #[.int .i64 s.gen,.slice A s.bks.length a,.slice (some ⟨gd,od,none⟩) s.drs.length d,.slice F s.fls.length f] 36::R):=ho
    rw [Hr.out] at ho
    obtain⟨Fn,rn⟩:=ho.get 0 rfl
    obtain⟨na,nc,rfl,-,-,-⟩:=RowA.shape rn
    exact Lib.hid ⟨k+1,na,nc,rfl,(List.getElem?_eq_some_iff.1 HX.out).1,by rw [Int.natCast_add];rfl,ho⟩
   have HM:=Lib.hid (meas_lt hlt')
   clear ho HO HK HX Hr
   go_wp2_with fail
   go_roundw
   case rel=>(try rw [hw2]);exact HR.out
   case measure=>(try rw [hw2]);exact HM.out
  ·have hkl:k=s.drs.length:=by omega
   subst hkl
   rw [List.take_length] at hio
   have c3:wr.cell? ⟨g,3,none⟩=some (.slice F s.fls.length f):=cell_of (hio.block 1 rfl) rfl
   have HR2:Hid (QRcRel2 s g A a D d F f F0 w0 R (.slice ra (s.drs.length+1) rc) (.int .i64 0) wr):=Lib.hid ⟨0,ra,rc,rfl,Nat.zero_le _,rfl,by rw [List.take_zero,List.map_nil,List.append_nil];exact hio⟩
   have hge:decide ((s.drs.length:Int) < (s.drs.length:Int))=false:=decide_eq_false (by omega)
   clear hio hlt hk
   go_wp2_with fail
   go_loopw [3,33] (QRcRel2 s g A a D d F f F0 w0 R) (fun _ k _=>s.fls.length - (intOf k).toNat)
   case atStart=>exact HR2.out
   case round=>
    obtain⟨k,ra,rc,rfl,hk,rfl,hio⟩:=hrel
    clear HR2
    by_cases hlt:k < s.fls.length
    ·obtain⟨x,hx⟩:∃ x,s.fls[k]?=some x:=⟨s.fls[k],List.getElem?_eq_getElem hlt⟩
     obtain⟨gf,fo,rfl,sc⟩:=(v.fls wr hio.drop.drop).plain (by omega) (by decide)
     have c0:wr.cell? ⟨gf,fo+k * 8,none⟩=some (.int .u32 x.t.src):=by
      have:=sc (k * 8+0) _ (by rw [flat_at (enc:=encFs) (k:=8) (fun _=>rfl) hx 0 (by decide)];rfl)
      rwa [← Nat.add_assoc] at this
     have c1:wr.cell? ⟨gf,fo+k * 8+1,none⟩=some (.int .u32 x.t.dst):=by
      have:=sc (k * 8+1) _ (by rw [flat_at (enc:=encFs) (k:=8) (fun _=>rfl) hx 1 (by decide)];rfl)
      rwa [← Nat.add_assoc] at this
     have c2:wr.cell? ⟨gf,fo+k * 8+2,none⟩=some (.int .i64 x.t.proto):=by
      have:=sc (k * 8+2) _ (by rw [flat_at (enc:=encFs) (k:=8) (fun _=>rfl) hx 2 (by decide)];rfl)
      rwa [← Nat.add_assoc] at this
     have c3:wr.cell? ⟨gf,fo+k * 8+3,none⟩=some (.int .i64 x.t.sport):=by
      have:=sc (k * 8+3) _ (by rw [flat_at (enc:=encFs) (k:=8) (fun _=>rfl) hx 3 (by decide)];rfl)
      rwa [← Nat.add_assoc] at this
     have c4:wr.cell? ⟨gf,fo+k * 8+4,none⟩=some (.int .i64 x.t.dport):=by
      have:=sc (k * 8+4) _ (by rw [flat_at (enc:=encFs) (k:=8) (fun _=>rfl) hx 4 (by decide)];rfl)
      rwa [← Nat.add_assoc] at this
     have c5:wr.cell? ⟨gf,fo+k * 8+5,none⟩=some (.int .i64 x.bk):=by
      have:=sc (k * 8+5) _ (by rw [flat_at (enc:=encFs) (k:=8) (fun _=>rfl) hx 5 (by decide)];rfl)
      rwa [← Nat.add_assoc] at this
     have c6:wr.cell? ⟨gf,fo+k * 8+6,none⟩=some (.int .i64 x.gen):=by
      have:=sc (k * 8+6) _ (by rw [flat_at (enc:=encFs) (k:=8) (fun _=>rfl) hx 6 (by decide)];rfl)
      rwa [← Nat.add_assoc] at this
     have c7:wr.cell? ⟨gf,fo+k * 8+7,none⟩=some (.int .i64 x.seen):=by
      have:=sc (k * 8+7) _ (by rw [flat_at (enc:=encFs) (k:=8) (fun _=>rfl) hx 7 (by decide)];rfl)
      rwa [← Nat.add_assoc] at this
     have hlt':(k:Int) < (s.fls.length:Int):=Int.ofNat_lt.2 hlt
     have hw2:wrap64 ((k:Int)+1)=(k:Int)+1:=by unfold wrap64;omega
     have HO:=Lib.hid hio
     have HX:=Lib.hid hx
     have HK:Hid (s.drs.length+1+k≤1000000000):=Lib.hid (by omega)
     have Hr:Hid (recsV (.slice A s.bks.length a) (recGen s::(s.drs.map recDr++(s.fls.map recFl).take k))++encN (recFl x)=recsV (.slice A s.bks.length a) (recGen s::(s.drs.map recDr++(s.fls.take (k+1)).map recFl))):=Lib.hid (by rw [recsV_snoc,List.take_add_one,hx,← List.map_take];simp)
     clear hio hx hlt hk sc v lb ld lf
     go_wp2_with (at_builtin;refine append_elem' ((HO.out.alloc _).alloc _) 0 rfl rfl (.tmp 37) (.tmp 40) 22 rfl Tryz.underlying22 infoRec (by decide) (by decide) rfl _ #[.int .i64 1,.int .u32 x.t.src,.int .u32 x.t.dst,.int .i64 x.t.proto,.int .i64 x.t.sport,.int .i64 x.t.dport,.int .i64 x.bk,.int .i64 x.gen,.int .i64 x.seen,.int .i64 0,.slice none 0 0,.int .i64 0,.int .i64 0,.int .i64 0] rfl (hp_alloc_at (by simp)) rfl (fun u hu=>rec_one (recFl x) u hu) HK.out ?_)
     intro v' w3 ho
     have HR:Hid (QRcRel2 s g A a D d (some ⟨gf,fo,none⟩) f F0 w0 R v' (.int .i64 ((k:Int)+1)) w3):=by
      replace ho:In F0 w0 w3 (RowA 45 14 v' (s.drs.length+1+k+1) (recsV (.slice A s.bks.length a) (recGen s::(s.drs.map recDr++(s.fls.map recFl).take k))++encN (recFl x))::Cells g #[.int .i64 s.gen,.slice A s.bks.length a,.slice D s.drs.length d,.slice (some ⟨gf,fo,none⟩) s.fls.length f] 36::R):=ho
      rw [Hr.out] at ho
      obtain⟨Fn,rn⟩:=ho.get 0 rfl
      obtain⟨na,nc,rfl,-,-,-⟩:=RowA.shape rn
      exact Lib.hid ⟨k+1,na,nc,rfl,(List.getElem?_eq_some_iff.1 HX.out).1,by rw [Int.natCast_add];rfl,ho⟩
     have HM:=Lib.hid (meas_lt hlt')
     clear ho HO HK HX Hr
     go_wp2_with fail
     go_roundw
     case rel=>(try rw [hw2]);exact HR.out
     case measure=>(try rw [hw2]);exact HM.out
    ·have hkl:k=s.fls.length:=by omega
     subst hkl
     rw [List.take_length] at hio
     have hge:decide ((s.fls.length:Int) < (s.fls.length:Int))=false:=decide_eq_false (by omega)
     have hlen:s.drs.length+1+s.fls.length=(recsSt s).length:=by simp [recsSt];omega
     have G:Hid (In F0 w0 wr (RowA 45 14 (.slice ra (s.drs.length+1+s.fls.length) rc) (recsSt s).length (recsV (.slice A s.bks.length a) (recsSt s))::R)):=Lib.hid (by
      have:=hio.sel2 (R1:=[_,_]) [0] (by decide) rfl
      rw [← hlen];exact this)
     clear hio hlt hk hlen
     go_wp2_with fail
     go_ret
     exact⟨_,rfl,G.out⟩
end
attribute [local go_sem] Oper.semAt_some
theorem values_call (mb:Option Nat) (w:World):Calls Tryz.prog 63 #[.map mb] w fun e w'=>e=.returned (.func (.func 141) #[] #[.pointer (some ⟨w.heap.size,0,none⟩)])∧w'=w.alloc (.cells #[.map mb] 119):=by
 go_enter Tryz.func63,Tryz.ntmps63
 go_wp2_with fail
 go_ret
 exact⟨rfl,rfl⟩
theorem values_stops (F:Fence) (n:Nat) (hf:F.fn 141) (hro:F.round=none) (hn:1≤n) (Bm bm:Nat) (L:List Fl) (w:World) (hBm:Bm < w.heap.size) (hm:w.cell? ⟨Bm,0,none⟩=some (.map (some bm)))
  (hM:MapR Tryz.prog 41 w bm (tabR svT svF L) L.length) (hk:(L.map svT).Nodup) :
  SeqStopsK F n Tryz.prog 141 #[.pointer (some ⟨Bm,0,none⟩)] (fun f:Fl=>#[.agg (encF f)]) KeepsWalks (fun xs=>xs.Perm L) (fun _=>True) L.length w:=fun l J Jx W hW hJ hJx hY h0=>by
 have hm':W.cell? ⟨Bm,0,none⟩=some (.map (some bm)):=(hW.cell (p:=⟨Bm,0,none⟩) hBm).trans hm
 have hM':MapR Tryz.prog 41 W bm (tabR svT svF L) L.length:=hM.keep (hW.block _ hM.lt)
 obtain⟨o,hrun,hit⟩:=iter_range hM' hk Tryz.underlying119
 have HJ0:Hid (J [] (W.alloc o)):=Lib.hid (hJ [] W _ none h0 (World.grownBy_alloc W o none) (fun r e=>by cases e))
 have HI0:=Lib.hid hit
 have HY:=Lib.hid hY
 have HJ:=Lib.hid hJ
 clear hY hJ hJx h0 hM hM' hm hit hW hk
 refine callsIn_of_wp Tryz.func141 rfl hf ?_ hro
 simp only [Tryz.ntmps141,List.size_toArray,List.length_cons,List.length_nil,Nat.reduceAdd,Nat.reduceSub,Array.replicate_succ,Array.replicate_zero,List.push_toArray,List.append_toArray,List.nil_append,List.cons_append]
 gi_wp2
 clear hrun hm'
 gi_loopw [4] (fun _ wr=>∃ done,IterW Tryz.prog 41 svT svF bm W.heap.size L done wr∧J done wr) (fun _ wr=>wr.rangeLeft bm W.heap.size)
 case atStart=>exact⟨[],HI0.out,HJ0.out⟩
 case round=>
  obtain⟨done,hi,hj⟩:=hrel
  clear HI0 HJ0
  have HLI:=Lib.hid hi
  rcases iter_next hi 0 with ⟨hp,hrun⟩|⟨y,hy,hyd,w',hrun,hi2,hg,hsz,hlt,hen⟩
  ·have HR:Hid (∃ xs:List Fl,xs.Perm L∧J xs wr):=Lib.hid ⟨done,hp,hj⟩
   clear hi hj hp
   gi_wp2
   go_end0
   exact⟨⟨_,rfl⟩,.inl HR.out⟩
  ·have hlen:done.length < L.length:=by
    have:=(List.Nodup.length_le_of_subset hi2.once hi2.sub)
    simp at this;omega
   have hj2:J done w':=HJ.out done wr w' (some W.heap.size) hj hg (fun r e=>by cases e;exact⟨Nat.le_refl _,hi.walk⟩)
   have hj3:J done (w'.alloc (.cells (encF y) 43)):=HJ.out done w' _ none hj2 (World.grownBy_alloc _ _ none) (fun r e=>by cases e)
   obtain⟨fn,tmps,assign,body,hyd2,hR⟩:=HY.out done y _ hj3 hlen
   have HI2:=Lib.hid ((hi2.of_walks (KeepsWalks.alloc w' (.cells (encF y) 43))))
   have HLT:=Lib.hid hlt
   have HR:=Lib.hid hR
   clear hi hj hj2 hj3 hi2 hg hsz hlt hR hyd hy hlen
   gi_wp2
   refine HR.out.mono ?_
   rintro e W3 (⟨rfl,hJ3,hk3⟩|⟨rfl,hJx3⟩)
   ·have HN:=Lib.hid (HI2.out.1.of_walks hk3)
    have HJ3:=Lib.hid hJ3
    clear hJ3 hk3
    gi_wp2
    go_roundw
    case rel=>exact⟨_,HN.out.1,HJ3.out⟩
    case measure=>rw [HN.out.2,HI2.out.2];exact HLT.out
   ·have HX:=Lib.hid hJx3
    clear hJx3
    gi_wp2
    refine bodyPost_ret (results_none rfl _ _ _) rfl ?_
    exact⟨⟨_,rfl⟩,.inr ⟨_,trivial,HX.out⟩⟩
def flatF (L:List Fl):List Value:=(L.map (fun x=>(encF x).toList)).flatten
theorem flatF_snoc (L:List Fl) (x:Fl):flatF L++(encF x).toList=flatF (L++[x]):=by simp [flatF]
attribute [local go_sem] Oper.semAt_some
theorem boxK_own {β:Type} (Bx:Nat) (T:TypeId) (f:β→Array Value):Go.Own (fun s W=>W.heap[Bx]?=some (.cells (f s) T (0,0))):=fun s X Y row h hg hrow=>by
 have hlt:=hp_lt h
 refine (hg.block Bx hlt (fun e=>?_)).trans h
 obtain⟨o,ho,hc⟩:=hrow Bx e.symm
 rw [h] at ho;cases ho;cases hc
def ColI (n₀ B:Nat) (w:World) (pre:List Fl) (W:World):Prop:=(∃ v,Boxed W B 34 v∧W.ownsRow n₀ 43 8 v pre.length (flatF pre)∧True)∧Below n₀ w W
theorem appseq_in (F:Fence) (n:Nat) (hf:F.fn 202) (hg:F.fn 141) (hro:F.round=none) (hn:4≤n) (Bm:Nat) (L:List Fl) (w:World) (hL:L.length≤1000000)
  (hseq:∀ w',Below w.heap.size w w'→SeqStopsK F (n - 1) Tryz.prog 141 #[.pointer (some ⟨Bm,0,none⟩)] (fun f:Fl=>#[.agg (encF f)]) KeepsWalks (fun xs=>xs.Perm L) (fun _=>True) L.length w') :
  CallsIn F n Tryz.prog 202 #[.slice none 0 0,.func (.func 141) #[] #[.pointer (some ⟨Bm,0,none⟩)]] w fun e w'=>∃ v xs,e=.returned v∧xs.Perm L∧w'.ownsRow w.heap.size 43 8 v xs.length (flatF xs)∧Below w.heap.size w w':=by
 have h1:1≤n:=by omega
 have HS:=Lib.hid hseq
 clear hseq
 refine callsIn_of_wp_marks Tryz.func202 rfl hf ?_ hro
 simp only [Tryz.ntmps202,List.size_toArray,List.length_cons,List.length_nil,Nat.reduceAdd,Nat.reduceSub,Array.replicate_succ,Array.replicate_zero,List.push_toArray,List.append_toArray,List.nil_append,List.cons_append]
 gi_wp2
 have bB:=Boxed.new w 34 (.slice none 0 0)
 have hB0:Below w.heap.size w (w.alloc (.cells #[.slice none 0 0] 34)):=(Below.refl _ w).alloc (Nat.le_refl _) _
 have hsz:(w.alloc (.cells #[.slice none 0 0] 34)).heap.size=w.heap.size+1:=by simp
 have hrow0:(w.alloc (.cells #[.slice none 0 0] 34)).ownsRow w.heap.size 43 8 (.slice none 0 0) 0 (flatF []):=World.ownsRow_nil _ _ _ _
 obtain⟨W0,hW0⟩:∃ W0,w.alloc (.cells #[.slice none 0 0] 34)=W0:=⟨_,rfl⟩
 rw [hW0] at bB hB0 hsz hrow0 ⊢
 clear hW0
 obtain⟨i0,hi,hz0,hz1,hz2⟩:=info_parts (P:=Tryz.prog) (e:=43) (z:=.agg #[.int .u32 0,.int .u32 0,.int .i64 0,.int .i64 0,.int .i64 0,.int .i64 0,.int .i64 0,.int .i64 0]) (size:=8) (bytes:=56) (by kernel_rfl)
 have hFX:Go.Own (fun (s:List Fl) W=>∃ v,Boxed W w.heap.size 34 v∧W.ownsRow w.heap.size 43 8 v s.length (flatF s)∧True):=holdsRow_own w.heap.size w.heap.size 34 43 8 (fun s=>s.length) flatF (fun _ _=>True)
 refine wpIn_rangeFunc_ownH hro h1 (gf:=141) (lb:=#[.pointer (some ⟨Bm,0,none⟩)]) rfl hg (enters_of Tryz.func141 (by kernel_rfl) rfl)
  (HS.out W0 hB0) walksK_t walksK_b (Below.refl _ _) (fun _=>rfl)
  (ColI w.heap.size w.heap.size w)
  (fun _ _ _=>False)
  (OwnFrom.and (Go.Own.from hFX _) (ownFrom_below (Nat.le_refl _) (by omega)))
  (fun _ _ _ _ _ hs _ _=>hs)
  ⟨⟨_,bB,hrow0,trivial⟩,hB0⟩
  (fun x a' W=>∃ Bx,w.heap.size < Bx∧W.heap[Bx]?=some (.cells (encF x) 43 (0,0))∧a'={ tmps:=#[.slice none 0 0,.func (.func 141) #[] #[.pointer (some ⟨Bm,0,none⟩)],.pointer (some ⟨w.heap.size,0,none⟩),undef,.slice none 0 0,.pointer (some ⟨Bx,0,none⟩),.func (.func 141) #[] #[.pointer (some ⟨Bm,0,none⟩)],.agg (encF x),undef,undef,undef,undef,undef],defers:=[] })
  (fun x a' _ X Y row hs hg hr=>by obtain⟨Bx,h1,h2,h3⟩:=hs;exact⟨Bx,h1,boxK_own Bx 43 (fun (_:Unit)=>encF x) () X Y row h2 hg (fun r e=>(hr r e).2),h3⟩)
  ?assign ?body ?done ?stop
 case assign=>
  rintro l pre x W K ⟨⟨v,bv,hr,-⟩,hB⟩ hK
  have hlt:=bv.lt
  have HK:=Lib.hid (hK _ (W.alloc (.cells (encF x) 43)) ((KeepsOthers.alloc _ _).from _) (KeepsWalks.alloc _ _) ⟨⟨v,bv.alloc _,hr.alloc _,trivial⟩,hB.alloc hB.size _⟩ ⟨W.heap.size,hlt,hp_alloc_new,rfl⟩)
  clear hK bv hr hB HS hi hz0 hz1 hz2 hFX
  gi_wp2
  exact HK.out
 case body=>
  rintro l pre x a' W hl ⟨r,hr⟩ ⟨⟨v,bv,hrow,-⟩,hB⟩ ⟨Bx,hBx,bX,rfl⟩ hlt
  have hbv:=bv.cell
  have hbf:=bv.frozen
  have x0:=cell_of (o:=0) bX rfl
  have x1:=cell_of (o:=1) bX rfl
  have x2:=cell_of (o:=2) bX rfl
  have x3:=cell_of (o:=3) bX rfl
  have x4:=cell_of (o:=4) bX rfl
  have x5:=cell_of (o:=5) bX rfl
  have x6:=cell_of (o:=6) bX rfl
  have x7:=cell_of (o:=7) bX rfl
  have HBV:=Lib.hid bv
  have HROW:=Lib.hid hrow
  have HB:=Lib.hid hB
  have HI:=Lib.hid hi
  have hsz1:w.heap.size≤W.heap.size:=hB.size
  have hbl:w.heap.size < W.heap.size:=bv.lt
  clear bv hrow hB bX hFX HS hr
  gi_wp2_with (gi_at_builtin;refine wpListIn_append_own _ rfl _ _ 34 rfl w.heap.size 43 i0 _ 8 56 Tryz.underlying34 HI.out hz0 hz1 hz2 rfl (by decide) _ _ _ rfl (HROW.out.alloc _) ⟨W.heap.size,0,none⟩ 1 1 (encF x).toList rfl rfl (fun j u hu=>by rw [add_at,Nat.zero_add];exact cell_of hp_alloc_new (by rw [← hu,Array.getElem?_toList])) (fun u hu=>by simp at hu;rcases hu with rfl | rfl | rfl | rfl | rfl | rfl | rfl | rfl <;> rfl) (by unfold maxLen;omega) (by omega) (by simp;omega) ?_;intro v' w1 hown' hgrow _;obtain⟨g',cap',rfl⟩:=ownsRow_succ hown';obtain⟨hv1,hv2,hr2,hk2,hb2⟩:=HBV.out.appended (by decide) HROW.out HB.out.size (Nat.le_refl _) hown' hgrow;have hc1:=hv1.cell;have hf1:=hv1.frozen)
  have hr3:(w1.setCell ⟨w.heap.size,0,none⟩ (.slice (some ⟨g',0,none⟩) (pre.length+1) cap')).ownsRow w.heap.size 43 8 (.slice (some ⟨g',0,none⟩) (pre.length+1) cap') (pre++[x]).length (flatF (pre++[x])):=by
   rw [← flatF_snoc,show (pre++[x]).length=pre.length+1 by simp];exact hr2
  exact⟨hk2.from _,⟨hk2.size,fun k o ho hw=>hk2.same k o ho (Obj.not_cells_of_walk hw)⟩,⟨_,hv2,hr3,trivial⟩,HB.out.trans hb2⟩
 case done=>
  rintro D xs W hD hp ⟨⟨v,bv,hrow,-⟩,hB⟩ hK
  have hbv:=bv.cell
  have HF:Hid (w.heap.size≤D∧xs.Perm L∧W.ownsRow w.heap.size 43 8 v xs.length (flatF xs)∧Below w.heap.size w W∧W.heap[D]?=some (.deferred (some []))):=Lib.hid ⟨by omega,hp,hrow,hB,hK⟩
  clear hD hp hrow hB hK bv hFX HS hi hz0 hz1 hz2
  gi_wp2
  obtain⟨hD,hp,hrow,hB,hK⟩:=HF.out
  refine⟨by simp,.inl ⟨_,_,rfl,run_takeDeferred hK,?_⟩⟩
  exact⟨_,results_tmp rfl _ _ _,v,xs,rfl,hp,ownsRow_putObj hrow _ hK rfl,hB.trans (belowK_b (w:=w) (Nat.le_refl _) W D _ _ hD hK rfl rfl)⟩
 case stop=>
  rintro D c pre W _ _ h _
  exact h.elim
def ColPost (L:List Fl) (w:World) (e:Ending) (w':World):Prop:=∃ v xs,e=.returned v∧xs.Perm L∧w'.ownsRow w.heap.size 43 8 v xs.length (flatF xs)∧Below w.heap.size w w'
theorem collect_call (Bm bm:Nat) (L:List Fl) (w:World) (hL:L.length≤1000000) (hBm:Bm < w.heap.size) (hm:w.cell? ⟨Bm,0,none⟩=some (.map (some bm))) (hM:MapR Tryz.prog 41 w bm (tabR svT svF L) L.length) (hk:(L.map svT).Nodup) :
  Calls Tryz.prog 139 #[.func (.func 141) #[] #[.pointer (some ⟨Bm,0,none⟩)]] w (ColPost L w):=by
 have hA:=(callsIn_wide (n:=5)).1 (appseq_in Fence.wide 5 trivial trivial rfl (by omega) Bm L w hL (fun w' hb=>values_stops Fence.wide 4 trivial rfl (by omega) Bm bm L w' (by have:=hb.size;omega) ((hb.cell (p:=⟨Bm,0,none⟩) hBm).trans hm) (hM.keep (hb.block _ hM.lt)) hk))
 have HA:=Lib.hid hA
 clear hA hM hm hk
 go_enter Tryz.func139,Tryz.ntmps139
 go_wp2_with fail
 refine HA.out.mono ?_
 rintro e w' ⟨v,xs,rfl,hp⟩
 have HP:=Lib.hid hp
 clear hp
 go_wp2_with fail
 go_ret
 exact⟨v,xs,rfl,HP.out⟩
def ViewA (k:Nat) (v:Value) (n:Nat) (xs:List Value):Asrt:=fun w F=>xs.length=n * k∧∃ a cap,v=.slice a n cap∧n≤cap∧cap≤maxLen ∧
 ((a=none∧n=0∧F=[])∨∃ g o,a=some ⟨g,o,none⟩∧F=[g]∧g < w.heap.size∧∀ j u,xs[j]?=some u→w.cell? ⟨g,o+j,none⟩=some u)
theorem RowA.view {T:TypeId} {k:Nat} {v:Value} {n:Nat} {xs:List Value} {w:World} {F:List Nat} (h:RowA T k v n xs w F):ViewA k v n xs w F:=by
 obtain⟨a,cap,rfl,h1,h2,h3⟩:=h.shape
 obtain⟨hF,hl,h4⟩:=h
 refine⟨hl,a,cap,rfl,h1,h2,?_⟩
 rcases h4 with ⟨e,h5⟩|⟨g,c,cur,e,_,hb,_⟩
 ·cases e
  exact Or.inl ⟨rfl,h5,by rw [hF];simp [Value.ownBlock]⟩
 ·cases e
  refine Or.inr ⟨g,0,rfl,by rw [hF];simp [Value.ownBlock],hp_lt hb,fun j u hu=>?_⟩
  obtain⟨b,e,hc⟩:=h3 j u hu
  cases e
  rw [Nat.zero_add];exact hc
theorem ViewA.shape {k:Nat} {v:Value} {n:Nat} {xs:List Value} {w:World} {F:List Nat} (h:ViewA k v n xs w F):∃ a cap,v=.slice a n cap∧n≤cap∧cap≤maxLen:=by
 obtain⟨_,a,cap,e,h1,h2,_⟩:=h;exact⟨a,cap,e,h1,h2⟩
theorem ViewA.at {k:Nat} {a:Option Addr} {n n' cap:Nat} {xs:List Value} {w:World} {F:List Nat} (h:ViewA k (.slice a n cap) n' xs w F) (hn:0 < n') (hk:0 < k):∃ g o,a=some ⟨g,o,none⟩∧∀ j u,xs[j]?=some u→w.cell? ⟨g,o+j,none⟩=some u:=by
 obtain⟨hl,a',cap',e,h1,h2,h3⟩:=h
 cases e
 rcases h3 with ⟨_,h0,_⟩|⟨g,o,rfl,_,_,hc⟩
 ·omega
 ·exact⟨g,o,rfl,hc⟩
theorem ViewA.src {k:Nat} {a:Option Addr} {n' n cap:Nat} {xs:List Value} {w:World} {F:List Nat} (h:ViewA k (.slice a n' cap) n xs w F) {m:Nat} (hm:m≤n):Src w a m k (xs.take (m * k)):=by
 obtain⟨hl,a',cap',e,h1,h2,h3⟩:=h
 cases e
 refine⟨by rw [List.length_take,hl];exact Nat.min_eq_left (Nat.mul_le_mul_right _ hm),fun h0=>?_⟩
 rcases h3 with ⟨_,h0,_⟩|⟨g,o,rfl,_,_,hc⟩
 ·omega
 ·refine⟨_,rfl,fun j u hu=>?_⟩
  rw [add_at]
  rw [List.getElem?_take] at hu
  split at hu
  ·exact hc j u hu
  ·cases hu
theorem ViewA.src_from {k:Nat} {a:Option Addr} {n' n cap:Nat} {xs:List Value} {w:World} {F:List Nat} (h:ViewA k (.slice a n' cap) n xs w F) {i:Nat} (hi:i≤n):Src w (sufA a cap i k) (n - i) k (xs.drop (i * k)):=by
 obtain⟨hl,a',cap',e,h1,h2,h3⟩:=h
 cases e
 refine⟨by rw [List.length_drop,hl,Nat.sub_mul],fun h0=>?_⟩
 rcases h3 with ⟨_,h0,_⟩|⟨g,o,rfl,_,_,hc⟩
 ·omega
 ·refine⟨_,by rw [sufA,if_neg (by omega)];rfl,fun j u hu=>?_⟩
  rw [List.getElem?_drop] at hu
  show w.cell? (((⟨g,o,none⟩:Addr).add (i * k)).add j)=some u
  rw [add_at,add_at,Nat.add_assoc]
  exact hc _ u hu
theorem ViewA.cut {k:Nat} {a:Option Addr} {n' n cap:Nat} {xs:List Value} {w:World} {F:List Nat} (h:ViewA k (.slice a n' cap) n xs w F) {i:Nat} (hi:i≤n):ViewA k (.slice (sufA a cap i k) (n - i) (cap - i)) (n - i) (xs.drop (i * k)) w F:=by
 obtain⟨hl,a',cap',e,h1,h2,h3⟩:=h
 cases e
 refine⟨by rw [List.length_drop,hl,Nat.sub_mul],_,_,rfl,by omega,by omega,?_⟩
 rcases h3 with ⟨rfl,rfl,rfl⟩|⟨g,o,rfl,rfl,hg,hc⟩
 ·left;unfold sufA;refine⟨by split <;> rfl,by omega,rfl⟩
 ·right
  unfold sufA
  split
  ·have:i * k=xs.length:=by
    rw [hl];congr 1;omega
   refine⟨g,o,rfl,rfl,hg,fun j u hu=>?_⟩
   rw [List.drop_eq_nil_of_le (by rw [this];exact Nat.le_refl _)] at hu
   simp at hu
  ·refine⟨g,o+i * k,by simp [add_at],rfl,hg,fun j u hu=>?_⟩
   rw [List.getElem?_drop] at hu
   rw [Nat.add_assoc]
   exact hc _ u hu
end Go.Proofs.YtaopfagclnocdaaGreat
