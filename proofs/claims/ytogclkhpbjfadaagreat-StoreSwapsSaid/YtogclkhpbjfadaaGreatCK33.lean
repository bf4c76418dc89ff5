/- Parts of the proofs that a compaction keeps what lives, and done again is as once. -/
import Derived.Test.YtogclkhpbjfadaaGreatCK30
import Derived.Test.YtogclkhpbjfadaaGreatCK18
import Derived.Test.YtogclkhpbjfadaaGreatCK32
import Derived.Test.YtogclkhpbjfadaaGreatCK17
import Derived.Test.YtogclkhpbjfadaaGreatCK29
import Derived.Test.YtogclkhpbjfadaaGreatCK27
import Derived.Test.YtogclkhpbjfadaaGreatCK28
import Derived.Deep.RegionHeld3
import Derived.LoopTactic
import Derived.StillTailTactics
import Derived.Test.YtogclkhpbjfadaaGreatCK11
import Derived.Test.YtogclkhpbjfadaaGreatCK5
namespace Go.Proofs.YtogclkhpbjfadaaGreat
open Go.RowKit
set_option linter.unusedVariables false
set_option maxHeartbeats 64000000
set_option maxRecDepth 100000
section
variable {F0:List Nat} {w0 w:World} {R:List az} {sb lb bd dz:Nat}
theorem gZ.oZ {A:Option Addr} {l:List Bk}:∀ (X:List az),gZ F0 w0 R A l→gZ F0 w0 (X++R) A l
 | [],h=>h
 | Y::X,h=>fun w' h'=>gZ.oZ X h w' h'.drop
theorem oq {k src dst proto ag ah bI aG au gen bk till count:Int} {ax:List Bk} {A:Option Addr} {c:Nat} {g:Nat} {W:World} {y:Int} {v1 v2 v3:Value} (h1:W.heap[sb]?=some (.cells (IM lb dz y v1 v2 v3) 150 (0,0))) (h2:W.heap[g]?=some (.cells #[.int .i64 k,.int .u32 src,.int .u32 dst,.int .i64 proto,.int .i64 ag,.int .i64 ah,.int .i64 bI,.int .i64 aG,.int .i64 au,.int .i64 gen,.slice A ax.length c,.int .i64 bk,.int .i64 till,.int .i64 count] 69 (0,0))):W.cell? ⟨sb,0,none⟩=some (aD lb)∧W.cell? ⟨sb,1,none⟩=some (pR dz)∧W.cell? ⟨g,0,none⟩=some (.int .i64 k)∧W.cell? ⟨g,1,none⟩=some (.int .u32 src)∧W.cell? ⟨g,2,none⟩=some (.int .u32 dst)∧W.cell? ⟨g,3,none⟩=some (.int .i64 proto)∧W.cell? ⟨g,4,none⟩=some (.int .i64 ag)∧W.cell? ⟨g,5,none⟩=some (.int .i64 ah)∧W.cell? ⟨g,6,none⟩=some (.int .i64 bI)∧W.cell? ⟨g,7,none⟩=some (.int .i64 aG)∧W.cell? ⟨g,8,none⟩=some (.int .i64 au)∧W.cell? ⟨g,9,none⟩=some (.int .i64 gen)∧W.cell? ⟨g,10,none⟩=some (.slice A ax.length c)∧W.cell? ⟨g,11,none⟩=some (.int .i64 bk)∧W.cell? ⟨g,12,none⟩=some (.int .i64 till)∧W.cell? ⟨g,13,none⟩=some (.int .i64 count):=
 ⟨cell_of h1 rfl,cell_of h1 rfl,cell_of h2 rfl,cell_of h2 rfl,cell_of h2 rfl,cell_of h2 rfl,cell_of h2 rfl,cell_of h2 rfl,cell_of h2 rfl,cell_of h2 rfl,cell_of h2 rfl,cell_of h2 rfl,cell_of h2 rfl,cell_of h2 rfl,cell_of h2 rfl,cell_of h2 rfl⟩
theorem Ce {r:Rec} {s:SD} (h:bT r=false∨r.kind=6):bG r s=(s,1):=by unfold bG;rw [if_pos h]
theorem OB {r:Rec} {s:SD} (h1:bT r=true) (h2:r.kind≠6) (h3:(aX s.2.st r).2≠0):bG r s=(s,(aX s.2.st r).2):=by
 unfold bG;rw [if_neg (by simp [h1,h2]),if_pos h3]
theorem IX {r:Rec} {s:SD} (h1:bT r=true) (h2:r.kind≠6) (h3:(aX s.2.st r).2=0) (h4:(fu r s).2=0) (h5:(eT r s).2≠0):bG r s=(((eT r s).1.1,⟨(eT r s).1.2,s.2.st,s.2.sure⟩),(eT r s).2):=by
 unfold bG;rw [if_neg (by simp [h1,h2]),if_neg (by simp [h3]),if_neg (by simp [h4]),if_pos h5]
theorem IY {r:Rec} {s:SD} (h1:bT r=true) (h2:r.kind≠6) (h3:(aX s.2.st r).2=0) (h4:(fu r s).2=0) (h5:(eT r s).2=0):bG r s=(((eT r s).1.1,⟨(eT r s).1.2,(aX s.2.st (dM r (eT r s).1.2.m.aj)).1,s.2.sure⟩),(aX s.2.st (dM r (eT r s).1.2.m.aj)).2):=by
 unfold bG;rw [if_neg (by simp [h1,h2]),if_neg (by simp [h3]),if_neg (by simp [h4]),if_neg (by simp [h5])]
theorem WK {g:Nat} {W:World} {y:Int} {v1 v2 v3 a b e:Value} (h1:W.heap[sb]?=some (.cells (IM lb dz y v1 v2 v3) 150 (0,0))) (h2:W.heap[g]?=some (.cells #[a,b,e] 40 (0,0))):W.cell? ⟨sb,0,none⟩=some (aD lb)∧W.cell? ⟨g,0,none⟩=some a∧W.cell? ⟨g,2,none⟩=some e:=⟨cell_of h1 rfl,cell_of h2 rfl,cell_of h2 rfl⟩
theorem DT (r:Rec) (v:Int):(dM r v).ax.length≤r.ax.length:=by
 unfold dM
 split
 ·simp [aT]
 ·simp only [List.length_map]
  unfold aO
  repeat' split
  all_goals simp
def aaM (r:Rec) (fr:cB) (g sb lb bd dz:Nat) (A:Option Addr) (c:Nat) (s:SD) (X:Option Addr) (x:Nat) (D:Option Addr) (d:Nat) (F:Option Addr) (f:Nat) (F0:List Nat) (w0:World) (R:List az) (x6 x7:Value) (wx:World):Prop:=
 ∃ fb v,x6=pR fb∧x7=.int .i64 0∧In F0 w0 wx (Cells fb #[.int .i64 fr.kind,.int .i64 fr.aj,v] 40::nz v fr::iH dz s.2.st::Cells g (aF r (.slice A r.ax.length c)).toArray 69::Cells sb (IM lb dz s.2.sure.gen (.slice X s.2.sure.ax.length x) (.slice D s.2.sure.bN.length d) (.slice F s.2.sure.bU.length f)) 150::gG (.slice X s.2.sure.ax.length x) s.2.sure.ax::zq (.slice D s.2.sure.bN.length d) s.2.sure.bN::BI (.slice F s.2.sure.bU.length f) s.2.sure.bU::eB lb bd s.2.l::bJ bd s.1::R)
theorem Lt {k src dst proto ag ah bI aG au gen bk till count:Int} {ax:List Bk} {A:Option Addr} {c:Nat} {s:SD} (hl:gH s.2.l) (ho:s.1.ops≤99990000) (hs:gZ F0 w0 R A ax) (hn:A=none→c=0) (hb:ax.length≤1000000) (wr:mQ ⟨k,⟨⟨src,dst,proto,ag,ah⟩,bI,aG,au⟩,gen,ax,bk,till,count⟩) (h:In F0 w0 w (oG sb lb bd dz s R)) :
  Calls Tryz.prog 31 #[pR sb,uy ⟨k,⟨⟨src,dst,proto,ag,ah⟩,bI,aG,au⟩,gen,ax,bk,till,count⟩ A c] w fun e w'=>e=.returned (.int .i64 (bG ⟨k,⟨⟨src,dst,proto,ag,ah⟩,bI,aG,au⟩,gen,ax,bk,till,count⟩ s).2)∧In F0 w0 w' (oG sb lb bd dz (bG ⟨k,⟨⟨src,dst,proto,ag,ah⟩,bI,aG,au⟩,gen,ax,bk,till,count⟩ s).1 R):=by
 obtain⟨X,x,D,d,F,f,g0⟩:=h.rH
 have g1:=g0.cells #[.int .i64 k,.int .u32 src,.int .u32 dst,.int .i64 proto,.int .i64 ag,.int .i64 ah,.int .i64 bI,.int .i64 aG,.int .i64 au,.int .i64 gen,.slice A ax.length c,.int .i64 bk,.int .i64 till,.int .i64 count] 69
 have hbc:Hid (∀ w' l st,In F0 w0 w' (Cells sb (IM lb dz s.2.sure.gen (.slice X s.2.sure.ax.length x) (.slice D s.2.sure.bN.length d) (.slice F s.2.sure.bU.length f)) 150::gG (.slice X s.2.sure.ax.length x) s.2.sure.ax::zq (.slice D s.2.sure.bN.length d) s.2.sure.bN::BI (.slice F s.2.sure.bU.length f) s.2.sure.bU::eB lb bd l::bJ bd s.1::iH dz st::R)→In F0 w0 w' (oG sb lb bd dz (s.1,⟨l,st,s.2.sure⟩) R)):=Lib.hid (fun w' l st h'=>In.kF (s:=s.2.sure) (lb:=lb) (dz:=dz) h')
 have HG:=Lib.hid g0
 have K1:Hid (Calls Tryz.prog 99 #[uy ⟨k,⟨⟨src,dst,proto,ag,ah⟩,bI,aG,au⟩,gen,ax,bk,till,count⟩ A c] (w.alloc (.cells #[.int .i64 k,.int .u32 src,.int .u32 dst,.int .i64 proto,.int .i64 ag,.int .i64 ah,.int .i64 bI,.int .i64 aG,.int .i64 au,.int .i64 gen,.slice A ax.length c,.int .i64 bk,.int .i64 till,.int .i64 count] 69)) fun e w'=>e=.returned (.bool (bT ⟨k,⟨⟨src,dst,proto,ag,ah⟩,bI,aG,au⟩,gen,ax,bk,till,count⟩))∧In F0 w0 w' (Cells w.heap.size #[.int .i64 k,.int .u32 src,.int .u32 dst,.int .i64 proto,.int .i64 ag,.int .i64 ah,.int .i64 bI,.int .i64 aG,.int .i64 au,.int .i64 gen,.slice A ax.length c,.int .i64 bk,.int .i64 till,.int .i64 count] 69::Cells sb (IM lb dz s.2.sure.gen (.slice X s.2.sure.ax.length x) (.slice D s.2.sure.bN.length d) (.slice F s.2.sure.bU.length f)) 150::gG (.slice X s.2.sure.ax.length x) s.2.sure.ax::zq (.slice D s.2.sure.bN.length d) s.2.sure.bN::BI (.slice F s.2.sure.bU.length f) s.2.sure.bU::eB lb bd s.2.l::bJ bd s.1::iH dz s.2.st::R)):=Lib.hid (jE (r:=⟨k,⟨⟨src,dst,proto,ag,ah⟩,bI,aG,au⟩,gen,ax,bk,till,count⟩) (c:=c) (hs.oZ [Cells w.heap.size #[.int .i64 k,.int .u32 src,.int .u32 dst,.int .i64 proto,.int .i64 ag,.int .i64 ah,.int .i64 bI,.int .i64 aG,.int .i64 au,.int .i64 gen,.slice A ax.length c,.int .i64 bk,.int .i64 till,.int .i64 count] 69,Cells sb (IM lb dz s.2.sure.gen (.slice X s.2.sure.ax.length x) (.slice D s.2.sure.bN.length d) (.slice F s.2.sure.bU.length f)) 150,gG (.slice X s.2.sure.ax.length x) s.2.sure.ax,zq (.slice D s.2.sure.bN.length d) s.2.sure.bN,BI (.slice F s.2.sure.bU.length f) s.2.sure.bU,eB lb bd s.2.l,bJ bd s.1,iH dz s.2.st]) (Nat.le_trans hb (by decide)) g1)
 have mr:dQ (s.2.l.m.aj:Int)=true:=by
  have:=(bH.1 hl.2.2).1
  unfold dQ;simp;omega
 cases hm:bT ⟨k,⟨⟨src,dst,proto,ag,ah⟩,bI,aG,au⟩,gen,ax,bk,till,count⟩ with
 | false=>
  rw [Ce (Or.inl hm)]
  rw [hm] at K1
  clear h g0 g1 hs wr HG hl ho hm mr
  go_enter Tryz.func31,Tryz.ntmps31
  go_wp2_with fail
  refine K1.out.mono ?_
  rintro e w2 ⟨rfl,g2⟩
  have G:=Lib.hid (hbc.out _ _ _ g2.drop)
  clear g2 K1 hbc
  go_wp2_with fail
  go_ret
  exact⟨rfl,G.out⟩
 | true=>
 rw [hm] at K1
 have HM:=Lib.hid hm
 clear hm
 by_cases h6:k=6
 ·subst h6
  rw [Ce (Or.inr rfl)]
  clear h g0 g1 hs wr HG hl ho mr HM
  go_enter Tryz.func31,Tryz.ntmps31
  go_wp2_with fail
  refine K1.out.mono ?_
  rintro e w2 ⟨rfl,g2⟩
  have c0:w2.cell? ⟨w.heap.size,0,none⟩=some (.int .i64 6):=cell_of (g2.block 0 rfl) rfl
  have G:=Lib.hid (hbc.out _ _ _ g2.drop)
  clear g2 K1 hbc
  go_wp2_with fail
  go_ret
  exact⟨rfl,G.out⟩
 have q6:(k == 6)=false:=by rw [beq_eq_false_iff_ne];exact h6
 have H6:=Lib.hid h6
 have HS:=Lib.hid hs
 have HL:=Lib.hid hl
 have OA:=Lib.hid ho
 have HV:=Lib.hid mr
 have OC:=Lib.hid wr
 clear h g0 g1 hs HG hl ho mr h6 wr
 go_enter Tryz.func31,Tryz.ntmps31
 go_wp2_with fail
 refine K1.out.mono ?_
 rintro e w2 ⟨rfl,g2⟩
 have c0:w2.cell? ⟨w.heap.size,0,none⟩=some (.int .i64 k):=cell_of (g2.block 0 rfl) rfl
 have hz2:=oq ((g2.drewN 1).block 1 rfl) ((g2.drewN 1).block 0 rfl)
 have hsb:sb≠w.heap.size:=fun e=>(g2.ne 0 1 (by decide) rfl rfl) e.symm
 have K2:=Lib.hid (RJ ((g2.drewN 1).aI (R1:=[_,_,_,_,_,_,_,_]) [7,0,1,2,3,4,5,6] (by decide) rfl))
 clear g2 K1
 go_wp2_with fail
 go_region_held3 (fun w'=>w'.cell? ⟨sb,0,none⟩=some (aD lb)∧w'.cell? ⟨sb,1,none⟩=some (pR dz)∧w'.cell? ⟨w.heap.size,0,none⟩=some (.int .i64 k)∧w'.cell? ⟨w.heap.size,1,none⟩=some (.int .u32 src)∧w'.cell? ⟨w.heap.size,2,none⟩=some (.int .u32 dst)∧w'.cell? ⟨w.heap.size,3,none⟩=some (.int .i64 proto)∧w'.cell? ⟨w.heap.size,4,none⟩=some (.int .i64 ag)∧w'.cell? ⟨w.heap.size,5,none⟩=some (.int .i64 ah)∧w'.cell? ⟨w.heap.size,6,none⟩=some (.int .i64 bI)∧w'.cell? ⟨w.heap.size,7,none⟩=some (.int .i64 aG)∧w'.cell? ⟨w.heap.size,8,none⟩=some (.int .i64 au)∧w'.cell? ⟨w.heap.size,9,none⟩=some (.int .i64 gen)∧w'.cell? ⟨w.heap.size,10,none⟩=some (.slice A ax.length c)∧w'.cell? ⟨w.heap.size,11,none⟩=some (.int .i64 bk)∧w'.cell? ⟨w.heap.size,12,none⟩=some (.int .i64 till)∧w'.cell? ⟨w.heap.size,13,none⟩=some (.int .i64 count)) (first | exact VH | exact hz3 | exact hz2) (first
  | (go_at_call 100;refine K2.out.mono ?_;rintro e w3 ⟨sb2,rfl,g3⟩;have hz3:=oq (g3.block 3 rfl) (g3.block 2 rfl);have K3:=Lib.hid (wX (r:=⟨k,⟨⟨src,dst,proto,ag,ah⟩,bI,aG,au⟩,gen,ax,bk,till,count⟩) (HS.out.oZ [iH dz s.2.st,Cells w.heap.size #[.int .i64 k,.int .u32 src,.int .u32 dst,.int .i64 proto,.int .i64 ag,.int .i64 ah,.int .i64 bI,.int .i64 aG,.int .i64 au,.int .i64 gen,.slice A ax.length c,.int .i64 bk,.int .i64 till,.int .i64 count] 69,Cells sb (IM lb dz s.2.sure.gen (.slice X s.2.sure.ax.length x) (.slice D s.2.sure.bN.length d) (.slice F s.2.sure.bU.length f)) 150,gG (.slice X s.2.sure.ax.length x) s.2.sure.ax,zq (.slice D s.2.sure.bN.length d) s.2.sure.bN,BI (.slice F s.2.sure.bU.length f) s.2.sure.bU,eB lb bd s.2.l,bJ bd s.1]) hn hb OC.out g3);clear g3)
  | (go_at_call 49;refine K3.out.mono ?_;rintro e w4 ⟨rfl,g4⟩;have VH:=oq (g4.block 3 rfl) (g4.block 2 rfl);have G4:=Lib.hid g4.drop;clear g4))
 clear hz2 hz3 VH K2 K3
 by_cases he:(aX s.2.st ⟨k,⟨⟨src,dst,proto,ag,ah⟩,bI,aG,au⟩,gen,ax,bk,till,count⟩).2=0
 case neg=>
  have WL:=Lib.hid (OB HM.out H6.out he)
  have q:((aX s.2.st ⟨k,⟨⟨src,dst,proto,ag,ah⟩,bI,aG,au⟩,gen,ax,bk,till,count⟩).2 != 0)=true:=by rw [bne_iff_ne];exact he
  have G:=Lib.hid (hbc.out _ _ _ (G4.out.aI (R1:=[_,_,_,_,_,_,_,_]) [2,3,4,5,6,7,0] (by decide) rfl))
  clear he G4 hbc
  generalize (aX s.2.st ⟨k,⟨⟨src,dst,proto,ag,ah⟩,bI,aG,au⟩,gen,ax,bk,till,count⟩).2=er at *
  go_wp2_with fail
  go_ret
  exact⟨by rw [WL.out];rfl,by rw [WL.out];exact G.out⟩
 rw [he]
 have henc:=(oK OC.out HV.out HM.out).1
 have hok:=(Ah (r:=⟨k,⟨⟨src,dst,proto,ag,ah⟩,bI,aG,au⟩,gen,ax,bk,till,count⟩) (v:=s.2.l.m.aj) henc).1
 have Wq:Hid (eT ⟨k,⟨⟨src,dst,proto,ag,ah⟩,bI,aG,au⟩,gen,ax,bk,till,count⟩ s=bW ((dh ⟨k,⟨⟨src,dst,proto,ag,ah⟩,bI,aG,au⟩,gen,ax,bk,till,count⟩ s.2.l.m.aj).1.kind:Int) (dh ⟨k,⟨⟨src,dst,proto,ag,ah⟩,bI,aG,au⟩,gen,ax,bk,till,count⟩ s.2.l.m.aj).1.body (s.1,s.2.l)):=Lib.hid rfl
 have Vm:=Lib.hid (fun h5=>IX (s:=s) HM.out H6.out he henc h5)
 have HWD:=Lib.hid (fun h5=>IY (s:=s) HM.out H6.out he henc h5)
 have hy0:=oq ((G4.out.drewN 1).block 2 rfl) ((G4.out.drewN 1).block 1 rfl)
 have KVn:=Lib.hid (qJ ((G4.out.drewN 1).aI (R1:=[_,_,_,_,_,_,_,_]) [6,0,1,2,3,4,5,7] (by decide) rfl))
 have KE:=zK (r:=⟨k,⟨⟨src,dst,proto,ag,ah⟩,bI,aG,au⟩,gen,ax,bk,till,count⟩) (c:=c) (s.2.l.m.aj:Int) (HS.out.oZ [iH dz s.2.st,Cells w.heap.size #[.int .i64 k,.int .u32 src,.int .u32 dst,.int .i64 proto,.int .i64 ag,.int .i64 ah,.int .i64 bI,.int .i64 aG,.int .i64 au,.int .i64 gen,.slice A ax.length c,.int .i64 bk,.int .i64 till,.int .i64 count] 69,Cells sb (IM lb dz s.2.sure.gen (.slice X s.2.sure.ax.length x) (.slice D s.2.sure.bN.length d) (.slice F s.2.sure.bU.length f)) 150,gG (.slice X s.2.sure.ax.length x) s.2.sure.ax,zq (.slice D s.2.sure.bN.length d) s.2.sure.bN,BI (.slice F s.2.sure.bU.length f) s.2.sure.bU,eB lb bd s.2.l,bJ bd s.1]) OC.out hb (G4.out.drewN 1)
 rw [show dh ⟨k,⟨⟨src,dst,proto,ag,ah⟩,bI,aG,au⟩,gen,ax,bk,till,count⟩ s.2.l.m.aj=((dh ⟨k,⟨⟨src,dst,proto,ag,ah⟩,bI,aG,au⟩,gen,ax,bk,till,count⟩ s.2.l.m.aj).1,0) from by rw [← henc]] at KE
 have Rz:=Lib.hid KE
 have z0:=(G4.out.drewN 1).cells #[.int .i64 0,.int .i64 0,.slice none 0 0] 40
 have hyz:=oq (z0.block 3 rfl) (z0.block 2 rfl)
 have KVz:=Lib.hid (qJ (z0.aI (R1:=[_,_,_,_,_,_,_,_,_]) [7,0,1,2,3,4,5,6,8] (by decide) rfl))
 have KEz:=zK (r:=⟨k,⟨⟨src,dst,proto,ag,ah⟩,bI,aG,au⟩,gen,ax,bk,till,count⟩) (c:=c) (s.2.l.m.aj:Int) (HS.out.oZ [Cells (w4.drewN 1).heap.size #[.int .i64 0,.int .i64 0,.slice none 0 0] 40,iH dz s.2.st,Cells w.heap.size #[.int .i64 k,.int .u32 src,.int .u32 dst,.int .i64 proto,.int .i64 ag,.int .i64 ah,.int .i64 bI,.int .i64 aG,.int .i64 au,.int .i64 gen,.slice A ax.length c,.int .i64 bk,.int .i64 till,.int .i64 count] 69,Cells sb (IM lb dz s.2.sure.gen (.slice X s.2.sure.ax.length x) (.slice D s.2.sure.bN.length d) (.slice F s.2.sure.bU.length f)) 150,gG (.slice X s.2.sure.ax.length x) s.2.sure.ax,zq (.slice D s.2.sure.bN.length d) s.2.sure.bN,BI (.slice F s.2.sure.bU.length f) s.2.sure.bU,eB lb bd s.2.l,bJ bd s.1]) OC.out hb z0
 rw [show dh ⟨k,⟨⟨src,dst,proto,ag,ah⟩,bI,aG,au⟩,gen,ax,bk,till,count⟩ s.2.l.m.aj=((dh ⟨k,⟨⟨src,dst,proto,ag,ah⟩,bI,aG,au⟩,gen,ax,bk,till,count⟩ s.2.l.m.aj).1,0) from by rw [← henc]] at KEz
 have Yv:=Lib.hid KEz
 clear KE KEz henc he G4 z0
 generalize (dh ⟨k,⟨⟨src,dst,proto,ag,ah⟩,bI,aG,au⟩,gen,ax,bk,till,count⟩ s.2.l.m.aj).1=fr at *
 have HFO:=Lib.hid hok
 clear hok
 go_upto_region 6 with fail
 go_cut [6,7] (fun x6 x7 wx=>aaM ⟨k,⟨⟨src,dst,proto,ag,ah⟩,bI,aG,au⟩,gen,ax,bk,till,count⟩ fr w.heap.size sb lb bd dz A c s X x D d F f F0 w0 R x6 x7 wx)
 case first=>
  refine wT (fun w'=>w'.cell? ⟨sb,0,none⟩=some (aD lb)∧w'.cell? ⟨sb,1,none⟩=some (pR dz)∧w'.cell? ⟨w.heap.size,0,none⟩=some (.int .i64 k)∧w'.cell? ⟨w.heap.size,1,none⟩=some (.int .u32 src)∧w'.cell? ⟨w.heap.size,2,none⟩=some (.int .u32 dst)∧w'.cell? ⟨w.heap.size,3,none⟩=some (.int .i64 proto)∧w'.cell? ⟨w.heap.size,4,none⟩=some (.int .i64 ag)∧w'.cell? ⟨w.heap.size,5,none⟩=some (.int .i64 ah)∧w'.cell? ⟨w.heap.size,6,none⟩=some (.int .i64 bI)∧w'.cell? ⟨w.heap.size,7,none⟩=some (.int .i64 aG)∧w'.cell? ⟨w.heap.size,8,none⟩=some (.int .i64 au)∧w'.cell? ⟨w.heap.size,9,none⟩=some (.int .i64 gen)∧w'.cell? ⟨w.heap.size,10,none⟩=some (.slice A ax.length c)∧w'.cell? ⟨w.heap.size,11,none⟩=some (.int .i64 bk)∧w'.cell? ⟨w.heap.size,12,none⟩=some (.int .i64 till)∧w'.cell? ⟨w.heap.size,13,none⟩=some (.int .i64 count)) (by kernel_rfl) hy0 (fun hS=>?_)
  refine bP (i:=0) (v:=?_) rfl (by kernel_rfl) (fun _ _ _ h=>h) (by rfl) ?_ hS ?_
  rotate_left
  ·(intro w hSw;(try dsimp only at hSw);go_simp;try with_reducible rfl)
  try simp only [Act.put,List.setIfInBounds_toArray,List.set_cons_zero,List.set_cons_succ]
  refine bP (i:=1) (v:=?_) rfl (by kernel_rfl) (fun _ _ _ h=>h) (by rfl) ?_ hS ?_
  rotate_left
  ·(intro w hSw;(try dsimp only at hSw);go_simp;try with_reducible rfl)
  try simp only [Act.put,List.setIfInBounds_toArray,List.set_cons_zero,List.set_cons_succ]
  refine bP (i:=2) (v:=?_) rfl (by kernel_rfl) (fun _ _ _ h=>h) (by rfl) ?_ hS ?_
  rotate_left
  ·(intro w hSw;(try dsimp only at hSw);go_simp;try with_reducible rfl)
  try simp only [Act.put,List.setIfInBounds_toArray,List.set_cons_zero,List.set_cons_succ]
  refine bP (i:=3) (v:=?_) rfl (by kernel_rfl) (fun _ _ _ h=>h) (by rfl) ?_ hS ?_
  rotate_left
  ·(intro w hSw;(try dsimp only at hSw);go_simp;try with_reducible rfl)
  try simp only [Act.put,List.setIfInBounds_toArray,List.set_cons_zero,List.set_cons_succ]
  refine bP (i:=4) (v:=?_) rfl (by kernel_rfl) (fun _ _ _ h=>h) (by rfl) ?_ hS ?_
  rotate_left
  ·(intro w hSw;(try dsimp only at hSw);go_simp;try with_reducible rfl)
  try simp only [Act.put,List.setIfInBounds_toArray,List.set_cons_zero,List.set_cons_succ]
  refine Mo (i:=5) (j:=10) rfl rfl (by kernel_rfl) (fun K' hK=>?_) (fun K' hK=>?_)
  ·go_simp
   go_at_call 22
   refine KVn.out.mono ?_
   rintro e w5 ⟨rfl,rfl⟩
   refine hK.out _ _ hy0 (fun hS=>?_)
   clear hK K'
   try simp only [Act.put,List.setIfInBounds_toArray,List.set_cons_zero,List.set_cons_succ]
   refine Mo (i:=6) (j:=10) rfl rfl (by kernel_rfl) (fun K' hK=>?_) (fun K' hK=>?_)
   ·go_simp
    go_at_call 101
    refine Rz.out.mono ?_
    rintro e w6 ⟨v,rfl,g6⟩
    obtain⟨Fv,rv⟩:=g6.get 0 rfl
    obtain⟨va,vc,rfl,-,-,-⟩:=ay.shape rv
    clear rv
    have hy1:=oq (g6.block 3 rfl) (g6.block 2 rfl)
    have g7z:=g6.cells #[.int .i64 0,.int .i64 0,.slice none 0 0] 40
    have hyy:=oq (g7z.block 4 rfl) (g7z.block 3 rfl)
    have ht:=Lib.hid (fG (g7z.block 0 rfl))
    have g7:=g7z.gp 0 rfl (xs:=[.int .i64 fr.kind,.int .i64 fr.aj,.slice va fr.body.length vc]) (b:=w6.heap.size) (C:=#[.int .i64 0,.int .i64 0,.slice none 0 0]) (T:=40) rfl
    have hy3:=oq (g7.block 4 rfl) (g7.block 3 rfl)
    have G7:=Lib.hid g7
    clear g7 g7z
    clear g6
    refine hK.out _ _ hy1 (fun hS=>?_)
    clear hK K'
    try simp only [Act.put,List.setIfInBounds_toArray,List.set_cons_zero,List.set_cons_succ]
    refine bP (i:=7) (v:=?_) rfl (by kernel_rfl) (fun _ _ _ h=>h) (by rfl) ?_ hS ?_
    rotate_left
    ·(intro w hSw;(try dsimp only at hSw);go_simp;try with_reducible rfl)
    try simp only [Act.put,List.setIfInBounds_toArray,List.set_cons_zero,List.set_cons_succ]
    refine bP (i:=8) (v:=?_) rfl (by kernel_rfl) (fun _ _ _ h=>h) (by rfl) ?_ hS ?_
    rotate_left
    ·(intro w hSw;(try dsimp only at hSw);go_simp;try with_reducible rfl)
    try simp only [Act.put,List.setIfInBounds_toArray,List.set_cons_zero,List.set_cons_succ]
    refine bP (i:=9) (v:=?_) rfl (by kernel_rfl) (fun _ _ _ h=>h) (by rfl) ?_ hS ?_
    rotate_left
    ·(intro w hSw;(try dsimp only at hSw);go_simp;try with_reducible rfl)
    try simp only [Act.put,List.setIfInBounds_toArray,List.set_cons_zero,List.set_cons_succ]
    refine nA (i:=10) rfl (by kernel_rfl) (fun K' hK=>?_)
    go_simp
    refine hK.out _ _ hyy (fun hS=>?_)
    clear hK K'
    try simp only [Act.put,List.setIfInBounds_toArray,List.set_cons_zero,List.set_cons_succ]
    refine nA (i:=11) rfl (by kernel_rfl) (fun K' hK=>?_)
    rw [if_pos (by rfl)]
    refine wp_store_mid 40 (.tmp 6) (.tmp 39) rfl w6.heap.size 0 #[.int .i64 fr.kind,.int .i64 fr.aj,.slice va fr.body.length vc] (by rfl) (by rfl) ht.out (by kernel_rfl) (by simp [Value.oneCell']) ?_
    refine hK.out _ _ hy3 (fun hS=>?_)
    clear hK K'
    try simp only [Act.put,List.setIfInBounds_toArray,List.set_cons_zero,List.set_cons_succ]
    refine pO (i:=12) rfl (by kernel_rfl) (fun K' hK=>?_)
    go_simp
    refine hK.out _ _ ?_
    clear hK K'
    go_wp2_with fail
    go_meet
    exact⟨_,_,rfl,rfl,G7.out.aI (R1:=[_,_]) [0,1] (by decide) rfl⟩
   ·go_simp
    refine hK.out _ _ hyz (fun hS=>?_)
    clear hK K'
    try simp only [Act.put,List.setIfInBounds_toArray,List.set_cons_zero,List.set_cons_succ]
    refine nA (i:=6) rfl (by kernel_rfl) (fun K' hK=>?_)
    go_simp
    go_at_call 101
    refine Yv.out.mono ?_
    rintro e w6 ⟨v,rfl,g6⟩
    obtain⟨Fv,rv⟩:=g6.get 0 rfl
    obtain⟨va,vc,rfl,-,-,-⟩:=ay.shape rv
    clear rv
    have hy1:=oq (g6.block 4 rfl) (g6.block 3 rfl)
    have ht:=Lib.hid (fG (g6.block 1 rfl))
    have g7:=g6.gp 1 rfl (xs:=[.int .i64 fr.kind,.int .i64 fr.aj,.slice va fr.body.length vc]) (b:=(w4.drewN 1).heap.size) (C:=#[.int .i64 0,.int .i64 0,.slice none 0 0]) (T:=40) rfl
    have hy3:=oq (g7.block 4 rfl) (g7.block 3 rfl)
    have G7:=Lib.hid g7
    clear g7
    clear g6
    refine hK.out _ _ hy1 (fun hS=>?_)
    clear hK K'
    try simp only [Act.put,List.setIfInBounds_toArray,List.set_cons_zero,List.set_cons_succ]
    refine bP (i:=7) (v:=?_) rfl (by kernel_rfl) (fun _ _ _ h=>h) (by rfl) ?_ hS ?_
    rotate_left
    ·(intro w hSw;(try dsimp only at hSw);go_simp;try with_reducible rfl)
    try simp only [Act.put,List.setIfInBounds_toArray,List.set_cons_zero,List.set_cons_succ]
    refine bP (i:=8) (v:=?_) rfl (by kernel_rfl) (fun _ _ _ h=>h) (by rfl) ?_ hS ?_
    rotate_left
    ·(intro w hSw;(try dsimp only at hSw);go_simp;try with_reducible rfl)
    try simp only [Act.put,List.setIfInBounds_toArray,List.set_cons_zero,List.set_cons_succ]
    refine bP (i:=9) (v:=?_) rfl (by kernel_rfl) (fun _ _ _ h=>h) (by rfl) ?_ hS ?_
    rotate_left
    ·(intro w hSw;(try dsimp only at hSw);go_simp;try with_reducible rfl)
    try simp only [Act.put,List.setIfInBounds_toArray,List.set_cons_zero,List.set_cons_succ]
    refine nA (i:=11) rfl (by kernel_rfl) (fun K' hK=>?_)
    rw [if_pos (by rfl)]
    refine wp_store_mid 40 (.tmp 6) (.tmp 39) rfl (w4.drewN 1).heap.size 0 #[.int .i64 fr.kind,.int .i64 fr.aj,.slice va fr.body.length vc] (by rfl) (by rfl) ht.out (by kernel_rfl) (by simp [Value.oneCell']) ?_
    refine hK.out _ _ hy3 (fun hS=>?_)
    clear hK K'
    try simp only [Act.put,List.setIfInBounds_toArray,List.set_cons_zero,List.set_cons_succ]
    refine pO (i:=12) rfl (by kernel_rfl) (fun K' hK=>?_)
    go_simp
    refine hK.out _ _ ?_
    clear hK K'
    go_wp2_with fail
    go_meet
    exact⟨_,_,rfl,rfl,G7.out.aI (R1:=[_,_]) [1,0] (by decide) rfl⟩
  ·go_simp
   refine hK.out _ _ hyz (fun hS=>?_)
   clear hK K'
   try simp only [Act.put,List.setIfInBounds_toArray,List.set_cons_zero,List.set_cons_succ]
   refine nA (i:=5) rfl (by kernel_rfl) (fun K' hK=>?_)
   go_simp
   go_at_call 22
   refine KVz.out.mono ?_
   rintro e w5 ⟨rfl,rfl⟩
   refine hK.out _ _ hyz (fun hS=>?_)
   clear hK K'
   try simp only [Act.put,List.setIfInBounds_toArray,List.set_cons_zero,List.set_cons_succ]
   refine nA (i:=6) rfl (by kernel_rfl) (fun K' hK=>?_)
   go_simp
   go_at_call 101
   refine Yv.out.mono ?_
   rintro e w6 ⟨v,rfl,g6⟩
   obtain⟨Fv,rv⟩:=g6.get 0 rfl
   obtain⟨va,vc,rfl,-,-,-⟩:=ay.shape rv
   clear rv
   have hy1:=oq (g6.block 4 rfl) (g6.block 3 rfl)
   have ht:=Lib.hid (fG (g6.block 1 rfl))
   have g7:=g6.gp 1 rfl (xs:=[.int .i64 fr.kind,.int .i64 fr.aj,.slice va fr.body.length vc]) (b:=(w4.drewN 1).heap.size) (C:=#[.int .i64 0,.int .i64 0,.slice none 0 0]) (T:=40) rfl
   have hy3:=oq (g7.block 4 rfl) (g7.block 3 rfl)
   have G7:=Lib.hid g7
   clear g7
   clear g6
   refine hK.out _ _ hy1 (fun hS=>?_)
   clear hK K'
   try simp only [Act.put,List.setIfInBounds_toArray,List.set_cons_zero,List.set_cons_succ]
   refine bP (i:=7) (v:=?_) rfl (by kernel_rfl) (fun _ _ _ h=>h) (by rfl) ?_ hS ?_
   rotate_left
   ·(intro w hSw;(try dsimp only at hSw);go_simp;try with_reducible rfl)
   try simp only [Act.put,List.setIfInBounds_toArray,List.set_cons_zero,List.set_cons_succ]
   refine bP (i:=8) (v:=?_) rfl (by kernel_rfl) (fun _ _ _ h=>h) (by rfl) ?_ hS ?_
   rotate_left
   ·(intro w hSw;(try dsimp only at hSw);go_simp;try with_reducible rfl)
   try simp only [Act.put,List.setIfInBounds_toArray,List.set_cons_zero,List.set_cons_succ]
   refine bP (i:=9) (v:=?_) rfl (by kernel_rfl) (fun _ _ _ h=>h) (by rfl) ?_ hS ?_
   rotate_left
   ·(intro w hSw;(try dsimp only at hSw);go_simp;try with_reducible rfl)
   try simp only [Act.put,List.setIfInBounds_toArray,List.set_cons_zero,List.set_cons_succ]
   refine nA (i:=11) rfl (by kernel_rfl) (fun K' hK=>?_)
   rw [if_pos (by rfl)]
   refine wp_store_mid 40 (.tmp 6) (.tmp 39) rfl (w4.drewN 1).heap.size 0 #[.int .i64 fr.kind,.int .i64 fr.aj,.slice va fr.body.length vc] (by rfl) (by rfl) ht.out (by kernel_rfl) (by simp [Value.oneCell']) ?_
   refine hK.out _ _ hy3 (fun hS=>?_)
   clear hK K'
   try simp only [Act.put,List.setIfInBounds_toArray,List.set_cons_zero,List.set_cons_succ]
   refine pO (i:=12) rfl (by kernel_rfl) (fun K' hK=>?_)
   go_simp
   refine hK.out _ _ ?_
   clear hK K'
   go_wp2_with fail
   go_meet
   exact⟨_,_,rfl,rfl,G7.out.aI (R1:=[_,_]) [1,0] (by decide) rfl⟩
 case rest=>
  obtain⟨fb,v,rfl,rfl,dC⟩:=hcut
  obtain⟨Fv,rv⟩:=dC.get 1 rfl
  obtain⟨va,vc,rfl,-,-,-⟩:=ay.shape rv
  have hq0:=WK ((dC.drewN 1).block 4 rfl) ((dC.drewN 1).block 0 rfl)
  have KA:=Lib.hid (Sg ((dC.drewN 1).aI (R1:=[_,_,_,_,_,_,_,_,_,_]) [8,9,0,1,2,3,4,5,6,7] (by decide) rfl) HL.out (by have:=OA.out;omega) (fr.kind:Int) (A:=va) (c:=vc) (body:=fr.body) (by have:=HFO.out.body;omega) (fun w' h'=>by obtain⟨F',r'⟩:=h'.get 1 rfl;exact r'.all))
  clear dC rv hy0 hyz KVn Rz KVz Yv
  go_wp2_with fail
  go_region_held3 (fun w'=>w'.cell? ⟨sb,0,none⟩=some (aD lb)∧w'.cell? ⟨fb,0,none⟩=some (.int .i64 fr.kind)∧w'.cell? ⟨fb,2,none⟩=some (.slice va fr.body.length vc)) (first | exact hq1 | exact hq0) (first
   | (go_at_call 18;refine KA.out.mono ?_;rintro e w7 ⟨rfl,g7⟩;have hq1:=WK (g7.block 6 rfl) (g7.block 2 rfl);have G7:=Lib.hid g7;clear g7))
  clear hq0 hq1 KA
  by_cases hA:(bW (fr.kind:Int) fr.body (s.1,s.2.l)).2=0
  case neg=>
   have WL:=Lib.hid (Vm.out (by rw [Wq.out];exact hA))
   have q:((bW (fr.kind:Int) fr.body (s.1,s.2.l)).2 != 0)=true:=by rw [bne_iff_ne];exact hA
   have G:Hid (In F0 w0 w7 (oG sb lb bd dz ((bW (fr.kind:Int) fr.body (s.1,s.2.l)).1.1,⟨(bW (fr.kind:Int) fr.body (s.1,s.2.l)).1.2,s.2.st,s.2.sure⟩) R)):=Lib.hid (In.kF (s:=s.2.sure) (lb:=lb) (dz:=dz) (G7.out.aI (R1:=[_,_,_,_,_,_,_,_,_,_]) [6,7,8,9,0,1,4] (by decide) rfl))
   clear hA G7
   go_wp2_with fail
   go_ret
   exact⟨by rw [WL.out,Wq.out];rfl,by rw [WL.out,Wq.out];exact G.out⟩
  rw [hA]
  have WL:=Lib.hid (HWD.out (by rw [Wq.out];exact hA))
  have hr0:=oq ((G7.out.drewN 1).block 6 rfl) ((G7.out.drewN 1).block 5 rfl)
  have aad:=Lib.hid (qJ (G7.out.drewN 1))
  have KI:=Lib.hid (QH (r:=⟨k,⟨⟨src,dst,proto,ag,ah⟩,bI,aG,au⟩,gen,ax,bk,till,count⟩) (c:=c) ((bW (fr.kind:Int) fr.body (s.1,s.2.l)).1.2.m.aj:Int) (fun w' h'=>HS.out w' h'.drop.drop.drop.drop.drop.drop.drop.drop.drop.drop) hn hb (G7.out.drewN 1))
  have HIB:Hid ((dM ⟨k,⟨⟨src,dst,proto,ag,ah⟩,bI,aG,au⟩,gen,ax,bk,till,count⟩ ((bW (fr.kind:Int) fr.body (s.1,s.2.l)).1.2.m.aj:Int)).ax.length≤1000000):=Lib.hid (Nat.le_trans (DT _ _) hb)
  have HIW:=Lib.hid (mQ.dM OC.out ((bW (fr.kind:Int) fr.body (s.1,s.2.l)).1.2.m.aj:Int))
  clear hA G7 Vm HWD
  go_wp2_with fail
  go_region_held3 (fun w'=>w'.cell? ⟨sb,0,none⟩=some (aD lb)∧w'.cell? ⟨sb,1,none⟩=some (pR dz)∧w'.cell? ⟨w.heap.size,0,none⟩=some (.int .i64 k)∧w'.cell? ⟨w.heap.size,1,none⟩=some (.int .u32 src)∧w'.cell? ⟨w.heap.size,2,none⟩=some (.int .u32 dst)∧w'.cell? ⟨w.heap.size,3,none⟩=some (.int .i64 proto)∧w'.cell? ⟨w.heap.size,4,none⟩=some (.int .i64 ag)∧w'.cell? ⟨w.heap.size,5,none⟩=some (.int .i64 ah)∧w'.cell? ⟨w.heap.size,6,none⟩=some (.int .i64 bI)∧w'.cell? ⟨w.heap.size,7,none⟩=some (.int .i64 aG)∧w'.cell? ⟨w.heap.size,8,none⟩=some (.int .i64 au)∧w'.cell? ⟨w.heap.size,9,none⟩=some (.int .i64 gen)∧w'.cell? ⟨w.heap.size,10,none⟩=some (.slice A ax.length c)∧w'.cell? ⟨w.heap.size,11,none⟩=some (.int .i64 bk)∧w'.cell? ⟨w.heap.size,12,none⟩=some (.int .i64 till)∧w'.cell? ⟨w.heap.size,13,none⟩=some (.int .i64 count)) (first | exact hr2 | exact hr1 | exact hr0) (first
   | (go_at_call 22;refine aad.out.mono ?_;rintro e w5 ⟨rfl,rfl⟩)
   | (go_at_call 102;refine KI.out.mono ?_;rintro e w8 ⟨pv,rfl,g8⟩;obtain⟨Fp,rp⟩:=g8.get 0 rfl;obtain⟨pa,pc,rfl,-,-,-⟩:=ay.shape rp;have hr1:=oq (g8.block 7 rfl) (g8.block 6 rfl);have KP:=Lib.hid (wX (r:=dM ⟨k,⟨⟨src,dst,proto,ag,ah⟩,bI,aG,au⟩,gen,ax,bk,till,count⟩ ((bW (fr.kind:Int) fr.body (s.1,s.2.l)).1.2.m.aj:Int)) (A:=pa) (c:=pc) (wW rfl 0 rfl) (fun e=>ay.Hy rp e) HIB.out HIW.out (g8.aI (R1:=[_,_,_,_,_,_,_,_,_,_,_]) [5,0,1,2,3,4,6,7,8,9,10] (by decide) rfl));clear g8 rp)
   | (go_at_call 49;refine KP.out.mono ?_;rintro e w9 ⟨rfl,g9⟩;have hr2:=oq (g9.block 7 rfl) (g9.block 6 rfl);have G9:=Lib.hid g9;clear g9))
  have G:=Lib.hid (In.kF (s:=s.2.sure) (lb:=lb) (dz:=dz) (G9.out.aI (R1:=[_,_,_,_,_,_,_,_,_,_,_]) [7,8,9,10,2,3,0] (by decide) rfl))
  clear G9 hr0 hr1 hr2 KP KI aad
  go_wp2_with fail
  go_ret
  exact⟨by rw [WL.out,Wq.out];rfl,by rw [WL.out,Wq.out];exact G.out⟩
theorem uq {r:Rec} {A:Option Addr} {c:Nat} {s:SD} (hl:gH s.2.l) (ho:s.1.ops≤99990000) (hs:gZ F0 w0 R A r.ax) (hn:A=none→c=0) (hb:r.ax.length≤1000000) (wr:mQ r) (h:In F0 w0 w (oG sb lb bd dz s R)) :
  Calls Tryz.prog 31 #[pR sb,uy r A c] w fun e w'=>e=.returned (.int .i64 (bG r s).2)∧In F0 w0 w' (oG sb lb bd dz (bG r s).1 R):=by
 obtain⟨k,⟨⟨src,dst,proto,ag,ah⟩,bI,aG,au⟩,gen,ax,bk,till,count⟩:=r
 exact Lt hl ho hs hn hb wr h
end
instance:Inhabited pK:=⟨⟨default,aJ,aJ⟩⟩
def rP (n b:Int):Rec:=⟨1,⟨⟨n,0,6,0,0⟩,b,0,0⟩,0,[],0,0,0⟩
def bs0:ae×Option pK×Int:=createS 3 200 (jF 5000)
def bsS:SD:=(bs0.1,bs0.2.1.getD default)
def bs1:SD×Int:=bG (rP 1 7) bsS
def bs2:SD×Int:=iN bs1.1
def bs3:SD×Int:=bG (rP 2 8) bs2.1
def bs4:ae:=iw bs3.1.1 []
def bs5:ae×Option pK×Int:=nW 3 200 bs4
def DU (l:bK):Bool:=decide (16≤l.size∧l.size≤1048576) && fM l.m
theorem xm {l:bK} (h:DU l=true):gH l:=by
 simp only [DU,Bool.and_eq_true,decide_eq_true_eq] at h
 exact⟨h.1.1,h.1.2,h.2⟩
section
variable {F0:List Nat} {w0 w:World} {R:List az}
theorem kD.some {bd:Nat} {r:ae×Option pK×Int} {so:pK} {e:Ending} {w':World} (h:kD bd r F0 w0 R e w') (hl:r.2.1=Option.some so):∃ sb lb dz,e=.returned (.tuple #[pR sb,.int .i64 r.2.2])∧In F0 w0 w' (oG sb lb bd dz (r.1,so) R):=by
 unfold kD at h;rw [hl] at h;exact h
end
def Frz (b:Nat) (C:Array Value) (T:TypeId) (fz:Nat×Nat):az:=fun w F=>F=[b]∧w.heap[b]?=some (.cells C T fz)
def aw1:ae×Option bK×Int:=cu 3 100 (jF 5000)
def awL:bK:=aw1.2.1.getD default
def aw2:DL×Int:=bW 1 [120] (aw1.1,awL)
def aw3:DL×Int:=fw aw2.1
def aw4:DL×Int:=bW 1 [121] aw3.1
def aw5:ae:=iw aw4.1.1 [0,0,5]
def aw6:Nat×ae×Option bK×Int:=dB Yt 100 aw5 0
def aa5 (l:bK):Bool:=decide (16≤l.size∧l.size≤1048576) && fM l.m
section
variable {F0:List Nat} {w0 w:World} {R:List az}
end
section
variable {F0:List Nat} {w0 w:World} {R:List az}
end
structure Lu (w:World) (g o:Nat) (f:cB) (A:Option Addr) (c:Nat):Prop where
 kind:w.cell? ⟨g,o,none⟩=some (.int .i64 f.kind)
 aj:w.cell? ⟨g,o+1,none⟩=some (.int .i64 f.aj)
 val:w.cell? ⟨g,o+2,none⟩=some (.slice A f.body.length c)
 body:Src w A f.body.length 1 (eD f.body)
 nil:A=none→f.body.length=0
def aby (w:World) (a:Option Addr) (fs:List cB):Prop:=∀ k f,fs[k]?=some f→∃ g o A c,a=some ⟨g,o,none⟩∧Lu w g (o+k * 3) f A c
section
variable {F0:List Nat} {w0 w:World} {R:List az}
def aan (fs gs:List cB) (F0:List Nat) (w0:World) (R:List az) (i:Value) (wr:World):Prop:=
 ∃ k:Nat,k≤fs.length∧i=.int .i64 k∧fs.take k=gs.take k∧In F0 w0 wr R
end
def SL (w:World) (e:Ending) (w':World):Prop:=e=.returned (.bool true)∧Mod [] w w'
structure abz (M k:Nat) (kind aj:Nat) (size:Nat) (L:List (List UInt8)) (d:ae) (l:bK):Prop where
 EN:fD d l.m ((L.take k).map (fun b=>⟨kind,aj,b⟩)) 0
 loose:l.loose=false
 size:l.size=size
 aj:l.m.aj=aj
 rm:Rm d ((M - k) * 600+10000) ((M - k) * 2+20)
 aa:l.m.aa.length≤k+1
 next:l.m.next≤k+2
 ops:d.ops≤1000+20 * k
theorem Cf (n:Int):16≤sized n∧sized n≤1048576:=by unfold sized;omega
def abA:az:=fun w F=>F=[]
section
variable {F0:List Nat} {w0 w:World} {R:List az}
end
section
variable {H:Type} {enc:TypeId×Value→H} {w:World} {base:Nat} {spare:Nat→Bool} {held:Bool}
end
theorem Cg (r:Rec) (s:SD):(bG r s).1.1.ops≤s.1.ops+11:=by
 have h:=IL ((fu r s).1.kind:Int) (fu r s).1.body (s.1,s.2.l)
 unfold bG
 repeat' split
 all_goals first | exact Nat.le_add_right _ _ | exact h
theorem OD (s:SD):(iN s).1.1.ops≤s.1.ops+2:=Om (s.1,s.2.l)
structure uz (M k z:Nat) (s:SD):Prop where
 rm:∃ Fr kk,rD s Fr kk (M - k)
 size:s.2.l.size=z
 ops:s.1.ops≤1000+20 * k
theorem uz.inv {M k z:Nat} {s:SD} (h:uz M k z s):∃ Fr kk,iF s Fr kk Fr kk:=by
 obtain⟨Fr,kk,g⟩:=h.rm
 exact⟨Fr,kk,g.inv⟩
theorem uz.VI {M k z:Nat} {s:SD} (h:uz M k z s) (hz:16≤z∧z≤1048576):gH s.2.l:=by
 obtain⟨_,_,g⟩:=h.inv
 exact⟨by rw [h.size];exact hz.1,by rw [h.size];exact hz.2,g.log.now.1⟩
theorem uz.more {M k z:Nat} {s:SD} (h:uz M k z s):uz M (k+1) z s:=by
 obtain⟨Fr,kk,g⟩:=h.rm
 exact⟨⟨Fr,kk,g.less (by omega)⟩,h.size,by have:=h.ops;omega⟩
theorem uz.write {M k z:Nat} {s:SD} (h:uz M k z s) (hk:k < M) {r:Rec} (wr:mQ r):uz M (k+1) z (bG r s).1∧(bG r s).1.2.sure=s.2.sure:=by
 obtain⟨Fr,kk,g⟩:=h.rm
 rw [show M - k=(M - (k+1))+1 by omega] at g
 obtain⟨a1,a2,a3,a4⟩:=g.write wr
 have ho:=Cg r s
 refine⟨⟨?_,by rw [a1];exact h.size,by have:=h.ops;omega⟩,a3⟩
 rcases a4 with ⟨_,f,b⟩|⟨_,b⟩
 ·exact⟨_,_,b⟩
 ·rw [b];exact⟨Fr,kk,g.less (by omega)⟩
theorem SN (n:Int):1≤wrap64 (1+wrap64 ((IntKind.u64.wrap n).tmod 3))∧wrap64 (1+wrap64 ((IntKind.u64.wrap n).tmod 3))≤3:=by
 have e:IntKind.u64.wrap n=n % 18446744073709551616:=rfl
 rw [e]
 have h1:(n % 18446744073709551616).tmod 3=(n % 18446744073709551616) % 3:=Int.tmod_eq_emod_of_nonneg (by omega)
 rw [h1]
 unfold wrap64;omega
theorem SQ (q:Int):(jF q).ops=0:=rfl
theorem IZ {v size:Int} {d:ae}:(cu v size d).1.ops≤d.ops+20:=by
 unfold cu
 by_cases h1:v < 1∨3 < v
 ·rw [if_pos h1];exact Nat.le_add_right _ _
 rw [if_neg h1]
 by_cases h2:(bQ d.now bL).isSome=true
 ·rw [if_pos h2];exact Nat.le_add_right _ _
 rw [if_neg h2]
 have hb:=mZ (μ:=fun d:ae=>d.ops) (r:=bR (dK 1 d) (fun d=>aW d (ai 1))) (f:=fun d=>((aK (firstM v.toNat) d).1,(aK (firstM v.toNat) d).2.2)) (a:=d.ops+3) (b:=5) (mZ (μ:=fun d:ae=>d.ops) (a:=d.ops+2) (b:=1) (rE 1 d) fun t=>fZ t _) (fun t=>oW _ t)
 simp only
 split
 ·simp only;omega
 ·simp only;omega
theorem uz.start (M:Nat) (hM:M≤62) {v:Int} (hv:1≤v∧v≤3) (size:Int):∃ s:SD,createS v size (jF 300000)=(s.1,some s.2,0)∧uz M 0 (sized size) s∧s.2.st=aJ∧s.2.sure=aJ∧(s.2.l.m.aj:Int)=v:=by
 obtain⟨s,h1,h2,h3,h4,h5,h6⟩:=rD.start hv size 300000 M (by omega) hM
 refine⟨s,h1,⟨⟨_,_,h2⟩,h6,?_⟩,h3,h4,h5⟩
 have ho:=IZ (v:=v) (size:=size) (d:=jF 300000)
 have e:s.1=(cu v size (jF 300000)).1:=by
  have:=congrArg Prod.fst h1
  rw [← this]
  unfold createS
  cases (cu v size (jF 300000)).2.1 <;> rfl
 rw [e]
 rw [SQ] at ho
 omega
section
variable {W:World}
def aa6 (sb lb bd dz wb n:Nat) (W:World) (i:Value) (wr:World):Prop:=
 ∃ (k:Nat) (s:SD) (A:Option Addr) (a:Nat) (D:Option Addr) (d:Nat) (F:Option Addr) (f:Nat),k≤n∧i=.int .i64 k∧uz 61 k (sized 300) s∧In [] W wr (oG sb lb bd dz s [Cells wb #[.int .i64 s.2.sure.gen,.slice A s.2.sure.ax.length a,.slice D s.2.sure.bN.length d,.slice F s.2.sure.bU.length f] 62,gG (.slice A s.2.sure.ax.length a) s.2.sure.ax,zq (.slice D s.2.sure.bN.length d) s.2.sure.bN,BI (.slice F s.2.sure.bU.length f) s.2.sure.bU])
end
theorem Ch:∀ (l:List Nat) (s:Nat) (d:ae),dropD (l++[s]) d=(bF (ai s) (dropD l d)).1
 | [],s,d=>rfl
 | x::r,s,d=>by simp only [List.cons_append,dropD];exact Ch r s _
theorem xu:∀ (l:List Nat) (s:Nat) (d:ae),iB (l++[s]) d=(cZ (iB l d) (ai s)).1
 | [],s,d=>rfl
 | x::r,s,d=>by simp only [List.cons_append,iB];exact xu r s _
theorem yz:∀ (l:List Nat) (d:ae),(dropD l d).ops≤d.ops+l.length
 | [],d=>Nat.le_refl _
 | x::r,d=>by
  have h1:=yz r (bF (ai x) d).1
  have h2:=kQ (ai x) d
  simp only [dropD,List.length_cons];omega
def yA (pn:Value) (lb bd:Nat) (l:bK):az:=Star [Cells lb (xc bd l pn) 120,ay 3 1 pn l.m.aa.length (cz l.m.aa)]
theorem yA.aA (pn:Value) (lb bd:Nat) (l:bK):bC (yA pn lb bd l):=bC.star (rF lb bd l pn)
theorem In.Cy {F0:List Nat} {w0 w:World} {R:List az} {pn:Value} {lb bd:Nat} {l:bK} (h:In F0 w0 w (yA pn lb bd l::R)):In F0 w0 w (eB lb bd l::R):=
 h.imp (A':=eB lb bd l) 0 rfl (eB.aA _ _ _) (fun F hF=>⟨pn,hF⟩)
theorem In.VJ {F0:List Nat} {w0 w:World} {R:List az} {pn:Value} {lb bd:Nat} {l:bK} (h:In F0 w0 w (yA pn lb bd l::R)):In F0 w0 w (ay 3 1 pn l.m.aa.length (cz l.m.aa)::Cells lb (xc bd l pn) 120::R):=
 h.split (A:=Cells lb (xc bd l pn) 120) (B:=ay 3 1 pn l.m.aa.length (cz l.m.aa)) 0 rfl (Cells.aA _ _ _) (ay.aA _ _ _ _ _)
theorem In.Ja {F0:List Nat} {w0 w:World} {R:List az} {pn:Value} {lb bd:Nat} {l:bK} (h:In F0 w0 w (ay 3 1 pn l.m.aa.length (cz l.m.aa)::Cells lb (xc bd l pn) 120::R)):In F0 w0 w (yA pn lb bd l::R):=
 h.fold (C:=yA pn lb bd l) 0 rfl (yA.aA _ _ _ _) (fun F hF=>hF)
section
variable {F0:List Nat} {w0 w:World} {R:List az} {bd lb:Nat} {d:ae} {l:bK}
def Gc (lb bd:Nat) (l:bK) (d:ae) (aa:List Nat) (v:Value) (F0:List Nat) (w0:World) (R:List az) (i:Value) (wr:World):Prop:=
 ∃ k:Nat,k≤aa.length∧i=.int .i64 k∧In F0 w0 wr (eB lb bd l::bJ bd (dropD (aa.take k) d)::ay 3 1 v aa.length (cz aa)::R)
theorem OE {aa:List Nat} {k x:Nat} {v:Value} (hx:aa[k]?=some x) (h:In F0 w0 w (eB lb bd l::bJ bd (bF (ai x) (dropD (aa.take k) d)).1::ay 3 1 v aa.length (cz aa)::R)):Gc lb bd l d aa v F0 w0 R (.int .i64 ((k:Int)+1)) w:=by
 have hk:=(List.getElem?_eq_some_iff.1 hx).1
 refine⟨k+1,hk,by rw [Int.natCast_add];rfl,?_⟩
 rw [List.take_add_one,hx]
 show In F0 w0 w (eB lb bd l::bJ bd (dropD (aa.take k++[x]) d)::_)
 rw [Ch];exact h
theorem SV {aa:List Nat} {k:Nat} (ho:d.ops≤99999000) (hs:aa.length≤100):(dropD (aa.take k) d).ops≤100000000:=by
 have:=yz (aa.take k) d
 rw [List.length_take] at this;omega
theorem Gd {aa:List Nat} {k x:Nat} (hx:aa[k]?=some x):(cz aa)[k]?=some (.int .i64 x):=by simp [cz,hx]
theorem Yw {aa:List Nat} {a:Option Addr} {c:Nat} (h:In F0 w0 w (eB lb bd l::bJ bd d::ay 3 1 (.slice a aa.length c) aa.length (cz aa)::R)) (ho:d.ops≤99999000) (hs:aa.length≤100) (hv:∀ x∈aa,x < 4611686018427387904) :
  Calls Tryz.prog 97 #[aD lb,.slice a aa.length c] w fun e w'=>e=.returned (.tuple #[])∧In F0 w0 w' (eB lb bd l::bJ bd (dropD aa d)::ay 3 1 (.slice a aa.length c) aa.length (cz aa)::R):=by
 have HR:Hid (Gc lb bd l d aa (.slice a aa.length c) F0 w0 R (.int .i64 0) w):=Lib.hid ⟨0,Nat.zero_le _,rfl,h⟩
 have HO:=Lib.hid ho
 have HS:=Lib.hid hs
 have HV:=Lib.hid hv
 clear h ho hv
 go_enter Tryz.func97,Tryz.ntmps97
 go_wp2_with fail
 go_loopw [8] (Gc lb bd l d aa (.slice a aa.length c) F0 w0 R) (fun k _=>aa.length - (intOf k).toNat)
 case atStart=>exact HR.out
 case round=>
  obtain⟨k,hk,rfl,dC⟩:=hrel
  clear HR
  by_cases hlt:k < aa.length
  ·obtain⟨x,hx⟩:∃ x,aa[k]?=some x:=⟨aa[k],List.getElem?_eq_getElem hlt⟩
   obtain⟨Fs,hrow⟩:=dC.get 2 rfl
   obtain⟨b,rfl,c0⟩:=hrow.at.2 k _ (Gd hx)
   have hlt':(k:Int) < (aa.length:Int):=Int.ofNat_lt.2 hlt
   have hw2:wrap64 ((k:Int)+1)=(k:Int)+1:=by unfold wrap64;omega
   have HN:=Lib.hid (fun w' h'=>OE (w:=w') (l:=l) (lb:=lb) (bd:=bd) (d:=d) (v:=.slice (some ⟨b,0,none⟩) aa.length c) (F0:=F0) (w0:=w0) (R:=R) hx h')
   have KN:=Lib.hid (nU (dC.drewN 1) x (HV.out x (List.mem_of_getElem? hx)))
   have KC:=Lib.hid (fun w' h'=>zQ (w:=w') (F0:=F0) (w0:=w0) (R:=eB lb bd l::bJ bd (dropD (aa.take k) d)::ay 3 1 (.slice (some ⟨b,0,none⟩) aa.length c) aa.length (cz aa)::R) h' 1 rfl (SV HO.out HS.out) (ai x) (df x))
   have hl0:=dC.Ld
   have XB:=Lib.hid (fun w' (h':In F0 w0 w' (eB lb bd l::bJ bd (dropD (aa.take k) d)::ay 3 1 (.slice (some ⟨b,0,none⟩) aa.length c) aa.length (cz aa)::R))=>h'.Ld)
   clear dC hrow hk hlt hx hs
   go_wp2_with fail
   go_region_held3 (fun w'=>w'.cell? ⟨lb,0,none⟩=some (aD bd)) (first | exact hl1 | go_keep)
    (first
     | (go_at_call 65;refine KN.out.mono ?_;rintro e w1 ⟨rfl,g1⟩;have hl1:=XB.out w1 g1;have K1:=Lib.hid (KC.out w1 g1);clear g1)
     | (go_at_call 144;refine K1.out.mono ?_;rintro e w2 ⟨rfl,g2⟩;have hl1:=In.Ld g2;have uf:=Lib.hid (HN.out w2 g2);clear g2))
   go_wp2_with fail
   go_roundw
   case rel=>(try rw [hw2]);exact uf.out
   case measure=>(try rw [hw2]);exact dV hlt'
  ·have hge:(aa.length:Int)≤(k:Int):=Int.ofNat_le.2 (Nat.le_of_not_lt hlt)
   have hkl:aa.take k=aa:=List.take_of_length_le (Nat.le_of_not_lt hlt)
   rw [hkl] at dC
   have G:=Lib.hid dC
   clear dC hkl hlt hk
   go_wp2_with fail
   go_end0
   exact⟨rfl,G.out⟩
end
end Go.Proofs.YtogclkhpbjfadaaGreat
