/- .. -/
import Derived.Test.YtanhdliaaccacaaGreatUB30
import Derived.Test.YtanhdliaaccacaaGreatUB18
import Derived.Test.YtanhdliaaccacaaGreatUB32
import Derived.Test.YtanhdliaaccacaaGreatUB17
import Derived.Test.YtanhdliaaccacaaGreatUB29
import Derived.Test.YtanhdliaaccacaaGreatUB27
import Derived.Test.YtanhdliaaccacaaGreatUB28
import Derived.Deep.RegionHeld3
import Derived.LoopTactic
import Derived.StillTailTactics
import Derived.Test.YtanhdliaaccacaaGreatUB11
import Derived.Test.YtanhdliaaccacaaGreatUB5
namespace Go.Proofs.YtanhdliaaccacaaGreat
open Go.RowKit
set_option linter.unusedVariables false
set_option maxHeartbeats 64000000
set_option maxRecDepth 100000
section
variable {F0:List Nat} {w0 w:World} {R:List ax} {sb lb bd dA:Nat}
theorem gZ.rV {A:Option Addr} {l:List Bk}:∀ (X:List ax),gZ F0 w0 R A l→gZ F0 w0 (X++R) A l
 | [],h=>h
 | Y::X,h=>fun w' h'=>gZ.rV X h w' h'.drop
theorem oD {k src dst proto ag ah bN aJ aA gen bk till count:Int} {au:List Bk} {A:Option Addr} {c:Nat} {g:Nat} {W:World} {y:Int} {v1 v2 v3:Value} (h1:W.heap[sb]?=some (.cells (IZ lb dA y v1 v2 v3) 96 (0,0))) (h2:W.heap[g]?=some (.cells #[.int .i64 k,.int .u32 src,.int .u32 dst,.int .i64 proto,.int .i64 ag,.int .i64 ah,.int .i64 bN,.int .i64 aJ,.int .i64 aA,.int .i64 gen,.slice A au.length c,.int .i64 bk,.int .i64 till,.int .i64 count] 59 (0,0))):W.cell? ⟨sb,0,none⟩=some (aF lb)∧W.cell? ⟨sb,1,none⟩=some (pR dA)∧W.cell? ⟨g,0,none⟩=some (.int .i64 k)∧W.cell? ⟨g,1,none⟩=some (.int .u32 src)∧W.cell? ⟨g,2,none⟩=some (.int .u32 dst)∧W.cell? ⟨g,3,none⟩=some (.int .i64 proto)∧W.cell? ⟨g,4,none⟩=some (.int .i64 ag)∧W.cell? ⟨g,5,none⟩=some (.int .i64 ah)∧W.cell? ⟨g,6,none⟩=some (.int .i64 bN)∧W.cell? ⟨g,7,none⟩=some (.int .i64 aJ)∧W.cell? ⟨g,8,none⟩=some (.int .i64 aA)∧W.cell? ⟨g,9,none⟩=some (.int .i64 gen)∧W.cell? ⟨g,10,none⟩=some (.slice A au.length c)∧W.cell? ⟨g,11,none⟩=some (.int .i64 bk)∧W.cell? ⟨g,12,none⟩=some (.int .i64 till)∧W.cell? ⟨g,13,none⟩=some (.int .i64 count):=
 ⟨cell_of h1 rfl,cell_of h1 rfl,cell_of h2 rfl,cell_of h2 rfl,cell_of h2 rfl,cell_of h2 rfl,cell_of h2 rfl,cell_of h2 rfl,cell_of h2 rfl,cell_of h2 rfl,cell_of h2 rfl,cell_of h2 rfl,cell_of h2 rfl,cell_of h2 rfl,cell_of h2 rfl,cell_of h2 rfl⟩
theorem Ca {r:Rec} {s:SD} (h:bR r=false∨r.kind=6):bW r s=(s,1):=by unfold bW;rw [if_pos h]
theorem OP {r:Rec} {s:SD} (h1:bR r=true) (h2:r.kind≠6) (h3:(aX s.2.st r).2≠0):bW r s=(s,(aX s.2.st r).2):=by
 unfold bW;rw [if_neg (by simp [h1,h2]),if_pos h3]
theorem Je {r:Rec} {s:SD} (h1:bR r=true) (h2:r.kind≠6) (h3:(aX s.2.st r).2=0) (h4:(fI r s).2=0) (h5:(fG r s).2≠0):bW r s=(((fG r s).1.1,⟨(fG r s).1.2,s.2.st,s.2.sure⟩),(fG r s).2):=by
 unfold bW;rw [if_neg (by simp [h1,h2]),if_neg (by simp [h3]),if_neg (by simp [h4]),if_pos h5]
theorem Jf {r:Rec} {s:SD} (h1:bR r=true) (h2:r.kind≠6) (h3:(aX s.2.st r).2=0) (h4:(fI r s).2=0) (h5:(fG r s).2=0):bW r s=(((fG r s).1.1,⟨(fG r s).1.2,(aX s.2.st (dB r (fG r s).1.2.m.ak)).1,s.2.sure⟩),(aX s.2.st (dB r (fG r s).1.2.m.ak)).2):=by
 unfold bW;rw [if_neg (by simp [h1,h2]),if_neg (by simp [h3]),if_neg (by simp [h4]),if_neg (by simp [h5])]
theorem WQ {g:Nat} {W:World} {y:Int} {v1 v2 v3 a b e:Value} (h1:W.heap[sb]?=some (.cells (IZ lb dA y v1 v2 v3) 96 (0,0))) (h2:W.heap[g]?=some (.cells #[a,b,e] 86 (0,0))):W.cell? ⟨sb,0,none⟩=some (aF lb)∧W.cell? ⟨g,0,none⟩=some a∧W.cell? ⟨g,2,none⟩=some e:=⟨cell_of h1 rfl,cell_of h2 rfl,cell_of h2 rfl⟩
theorem DR (r:Rec) (v:Int):(dB r v).au.length≤r.au.length:=by
 unfold dB
 split
 ·simp [aM]
 ·simp only [List.length_map]
  unfold aN
  repeat' split
  all_goals simp
def aa4 (r:Rec) (fr:cz) (g sb lb bd dA:Nat) (A:Option Addr) (c:Nat) (s:SD) (X:Option Addr) (x:Nat) (D:Option Addr) (d:Nat) (F:Option Addr) (f:Nat) (F0:List Nat) (w0:World) (R:List ax) (x6 x7:Value) (wx:World):Prop:=
 ∃ fb v,x6=pR fb∧x7=.int .i64 0∧In F0 w0 wx (Cells fb #[.int .i64 fr.kind,.int .i64 fr.ak,v] 86::nz v fr::iF dA s.2.st::Cells g (aC r (.slice A r.au.length c)).toArray 59::Cells sb (IZ lb dA s.2.sure.gen (.slice X s.2.sure.au.length x) (.slice D s.2.sure.bL.length d) (.slice F s.2.sure.bS.length f)) 96::gq (.slice X s.2.sure.au.length x) s.2.sure.au::xA (.slice D s.2.sure.bL.length d) s.2.sure.bL::FM (.slice F s.2.sure.bS.length f) s.2.sure.bS::eH lb bd s.2.l::bJ bd s.1::R)
theorem LK {k src dst proto ag ah bN aJ aA gen bk till count:Int} {au:List Bk} {A:Option Addr} {c:Nat} {s:SD} (hl:ib s.2.l) (ho:s.1.ops≤99990000) (hs:gZ F0 w0 R A au) (hn:A=none→c=0) (hb:au.length≤1000000) (wr:nS ⟨k,⟨⟨src,dst,proto,ag,ah⟩,bN,aJ,aA⟩,gen,au,bk,till,count⟩) (h:In F0 w0 w (vQ sb lb bd dA s R)) :
  Calls Tryz.prog 23 #[pR sb,tq ⟨k,⟨⟨src,dst,proto,ag,ah⟩,bN,aJ,aA⟩,gen,au,bk,till,count⟩ A c] w fun e w'=>e=.returned (.int .i64 (bW ⟨k,⟨⟨src,dst,proto,ag,ah⟩,bN,aJ,aA⟩,gen,au,bk,till,count⟩ s).2)∧In F0 w0 w' (vQ sb lb bd dA (bW ⟨k,⟨⟨src,dst,proto,ag,ah⟩,bN,aJ,aA⟩,gen,au,bk,till,count⟩ s).1 R):=by
 obtain⟨X,x,D,d,F,f,g0⟩:=h.yu
 have g1:=g0.cells #[.int .i64 k,.int .u32 src,.int .u32 dst,.int .i64 proto,.int .i64 ag,.int .i64 ah,.int .i64 bN,.int .i64 aJ,.int .i64 aA,.int .i64 gen,.slice A au.length c,.int .i64 bk,.int .i64 till,.int .i64 count] 59
 have hbc:Hid (∀ w' l st,In F0 w0 w' (Cells sb (IZ lb dA s.2.sure.gen (.slice X s.2.sure.au.length x) (.slice D s.2.sure.bL.length d) (.slice F s.2.sure.bS.length f)) 96::gq (.slice X s.2.sure.au.length x) s.2.sure.au::xA (.slice D s.2.sure.bL.length d) s.2.sure.bL::FM (.slice F s.2.sure.bS.length f) s.2.sure.bS::eH lb bd l::bJ bd s.1::iF dA st::R)→In F0 w0 w' (vQ sb lb bd dA (s.1,⟨l,st,s.2.sure⟩) R)):=Lib.hid (fun w' l st h'=>In.lY (s:=s.2.sure) (lb:=lb) (dA:=dA) h')
 have HG:=Lib.hid g0
 have K1:Hid (Calls Tryz.prog 63 #[tq ⟨k,⟨⟨src,dst,proto,ag,ah⟩,bN,aJ,aA⟩,gen,au,bk,till,count⟩ A c] (w.alloc (.cells #[.int .i64 k,.int .u32 src,.int .u32 dst,.int .i64 proto,.int .i64 ag,.int .i64 ah,.int .i64 bN,.int .i64 aJ,.int .i64 aA,.int .i64 gen,.slice A au.length c,.int .i64 bk,.int .i64 till,.int .i64 count] 59)) fun e w'=>e=.returned (.bool (bR ⟨k,⟨⟨src,dst,proto,ag,ah⟩,bN,aJ,aA⟩,gen,au,bk,till,count⟩))∧In F0 w0 w' (Cells w.heap.size #[.int .i64 k,.int .u32 src,.int .u32 dst,.int .i64 proto,.int .i64 ag,.int .i64 ah,.int .i64 bN,.int .i64 aJ,.int .i64 aA,.int .i64 gen,.slice A au.length c,.int .i64 bk,.int .i64 till,.int .i64 count] 59::Cells sb (IZ lb dA s.2.sure.gen (.slice X s.2.sure.au.length x) (.slice D s.2.sure.bL.length d) (.slice F s.2.sure.bS.length f)) 96::gq (.slice X s.2.sure.au.length x) s.2.sure.au::xA (.slice D s.2.sure.bL.length d) s.2.sure.bL::FM (.slice F s.2.sure.bS.length f) s.2.sure.bS::eH lb bd s.2.l::bJ bd s.1::iF dA s.2.st::R)):=Lib.hid (jE (r:=⟨k,⟨⟨src,dst,proto,ag,ah⟩,bN,aJ,aA⟩,gen,au,bk,till,count⟩) (c:=c) (hs.rV [Cells w.heap.size #[.int .i64 k,.int .u32 src,.int .u32 dst,.int .i64 proto,.int .i64 ag,.int .i64 ah,.int .i64 bN,.int .i64 aJ,.int .i64 aA,.int .i64 gen,.slice A au.length c,.int .i64 bk,.int .i64 till,.int .i64 count] 59,Cells sb (IZ lb dA s.2.sure.gen (.slice X s.2.sure.au.length x) (.slice D s.2.sure.bL.length d) (.slice F s.2.sure.bS.length f)) 96,gq (.slice X s.2.sure.au.length x) s.2.sure.au,xA (.slice D s.2.sure.bL.length d) s.2.sure.bL,FM (.slice F s.2.sure.bS.length f) s.2.sure.bS,eH lb bd s.2.l,bJ bd s.1,iF dA s.2.st]) (Nat.le_trans hb (by decide)) g1)
 have iK:di (s.2.l.m.ak:Int)=true:=by
  have:=(bQ.1 hl.2.2).1
  unfold di;simp;omega
 cases hm:bR ⟨k,⟨⟨src,dst,proto,ag,ah⟩,bN,aJ,aA⟩,gen,au,bk,till,count⟩ with
 | false=>
  rw [Ca (Or.inl hm)]
  rw [hm] at K1
  clear h g0 g1 hs wr HG hl ho hm iK
  go_enter Tryz.func23,Tryz.ntmps23
  go_wp2_with fail
  refine K1.out.mono ?_
  rintro e w2 ⟨rfl,g2⟩
  have G:=Lib.hid (hbc.out _ _ _ g2.drop)
  clear g2 K1 hbc
  go_wp2_with fail
  go_ret
  exact⟨rfl,G.out⟩
 | true=>
 rw [hm] at K1
 have HM:=Lib.hid hm
 clear hm
 by_cases h6:k=6
 ·subst h6
  rw [Ca (Or.inr rfl)]
  clear h g0 g1 hs wr HG hl ho iK HM
  go_enter Tryz.func23,Tryz.ntmps23
  go_wp2_with fail
  refine K1.out.mono ?_
  rintro e w2 ⟨rfl,g2⟩
  have c0:w2.cell? ⟨w.heap.size,0,none⟩=some (.int .i64 6):=cell_of (g2.block 0 rfl) rfl
  have G:=Lib.hid (hbc.out _ _ _ g2.drop)
  clear g2 K1 hbc
  go_wp2_with fail
  go_ret
  exact⟨rfl,G.out⟩
 have q6:(k == 6)=false:=by rw [beq_eq_false_iff_ne];exact h6
 have H6:=Lib.hid h6
 have HS:=Lib.hid hs
 have HL:=Lib.hid hl
 have SQ:=Lib.hid ho
 have HV:=Lib.hid iK
 have HWR:=Lib.hid wr
 clear h g0 g1 hs HG hl ho iK h6 wr
 go_enter Tryz.func23,Tryz.ntmps23
 go_wp2_with fail
 refine K1.out.mono ?_
 rintro e w2 ⟨rfl,g2⟩
 have c0:w2.cell? ⟨w.heap.size,0,none⟩=some (.int .i64 k):=cell_of (g2.block 0 rfl) rfl
 have hz2:=oD ((g2.drewN 1).block 1 rfl) ((g2.drewN 1).block 0 rfl)
 have hsb:sb≠w.heap.size:=fun e=>(g2.ne 0 1 (by decide) rfl rfl) e.symm
 have K2:=Lib.hid (RV ((g2.drewN 1).aL (R1:=[_,_,_,_,_,_,_,_]) [7,0,1,2,3,4,5,6] (by decide) rfl))
 clear g2 K1
 go_wp2_with fail
 go_region_held3 (fun w'=>w'.cell? ⟨sb,0,none⟩=some (aF lb)∧w'.cell? ⟨sb,1,none⟩=some (pR dA)∧w'.cell? ⟨w.heap.size,0,none⟩=some (.int .i64 k)∧w'.cell? ⟨w.heap.size,1,none⟩=some (.int .u32 src)∧w'.cell? ⟨w.heap.size,2,none⟩=some (.int .u32 dst)∧w'.cell? ⟨w.heap.size,3,none⟩=some (.int .i64 proto)∧w'.cell? ⟨w.heap.size,4,none⟩=some (.int .i64 ag)∧w'.cell? ⟨w.heap.size,5,none⟩=some (.int .i64 ah)∧w'.cell? ⟨w.heap.size,6,none⟩=some (.int .i64 bN)∧w'.cell? ⟨w.heap.size,7,none⟩=some (.int .i64 aJ)∧w'.cell? ⟨w.heap.size,8,none⟩=some (.int .i64 aA)∧w'.cell? ⟨w.heap.size,9,none⟩=some (.int .i64 gen)∧w'.cell? ⟨w.heap.size,10,none⟩=some (.slice A au.length c)∧w'.cell? ⟨w.heap.size,11,none⟩=some (.int .i64 bk)∧w'.cell? ⟨w.heap.size,12,none⟩=some (.int .i64 till)∧w'.cell? ⟨w.heap.size,13,none⟩=some (.int .i64 count)) (first | exact Zq | exact hz3 | exact hz2) (first
  | (go_at_call 64;refine K2.out.mono ?_;rintro e w3 ⟨sb2,rfl,g3⟩;have hz3:=oD (g3.block 3 rfl) (g3.block 2 rfl);have K3:=Lib.hid (xk (r:=⟨k,⟨⟨src,dst,proto,ag,ah⟩,bN,aJ,aA⟩,gen,au,bk,till,count⟩) (HS.out.rV [iF dA s.2.st,Cells w.heap.size #[.int .i64 k,.int .u32 src,.int .u32 dst,.int .i64 proto,.int .i64 ag,.int .i64 ah,.int .i64 bN,.int .i64 aJ,.int .i64 aA,.int .i64 gen,.slice A au.length c,.int .i64 bk,.int .i64 till,.int .i64 count] 59,Cells sb (IZ lb dA s.2.sure.gen (.slice X s.2.sure.au.length x) (.slice D s.2.sure.bL.length d) (.slice F s.2.sure.bS.length f)) 96,gq (.slice X s.2.sure.au.length x) s.2.sure.au,xA (.slice D s.2.sure.bL.length d) s.2.sure.bL,FM (.slice F s.2.sure.bS.length f) s.2.sure.bS,eH lb bd s.2.l,bJ bd s.1]) hn hb HWR.out g3);clear g3)
  | (go_at_call 65;refine K3.out.mono ?_;rintro e w4 ⟨rfl,g4⟩;have Zq:=oD (g4.block 3 rfl) (g4.block 2 rfl);have G4:=Lib.hid g4.drop;clear g4))
 clear hz2 hz3 Zq K2 K3
 by_cases he:(aX s.2.st ⟨k,⟨⟨src,dst,proto,ag,ah⟩,bN,aJ,aA⟩,gen,au,bk,till,count⟩).2=0
 case neg=>
  have WR:=Lib.hid (OP HM.out H6.out he)
  have q:((aX s.2.st ⟨k,⟨⟨src,dst,proto,ag,ah⟩,bN,aJ,aA⟩,gen,au,bk,till,count⟩).2 != 0)=true:=by rw [bne_iff_ne];exact he
  have G:=Lib.hid (hbc.out _ _ _ (G4.out.aL (R1:=[_,_,_,_,_,_,_,_]) [2,3,4,5,6,7,0] (by decide) rfl))
  clear he G4 hbc
  generalize (aX s.2.st ⟨k,⟨⟨src,dst,proto,ag,ah⟩,bN,aJ,aA⟩,gen,au,bk,till,count⟩).2=er at *
  go_wp2_with fail
  go_ret
  exact⟨by rw [WR.out];rfl,by rw [WR.out];exact G.out⟩
 rw [he]
 have henc:=(qU HWR.out HV.out HM.out).1
 have hok:=(Ai (r:=⟨k,⟨⟨src,dst,proto,ag,ah⟩,bN,aJ,aA⟩,gen,au,bk,till,count⟩) (v:=s.2.l.m.ak) henc).1
 have Ww:Hid (fG ⟨k,⟨⟨src,dst,proto,ag,ah⟩,bN,aJ,aA⟩,gen,au,bk,till,count⟩ s=bY ((dI ⟨k,⟨⟨src,dst,proto,ag,ah⟩,bN,aJ,aA⟩,gen,au,bk,till,count⟩ s.2.l.m.ak).1.kind:Int) (dI ⟨k,⟨⟨src,dst,proto,ag,ah⟩,bN,aJ,aA⟩,gen,au,bk,till,count⟩ s.2.l.m.ak).1.body (s.1,s.2.l)):=Lib.hid rfl
 have PG:=Lib.hid (fun h5=>Je (s:=s) HM.out H6.out he henc h5)
 have HWD:=Lib.hid (fun h5=>Jf (s:=s) HM.out H6.out he henc h5)
 have hy0:=oD ((G4.out.drewN 1).block 2 rfl) ((G4.out.drewN 1).block 1 rfl)
 have KVn:=Lib.hid (qH ((G4.out.drewN 1).aL (R1:=[_,_,_,_,_,_,_,_]) [6,0,1,2,3,4,5,7] (by decide) rfl))
 have KE:=EP (r:=⟨k,⟨⟨src,dst,proto,ag,ah⟩,bN,aJ,aA⟩,gen,au,bk,till,count⟩) (c:=c) (s.2.l.m.ak:Int) (HS.out.rV [iF dA s.2.st,Cells w.heap.size #[.int .i64 k,.int .u32 src,.int .u32 dst,.int .i64 proto,.int .i64 ag,.int .i64 ah,.int .i64 bN,.int .i64 aJ,.int .i64 aA,.int .i64 gen,.slice A au.length c,.int .i64 bk,.int .i64 till,.int .i64 count] 59,Cells sb (IZ lb dA s.2.sure.gen (.slice X s.2.sure.au.length x) (.slice D s.2.sure.bL.length d) (.slice F s.2.sure.bS.length f)) 96,gq (.slice X s.2.sure.au.length x) s.2.sure.au,xA (.slice D s.2.sure.bL.length d) s.2.sure.bL,FM (.slice F s.2.sure.bS.length f) s.2.sure.bS,eH lb bd s.2.l,bJ bd s.1]) HWR.out hb (G4.out.drewN 1)
 rw [show dI ⟨k,⟨⟨src,dst,proto,ag,ah⟩,bN,aJ,aA⟩,gen,au,bk,till,count⟩ s.2.l.m.ak=((dI ⟨k,⟨⟨src,dst,proto,ag,ah⟩,bN,aJ,aA⟩,gen,au,bk,till,count⟩ s.2.l.m.ak).1,0) from by rw [← henc]] at KE
 have RL:=Lib.hid KE
 have z0:=(G4.out.drewN 1).cells #[.int .i64 0,.int .i64 0,.slice none 0 0] 86
 have hyz:=oD (z0.block 3 rfl) (z0.block 2 rfl)
 have KVz:=Lib.hid (qH (z0.aL (R1:=[_,_,_,_,_,_,_,_,_]) [7,0,1,2,3,4,5,6,8] (by decide) rfl))
 have KEz:=EP (r:=⟨k,⟨⟨src,dst,proto,ag,ah⟩,bN,aJ,aA⟩,gen,au,bk,till,count⟩) (c:=c) (s.2.l.m.ak:Int) (HS.out.rV [Cells (w4.drewN 1).heap.size #[.int .i64 0,.int .i64 0,.slice none 0 0] 86,iF dA s.2.st,Cells w.heap.size #[.int .i64 k,.int .u32 src,.int .u32 dst,.int .i64 proto,.int .i64 ag,.int .i64 ah,.int .i64 bN,.int .i64 aJ,.int .i64 aA,.int .i64 gen,.slice A au.length c,.int .i64 bk,.int .i64 till,.int .i64 count] 59,Cells sb (IZ lb dA s.2.sure.gen (.slice X s.2.sure.au.length x) (.slice D s.2.sure.bL.length d) (.slice F s.2.sure.bS.length f)) 96,gq (.slice X s.2.sure.au.length x) s.2.sure.au,xA (.slice D s.2.sure.bL.length d) s.2.sure.bL,FM (.slice F s.2.sure.bS.length f) s.2.sure.bS,eH lb bd s.2.l,bJ bd s.1]) HWR.out hb z0
 rw [show dI ⟨k,⟨⟨src,dst,proto,ag,ah⟩,bN,aJ,aA⟩,gen,au,bk,till,count⟩ s.2.l.m.ak=((dI ⟨k,⟨⟨src,dst,proto,ag,ah⟩,bN,aJ,aA⟩,gen,au,bk,till,count⟩ s.2.l.m.ak).1,0) from by rw [← henc]] at KEz
 have YA:=Lib.hid KEz
 clear KE KEz henc he G4 z0
 generalize (dI ⟨k,⟨⟨src,dst,proto,ag,ah⟩,bN,aJ,aA⟩,gen,au,bk,till,count⟩ s.2.l.m.ak).1=fr at *
 have HFO:=Lib.hid hok
 clear hok
 go_upto_region 6 with fail
 go_cut [6,7] (fun x6 x7 wx=>aa4 ⟨k,⟨⟨src,dst,proto,ag,ah⟩,bN,aJ,aA⟩,gen,au,bk,till,count⟩ fr w.heap.size sb lb bd dA A c s X x D d F f F0 w0 R x6 x7 wx)
 case first=>
  refine rG (fun w'=>w'.cell? ⟨sb,0,none⟩=some (aF lb)∧w'.cell? ⟨sb,1,none⟩=some (pR dA)∧w'.cell? ⟨w.heap.size,0,none⟩=some (.int .i64 k)∧w'.cell? ⟨w.heap.size,1,none⟩=some (.int .u32 src)∧w'.cell? ⟨w.heap.size,2,none⟩=some (.int .u32 dst)∧w'.cell? ⟨w.heap.size,3,none⟩=some (.int .i64 proto)∧w'.cell? ⟨w.heap.size,4,none⟩=some (.int .i64 ag)∧w'.cell? ⟨w.heap.size,5,none⟩=some (.int .i64 ah)∧w'.cell? ⟨w.heap.size,6,none⟩=some (.int .i64 bN)∧w'.cell? ⟨w.heap.size,7,none⟩=some (.int .i64 aJ)∧w'.cell? ⟨w.heap.size,8,none⟩=some (.int .i64 aA)∧w'.cell? ⟨w.heap.size,9,none⟩=some (.int .i64 gen)∧w'.cell? ⟨w.heap.size,10,none⟩=some (.slice A au.length c)∧w'.cell? ⟨w.heap.size,11,none⟩=some (.int .i64 bk)∧w'.cell? ⟨w.heap.size,12,none⟩=some (.int .i64 till)∧w'.cell? ⟨w.heap.size,13,none⟩=some (.int .i64 count)) (by kernel_rfl) hy0 (fun hS=>?_)
  refine bC (i:=0) (v:=?_) rfl (by kernel_rfl) (fun _ _ _ h=>h) (by rfl) ?_ hS ?_
  rotate_left
  ·(intro w hSw;(try dsimp only at hSw);go_simp;try with_reducible rfl)
  try simp only [Act.put,List.setIfInBounds_toArray,List.set_cons_zero,List.set_cons_succ]
  refine bC (i:=1) (v:=?_) rfl (by kernel_rfl) (fun _ _ _ h=>h) (by rfl) ?_ hS ?_
  rotate_left
  ·(intro w hSw;(try dsimp only at hSw);go_simp;try with_reducible rfl)
  try simp only [Act.put,List.setIfInBounds_toArray,List.set_cons_zero,List.set_cons_succ]
  refine bC (i:=2) (v:=?_) rfl (by kernel_rfl) (fun _ _ _ h=>h) (by rfl) ?_ hS ?_
  rotate_left
  ·(intro w hSw;(try dsimp only at hSw);go_simp;try with_reducible rfl)
  try simp only [Act.put,List.setIfInBounds_toArray,List.set_cons_zero,List.set_cons_succ]
  refine bC (i:=3) (v:=?_) rfl (by kernel_rfl) (fun _ _ _ h=>h) (by rfl) ?_ hS ?_
  rotate_left
  ·(intro w hSw;(try dsimp only at hSw);go_simp;try with_reducible rfl)
  try simp only [Act.put,List.setIfInBounds_toArray,List.set_cons_zero,List.set_cons_succ]
  refine bC (i:=4) (v:=?_) rfl (by kernel_rfl) (fun _ _ _ h=>h) (by rfl) ?_ hS ?_
  rotate_left
  ·(intro w hSw;(try dsimp only at hSw);go_simp;try with_reducible rfl)
  try simp only [Act.put,List.setIfInBounds_toArray,List.set_cons_zero,List.set_cons_succ]
  refine IG (i:=5) (j:=10) rfl rfl (by kernel_rfl) (fun K' hK=>?_) (fun K' hK=>?_)
  ·go_simp
   go_at_call 66
   refine KVn.out.mono ?_
   rintro e w5 ⟨rfl,rfl⟩
   refine hK.out _ _ hy0 (fun hS=>?_)
   clear hK K'
   try simp only [Act.put,List.setIfInBounds_toArray,List.set_cons_zero,List.set_cons_succ]
   refine IG (i:=6) (j:=10) rfl rfl (by kernel_rfl) (fun K' hK=>?_) (fun K' hK=>?_)
   ·go_simp
    go_at_call 43
    refine RL.out.mono ?_
    rintro e w6 ⟨v,rfl,g6⟩
    obtain⟨Fv,rv⟩:=g6.get 0 rfl
    obtain⟨va,vc,rfl,-,-,-⟩:=ay.shape rv
    clear rv
    have hy1:=oD (g6.block 3 rfl) (g6.block 2 rfl)
    have g7z:=g6.cells #[.int .i64 0,.int .i64 0,.slice none 0 0] 86
    have hyy:=oD (g7z.block 4 rfl) (g7z.block 3 rfl)
    have ht:=Lib.hid (dX (g7z.block 0 rfl))
    have g7:=g7z.eX 0 rfl (xs:=[.int .i64 fr.kind,.int .i64 fr.ak,.slice va fr.body.length vc]) (b:=w6.heap.size) (C:=#[.int .i64 0,.int .i64 0,.slice none 0 0]) (T:=86) rfl
    have hy3:=oD (g7.block 4 rfl) (g7.block 3 rfl)
    have G7:=Lib.hid g7
    clear g7 g7z
    clear g6
    refine hK.out _ _ hy1 (fun hS=>?_)
    clear hK K'
    try simp only [Act.put,List.setIfInBounds_toArray,List.set_cons_zero,List.set_cons_succ]
    refine bC (i:=7) (v:=?_) rfl (by kernel_rfl) (fun _ _ _ h=>h) (by rfl) ?_ hS ?_
    rotate_left
    ·(intro w hSw;(try dsimp only at hSw);go_simp;try with_reducible rfl)
    try simp only [Act.put,List.setIfInBounds_toArray,List.set_cons_zero,List.set_cons_succ]
    refine bC (i:=8) (v:=?_) rfl (by kernel_rfl) (fun _ _ _ h=>h) (by rfl) ?_ hS ?_
    rotate_left
    ·(intro w hSw;(try dsimp only at hSw);go_simp;try with_reducible rfl)
    try simp only [Act.put,List.setIfInBounds_toArray,List.set_cons_zero,List.set_cons_succ]
    refine bC (i:=9) (v:=?_) rfl (by kernel_rfl) (fun _ _ _ h=>h) (by rfl) ?_ hS ?_
    rotate_left
    ·(intro w hSw;(try dsimp only at hSw);go_simp;try with_reducible rfl)
    try simp only [Act.put,List.setIfInBounds_toArray,List.set_cons_zero,List.set_cons_succ]
    refine kC (i:=10) rfl (by kernel_rfl) (fun K' hK=>?_)
    go_simp
    refine hK.out _ _ hyy (fun hS=>?_)
    clear hK K'
    try simp only [Act.put,List.setIfInBounds_toArray,List.set_cons_zero,List.set_cons_succ]
    refine kC (i:=11) rfl (by kernel_rfl) (fun K' hK=>?_)
    rw [if_pos (by rfl)]
    refine wp_store_mid 86 (.tmp 6) (.tmp 39) rfl w6.heap.size 0 #[.int .i64 fr.kind,.int .i64 fr.ak,.slice va fr.body.length vc] (by rfl) (by rfl) ht.out (by kernel_rfl) (by simp [Value.oneCell']) ?_
    refine hK.out _ _ hy3 (fun hS=>?_)
    clear hK K'
    try simp only [Act.put,List.setIfInBounds_toArray,List.set_cons_zero,List.set_cons_succ]
    refine mF (i:=12) rfl (by kernel_rfl) (fun K' hK=>?_)
    go_simp
    refine hK.out _ _ ?_
    clear hK K'
    go_wp2_with fail
    go_meet
    exact⟨_,_,rfl,rfl,G7.out.aL (R1:=[_,_]) [0,1] (by decide) rfl⟩
   ·go_simp
    refine hK.out _ _ hyz (fun hS=>?_)
    clear hK K'
    try simp only [Act.put,List.setIfInBounds_toArray,List.set_cons_zero,List.set_cons_succ]
    refine kC (i:=6) rfl (by kernel_rfl) (fun K' hK=>?_)
    go_simp
    go_at_call 43
    refine YA.out.mono ?_
    rintro e w6 ⟨v,rfl,g6⟩
    obtain⟨Fv,rv⟩:=g6.get 0 rfl
    obtain⟨va,vc,rfl,-,-,-⟩:=ay.shape rv
    clear rv
    have hy1:=oD (g6.block 4 rfl) (g6.block 3 rfl)
    have ht:=Lib.hid (dX (g6.block 1 rfl))
    have g7:=g6.eX 1 rfl (xs:=[.int .i64 fr.kind,.int .i64 fr.ak,.slice va fr.body.length vc]) (b:=(w4.drewN 1).heap.size) (C:=#[.int .i64 0,.int .i64 0,.slice none 0 0]) (T:=86) rfl
    have hy3:=oD (g7.block 4 rfl) (g7.block 3 rfl)
    have G7:=Lib.hid g7
    clear g7
    clear g6
    refine hK.out _ _ hy1 (fun hS=>?_)
    clear hK K'
    try simp only [Act.put,List.setIfInBounds_toArray,List.set_cons_zero,List.set_cons_succ]
    refine bC (i:=7) (v:=?_) rfl (by kernel_rfl) (fun _ _ _ h=>h) (by rfl) ?_ hS ?_
    rotate_left
    ·(intro w hSw;(try dsimp only at hSw);go_simp;try with_reducible rfl)
    try simp only [Act.put,List.setIfInBounds_toArray,List.set_cons_zero,List.set_cons_succ]
    refine bC (i:=8) (v:=?_) rfl (by kernel_rfl) (fun _ _ _ h=>h) (by rfl) ?_ hS ?_
    rotate_left
    ·(intro w hSw;(try dsimp only at hSw);go_simp;try with_reducible rfl)
    try simp only [Act.put,List.setIfInBounds_toArray,List.set_cons_zero,List.set_cons_succ]
    refine bC (i:=9) (v:=?_) rfl (by kernel_rfl) (fun _ _ _ h=>h) (by rfl) ?_ hS ?_
    rotate_left
    ·(intro w hSw;(try dsimp only at hSw);go_simp;try with_reducible rfl)
    try simp only [Act.put,List.setIfInBounds_toArray,List.set_cons_zero,List.set_cons_succ]
    refine kC (i:=11) rfl (by kernel_rfl) (fun K' hK=>?_)
    rw [if_pos (by rfl)]
    refine wp_store_mid 86 (.tmp 6) (.tmp 39) rfl (w4.drewN 1).heap.size 0 #[.int .i64 fr.kind,.int .i64 fr.ak,.slice va fr.body.length vc] (by rfl) (by rfl) ht.out (by kernel_rfl) (by simp [Value.oneCell']) ?_
    refine hK.out _ _ hy3 (fun hS=>?_)
    clear hK K'
    try simp only [Act.put,List.setIfInBounds_toArray,List.set_cons_zero,List.set_cons_succ]
    refine mF (i:=12) rfl (by kernel_rfl) (fun K' hK=>?_)
    go_simp
    refine hK.out _ _ ?_
    clear hK K'
    go_wp2_with fail
    go_meet
    exact⟨_,_,rfl,rfl,G7.out.aL (R1:=[_,_]) [1,0] (by decide) rfl⟩
  ·go_simp
   refine hK.out _ _ hyz (fun hS=>?_)
   clear hK K'
   try simp only [Act.put,List.setIfInBounds_toArray,List.set_cons_zero,List.set_cons_succ]
   refine kC (i:=5) rfl (by kernel_rfl) (fun K' hK=>?_)
   go_simp
   go_at_call 66
   refine KVz.out.mono ?_
   rintro e w5 ⟨rfl,rfl⟩
   refine hK.out _ _ hyz (fun hS=>?_)
   clear hK K'
   try simp only [Act.put,List.setIfInBounds_toArray,List.set_cons_zero,List.set_cons_succ]
   refine kC (i:=6) rfl (by kernel_rfl) (fun K' hK=>?_)
   go_simp
   go_at_call 43
   refine YA.out.mono ?_
   rintro e w6 ⟨v,rfl,g6⟩
   obtain⟨Fv,rv⟩:=g6.get 0 rfl
   obtain⟨va,vc,rfl,-,-,-⟩:=ay.shape rv
   clear rv
   have hy1:=oD (g6.block 4 rfl) (g6.block 3 rfl)
   have ht:=Lib.hid (dX (g6.block 1 rfl))
   have g7:=g6.eX 1 rfl (xs:=[.int .i64 fr.kind,.int .i64 fr.ak,.slice va fr.body.length vc]) (b:=(w4.drewN 1).heap.size) (C:=#[.int .i64 0,.int .i64 0,.slice none 0 0]) (T:=86) rfl
   have hy3:=oD (g7.block 4 rfl) (g7.block 3 rfl)
   have G7:=Lib.hid g7
   clear g7
   clear g6
   refine hK.out _ _ hy1 (fun hS=>?_)
   clear hK K'
   try simp only [Act.put,List.setIfInBounds_toArray,List.set_cons_zero,List.set_cons_succ]
   refine bC (i:=7) (v:=?_) rfl (by kernel_rfl) (fun _ _ _ h=>h) (by rfl) ?_ hS ?_
   rotate_left
   ·(intro w hSw;(try dsimp only at hSw);go_simp;try with_reducible rfl)
   try simp only [Act.put,List.setIfInBounds_toArray,List.set_cons_zero,List.set_cons_succ]
   refine bC (i:=8) (v:=?_) rfl (by kernel_rfl) (fun _ _ _ h=>h) (by rfl) ?_ hS ?_
   rotate_left
   ·(intro w hSw;(try dsimp only at hSw);go_simp;try with_reducible rfl)
   try simp only [Act.put,List.setIfInBounds_toArray,List.set_cons_zero,List.set_cons_succ]
   refine bC (i:=9) (v:=?_) rfl (by kernel_rfl) (fun _ _ _ h=>h) (by rfl) ?_ hS ?_
   rotate_left
   ·(intro w hSw;(try dsimp only at hSw);go_simp;try with_reducible rfl)
   try simp only [Act.put,List.setIfInBounds_toArray,List.set_cons_zero,List.set_cons_succ]
   refine kC (i:=11) rfl (by kernel_rfl) (fun K' hK=>?_)
   rw [if_pos (by rfl)]
   refine wp_store_mid 86 (.tmp 6) (.tmp 39) rfl (w4.drewN 1).heap.size 0 #[.int .i64 fr.kind,.int .i64 fr.ak,.slice va fr.body.length vc] (by rfl) (by rfl) ht.out (by kernel_rfl) (by simp [Value.oneCell']) ?_
   refine hK.out _ _ hy3 (fun hS=>?_)
   clear hK K'
   try simp only [Act.put,List.setIfInBounds_toArray,List.set_cons_zero,List.set_cons_succ]
   refine mF (i:=12) rfl (by kernel_rfl) (fun K' hK=>?_)
   go_simp
   refine hK.out _ _ ?_
   clear hK K'
   go_wp2_with fail
   go_meet
   exact⟨_,_,rfl,rfl,G7.out.aL (R1:=[_,_]) [1,0] (by decide) rfl⟩
 case rest=>
  obtain⟨fb,v,rfl,rfl,dh⟩:=hcut
  obtain⟨Fv,rv⟩:=dh.get 1 rfl
  obtain⟨va,vc,rfl,-,-,-⟩:=ay.shape rv
  have hq0:=WQ ((dh.drewN 1).block 4 rfl) ((dh.drewN 1).block 0 rfl)
  have KA:=Lib.hid (Sr ((dh.drewN 1).aL (R1:=[_,_,_,_,_,_,_,_,_,_]) [8,9,0,1,2,3,4,5,6,7] (by decide) rfl) HL.out (by have:=SQ.out;omega) (fr.kind:Int) (A:=va) (c:=vc) (body:=fr.body) (by have:=HFO.out.body;omega) (fun w' h'=>by obtain⟨F',r'⟩:=h'.get 1 rfl;exact r'.all))
  clear dh rv hy0 hyz KVn RL KVz YA
  go_wp2_with fail
  go_region_held3 (fun w'=>w'.cell? ⟨sb,0,none⟩=some (aF lb)∧w'.cell? ⟨fb,0,none⟩=some (.int .i64 fr.kind)∧w'.cell? ⟨fb,2,none⟩=some (.slice va fr.body.length vc)) (first | exact hq1 | exact hq0) (first
   | (go_at_call 67;refine KA.out.mono ?_;rintro e w7 ⟨rfl,g7⟩;have hq1:=WQ (g7.block 6 rfl) (g7.block 2 rfl);have G7:=Lib.hid g7;clear g7))
  clear hq0 hq1 KA
  by_cases hA:(bY (fr.kind:Int) fr.body (s.1,s.2.l)).2=0
  case neg=>
   have WR:=Lib.hid (PG.out (by rw [Ww.out];exact hA))
   have q:((bY (fr.kind:Int) fr.body (s.1,s.2.l)).2 != 0)=true:=by rw [bne_iff_ne];exact hA
   have G:Hid (In F0 w0 w7 (vQ sb lb bd dA ((bY (fr.kind:Int) fr.body (s.1,s.2.l)).1.1,⟨(bY (fr.kind:Int) fr.body (s.1,s.2.l)).1.2,s.2.st,s.2.sure⟩) R)):=Lib.hid (In.lY (s:=s.2.sure) (lb:=lb) (dA:=dA) (G7.out.aL (R1:=[_,_,_,_,_,_,_,_,_,_]) [6,7,8,9,0,1,4] (by decide) rfl))
   clear hA G7
   go_wp2_with fail
   go_ret
   exact⟨by rw [WR.out,Ww.out];rfl,by rw [WR.out,Ww.out];exact G.out⟩
  rw [hA]
  have WR:=Lib.hid (HWD.out (by rw [Ww.out];exact hA))
  have hr0:=oD ((G7.out.drewN 1).block 6 rfl) ((G7.out.drewN 1).block 5 rfl)
  have aaq:=Lib.hid (qH (G7.out.drewN 1))
  have KI:=Lib.hid (Kl (r:=⟨k,⟨⟨src,dst,proto,ag,ah⟩,bN,aJ,aA⟩,gen,au,bk,till,count⟩) (c:=c) ((bY (fr.kind:Int) fr.body (s.1,s.2.l)).1.2.m.ak:Int) (fun w' h'=>HS.out w' h'.drop.drop.drop.drop.drop.drop.drop.drop.drop.drop) hn hb (G7.out.drewN 1))
  have HIB:Hid ((dB ⟨k,⟨⟨src,dst,proto,ag,ah⟩,bN,aJ,aA⟩,gen,au,bk,till,count⟩ ((bY (fr.kind:Int) fr.body (s.1,s.2.l)).1.2.m.ak:Int)).au.length≤1000000):=Lib.hid (Nat.le_trans (DR _ _) hb)
  have HIW:=Lib.hid (nS.dB HWR.out ((bY (fr.kind:Int) fr.body (s.1,s.2.l)).1.2.m.ak:Int))
  clear hA G7 PG HWD
  go_wp2_with fail
  go_region_held3 (fun w'=>w'.cell? ⟨sb,0,none⟩=some (aF lb)∧w'.cell? ⟨sb,1,none⟩=some (pR dA)∧w'.cell? ⟨w.heap.size,0,none⟩=some (.int .i64 k)∧w'.cell? ⟨w.heap.size,1,none⟩=some (.int .u32 src)∧w'.cell? ⟨w.heap.size,2,none⟩=some (.int .u32 dst)∧w'.cell? ⟨w.heap.size,3,none⟩=some (.int .i64 proto)∧w'.cell? ⟨w.heap.size,4,none⟩=some (.int .i64 ag)∧w'.cell? ⟨w.heap.size,5,none⟩=some (.int .i64 ah)∧w'.cell? ⟨w.heap.size,6,none⟩=some (.int .i64 bN)∧w'.cell? ⟨w.heap.size,7,none⟩=some (.int .i64 aJ)∧w'.cell? ⟨w.heap.size,8,none⟩=some (.int .i64 aA)∧w'.cell? ⟨w.heap.size,9,none⟩=some (.int .i64 gen)∧w'.cell? ⟨w.heap.size,10,none⟩=some (.slice A au.length c)∧w'.cell? ⟨w.heap.size,11,none⟩=some (.int .i64 bk)∧w'.cell? ⟨w.heap.size,12,none⟩=some (.int .i64 till)∧w'.cell? ⟨w.heap.size,13,none⟩=some (.int .i64 count)) (first | exact hr2 | exact hr1 | exact hr0) (first
   | (go_at_call 66;refine aaq.out.mono ?_;rintro e w5 ⟨rfl,rfl⟩)
   | (go_at_call 68;refine KI.out.mono ?_;rintro e w8 ⟨pv,rfl,g8⟩;obtain⟨Fp,rp⟩:=g8.get 0 rfl;obtain⟨pa,pc,rfl,-,-,-⟩:=ay.shape rp;have hr1:=oD (g8.block 7 rfl) (g8.block 6 rfl);have KP:=Lib.hid (xk (r:=dB ⟨k,⟨⟨src,dst,proto,ag,ah⟩,bN,aJ,aA⟩,gen,au,bk,till,count⟩ ((bY (fr.kind:Int) fr.body (s.1,s.2.l)).1.2.m.ak:Int)) (A:=pa) (c:=pc) (xh rfl 0 rfl) (fun e=>ay.Jz rp e) HIB.out HIW.out (g8.aL (R1:=[_,_,_,_,_,_,_,_,_,_,_]) [5,0,1,2,3,4,6,7,8,9,10] (by decide) rfl));clear g8 rp)
   | (go_at_call 65;refine KP.out.mono ?_;rintro e w9 ⟨rfl,g9⟩;have hr2:=oD (g9.block 7 rfl) (g9.block 6 rfl);have G9:=Lib.hid g9;clear g9))
  have G:=Lib.hid (In.lY (s:=s.2.sure) (lb:=lb) (dA:=dA) (G9.out.aL (R1:=[_,_,_,_,_,_,_,_,_,_,_]) [7,8,9,10,2,3,0] (by decide) rfl))
  clear G9 hr0 hr1 hr2 KP KI aaq
  go_wp2_with fail
  go_ret
  exact⟨by rw [WR.out,Ww.out];rfl,by rw [WR.out,Ww.out];exact G.out⟩
theorem yB {r:Rec} {A:Option Addr} {c:Nat} {s:SD} (hl:ib s.2.l) (ho:s.1.ops≤99990000) (hs:gZ F0 w0 R A r.au) (hn:A=none→c=0) (hb:r.au.length≤1000000) (wr:nS r) (h:In F0 w0 w (vQ sb lb bd dA s R)) :
  Calls Tryz.prog 23 #[pR sb,tq r A c] w fun e w'=>e=.returned (.int .i64 (bW r s).2)∧In F0 w0 w' (vQ sb lb bd dA (bW r s).1 R):=by
 obtain⟨k,⟨⟨src,dst,proto,ag,ah⟩,bN,aJ,aA⟩,gen,au,bk,till,count⟩:=r
 exact LK hl ho hs hn hb wr h
end
instance:Inhabited pK:=⟨⟨default,aH,aH⟩⟩
def rP (n b:Int):Rec:=⟨1,⟨⟨n,0,6,0,0⟩,b,0,0⟩,0,[],0,0,0⟩
def bs0:ae×Option pK×Int:=createS 3 200 (iU 5000)
def bsS:SD:=(bs0.1,bs0.2.1.getD default)
def bs1:SD×Int:=bW (rP 1 7) bsS
def bs2:SD×Int:=jM bs1.1
def bs3:SD×Int:=bW (rP 2 8) bs2.1
def bs4:ae:=gz bs3.1.1 []
def bs5:ae×Option pK×Int:=mg 3 200 bs4
def Na (l:bI):Bool:=decide (16≤l.size∧l.size≤1048576) && fJ l.m
theorem Jg {l:bI} (h:Na l=true):ib l:=by
 simp only [Na,Bool.and_eq_true,decide_eq_true_eq] at h
 exact⟨h.1.1,h.1.2,h.2⟩
section
variable {F0:List Nat} {w0 w:World} {R:List ax}
theorem jP.some {bd:Nat} {r:ae×Option pK×Int} {so:pK} {e:Ending} {w':World} (h:jP bd r F0 w0 R e w') (hl:r.2.1=Option.some so):∃ sb lb dA,e=.returned (.tuple #[pR sb,.int .i64 r.2.2])∧In F0 w0 w' (vQ sb lb bd dA (r.1,so) R):=by
 unfold jP at h;rw [hl] at h;exact h
theorem OQ (x0 x1 x2 x3:Value) (w:World):(Instr.field 26 (.agg #[x0,x1,x2,x3]) 3).run Tryz.prog w=.ok x3 w:=by kernel_rfl
end
def Frz (b:Nat) (C:Array Value) (T:TypeId) (fz:Nat×Nat):ax:=fun w F=>F=[b]∧w.heap[b]?=some (.cells C T fz)
def aw1:ae×Option bI×Int:=cu 3 100 (iU 5000)
def awL:bI:=aw1.2.1.getD default
def aw2:DL×Int:=bY 1 [120] (aw1.1,awL)
def aw3:DL×Int:=fM aw2.1
def aw4:DL×Int:=bY 1 [121] aw3.1
def aw5:ae:=gz aw4.1.1 [0,0,5]
def aw6:Nat×ae×Option bI×Int:=df Yy 100 aw5 0
def abp (l:bI):Bool:=decide (16≤l.size∧l.size≤1048576) && fJ l.m
section
variable {F0:List Nat} {w0 w:World} {R:List ax}
end
section
variable {F0:List Nat} {w0 w:World} {R:List ax}
end
structure LM (w:World) (g o:Nat) (f:cz) (A:Option Addr) (c:Nat):Prop where
 kind:w.cell? ⟨g,o,none⟩=some (.int .i64 f.kind)
 ak:w.cell? ⟨g,o+1,none⟩=some (.int .i64 f.ak)
 val:w.cell? ⟨g,o+2,none⟩=some (.slice A f.body.length c)
 body:Src w A f.body.length 1 (eB f.body)
 nil:A=none→f.body.length=0
def abV (w:World) (a:Option Addr) (fs:List cz):Prop:=∀ k f,fs[k]?=some f→∃ g o A c,a=some ⟨g,o,none⟩∧LM w g (o+k * 3) f A c
section
variable {F0:List Nat} {w0 w:World} {R:List ax}
def aaE (fs gs:List cz) (F0:List Nat) (w0:World) (R:List ax) (i:Value) (wr:World):Prop:=
 ∃ k:Nat,k≤fs.length∧i=.int .i64 k∧fs.take k=gs.take k∧In F0 w0 wr R
end
def abq (w:World) (e:Ending) (w':World):Prop:=e=.returned (.bool true)∧Mod [] w w'
structure abW (M k:Nat) (kind ak:Nat) (size:Nat) (L:List (List UInt8)) (d:ae) (l:bI):Prop where
 EK:eZ d l.m ((L.take k).map (fun b=>⟨kind,ak,b⟩)) 0
 loose:l.loose=false
 size:l.size=size
 ak:l.m.ak=ak
 rm:Rm d ((M - k) * 600+10000) ((M - k) * 2+20)
 aa:l.m.aa.length≤k+1
 next:l.m.next≤k+2
 ops:d.ops≤1000+20 * k
theorem tQ (n:Int):16≤sized n∧sized n≤1048576:=by unfold sized;omega
def abX:ax:=fun w F=>F=[]
section
variable {F0:List Nat} {w0 w:World} {R:List ax}
end
section
variable {H:Type} {enc:TypeId×Value→H} {w:World} {base:Nat} {spare:Nat→Bool} {held:Bool}
theorem YB {a:Option Addr} {len cap:Nat} {d:DataW H} {p:List MemPlace} (h:DataW.Trod enc Tryz.prog w base spare held 65 (.slice a len cap) d p):∃ bs,AB w (.slice a len cap) bs:=
 Ny Tryz.underlying65 Tryz.underlying5 (by kernel_rfl) h
end
theorem LP (r:Rec) (s:SD):(bW r s).1.1.ops≤s.1.ops+11:=by
 have h:=IY ((fI r s).1.kind:Int) (fI r s).1.body (s.1,s.2.l)
 unfold bW
 repeat' split
 all_goals first | exact Nat.le_add_right _ _ | exact h
theorem OT (s:SD):(jM s).1.1.ops≤s.1.ops+2:=OC (s.1,s.2.l)
structure uF (M k z:Nat) (s:SD):Prop where
 rm:∃ Fr kk,rW s Fr kk (M - k)
 size:s.2.l.size=z
 ops:s.1.ops≤1000+20 * k
theorem uF.inv {M k z:Nat} {s:SD} (h:uF M k z s):∃ Fr kk,gH s Fr kk Fr kk:=by
 obtain⟨Fr,kk,g⟩:=h.rm
 exact⟨Fr,kk,g.inv⟩
theorem uF.LQ {M k z:Nat} {s:SD} (h:uF M k z s) (hz:16≤z∧z≤1048576):ib s.2.l:=by
 obtain⟨_,_,g⟩:=h.inv
 exact⟨by rw [h.size];exact hz.1,by rw [h.size];exact hz.2,g.log.now.1⟩
theorem uF.more {M k z:Nat} {s:SD} (h:uF M k z s):uF M (k+1) z s:=by
 obtain⟨Fr,kk,g⟩:=h.rm
 exact⟨⟨Fr,kk,g.less (by omega)⟩,h.size,by have:=h.ops;omega⟩
theorem uF.write {M k z:Nat} {s:SD} (h:uF M k z s) (hk:k < M) {r:Rec} (wr:nS r):uF M (k+1) z (bW r s).1∧(bW r s).1.2.sure=s.2.sure:=by
 obtain⟨Fr,kk,g⟩:=h.rm
 rw [show M - k=(M - (k+1))+1 by omega] at g
 obtain⟨a1,a2,a3,a4⟩:=g.write wr
 have ho:=LP r s
 refine⟨⟨?_,by rw [a1];exact h.size,by have:=h.ops;omega⟩,a3⟩
 rcases a4 with ⟨_,f,b⟩|⟨_,b⟩
 ·exact⟨_,_,b⟩
 ·rw [b];exact⟨Fr,kk,g.less (by omega)⟩
theorem aa5 (n:Int):1≤wrap64 (1+wrap64 ((IntKind.u64.wrap n).tmod 3))∧wrap64 (1+wrap64 ((IntKind.u64.wrap n).tmod 3))≤3:=by
 have e:IntKind.u64.wrap n=n % 18446744073709551616:=rfl
 rw [e]
 have h1:(n % 18446744073709551616).tmod 3=(n % 18446744073709551616) % 3:=Int.tmod_eq_emod_of_nonneg (by omega)
 rw [h1]
 unfold wrap64;omega
theorem SX (q:Int):(iU q).ops=0:=rfl
theorem Jh {v size:Int} {d:ae}:(cu v size d).1.ops≤d.ops+20:=by
 unfold cu
 by_cases h1:v < 1∨3 < v
 ·rw [if_pos h1];exact Nat.le_add_right _ _
 rw [if_neg h1]
 by_cases h2:(bP d.now bG).isSome=true
 ·rw [if_pos h2];exact Nat.le_add_right _ _
 rw [if_neg h2]
 have hb:=kD (μ:=fun d:ae=>d.ops) (r:=bM (dM 1 d) (fun d=>aW d (ai 1))) (f:=fun d=>((aG (firstM v.toNat) d).1,(aG (firstM v.toNat) d).2.2)) (a:=d.ops+3) (b:=5) (kD (μ:=fun d:ae=>d.ops) (a:=d.ops+2) (b:=1) (rH 1 d) fun t=>fP t _) (fun t=>oV _ t)
 simp only
 split
 ·simp only;omega
 ·simp only;omega
theorem uF.start (M:Nat) (hM:M≤62) {v:Int} (hv:1≤v∧v≤3) (size:Int):∃ s:SD,createS v size (iU 300000)=(s.1,some s.2,0)∧uF M 0 (sized size) s∧s.2.st=aH∧s.2.sure=aH∧(s.2.l.m.ak:Int)=v:=by
 obtain⟨s,h1,h2,h3,h4,h5,h6⟩:=rW.start hv size 300000 M (by omega) hM
 refine⟨s,h1,⟨⟨_,_,h2⟩,h6,?_⟩,h3,h4,h5⟩
 have ho:=Jh (v:=v) (size:=size) (d:=iU 300000)
 have e:s.1=(cu v size (iU 300000)).1:=by
  have:=congrArg Prod.fst h1
  rw [← this]
  unfold createS
  cases (cu v size (iU 300000)).2.1 <;> rfl
 rw [e]
 rw [SX] at ho
 omega
section
variable {W:World}
def abr (sb lb bd dA wb n:Nat) (W:World) (i:Value) (wr:World):Prop:=
 ∃ (k:Nat) (s:SD) (A:Option Addr) (a:Nat) (D:Option Addr) (d:Nat) (F:Option Addr) (f:Nat),k≤n∧i=.int .i64 k∧uF 61 k (sized 300) s∧In [] W wr (vQ sb lb bd dA s [Cells wb #[.int .i64 s.2.sure.gen,.slice A s.2.sure.au.length a,.slice D s.2.sure.bL.length d,.slice F s.2.sure.bS.length f] 26,gq (.slice A s.2.sure.au.length a) s.2.sure.au,xA (.slice D s.2.sure.bL.length d) s.2.sure.bL,FM (.slice F s.2.sure.bS.length f) s.2.sure.bS])
end
theorem Cb:∀ (l:List Nat) (s:Nat) (d:ae),dropD (l++[s]) d=(bH (ai s) (dropD l d)).1
 | [],s,d=>rfl
 | x::r,s,d=>by simp only [List.cons_append,dropD];exact Cb r s _
theorem xy:∀ (l:List Nat) (s:Nat) (d:ae),iD (l++[s]) d=(cO (iD l d) (ai s)).1
 | [],s,d=>rfl
 | x::r,s,d=>by simp only [List.cons_append,iD];exact xy r s _
theorem yC:∀ (l:List Nat) (d:ae),(dropD l d).ops≤d.ops+l.length
 | [],d=>Nat.le_refl _
 | x::r,d=>by
  have h1:=yC r (bH (ai x) d).1
  have h2:=kN (ai x) d
  simp only [dropD,List.length_cons];omega
def yD (pn:Value) (lb bd:Nat) (l:bI):ax:=Star [Cells lb (xu bd l pn) 197,ay 3 1 pn l.m.aa.length (cB l.m.aa)]
theorem yD.aB (pn:Value) (lb bd:Nat) (l:bI):bD (yD pn lb bd l):=bD.star (rJ lb bd l pn)
theorem In.Cv {F0:List Nat} {w0 w:World} {R:List ax} {pn:Value} {lb bd:Nat} {l:bI} (h:In F0 w0 w (yD pn lb bd l::R)):In F0 w0 w (eH lb bd l::R):=
 h.imp (A':=eH lb bd l) 0 rfl (eH.aB _ _ _) (fun F hF=>⟨pn,hF⟩)
theorem In.VL {F0:List Nat} {w0 w:World} {R:List ax} {pn:Value} {lb bd:Nat} {l:bI} (h:In F0 w0 w (yD pn lb bd l::R)):In F0 w0 w (ay 3 1 pn l.m.aa.length (cB l.m.aa)::Cells lb (xu bd l pn) 197::R):=
 h.split (A:=Cells lb (xu bd l pn) 197) (B:=ay 3 1 pn l.m.aa.length (cB l.m.aa)) 0 rfl (Cells.aB _ _ _) (ay.aB _ _ _ _ _)
theorem In.Ji {F0:List Nat} {w0 w:World} {R:List ax} {pn:Value} {lb bd:Nat} {l:bI} (h:In F0 w0 w (ay 3 1 pn l.m.aa.length (cB l.m.aa)::Cells lb (xu bd l pn) 197::R)):In F0 w0 w (yD pn lb bd l::R):=
 h.fold (C:=yD pn lb bd l) 0 rfl (yD.aB _ _ _ _) (fun F hF=>hF)
section
variable {F0:List Nat} {w0 w:World} {R:List ax} {bd lb:Nat} {d:ae} {l:bI}
def Gc (lb bd:Nat) (l:bI) (d:ae) (aa:List Nat) (v:Value) (F0:List Nat) (w0:World) (R:List ax) (i:Value) (wr:World):Prop:=
 ∃ k:Nat,k≤aa.length∧i=.int .i64 k∧In F0 w0 wr (eH lb bd l::bJ bd (dropD (aa.take k) d)::ay 3 1 v aa.length (cB aa)::R)
theorem OU {aa:List Nat} {k x:Nat} {v:Value} (hx:aa[k]?=some x) (h:In F0 w0 w (eH lb bd l::bJ bd (bH (ai x) (dropD (aa.take k) d)).1::ay 3 1 v aa.length (cB aa)::R)):Gc lb bd l d aa v F0 w0 R (.int .i64 ((k:Int)+1)) w:=by
 have hk:=(List.getElem?_eq_some_iff.1 hx).1
 refine⟨k+1,hk,by rw [Int.natCast_add];rfl,?_⟩
 rw [List.take_add_one,hx]
 show In F0 w0 w (eH lb bd l::bJ bd (dropD (aa.take k++[x]) d)::_)
 rw [Cb];exact h
theorem SY {aa:List Nat} {k:Nat} (ho:d.ops≤99999000) (hs:aa.length≤100):(dropD (aa.take k) d).ops≤100000000:=by
 have:=yC (aa.take k) d
 rw [List.length_take] at this;omega
theorem Gd {aa:List Nat} {k x:Nat} (hx:aa[k]?=some x):(cB aa)[k]?=some (.int .i64 x):=by simp [cB,hx]
theorem YC {aa:List Nat} {a:Option Addr} {c:Nat} (h:In F0 w0 w (eH lb bd l::bJ bd d::ay 3 1 (.slice a aa.length c) aa.length (cB aa)::R)) (ho:d.ops≤99999000) (hs:aa.length≤100) (hv:∀ x∈aa,x < 4611686018427387904) :
  Calls Tryz.prog 184 #[aF lb,.slice a aa.length c] w fun e w'=>e=.returned (.tuple #[])∧In F0 w0 w' (eH lb bd l::bJ bd (dropD aa d)::ay 3 1 (.slice a aa.length c) aa.length (cB aa)::R):=by
 have HR:Hid (Gc lb bd l d aa (.slice a aa.length c) F0 w0 R (.int .i64 0) w):=Lib.hid ⟨0,Nat.zero_le _,rfl,h⟩
 have HO:=Lib.hid ho
 have HS:=Lib.hid hs
 have HV:=Lib.hid hv
 clear h ho hv
 go_enter Tryz.func184,Tryz.ntmps184
 go_wp2_with fail
 go_loopw [8] (Gc lb bd l d aa (.slice a aa.length c) F0 w0 R) (fun k _=>aa.length - (intOf k).toNat)
 case atStart=>exact HR.out
 case round=>
  obtain⟨k,hk,rfl,dh⟩:=hrel
  clear HR
  by_cases hlt:k < aa.length
  ·obtain⟨x,hx⟩:∃ x,aa[k]?=some x:=⟨aa[k],List.getElem?_eq_getElem hlt⟩
   obtain⟨Fs,hrow⟩:=dh.get 2 rfl
   obtain⟨b,rfl,c0⟩:=hrow.at.2 k _ (Gd hx)
   have hlt':(k:Int) < (aa.length:Int):=Int.ofNat_lt.2 hlt
   have hw2:wrap64 ((k:Int)+1)=(k:Int)+1:=by unfold wrap64;omega
   have HN:=Lib.hid (fun w' h'=>OU (w:=w') (l:=l) (lb:=lb) (bd:=bd) (d:=d) (v:=.slice (some ⟨b,0,none⟩) aa.length c) (F0:=F0) (w0:=w0) (R:=R) hx h')
   have KN:=Lib.hid (pF (dh.drewN 1) x (HV.out x (List.mem_of_getElem? hx)))
   have KC:=Lib.hid (fun w' h'=>zR (w:=w') (F0:=F0) (w0:=w0) (R:=eH lb bd l::bJ bd (dropD (aa.take k) d)::ay 3 1 (.slice (some ⟨b,0,none⟩) aa.length c) aa.length (cB aa)::R) h' 1 rfl (SY HO.out HS.out) (ai x) (dx x))
   have hl0:=dh.Lt
   have XD:=Lib.hid (fun w' (h':In F0 w0 w' (eH lb bd l::bJ bd (dropD (aa.take k) d)::ay 3 1 (.slice (some ⟨b,0,none⟩) aa.length c) aa.length (cB aa)::R))=>h'.Lt)
   clear dh hrow hk hlt hx hs
   go_wp2_with fail
   go_region_held3 (fun w'=>w'.cell? ⟨lb,0,none⟩=some (aF bd)) (first | exact hl1 | go_keep)
    (first
     | (go_at_call 123;refine KN.out.mono ?_;rintro e w1 ⟨rfl,g1⟩;have hl1:=XD.out w1 g1;have K1:=Lib.hid (KC.out w1 g1);clear g1)
     | (go_at_call 193;refine K1.out.mono ?_;rintro e w2 ⟨rfl,g2⟩;have hl1:=In.Lt g2;have vH:=Lib.hid (HN.out w2 g2);clear g2))
   go_wp2_with fail
   go_roundw
   case rel=>(try rw [hw2]);exact vH.out
   case measure=>(try rw [hw2]);exact dS hlt'
  ·have hge:(aa.length:Int)≤(k:Int):=Int.ofNat_le.2 (Nat.le_of_not_lt hlt)
   have hkl:aa.take k=aa:=List.take_of_length_le (Nat.le_of_not_lt hlt)
   rw [hkl] at dh
   have G:=Lib.hid dh
   clear dh hkl hlt hk
   go_wp2_with fail
   go_end0
   exact⟨rfl,G.out⟩
end
end Go.Proofs.YtanhdliaaccacaaGreat
