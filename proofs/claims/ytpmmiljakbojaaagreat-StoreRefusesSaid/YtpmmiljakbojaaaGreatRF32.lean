/- Rows.StoreRefusesSaid -/
import Derived.Test.YtpmmiljakbojaaaGreatRF29
import Derived.Test.YtpmmiljakbojaaaGreatRF17
import Derived.Test.YtpmmiljakbojaaaGreatRF31
import Derived.Test.YtpmmiljakbojaaaGreatRF16
import Derived.Test.YtpmmiljakbojaaaGreatRF28
import Derived.Test.YtpmmiljakbojaaaGreatRF26
import Derived.Test.YtpmmiljakbojaaaGreatRF27
import Derived.Deep.RegionHeld3
import Derived.LoopTactic
import Derived.StillTailTactics
import Derived.Test.YtpmmiljakbojaaaGreatRF11
import Derived.Test.YtpmmiljakbojaaaGreatRF5
namespace Go.Proofs.YtpmmiljakbojaaaGreat
open Go.RowKit
set_option linter.unusedVariables false
set_option maxHeartbeats 64000000
set_option maxRecDepth 100000
section
variable {F0:List Nat} {w0 w:World} {R:List Asrt} {sb lb bd stb:Nat}
theorem BksAt.moreL {A:Option Addr} {l:List Bk}:∀ (X:List Asrt),BksAt F0 w0 R A l→BksAt F0 w0 (X++R) A l
 | [],h=>h
 | Y::X,h=>fun w' h'=>BksAt.moreL X h w' h'.drop
theorem sw_of {k src dst proto sport dport fbk fgen fseen gen bk till count:Int} {bks:List Bk} {A:Option Addr} {c:Nat} {g:Nat} {W:World} {y:Int} {v1 v2 v3:Value} (h1:W.heap[sb]?=some (.cells (soC lb stb y v1 v2 v3) 71 (0,0))) (h2:W.heap[g]?=some (.cells #[.int .i64 k,.int .u32 src,.int .u32 dst,.int .i64 proto,.int .i64 sport,.int .i64 dport,.int .i64 fbk,.int .i64 fgen,.int .i64 fseen,.int .i64 gen,.slice A bks.length c,.int .i64 bk,.int .i64 till,.int .i64 count] 39 (0,0))):W.cell? ⟨sb,0,none⟩=some (dptr lb)∧W.cell? ⟨sb,1,none⟩=some (pR stb)∧W.cell? ⟨g,0,none⟩=some (.int .i64 k)∧W.cell? ⟨g,1,none⟩=some (.int .u32 src)∧W.cell? ⟨g,2,none⟩=some (.int .u32 dst)∧W.cell? ⟨g,3,none⟩=some (.int .i64 proto)∧W.cell? ⟨g,4,none⟩=some (.int .i64 sport)∧W.cell? ⟨g,5,none⟩=some (.int .i64 dport)∧W.cell? ⟨g,6,none⟩=some (.int .i64 fbk)∧W.cell? ⟨g,7,none⟩=some (.int .i64 fgen)∧W.cell? ⟨g,8,none⟩=some (.int .i64 fseen)∧W.cell? ⟨g,9,none⟩=some (.int .i64 gen)∧W.cell? ⟨g,10,none⟩=some (.slice A bks.length c)∧W.cell? ⟨g,11,none⟩=some (.int .i64 bk)∧W.cell? ⟨g,12,none⟩=some (.int .i64 till)∧W.cell? ⟨g,13,none⟩=some (.int .i64 count):=
 ⟨cell_of h1 rfl,cell_of h1 rfl,cell_of h2 rfl,cell_of h2 rfl,cell_of h2 rfl,cell_of h2 rfl,cell_of h2 rfl,cell_of h2 rfl,cell_of h2 rfl,cell_of h2 rfl,cell_of h2 rfl,cell_of h2 rfl,cell_of h2 rfl,cell_of h2 rfl,cell_of h2 rfl,cell_of h2 rfl⟩
theorem writeS_bad {r:Rec} {s:SD} (h:mayRec r=false∨r.kind=6):writeS r s=(s,1):=by unfold writeS;rw [if_pos h]
theorem writeS_no {r:Rec} {s:SD} (h1:mayRec r=true) (h2:r.kind≠6) (h3:(applySt s.2.st r).2≠0):writeS r s=(s,(applySt s.2.st r).2):=by
 unfold writeS;rw [if_neg (by simp [h1,h2]),if_pos h3]
theorem writeS_fail {r:Rec} {s:SD} (h1:mayRec r=true) (h2:r.kind≠6) (h3:(applySt s.2.st r).2=0) (h4:(writeE r s).2=0) (h5:(writeA r s).2≠0):writeS r s=(((writeA r s).1.1,⟨(writeA r s).1.2,s.2.st,s.2.sure⟩),(writeA r s).2):=by
 unfold writeS;rw [if_neg (by simp [h1,h2]),if_neg (by simp [h3]),if_neg (by simp [h4]),if_pos h5]
theorem writeS_done {r:Rec} {s:SD} (h1:mayRec r=true) (h2:r.kind≠6) (h3:(applySt s.2.st r).2=0) (h4:(writeE r s).2=0) (h5:(writeA r s).2=0):writeS r s=(((writeA r s).1.1,⟨(writeA r s).1.2,(applySt s.2.st (inRec r (writeA r s).1.2.m.ver)).1,s.2.sure⟩),(applySt s.2.st (inRec r (writeA r s).1.2.m.ver)).2):=by
 unfold writeS;rw [if_neg (by simp [h1,h2]),if_neg (by simp [h3]),if_neg (by simp [h4]),if_neg (by simp [h5])]
theorem fq_of {g:Nat} {W:World} {y:Int} {v1 v2 v3 a b e:Value} (h1:W.heap[sb]?=some (.cells (soC lb stb y v1 v2 v3) 71 (0,0))) (h2:W.heap[g]?=some (.cells #[a,b,e] 74 (0,0))):W.cell? ⟨sb,0,none⟩=some (dptr lb)∧W.cell? ⟨g,0,none⟩=some a∧W.cell? ⟨g,2,none⟩=some e:=⟨cell_of h1 rfl,cell_of h2 rfl,cell_of h2 rfl⟩
theorem inRec_bks (r:Rec) (v:Int):(inRec r v).bks.length≤r.bks.length:=by
 unfold inRec
 split
 ·simp [zeroRec]
 ·simp only [List.length_map]
  unfold plainRec
  repeat' split
  all_goals simp
def WCut (r:Rec) (fr:FrD) (g sb lb bd stb:Nat) (A:Option Addr) (c:Nat) (s:SD) (X:Option Addr) (x:Nat) (D:Option Addr) (d:Nat) (F:Option Addr) (f:Nat) (F0:List Nat) (w0:World) (R:List Asrt) (x6 x7:Value) (wx:World):Prop:=
 ∃ fb v,x6=pR fb∧x7=.int .i64 0∧In F0 w0 wx (Cells fb #[.int .i64 fr.kind,.int .i64 fr.ver,v] 74::bodyA v fr::StA stb s.2.st::Cells g (encRL r (.slice A r.bks.length c)).toArray 39::Cells sb (soC lb stb s.2.sure.gen (.slice X s.2.sure.bks.length x) (.slice D s.2.sure.drs.length d) (.slice F s.2.sure.fls.length f)) 71::BkR (.slice X s.2.sure.bks.length x) s.2.sure.bks::DrR (.slice D s.2.sure.drs.length d) s.2.sure.drs::FlR (.slice F s.2.sure.fls.length f) s.2.sure.fls::LgA lb bd s.2.l::DkA bd s.1::R)
theorem o_sowrite0 {k src dst proto sport dport fbk fgen fseen gen bk till count:Int} {bks:List Bk} {A:Option Addr} {c:Nat} {s:SD} (hl:LgOk s.2.l) (ho:s.1.ops≤99990000) (hs:BksAt F0 w0 R A bks) (hn:A=none→c=0) (hb:bks.length≤1000000) (wr:WfR ⟨k,⟨⟨src,dst,proto,sport,dport⟩,fbk,fgen,fseen⟩,gen,bks,bk,till,count⟩) (h:In F0 w0 w (SoL sb lb bd stb s R)) :
  Calls Tryz.prog 8 #[pR sb,agR ⟨k,⟨⟨src,dst,proto,sport,dport⟩,fbk,fgen,fseen⟩,gen,bks,bk,till,count⟩ A c] w fun e w'=>e=.returned (.int .i64 (writeS ⟨k,⟨⟨src,dst,proto,sport,dport⟩,fbk,fgen,fseen⟩,gen,bks,bk,till,count⟩ s).2)∧In F0 w0 w' (SoL sb lb bd stb (writeS ⟨k,⟨⟨src,dst,proto,sport,dport⟩,fbk,fgen,fseen⟩,gen,bks,bk,till,count⟩ s).1 R):=by
 obtain⟨X,x,D,d,F,f,g0⟩:=h.soOpen
 have g1:=g0.cells #[.int .i64 k,.int .u32 src,.int .u32 dst,.int .i64 proto,.int .i64 sport,.int .i64 dport,.int .i64 fbk,.int .i64 fgen,.int .i64 fseen,.int .i64 gen,.slice A bks.length c,.int .i64 bk,.int .i64 till,.int .i64 count] 39
 have hbc:Hid (∀ w' l st,In F0 w0 w' (Cells sb (soC lb stb s.2.sure.gen (.slice X s.2.sure.bks.length x) (.slice D s.2.sure.drs.length d) (.slice F s.2.sure.fls.length f)) 71::BkR (.slice X s.2.sure.bks.length x) s.2.sure.bks::DrR (.slice D s.2.sure.drs.length d) s.2.sure.drs::FlR (.slice F s.2.sure.fls.length f) s.2.sure.fls::LgA lb bd l::DkA bd s.1::StA stb st::R)→In F0 w0 w' (SoL sb lb bd stb (s.1,⟨l,st,s.2.sure⟩) R)):=Lib.hid (fun w' l st h'=>In.soClose (s:=s.2.sure) (lb:=lb) (stb:=stb) h')
 have HG:=Lib.hid g0
 have K1:Hid (Calls Tryz.prog 22 #[agR ⟨k,⟨⟨src,dst,proto,sport,dport⟩,fbk,fgen,fseen⟩,gen,bks,bk,till,count⟩ A c] (w.alloc (.cells #[.int .i64 k,.int .u32 src,.int .u32 dst,.int .i64 proto,.int .i64 sport,.int .i64 dport,.int .i64 fbk,.int .i64 fgen,.int .i64 fseen,.int .i64 gen,.slice A bks.length c,.int .i64 bk,.int .i64 till,.int .i64 count] 39)) fun e w'=>e=.returned (.bool (mayRec ⟨k,⟨⟨src,dst,proto,sport,dport⟩,fbk,fgen,fseen⟩,gen,bks,bk,till,count⟩))∧In F0 w0 w' (Cells w.heap.size #[.int .i64 k,.int .u32 src,.int .u32 dst,.int .i64 proto,.int .i64 sport,.int .i64 dport,.int .i64 fbk,.int .i64 fgen,.int .i64 fseen,.int .i64 gen,.slice A bks.length c,.int .i64 bk,.int .i64 till,.int .i64 count] 39::Cells sb (soC lb stb s.2.sure.gen (.slice X s.2.sure.bks.length x) (.slice D s.2.sure.drs.length d) (.slice F s.2.sure.fls.length f)) 71::BkR (.slice X s.2.sure.bks.length x) s.2.sure.bks::DrR (.slice D s.2.sure.drs.length d) s.2.sure.drs::FlR (.slice F s.2.sure.fls.length f) s.2.sure.fls::LgA lb bd s.2.l::DkA bd s.1::StA stb s.2.st::R)):=Lib.hid (o_rcmay (r:=⟨k,⟨⟨src,dst,proto,sport,dport⟩,fbk,fgen,fseen⟩,gen,bks,bk,till,count⟩) (c:=c) (hs.moreL [Cells w.heap.size #[.int .i64 k,.int .u32 src,.int .u32 dst,.int .i64 proto,.int .i64 sport,.int .i64 dport,.int .i64 fbk,.int .i64 fgen,.int .i64 fseen,.int .i64 gen,.slice A bks.length c,.int .i64 bk,.int .i64 till,.int .i64 count] 39,Cells sb (soC lb stb s.2.sure.gen (.slice X s.2.sure.bks.length x) (.slice D s.2.sure.drs.length d) (.slice F s.2.sure.fls.length f)) 71,BkR (.slice X s.2.sure.bks.length x) s.2.sure.bks,DrR (.slice D s.2.sure.drs.length d) s.2.sure.drs,FlR (.slice F s.2.sure.fls.length f) s.2.sure.fls,LgA lb bd s.2.l,DkA bd s.1,StA stb s.2.st]) (Nat.le_trans hb (by decide)) g1)
 have hver:verOk (s.2.l.m.ver:Int)=true:=by
  have:=(mayM_iff.1 hl.2.2).1
  unfold verOk;simp;omega
 cases hm:mayRec ⟨k,⟨⟨src,dst,proto,sport,dport⟩,fbk,fgen,fseen⟩,gen,bks,bk,till,count⟩ with
 | false=>
  rw [writeS_bad (Or.inl hm)]
  rw [hm] at K1
  clear h g0 g1 hs wr HG hl ho hm hver
  go_enter Tryz.func8,Tryz.ntmps8
  go_wp2_with fail
  refine K1.out.mono ?_
  rintro e w2 ⟨rfl,g2⟩
  have G:=Lib.hid (hbc.out _ _ _ g2.drop)
  clear g2 K1 hbc
  go_wp2_with fail
  go_ret
  exact⟨rfl,G.out⟩
 | true=>
 rw [hm] at K1
 have HM:=Lib.hid hm
 clear hm
 by_cases h6:k=6
 ·subst h6
  rw [writeS_bad (Or.inr rfl)]
  clear h g0 g1 hs wr HG hl ho hver HM
  go_enter Tryz.func8,Tryz.ntmps8
  go_wp2_with fail
  refine K1.out.mono ?_
  rintro e w2 ⟨rfl,g2⟩
  have c0:w2.cell? ⟨w.heap.size,0,none⟩=some (.int .i64 6):=cell_of (g2.block 0 rfl) rfl
  have G:=Lib.hid (hbc.out _ _ _ g2.drop)
  clear g2 K1 hbc
  go_wp2_with fail
  go_ret
  exact⟨rfl,G.out⟩
 have q6:(k == 6)=false:=by rw [beq_eq_false_iff_ne];exact h6
 have H6:=Lib.hid h6
 have HS:=Lib.hid hs
 have HL:=Lib.hid hl
 have HOP:=Lib.hid ho
 have HV:=Lib.hid hver
 have HWR:=Lib.hid wr
 clear h g0 g1 hs HG hl ho hver h6 wr
 go_enter Tryz.func8,Tryz.ntmps8
 go_wp2_with fail
 refine K1.out.mono ?_
 rintro e w2 ⟨rfl,g2⟩
 have c0:w2.cell? ⟨w.heap.size,0,none⟩=some (.int .i64 k):=cell_of (g2.block 0 rfl) rfl
 have hz2:=sw_of ((g2.drewN 1).block 1 rfl) ((g2.drewN 1).block 0 rfl)
 have hsb:sb≠w.heap.size:=fun e=>(g2.ne 0 1 (by decide) rfl rfl) e.symm
 have K2:=Lib.hid (o_stcopy ((g2.drewN 1).sel2 (R1:=[_,_,_,_,_,_,_,_]) [7,0,1,2,3,4,5,6] (by decide) rfl))
 clear g2 K1
 go_wp2_with fail
 go_region_held3 (fun w'=>w'.cell? ⟨sb,0,none⟩=some (dptr lb)∧w'.cell? ⟨sb,1,none⟩=some (pR stb)∧w'.cell? ⟨w.heap.size,0,none⟩=some (.int .i64 k)∧w'.cell? ⟨w.heap.size,1,none⟩=some (.int .u32 src)∧w'.cell? ⟨w.heap.size,2,none⟩=some (.int .u32 dst)∧w'.cell? ⟨w.heap.size,3,none⟩=some (.int .i64 proto)∧w'.cell? ⟨w.heap.size,4,none⟩=some (.int .i64 sport)∧w'.cell? ⟨w.heap.size,5,none⟩=some (.int .i64 dport)∧w'.cell? ⟨w.heap.size,6,none⟩=some (.int .i64 fbk)∧w'.cell? ⟨w.heap.size,7,none⟩=some (.int .i64 fgen)∧w'.cell? ⟨w.heap.size,8,none⟩=some (.int .i64 fseen)∧w'.cell? ⟨w.heap.size,9,none⟩=some (.int .i64 gen)∧w'.cell? ⟨w.heap.size,10,none⟩=some (.slice A bks.length c)∧w'.cell? ⟨w.heap.size,11,none⟩=some (.int .i64 bk)∧w'.cell? ⟨w.heap.size,12,none⟩=some (.int .i64 till)∧w'.cell? ⟨w.heap.size,13,none⟩=some (.int .i64 count)) (first | exact hz4 | exact hz3 | exact hz2) (first
  | (go_at_call 23;refine K2.out.mono ?_;rintro e w3 ⟨sb2,rfl,g3⟩;have hz3:=sw_of (g3.block 3 rfl) (g3.block 2 rfl);have K3:=Lib.hid (o_apply (r:=⟨k,⟨⟨src,dst,proto,sport,dport⟩,fbk,fgen,fseen⟩,gen,bks,bk,till,count⟩) (HS.out.moreL [StA stb s.2.st,Cells w.heap.size #[.int .i64 k,.int .u32 src,.int .u32 dst,.int .i64 proto,.int .i64 sport,.int .i64 dport,.int .i64 fbk,.int .i64 fgen,.int .i64 fseen,.int .i64 gen,.slice A bks.length c,.int .i64 bk,.int .i64 till,.int .i64 count] 39,Cells sb (soC lb stb s.2.sure.gen (.slice X s.2.sure.bks.length x) (.slice D s.2.sure.drs.length d) (.slice F s.2.sure.fls.length f)) 71,BkR (.slice X s.2.sure.bks.length x) s.2.sure.bks,DrR (.slice D s.2.sure.drs.length d) s.2.sure.drs,FlR (.slice F s.2.sure.fls.length f) s.2.sure.fls,LgA lb bd s.2.l,DkA bd s.1]) hn hb HWR.out g3);clear g3)
  | (go_at_call 24;refine K3.out.mono ?_;rintro e w4 ⟨rfl,g4⟩;have hz4:=sw_of (g4.block 3 rfl) (g4.block 2 rfl);have G4:=Lib.hid g4.drop;clear g4))
 clear hz2 hz3 hz4 K2 K3
 by_cases he:(applySt s.2.st ⟨k,⟨⟨src,dst,proto,sport,dport⟩,fbk,fgen,fseen⟩,gen,bks,bk,till,count⟩).2=0
 case neg=>
  have HWE:=Lib.hid (writeS_no HM.out H6.out he)
  have q:((applySt s.2.st ⟨k,⟨⟨src,dst,proto,sport,dport⟩,fbk,fgen,fseen⟩,gen,bks,bk,till,count⟩).2 != 0)=true:=by rw [bne_iff_ne];exact he
  have G:=Lib.hid (hbc.out _ _ _ (G4.out.sel2 (R1:=[_,_,_,_,_,_,_,_]) [2,3,4,5,6,7,0] (by decide) rfl))
  clear he G4 hbc
  generalize (applySt s.2.st ⟨k,⟨⟨src,dst,proto,sport,dport⟩,fbk,fgen,fseen⟩,gen,bks,bk,till,count⟩).2=er at *
  go_wp2_with fail
  go_ret
  exact⟨by rw [HWE.out];rfl,by rw [HWE.out];exact G.out⟩
 rw [he]
 have henc:=(dec_enc HWR.out HV.out HM.out).1
 have hok:=(enc_ok (r:=⟨k,⟨⟨src,dst,proto,sport,dport⟩,fbk,fgen,fseen⟩,gen,bks,bk,till,count⟩) (v:=s.2.l.m.ver) henc).1
 have HWA:Hid (writeA ⟨k,⟨⟨src,dst,proto,sport,dport⟩,fbk,fgen,fseen⟩,gen,bks,bk,till,count⟩ s=appendL ((encRec ⟨k,⟨⟨src,dst,proto,sport,dport⟩,fbk,fgen,fseen⟩,gen,bks,bk,till,count⟩ s.2.l.m.ver).1.kind:Int) (encRec ⟨k,⟨⟨src,dst,proto,sport,dport⟩,fbk,fgen,fseen⟩,gen,bks,bk,till,count⟩ s.2.l.m.ver).1.body (s.1,s.2.l)):=Lib.hid rfl
 have HWF:=Lib.hid (fun h5=>writeS_fail (s:=s) HM.out H6.out he henc h5)
 have HWD:=Lib.hid (fun h5=>writeS_done (s:=s) HM.out H6.out he henc h5)
 have hy0:=sw_of ((G4.out.drewN 1).block 2 rfl) ((G4.out.drewN 1).block 1 rfl)
 have KVn:=Lib.hid (o_version ((G4.out.drewN 1).sel2 (R1:=[_,_,_,_,_,_,_,_]) [6,0,1,2,3,4,5,7] (by decide) rfl))
 have KE:=o_rcenc (r:=⟨k,⟨⟨src,dst,proto,sport,dport⟩,fbk,fgen,fseen⟩,gen,bks,bk,till,count⟩) (c:=c) (s.2.l.m.ver:Int) (HS.out.moreL [StA stb s.2.st,Cells w.heap.size #[.int .i64 k,.int .u32 src,.int .u32 dst,.int .i64 proto,.int .i64 sport,.int .i64 dport,.int .i64 fbk,.int .i64 fgen,.int .i64 fseen,.int .i64 gen,.slice A bks.length c,.int .i64 bk,.int .i64 till,.int .i64 count] 39,Cells sb (soC lb stb s.2.sure.gen (.slice X s.2.sure.bks.length x) (.slice D s.2.sure.drs.length d) (.slice F s.2.sure.fls.length f)) 71,BkR (.slice X s.2.sure.bks.length x) s.2.sure.bks,DrR (.slice D s.2.sure.drs.length d) s.2.sure.drs,FlR (.slice F s.2.sure.fls.length f) s.2.sure.fls,LgA lb bd s.2.l,DkA bd s.1]) HWR.out hb (G4.out.drewN 1)
 rw [show encRec ⟨k,⟨⟨src,dst,proto,sport,dport⟩,fbk,fgen,fseen⟩,gen,bks,bk,till,count⟩ s.2.l.m.ver=((encRec ⟨k,⟨⟨src,dst,proto,sport,dport⟩,fbk,fgen,fseen⟩,gen,bks,bk,till,count⟩ s.2.l.m.ver).1,0) from by rw [← henc]] at KE
 have KE2:=Lib.hid KE
 have z0:=(G4.out.drewN 1).cells #[.int .i64 0,.int .i64 0,.slice none 0 0] 74
 have hyz:=sw_of (z0.block 3 rfl) (z0.block 2 rfl)
 have KVz:=Lib.hid (o_version (z0.sel2 (R1:=[_,_,_,_,_,_,_,_,_]) [7,0,1,2,3,4,5,6,8] (by decide) rfl))
 have KEz:=o_rcenc (r:=⟨k,⟨⟨src,dst,proto,sport,dport⟩,fbk,fgen,fseen⟩,gen,bks,bk,till,count⟩) (c:=c) (s.2.l.m.ver:Int) (HS.out.moreL [Cells (w4.drewN 1).heap.size #[.int .i64 0,.int .i64 0,.slice none 0 0] 74,StA stb s.2.st,Cells w.heap.size #[.int .i64 k,.int .u32 src,.int .u32 dst,.int .i64 proto,.int .i64 sport,.int .i64 dport,.int .i64 fbk,.int .i64 fgen,.int .i64 fseen,.int .i64 gen,.slice A bks.length c,.int .i64 bk,.int .i64 till,.int .i64 count] 39,Cells sb (soC lb stb s.2.sure.gen (.slice X s.2.sure.bks.length x) (.slice D s.2.sure.drs.length d) (.slice F s.2.sure.fls.length f)) 71,BkR (.slice X s.2.sure.bks.length x) s.2.sure.bks,DrR (.slice D s.2.sure.drs.length d) s.2.sure.drs,FlR (.slice F s.2.sure.fls.length f) s.2.sure.fls,LgA lb bd s.2.l,DkA bd s.1]) HWR.out hb z0
 rw [show encRec ⟨k,⟨⟨src,dst,proto,sport,dport⟩,fbk,fgen,fseen⟩,gen,bks,bk,till,count⟩ s.2.l.m.ver=((encRec ⟨k,⟨⟨src,dst,proto,sport,dport⟩,fbk,fgen,fseen⟩,gen,bks,bk,till,count⟩ s.2.l.m.ver).1,0) from by rw [← henc]] at KEz
 have KEz2:=Lib.hid KEz
 clear KE KEz henc he G4 z0
 generalize (encRec ⟨k,⟨⟨src,dst,proto,sport,dport⟩,fbk,fgen,fseen⟩,gen,bks,bk,till,count⟩ s.2.l.m.ver).1=fr at *
 have HFO:=Lib.hid hok
 clear hok
 go_upto_region 6 with fail
 go_cut [6,7] (fun x6 x7 wx=>WCut ⟨k,⟨⟨src,dst,proto,sport,dport⟩,fbk,fgen,fseen⟩,gen,bks,bk,till,count⟩ fr w.heap.size sb lb bd stb A c s X x D d F f F0 w0 R x6 x7 wx)
 case first=>
  refine e_start (fun w'=>w'.cell? ⟨sb,0,none⟩=some (dptr lb)∧w'.cell? ⟨sb,1,none⟩=some (pR stb)∧w'.cell? ⟨w.heap.size,0,none⟩=some (.int .i64 k)∧w'.cell? ⟨w.heap.size,1,none⟩=some (.int .u32 src)∧w'.cell? ⟨w.heap.size,2,none⟩=some (.int .u32 dst)∧w'.cell? ⟨w.heap.size,3,none⟩=some (.int .i64 proto)∧w'.cell? ⟨w.heap.size,4,none⟩=some (.int .i64 sport)∧w'.cell? ⟨w.heap.size,5,none⟩=some (.int .i64 dport)∧w'.cell? ⟨w.heap.size,6,none⟩=some (.int .i64 fbk)∧w'.cell? ⟨w.heap.size,7,none⟩=some (.int .i64 fgen)∧w'.cell? ⟨w.heap.size,8,none⟩=some (.int .i64 fseen)∧w'.cell? ⟨w.heap.size,9,none⟩=some (.int .i64 gen)∧w'.cell? ⟨w.heap.size,10,none⟩=some (.slice A bks.length c)∧w'.cell? ⟨w.heap.size,11,none⟩=some (.int .i64 bk)∧w'.cell? ⟨w.heap.size,12,none⟩=some (.int .i64 till)∧w'.cell? ⟨w.heap.size,13,none⟩=some (.int .i64 count)) (by kernel_rfl) hy0 (fun hS=>?_)
  refine e_take (i:=0) (v:=?_) rfl (by kernel_rfl) (fun _ _ _ h=>h) (by rfl) ?_ hS ?_
  rotate_left
  ·(intro w hSw;(try dsimp only at hSw);go_simp;try with_reducible rfl)
  try simp only [Act.put,List.setIfInBounds_toArray,List.set_cons_zero,List.set_cons_succ]
  refine e_take (i:=1) (v:=?_) rfl (by kernel_rfl) (fun _ _ _ h=>h) (by rfl) ?_ hS ?_
  rotate_left
  ·(intro w hSw;(try dsimp only at hSw);go_simp;try with_reducible rfl)
  try simp only [Act.put,List.setIfInBounds_toArray,List.set_cons_zero,List.set_cons_succ]
  refine e_take (i:=2) (v:=?_) rfl (by kernel_rfl) (fun _ _ _ h=>h) (by rfl) ?_ hS ?_
  rotate_left
  ·(intro w hSw;(try dsimp only at hSw);go_simp;try with_reducible rfl)
  try simp only [Act.put,List.setIfInBounds_toArray,List.set_cons_zero,List.set_cons_succ]
  refine e_take (i:=3) (v:=?_) rfl (by kernel_rfl) (fun _ _ _ h=>h) (by rfl) ?_ hS ?_
  rotate_left
  ·(intro w hSw;(try dsimp only at hSw);go_simp;try with_reducible rfl)
  try simp only [Act.put,List.setIfInBounds_toArray,List.set_cons_zero,List.set_cons_succ]
  refine e_take (i:=4) (v:=?_) rfl (by kernel_rfl) (fun _ _ _ h=>h) (by rfl) ?_ hS ?_
  rotate_left
  ·(intro w hSw;(try dsimp only at hSw);go_simp;try with_reducible rfl)
  try simp only [Act.put,List.setIfInBounds_toArray,List.set_cons_zero,List.set_cons_succ]
  refine e_two (i:=5) (j:=10) rfl rfl (by kernel_rfl) (fun K' hK=>?_) (fun K' hK=>?_)
  ·go_simp
   go_at_call 26
   refine KVn.out.mono ?_
   rintro e w5 ⟨rfl,rfl⟩
   refine hK.out _ _ hy0 (fun hS=>?_)
   clear hK K'
   try simp only [Act.put,List.setIfInBounds_toArray,List.set_cons_zero,List.set_cons_succ]
   refine e_two (i:=6) (j:=10) rfl rfl (by kernel_rfl) (fun K' hK=>?_) (fun K' hK=>?_)
   ·go_simp
    go_at_call 25
    refine KE2.out.mono ?_
    rintro e w6 ⟨v,rfl,g6⟩
    obtain⟨Fv,rv⟩:=g6.get 0 rfl
    obtain⟨va,vc,rfl,-,-,-⟩:=RowA.shape rv
    clear rv
    have hy1:=sw_of (g6.block 3 rfl) (g6.block 2 rfl)
    have g7z:=g6.cells #[.int .i64 0,.int .i64 0,.slice none 0 0] 74
    have hyy:=sw_of (g7z.block 4 rfl) (g7z.block 3 rfl)
    have ht:=Lib.hid (there_of (g7z.block 0 rfl))
    have g7:=g7z.setFull 0 rfl (xs:=[.int .i64 fr.kind,.int .i64 fr.ver,.slice va fr.body.length vc]) (b:=w6.heap.size) (C:=#[.int .i64 0,.int .i64 0,.slice none 0 0]) (T:=74) rfl
    have hy3:=sw_of (g7.block 4 rfl) (g7.block 3 rfl)
    have G7:=Lib.hid g7
    clear g7 g7z
    clear g6
    refine hK.out _ _ hy1 (fun hS=>?_)
    clear hK K'
    try simp only [Act.put,List.setIfInBounds_toArray,List.set_cons_zero,List.set_cons_succ]
    refine e_take (i:=7) (v:=?_) rfl (by kernel_rfl) (fun _ _ _ h=>h) (by rfl) ?_ hS ?_
    rotate_left
    ·(intro w hSw;(try dsimp only at hSw);go_simp;try with_reducible rfl)
    try simp only [Act.put,List.setIfInBounds_toArray,List.set_cons_zero,List.set_cons_succ]
    refine e_take (i:=8) (v:=?_) rfl (by kernel_rfl) (fun _ _ _ h=>h) (by rfl) ?_ hS ?_
    rotate_left
    ·(intro w hSw;(try dsimp only at hSw);go_simp;try with_reducible rfl)
    try simp only [Act.put,List.setIfInBounds_toArray,List.set_cons_zero,List.set_cons_succ]
    refine e_take (i:=9) (v:=?_) rfl (by kernel_rfl) (fun _ _ _ h=>h) (by rfl) ?_ hS ?_
    rotate_left
    ·(intro w hSw;(try dsimp only at hSw);go_simp;try with_reducible rfl)
    try simp only [Act.put,List.setIfInBounds_toArray,List.set_cons_zero,List.set_cons_succ]
    refine e_pin (i:=10) rfl (by kernel_rfl) (fun K' hK=>?_)
    go_simp
    refine hK.out _ _ hyy (fun hS=>?_)
    clear hK K'
    try simp only [Act.put,List.setIfInBounds_toArray,List.set_cons_zero,List.set_cons_succ]
    refine e_pin (i:=11) rfl (by kernel_rfl) (fun K' hK=>?_)
    rw [if_pos (by rfl)]
    refine wp_store_mid 74 (.tmp 6) (.tmp 39) rfl w6.heap.size 0 #[.int .i64 fr.kind,.int .i64 fr.ver,.slice va fr.body.length vc] (by rfl) (by rfl) ht.out (by kernel_rfl) (by simp [Value.oneCell']) ?_
    refine hK.out _ _ hy3 (fun hS=>?_)
    clear hK K'
    try simp only [Act.put,List.setIfInBounds_toArray,List.set_cons_zero,List.set_cons_succ]
    refine e_last (i:=12) rfl (by kernel_rfl) (fun K' hK=>?_)
    go_simp
    refine hK.out _ _ ?_
    clear hK K'
    go_wp2_with fail
    go_meet
    exact⟨_,_,rfl,rfl,G7.out.sel2 (R1:=[_,_]) [0,1] (by decide) rfl⟩
   ·go_simp
    refine hK.out _ _ hyz (fun hS=>?_)
    clear hK K'
    try simp only [Act.put,List.setIfInBounds_toArray,List.set_cons_zero,List.set_cons_succ]
    refine e_pin (i:=6) rfl (by kernel_rfl) (fun K' hK=>?_)
    go_simp
    go_at_call 25
    refine KEz2.out.mono ?_
    rintro e w6 ⟨v,rfl,g6⟩
    obtain⟨Fv,rv⟩:=g6.get 0 rfl
    obtain⟨va,vc,rfl,-,-,-⟩:=RowA.shape rv
    clear rv
    have hy1:=sw_of (g6.block 4 rfl) (g6.block 3 rfl)
    have ht:=Lib.hid (there_of (g6.block 1 rfl))
    have g7:=g6.setFull 1 rfl (xs:=[.int .i64 fr.kind,.int .i64 fr.ver,.slice va fr.body.length vc]) (b:=(w4.drewN 1).heap.size) (C:=#[.int .i64 0,.int .i64 0,.slice none 0 0]) (T:=74) rfl
    have hy3:=sw_of (g7.block 4 rfl) (g7.block 3 rfl)
    have G7:=Lib.hid g7
    clear g7
    clear g6
    refine hK.out _ _ hy1 (fun hS=>?_)
    clear hK K'
    try simp only [Act.put,List.setIfInBounds_toArray,List.set_cons_zero,List.set_cons_succ]
    refine e_take (i:=7) (v:=?_) rfl (by kernel_rfl) (fun _ _ _ h=>h) (by rfl) ?_ hS ?_
    rotate_left
    ·(intro w hSw;(try dsimp only at hSw);go_simp;try with_reducible rfl)
    try simp only [Act.put,List.setIfInBounds_toArray,List.set_cons_zero,List.set_cons_succ]
    refine e_take (i:=8) (v:=?_) rfl (by kernel_rfl) (fun _ _ _ h=>h) (by rfl) ?_ hS ?_
    rotate_left
    ·(intro w hSw;(try dsimp only at hSw);go_simp;try with_reducible rfl)
    try simp only [Act.put,List.setIfInBounds_toArray,List.set_cons_zero,List.set_cons_succ]
    refine e_take (i:=9) (v:=?_) rfl (by kernel_rfl) (fun _ _ _ h=>h) (by rfl) ?_ hS ?_
    rotate_left
    ·(intro w hSw;(try dsimp only at hSw);go_simp;try with_reducible rfl)
    try simp only [Act.put,List.setIfInBounds_toArray,List.set_cons_zero,List.set_cons_succ]
    refine e_pin (i:=11) rfl (by kernel_rfl) (fun K' hK=>?_)
    rw [if_pos (by rfl)]
    refine wp_store_mid 74 (.tmp 6) (.tmp 39) rfl (w4.drewN 1).heap.size 0 #[.int .i64 fr.kind,.int .i64 fr.ver,.slice va fr.body.length vc] (by rfl) (by rfl) ht.out (by kernel_rfl) (by simp [Value.oneCell']) ?_
    refine hK.out _ _ hy3 (fun hS=>?_)
    clear hK K'
    try simp only [Act.put,List.setIfInBounds_toArray,List.set_cons_zero,List.set_cons_succ]
    refine e_last (i:=12) rfl (by kernel_rfl) (fun K' hK=>?_)
    go_simp
    refine hK.out _ _ ?_
    clear hK K'
    go_wp2_with fail
    go_meet
    exact⟨_,_,rfl,rfl,G7.out.sel2 (R1:=[_,_]) [1,0] (by decide) rfl⟩
  ·go_simp
   refine hK.out _ _ hyz (fun hS=>?_)
   clear hK K'
   try simp only [Act.put,List.setIfInBounds_toArray,List.set_cons_zero,List.set_cons_succ]
   refine e_pin (i:=5) rfl (by kernel_rfl) (fun K' hK=>?_)
   go_simp
   go_at_call 26
   refine KVz.out.mono ?_
   rintro e w5 ⟨rfl,rfl⟩
   refine hK.out _ _ hyz (fun hS=>?_)
   clear hK K'
   try simp only [Act.put,List.setIfInBounds_toArray,List.set_cons_zero,List.set_cons_succ]
   refine e_pin (i:=6) rfl (by kernel_rfl) (fun K' hK=>?_)
   go_simp
   go_at_call 25
   refine KEz2.out.mono ?_
   rintro e w6 ⟨v,rfl,g6⟩
   obtain⟨Fv,rv⟩:=g6.get 0 rfl
   obtain⟨va,vc,rfl,-,-,-⟩:=RowA.shape rv
   clear rv
   have hy1:=sw_of (g6.block 4 rfl) (g6.block 3 rfl)
   have ht:=Lib.hid (there_of (g6.block 1 rfl))
   have g7:=g6.setFull 1 rfl (xs:=[.int .i64 fr.kind,.int .i64 fr.ver,.slice va fr.body.length vc]) (b:=(w4.drewN 1).heap.size) (C:=#[.int .i64 0,.int .i64 0,.slice none 0 0]) (T:=74) rfl
   have hy3:=sw_of (g7.block 4 rfl) (g7.block 3 rfl)
   have G7:=Lib.hid g7
   clear g7
   clear g6
   refine hK.out _ _ hy1 (fun hS=>?_)
   clear hK K'
   try simp only [Act.put,List.setIfInBounds_toArray,List.set_cons_zero,List.set_cons_succ]
   refine e_take (i:=7) (v:=?_) rfl (by kernel_rfl) (fun _ _ _ h=>h) (by rfl) ?_ hS ?_
   rotate_left
   ·(intro w hSw;(try dsimp only at hSw);go_simp;try with_reducible rfl)
   try simp only [Act.put,List.setIfInBounds_toArray,List.set_cons_zero,List.set_cons_succ]
   refine e_take (i:=8) (v:=?_) rfl (by kernel_rfl) (fun _ _ _ h=>h) (by rfl) ?_ hS ?_
   rotate_left
   ·(intro w hSw;(try dsimp only at hSw);go_simp;try with_reducible rfl)
   try simp only [Act.put,List.setIfInBounds_toArray,List.set_cons_zero,List.set_cons_succ]
   refine e_take (i:=9) (v:=?_) rfl (by kernel_rfl) (fun _ _ _ h=>h) (by rfl) ?_ hS ?_
   rotate_left
   ·(intro w hSw;(try dsimp only at hSw);go_simp;try with_reducible rfl)
   try simp only [Act.put,List.setIfInBounds_toArray,List.set_cons_zero,List.set_cons_succ]
   refine e_pin (i:=11) rfl (by kernel_rfl) (fun K' hK=>?_)
   rw [if_pos (by rfl)]
   refine wp_store_mid 74 (.tmp 6) (.tmp 39) rfl (w4.drewN 1).heap.size 0 #[.int .i64 fr.kind,.int .i64 fr.ver,.slice va fr.body.length vc] (by rfl) (by rfl) ht.out (by kernel_rfl) (by simp [Value.oneCell']) ?_
   refine hK.out _ _ hy3 (fun hS=>?_)
   clear hK K'
   try simp only [Act.put,List.setIfInBounds_toArray,List.set_cons_zero,List.set_cons_succ]
   refine e_last (i:=12) rfl (by kernel_rfl) (fun K' hK=>?_)
   go_simp
   refine hK.out _ _ ?_
   clear hK K'
   go_wp2_with fail
   go_meet
   exact⟨_,_,rfl,rfl,G7.out.sel2 (R1:=[_,_]) [1,0] (by decide) rfl⟩
 case rest=>
  obtain⟨fb,v,rfl,rfl,hio⟩:=hcut
  obtain⟨Fv,rv⟩:=hio.get 1 rfl
  obtain⟨va,vc,rfl,-,-,-⟩:=RowA.shape rv
  have hq0:=fq_of ((hio.drewN 1).block 4 rfl) ((hio.drewN 1).block 0 rfl)
  have KA:=Lib.hid (o_append ((hio.drewN 1).sel2 (R1:=[_,_,_,_,_,_,_,_,_,_]) [8,9,0,1,2,3,4,5,6,7] (by decide) rfl) HL.out (by have:=HOP.out;omega) (fr.kind:Int) (A:=va) (c:=vc) (body:=fr.body) (by have:=HFO.out.body;omega) (fun w' h'=>by obtain⟨F',r'⟩:=h'.get 1 rfl;exact r'.all))
  clear hio rv hy0 hyz KVn KE2 KVz KEz2
  go_wp2_with fail
  go_region_held3 (fun w'=>w'.cell? ⟨sb,0,none⟩=some (dptr lb)∧w'.cell? ⟨fb,0,none⟩=some (.int .i64 fr.kind)∧w'.cell? ⟨fb,2,none⟩=some (.slice va fr.body.length vc)) (first | exact hq1 | exact hq0) (first
   | (go_at_call 27;refine KA.out.mono ?_;rintro e w7 ⟨rfl,g7⟩;have hq1:=fq_of (g7.block 6 rfl) (g7.block 2 rfl);have G7:=Lib.hid g7;clear g7))
  clear hq0 hq1 KA
  by_cases hA:(appendL (fr.kind:Int) fr.body (s.1,s.2.l)).2=0
  case neg=>
   have HWE:=Lib.hid (HWF.out (by rw [HWA.out];exact hA))
   have q:((appendL (fr.kind:Int) fr.body (s.1,s.2.l)).2 != 0)=true:=by rw [bne_iff_ne];exact hA
   have G:Hid (In F0 w0 w7 (SoL sb lb bd stb ((appendL (fr.kind:Int) fr.body (s.1,s.2.l)).1.1,⟨(appendL (fr.kind:Int) fr.body (s.1,s.2.l)).1.2,s.2.st,s.2.sure⟩) R)):=Lib.hid (In.soClose (s:=s.2.sure) (lb:=lb) (stb:=stb) (G7.out.sel2 (R1:=[_,_,_,_,_,_,_,_,_,_]) [6,7,8,9,0,1,4] (by decide) rfl))
   clear hA G7
   go_wp2_with fail
   go_ret
   exact⟨by rw [HWE.out,HWA.out];rfl,by rw [HWE.out,HWA.out];exact G.out⟩
  rw [hA]
  have HWE:=Lib.hid (HWD.out (by rw [HWA.out];exact hA))
  have hr0:=sw_of ((G7.out.drewN 1).block 6 rfl) ((G7.out.drewN 1).block 5 rfl)
  have KV12:=Lib.hid (o_version (G7.out.drewN 1))
  have KI:=Lib.hid (o_rcin (r:=⟨k,⟨⟨src,dst,proto,sport,dport⟩,fbk,fgen,fseen⟩,gen,bks,bk,till,count⟩) (c:=c) ((appendL (fr.kind:Int) fr.body (s.1,s.2.l)).1.2.m.ver:Int) (fun w' h'=>HS.out w' h'.drop.drop.drop.drop.drop.drop.drop.drop.drop.drop) hn hb (G7.out.drewN 1))
  have HIB:Hid ((inRec ⟨k,⟨⟨src,dst,proto,sport,dport⟩,fbk,fgen,fseen⟩,gen,bks,bk,till,count⟩ ((appendL (fr.kind:Int) fr.body (s.1,s.2.l)).1.2.m.ver:Int)).bks.length≤1000000):=Lib.hid (Nat.le_trans (inRec_bks _ _) hb)
  have HIW:=Lib.hid (WfR.inRec HWR.out ((appendL (fr.kind:Int) fr.body (s.1,s.2.l)).1.2.m.ver:Int))
  clear hA G7 HWF HWD
  go_wp2_with fail
  go_region_held3 (fun w'=>w'.cell? ⟨sb,0,none⟩=some (dptr lb)∧w'.cell? ⟨sb,1,none⟩=some (pR stb)∧w'.cell? ⟨w.heap.size,0,none⟩=some (.int .i64 k)∧w'.cell? ⟨w.heap.size,1,none⟩=some (.int .u32 src)∧w'.cell? ⟨w.heap.size,2,none⟩=some (.int .u32 dst)∧w'.cell? ⟨w.heap.size,3,none⟩=some (.int .i64 proto)∧w'.cell? ⟨w.heap.size,4,none⟩=some (.int .i64 sport)∧w'.cell? ⟨w.heap.size,5,none⟩=some (.int .i64 dport)∧w'.cell? ⟨w.heap.size,6,none⟩=some (.int .i64 fbk)∧w'.cell? ⟨w.heap.size,7,none⟩=some (.int .i64 fgen)∧w'.cell? ⟨w.heap.size,8,none⟩=some (.int .i64 fseen)∧w'.cell? ⟨w.heap.size,9,none⟩=some (.int .i64 gen)∧w'.cell? ⟨w.heap.size,10,none⟩=some (.slice A bks.length c)∧w'.cell? ⟨w.heap.size,11,none⟩=some (.int .i64 bk)∧w'.cell? ⟨w.heap.size,12,none⟩=some (.int .i64 till)∧w'.cell? ⟨w.heap.size,13,none⟩=some (.int .i64 count)) (first | exact hr2 | exact hr1 | exact hr0) (first
   | (go_at_call 26;refine KV12.out.mono ?_;rintro e w5 ⟨rfl,rfl⟩)
   | (go_at_call 28;refine KI.out.mono ?_;rintro e w8 ⟨pv,rfl,g8⟩;obtain⟨Fp,rp⟩:=g8.get 0 rfl;obtain⟨pa,pc,rfl,-,-,-⟩:=RowA.shape rp;have hr1:=sw_of (g8.block 7 rfl) (g8.block 6 rfl);have KP:=Lib.hid (o_apply (r:=inRec ⟨k,⟨⟨src,dst,proto,sport,dport⟩,fbk,fgen,fseen⟩,gen,bks,bk,till,count⟩ ((appendL (fr.kind:Int) fr.body (s.1,s.2.l)).1.2.m.ver:Int)) (A:=pa) (c:=pc) (bks_row rfl 0 rfl) (fun e=>RowA.noc rp e) HIB.out HIW.out (g8.sel2 (R1:=[_,_,_,_,_,_,_,_,_,_,_]) [5,0,1,2,3,4,6,7,8,9,10] (by decide) rfl));clear g8 rp)
   | (go_at_call 24;refine KP.out.mono ?_;rintro e w9 ⟨rfl,g9⟩;have hr2:=sw_of (g9.block 7 rfl) (g9.block 6 rfl);have G9:=Lib.hid g9;clear g9))
  have G:=Lib.hid (In.soClose (s:=s.2.sure) (lb:=lb) (stb:=stb) (G9.out.sel2 (R1:=[_,_,_,_,_,_,_,_,_,_,_]) [7,8,9,10,2,3,0] (by decide) rfl))
  clear G9 hr0 hr1 hr2 KP KI KV12
  go_wp2_with fail
  go_ret
  exact⟨by rw [HWE.out,HWA.out];rfl,by rw [HWE.out,HWA.out];exact G.out⟩
theorem o_sowrite {r:Rec} {A:Option Addr} {c:Nat} {s:SD} (hl:LgOk s.2.l) (ho:s.1.ops≤99990000) (hs:BksAt F0 w0 R A r.bks) (hn:A=none→c=0) (hb:r.bks.length≤1000000) (wr:WfR r) (h:In F0 w0 w (SoL sb lb bd stb s R)) :
  Calls Tryz.prog 8 #[pR sb,agR r A c] w fun e w'=>e=.returned (.int .i64 (writeS r s).2)∧In F0 w0 w' (SoL sb lb bd stb (writeS r s).1 R):=by
 obtain⟨k,⟨⟨src,dst,proto,sport,dport⟩,fbk,fgen,fseen⟩,gen,bks,bk,till,count⟩:=r
 exact o_sowrite0 hl ho hs hn hb wr h
end
instance:Inhabited StoreD:=⟨⟨default,zeroSt,zeroSt⟩⟩
def rP (n b:Int):Rec:=⟨1,⟨⟨n,0,6,0,0⟩,b,0,0⟩,0,[],0,0,0⟩
def bs0:DiskD×Option StoreD×Int:=createS 3 200 (dNew 5000)
def bsS:SD:=(bs0.1,bs0.2.1.getD default)
def bs1:SD×Int:=writeS (rP 1 7) bsS
def bs2:SD×Int:=syncS bs1.1
def bs3:SD×Int:=writeS (rP 2 8) bs2.1
def bs4:DiskD:=dCrash bs3.1.1 []
def bs5:DiskD×Option StoreD×Int:=openS 3 200 bs4
def lgOkC (l:LogD):Bool:=decide (16≤l.size∧l.size≤1048576) && mayM l.m
theorem lgOk_ofC {l:LogD} (h:lgOkC l=true):LgOk l:=by
 simp only [lgOkC,Bool.and_eq_true,decide_eq_true_eq] at h
 exact⟨h.1.1,h.1.2,h.2⟩
theorem bs_facts:bs0.2.1.isSome=true∧bs0.2.2=0∧bs1.2=0∧bs2.2=0∧bs3.2=0∧bs5.2.1.isSome=true∧bs5.2.2=0∧(bs5.2.1.getD default).sure.fls.length=1∧lgOkC bsS.2.l=true∧lgOkC bs1.1.2.l=true∧lgOkC bs2.1.2.l=true∧bsS.1.ops≤1000∧bs1.1.1.ops≤1000∧bs2.1.1.ops≤1000∧bs3.1.1.ops≤1000∧bs4.ops≤1000:=by decide +kernel
theorem rP_wf {n b:Int} (h0:0≤n) (h1:n < 4294967296):WfR (rP n b):=⟨by constructor <;> simp [rP] <;> omega,by simp [rP]⟩
theorem openS_sure {v z:Int} {d:DiskD} {so:StoreD} (h:(openS v z d).2.1=some so):so.sure=so.st:=by
 unfold openS at h
 split at h
 ·cases h
 ·split at h
  ·cases h
  ·split at h
   ·cases h
   ·simp only [Option.some.injEq] at h
    subst h;rfl
section
variable {F0:List Nat} {w0 w:World} {R:List Asrt}
theorem o_dcrash_nil {d:DiskD} {bd:Nat} (h:In F0 w0 w (DkA bd d::R)) (ho:d.ops≤100000000) :
  Calls Tryz.prog 17 #[dptr bd,.slice none 0 0] w fun e w'=>e=.returned (.tuple #[])∧In F0 w0 w' (DkA bd (dCrash d [])::R):=
 own_valX h 0 rfl (DkA.framed _ _) fun F G hF hG hap hfr=>dcrash (p:=[]) (A:=none) (c:=0) hF ho ⟨fun w' hw'=>Src.nil _ _ _,Nat.le_refl _,by unfold maxLen;omega⟩
theorem SoCrPost.some {bd:Nat} {r:DiskD×Option StoreD×Int} {so:StoreD} {e:Ending} {w':World} (h:SoCrPost bd r F0 w0 R e w') (hl:r.2.1=Option.some so):∃ sb lb stb,e=.returned (.tuple #[pR sb,.int .i64 r.2.2])∧In F0 w0 w' (SoL sb lb bd stb (r.1,so) R):=by
 unfold SoCrPost at h;rw [hl] at h;exact h
theorem field_fls (x0 x1 x2 x3:Value) (w:World):(Instr.field 59 (.agg #[x0,x1,x2,x3]) 3).run Tryz.prog w=.ok x3 w:=by kernel_rfl
theorem oc14 (n b:Int):(#[.int .i64 1,.int .u32 n,.int .u32 0,.int .i64 6,.int .i64 0,.int .i64 0,.int .i64 b,.int .i64 0,.int .i64 0,.int .i64 0,.slice none 0 0,.int .i64 0,.int .i64 0,.int .i64 0]:Array Value).all (·.oneCell')=true:=by simp [Value.oneCell']
theorem o_put15 (n b:Int) (hn:IntKind.u32.wrap n=n) (h:In F0 w0 w R):Calls Tryz.prog 15 #[.int .i64 n,.int .i64 b] w fun e w'=>e=.returned (agR (rP n b) none 0)∧In F0 w0 w' R:=by
 have g1:=h.cells #[.int .i64 0,.int .u32 0,.int .u32 0,.int .i64 0,.int .i64 0,.int .i64 0,.int .i64 0,.int .i64 0,.int .i64 0,.int .i64 0,.slice none 0 0,.int .i64 0,.int .i64 0,.int .i64 0] 39
 have Q1:=Lib.hid (there_of (g1.block 0 rfl))
 have G:=Lib.hid (g1.setFull 0 rfl (xs:=[.int .i64 1,.int .u32 n,.int .u32 0,.int .i64 6,.int .i64 0,.int .i64 0,.int .i64 b,.int .i64 0,.int .i64 0,.int .i64 0,.slice none 0 0,.int .i64 0,.int .i64 0,.int .i64 0]) (b:=w.heap.size) (C:=#[.int .i64 0,.int .u32 0,.int .u32 0,.int .i64 0,.int .i64 0,.int .i64 0,.int .i64 0,.int .i64 0,.int .i64 0,.int .i64 0,.slice none 0 0,.int .i64 0,.int .i64 0,.int .i64 0]) (T:=39) rfl)
 clear h g1
 go_enter Tryz.func15,Tryz.ntmps15
 go_wp2_with (refine wpList_store_mid (op:=⟨none,Op.store 39 (.tmp 4) (.tmp 10),_,_,_,_⟩) (by rfl) 39 (.tmp 4) (.tmp 10) rfl w.heap.size 0 #[.int .i64 1,.int .u32 n,.int .u32 0,.int .i64 6,.int .i64 0,.int .i64 0,.int .i64 b,.int .i64 0,.int .i64 0,.int .i64 0,.slice none 0 0,.int .i64 0,.int .i64 0,.int .i64 0] (by rfl) (by rfl) Q1.out (by kernel_rfl) (oc14 n b) ?_)
 exact bodyPost_ret (results_cell_row Tryz.results15 _ _ w.heap.size 39 _ (0,0) _ rfl (G.out.block 0 rfl) Tryz.underlying39 rfl (by kernel_rfl)) rfl ⟨rfl,G.out.drop⟩
theorem o_awake15 (h:In F0 w0 w R):Calls Tryz.prog 5 #[] w fun e w'=>e=.returned (.bool true)∧In F0 w0 w' R:=by
 obtain⟨f1,f2,f3,f4,f5,f6,f7,f8,l1,l2,l3,o1,o2,o3,o4,o5⟩:=bs_facts
 have K0:=Lib.hid (o_dnew h 5000 (by omega) (by omega))
 have K1:=Lib.hid (fun bd w' (h':In F0 w0 w' (DkA bd (dNew 5000)::R))=>o_socreate h' (by decide) 3 200)
 have KP1:=Lib.hid (fun w' (R':List Asrt) (h':In F0 w0 w' R')=>o_put15 1 7 rfl h')
 have KP2:=Lib.hid (fun w' (R':List Asrt) (h':In F0 w0 w' R')=>o_put15 2 8 rfl h')
 have K2:=Lib.hid (fun sb lb bd stb w' (h':In F0 w0 w' (SoL sb lb bd stb bsS R))=>o_sowrite (A:=none) (c:=0) (r:=rP 1 7) (lgOk_ofC l1) (by omega) (fun _ _=>Src.nil _ _ _) (fun _=>rfl) (by decide) (rP_wf (by decide) (by decide)) h')
 have K3:=Lib.hid (fun sb lb bd stb w' (h':In F0 w0 w' (SoL sb lb bd stb bs1.1 R))=>o_sosync (lgOk_ofC l2) (by omega) h')
 have K4:=Lib.hid (fun sb lb bd stb w' (h':In F0 w0 w' (SoL sb lb bd stb bs2.1 R))=>o_sowrite (A:=none) (c:=0) (r:=rP 2 8) (lgOk_ofC l3) (by omega) (fun _ _=>Src.nil _ _ _) (fun _=>rfl) (by decide) (rP_wf (by decide) (by decide)) h')
 have K5:=Lib.hid (fun bd w' (h':In F0 w0 w' (DkA bd bs3.1.1::R))=>o_dcrash_nil h' (by omega))
 have K6:=Lib.hid (fun bd w' (h':In F0 w0 w' (DkA bd bs4::R))=>o_soopen h' (by omega) 3 200)
 have HS0:Hid (bs0.2.1=some bsS.2):=Lib.hid (by
  show _=some (bs0.2.1.getD default)
  cases e:bs0.2.1 with
  | none=>rw [e] at f1;cases f1
  | some l=>rfl)
 have HS5:Hid (bs5.2.1=some (bs5.2.1.getD default)):=Lib.hid (by
  cases e:bs5.2.1 with
  | none=>rw [e] at f6;cases f6
  | some l=>rfl)
 have E0:=Lib.hid f2
 have E1:=Lib.hid f3
 have E2:=Lib.hid f4
 have E3:=Lib.hid f5
 have E5:=Lib.hid f7
 have E8:=Lib.hid f8
 clear h f1 f2 f3 f4 f5 f6 f7 f8 l1 l2 l3 o1 o2 o3 o4 o5
 go_enter Tryz.func5,Tryz.ntmps5
 go_wp2_with fail
 refine K0.out.mono ?_
 rintro e w1 ⟨bd,rfl,g1⟩
 have C1:=Lib.hid (K1.out bd w1 g1)
 clear g1 K0 K1
 go_wp2_with fail
 refine C1.out.mono ?_
 intro e w2 hp
 obtain⟨sb,lb,stb,rfl,g2⟩:=hp.some HS0.out
 rw [show createS 3 200 (dNew 5000)=bs0 from rfl,E0.out]
 have C2:=Lib.hid (KP1.out w2 _ g2)
 clear g2 hp C1 KP1
 go_wp2_with fail
 refine C2.out.mono ?_
 rintro e w3 ⟨rfl,g3⟩
 have C3:=Lib.hid (K2.out sb lb bd stb w3 g3)
 clear g3 C2 K2
 go_wp2_with fail
 refine C3.out.mono ?_
 rintro e w4 ⟨rfl,g4⟩
 rw [show writeS (rP 1 7) bsS=bs1 from rfl,E1.out]
 have C4:=Lib.hid (K3.out sb lb bd stb w4 g4)
 clear g4 C3 K3
 go_wp2_with fail
 refine C4.out.mono ?_
 rintro e w5 ⟨rfl,g5⟩
 rw [show syncS bs1.1=bs2 from rfl,E2.out]
 have C5:=Lib.hid (KP2.out w5 _ g5)
 clear g5 C4 KP2
 go_wp2_with fail
 refine C5.out.mono ?_
 rintro e w6 ⟨rfl,g6⟩
 have C6:=Lib.hid (K4.out sb lb bd stb w6 g6)
 clear g6 C5 K4
 go_wp2_with fail
 refine C6.out.mono ?_
 rintro e w7 ⟨rfl,g7⟩
 rw [show writeS (rP 2 8) bs2.1=bs3 from rfl,E3.out]
 have C7:=Lib.hid (K5.out bd w7 (g7.sel2 (R1:=[_,_,_,_]) [2] (by decide) rfl))
 clear g7 C6 K5
 go_wp2_with fail
 refine C7.out.mono ?_
 rintro e w8 ⟨rfl,g8⟩
 have C8:=Lib.hid (K6.out bd w8 g8)
 clear g8 C7 K6
 go_wp2_with fail
 refine C8.out.mono ?_
 intro e w9 hp
 obtain⟨sb5,lb5,stb5,rfl,g9⟩:=hp.some HS5.out
 rw [show openS 3 200 bs4=bs5 from rfl] at g9 ⊢
 rw [E5.out]
 have hok:OkSt (bs5.2.1.getD default).sure:=by
  rw [openS_sure (v:=3) (z:=200) (d:=bs4) HS5.out]
  exact (g9.sel2 (R1:=[_,_,_,_]) [3] (by decide) rfl).stOpen.1
 have C9:=Lib.hid (o_sosure hok g9)
 clear g9 hp C8 hok
 go_wp2_with fail
 refine C9.out.mono ?_
 rintro e w10 ⟨A,a,D,d,F,f,rfl,g10⟩
 have G:=Lib.hid (g10.sel2 (R1:=[_,_,_,_,_,_,_]) [] (by decide) rfl)
 clear g10 C9
 have q8:(((bs5.2.1.getD default).sure.fls.length:Int) == 1)=true:=by rw [E8.out];rfl
 have hfd:=field_fls
 dsimp only [agSt]
 go_wp2_with fail
 go_ret
 exact⟨rfl,G.out⟩
end
def Frz (b:Nat) (C:Array Value) (T:TypeId) (fz:Nat×Nat):Asrt:=fun w F=>F=[b]∧w.heap[b]?=some (.cells C T fz)
def aw1:DiskD×Option LogD×Int:=createD 3 100 (dNew 5000)
def awL:LogD:=aw1.2.1.getD default
def aw2:DL×Int:=appendL 1 [120] (aw1.1,awL)
def aw3:DL×Int:=syncL aw2.1
def aw4:DL×Int:=appendL 1 [121] aw3.1
def aw5:DiskD:=dCrash aw4.1.1 [0,0,5]
def aw6:Nat×DiskD×Option LogD×Int:=openL countF 100 aw5 0
def lgOkB (l:LogD):Bool:=decide (16≤l.size∧l.size≤1048576) && mayM l.m
section
variable {F0:List Nat} {w0 w:World} {R:List Asrt}
end
section
variable {F0:List Nat} {w0 w:World} {R:List Asrt}
end
structure FrCell (w:World) (g o:Nat) (f:FrD) (A:Option Addr) (c:Nat):Prop where
 kind:w.cell? ⟨g,o,none⟩=some (.int .i64 f.kind)
 ver:w.cell? ⟨g,o+1,none⟩=some (.int .i64 f.ver)
 val:w.cell? ⟨g,o+2,none⟩=some (.slice A f.body.length c)
 body:Src w A f.body.length 1 (u8s f.body)
 nil:A=none→f.body.length=0
def FrAt (w:World) (a:Option Addr) (fs:List FrD):Prop:=∀ k f,fs[k]?=some f→∃ g o A c,a=some ⟨g,o,none⟩∧FrCell w g (o+k * 3) f A c
section
variable {F0:List Nat} {w0 w:World} {R:List Asrt}
def SameRel (fs gs:List FrD) (F0:List Nat) (w0:World) (R:List Asrt) (i:Value) (wr:World):Prop:=
 ∃ k:Nat,k≤fs.length∧i=.int .i64 k∧fs.take k=gs.take k∧In F0 w0 wr R
end
def TrueP (w:World) (e:Ending) (w':World):Prop:=e=.returned (.bool true)∧Mod [] w w'
structure OpSt (M k:Nat) (kind ver:Nat) (size:Nat) (L:List (List UInt8)) (d:DiskD) (l:LogD):Prop where
 firm:Firm d l.m ((L.take k).map (fun b=>⟨kind,ver,b⟩)) 0
 loose:l.loose=false
 size:l.size=size
 ver:l.m.ver=ver
 rm:Rm d ((M - k) * 600+10000) ((M - k) * 2+20)
 segs:l.m.segs.length≤k+1
 next:l.m.next≤k+2
 ops:d.ops≤1000+20 * k
theorem sized_ok (n:Int):16≤sized n∧sized n≤1048576:=by unfold sized;omega
def empA:Asrt:=fun w F=>F=[]
section
variable {F0:List Nat} {w0 w:World} {R:List Asrt}
end
section
variable {H:Type} {enc:TypeId×Value→H} {w:World} {base:Nat} {spare:Nat→Bool} {held:Bool}
end
end Go.Proofs.YtpmmiljakbojaaaGreat
