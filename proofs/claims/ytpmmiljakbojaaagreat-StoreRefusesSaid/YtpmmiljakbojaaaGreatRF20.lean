/- Rows.StoreRefusesSaid -/
import Derived.Test.YtpmmiljakbojaaaGreatRF19
namespace Go.Proofs.YtpmmiljakbojaaaGreat
open Go.RowKit
open Go.Maps (Keyed)
set_option linter.unusedVariables false
set_option maxHeartbeats 64000000
set_option maxRecDepth 100000
section
variable {F0:List Nat} {w0 w:World} {R:List Asrt} {sb:Nat} {s:StD}
def ApPost (p:StD×Int) (sb:Nat) (F0:List Nat) (w0:World) (R:List Asrt) (e:Ending) (w':World):Prop:=e=.returned (.int .i64 p.2)∧In F0 w0 w' (StA sb p.1::R)
theorem o_applyN {k src dst proto sport dport fbk fgen fseen gen bk till count:Int} {bks:List Bk} {A:Option Addr} {c:Nat} (hs:BksAt F0 w0 R A bks) (hn:A=none→c=0) (hl:bks.length≤1000000) (wr:WfR ⟨k,⟨⟨src,dst,proto,sport,dport⟩,fbk,fgen,fseen⟩,gen,bks,bk,till,count⟩) (hm:mayRec ⟨k,⟨⟨src,dst,proto,sport,dport⟩,fbk,fgen,fseen⟩,gen,bks,bk,till,count⟩=false) (h:In F0 w0 w (StA sb s::R)):Calls Tryz.prog 24 #[pR sb,agR ⟨k,⟨⟨src,dst,proto,sport,dport⟩,fbk,fgen,fseen⟩,gen,bks,bk,till,count⟩ A c] w (ApPost (s,1) sb F0 w0 R):=by
 have h2:=h.cells #[.int .i64 k,.int .u32 src,.int .u32 dst,.int .i64 proto,.int .i64 sport,.int .i64 dport,.int .i64 fbk,.int .i64 fgen,.int .i64 fseen,.int .i64 gen,.slice A bks.length c,.int .i64 bk,.int .i64 till,.int .i64 count] 39
 have KM:=o_rcmay (r:=⟨k,⟨⟨src,dst,proto,sport,dport⟩,fbk,fgen,fseen⟩,gen,bks,bk,till,count⟩) (c:=c) (fun w' h'=>hs w' h'.drop.drop) (Nat.le_trans hl (by decide)) h2
 rw [hm] at KM
 have HM:=Lib.hid KM
 clear h h2 hs hn hl wr hm KM
 go_enter Tryz.func24,Tryz.ntmps24
 go_wp2_with fail
 refine HM.out.mono ?_
 rintro e w2 ⟨rfl,g2⟩
 have G:=Lib.hid g2.drop
 clear g2 HM
 go_wp2_with fail
 go_ret
 exact⟨rfl,G.out⟩
theorem o_apply6 {src dst proto sport dport fbk fgen fseen gen bk till count:Int} {bks:List Bk} {A:Option Addr} {c:Nat} (hs:BksAt F0 w0 R A bks) (hn:A=none→c=0) (hl:bks.length≤1000000) (wr:WfR ⟨6,⟨⟨src,dst,proto,sport,dport⟩,fbk,fgen,fseen⟩,gen,bks,bk,till,count⟩) (hm:mayRec ⟨6,⟨⟨src,dst,proto,sport,dport⟩,fbk,fgen,fseen⟩,gen,bks,bk,till,count⟩=true) (h:In F0 w0 w (StA sb s::R)):Calls Tryz.prog 24 #[pR sb,agR ⟨6,⟨⟨src,dst,proto,sport,dport⟩,fbk,fgen,fseen⟩,gen,bks,bk,till,count⟩ A c] w (ApPost (s,1) sb F0 w0 R):=by
 have h2:=h.cells #[.int .i64 6,.int .u32 src,.int .u32 dst,.int .i64 proto,.int .i64 sport,.int .i64 dport,.int .i64 fbk,.int .i64 fgen,.int .i64 fseen,.int .i64 gen,.slice A bks.length c,.int .i64 bk,.int .i64 till,.int .i64 count] 39
 have KM:=o_rcmay (r:=⟨6,⟨⟨src,dst,proto,sport,dport⟩,fbk,fgen,fseen⟩,gen,bks,bk,till,count⟩) (c:=c) (fun w' h'=>hs w' h'.drop.drop) (Nat.le_trans hl (by decide)) h2
 rw [hm] at KM
 have HM:=Lib.hid KM
 clear h h2 hs hn hl wr hm KM
 go_enter Tryz.func24,Tryz.ntmps24
 go_wp2_with fail
 refine HM.out.mono ?_
 rintro e w2 ⟨rfl,g2⟩
 obtain⟨y0,y1,y2,y3,y4,y5,y6,y7,y8,y9,y10,y11,y12,y13,yf⟩:=rc_y (y:=⟨6,⟨⟨src,dst,proto,sport,dport⟩,fbk,fgen,fseen⟩,gen,bks,bk,till,count⟩) (pv:=.slice A bks.length c) (g2.block 0 rfl)
 simp only at y0 y1 y2 y3 y4 y5 y6 y7 y8 y9 y10 y11 y12 y13
 have G:=Lib.hid g2.drop
 clear g2 HM
 go_wp2_with fail
 go_ret
 exact⟨rfl,G.out⟩
theorem o_apply3N {src dst proto sport dport fbk fgen fseen gen bk till count:Int} {bks:List Bk} {A:Option Addr} {c:Nat} (hs:BksAt F0 w0 R A bks) (hn:A=none→c=0) (hl:bks.length≤1000000) (wr:WfR ⟨3,⟨⟨src,dst,proto,sport,dport⟩,fbk,fgen,fseen⟩,gen,bks,bk,till,count⟩) (hm:mayRec ⟨3,⟨⟨src,dst,proto,sport,dport⟩,fbk,fgen,fseen⟩,gen,bks,bk,till,count⟩=true) (hg:gensMay bks=false) (h:In F0 w0 w (StA sb s::R)):Calls Tryz.prog 24 #[pR sb,agR ⟨3,⟨⟨src,dst,proto,sport,dport⟩,fbk,fgen,fseen⟩,gen,bks,bk,till,count⟩ A c] w (ApPost (s,1) sb F0 w0 R):=by
 have h2:=h.cells #[.int .i64 3,.int .u32 src,.int .u32 dst,.int .i64 proto,.int .i64 sport,.int .i64 dport,.int .i64 fbk,.int .i64 fgen,.int .i64 fseen,.int .i64 gen,.slice A bks.length c,.int .i64 bk,.int .i64 till,.int .i64 count] 39
 have KM:=o_rcmay (r:=⟨3,⟨⟨src,dst,proto,sport,dport⟩,fbk,fgen,fseen⟩,gen,bks,bk,till,count⟩) (c:=c) (fun w' h'=>hs w' h'.drop.drop) (Nat.le_trans hl (by decide)) h2
 rw [hm] at KM
 have HG:Hid (∀ w',In F0 w0 w' (Cells w.heap.size #[.int .i64 3,.int .u32 src,.int .u32 dst,.int .i64 proto,.int .i64 sport,.int .i64 dport,.int .i64 fbk,.int .i64 fgen,.int .i64 fseen,.int .i64 gen,.slice A bks.length c,.int .i64 bk,.int .i64 till,.int .i64 count] 39::StA sb s::R)→Calls Tryz.prog 67 #[.slice A bks.length c] w' (GnPost false F0 w0 (Cells w.heap.size #[.int .i64 3,.int .u32 src,.int .u32 dst,.int .i64 proto,.int .i64 sport,.int .i64 dport,.int .i64 fbk,.int .i64 fgen,.int .i64 fseen,.int .i64 gen,.slice A bks.length c,.int .i64 bk,.int .i64 till,.int .i64 count] 39::StA sb s::R))):=Lib.hid fun w' h'=>by
  have:=o_gnmay (c:=c) (fun w' h'=>hs w' h'.drop.drop) (Nat.le_trans hl (by decide)) h'
  rw [hg] at this
  exact this
 have HM:=Lib.hid KM
 clear h h2 hs hn hl wr hm KM hg
 go_enter Tryz.func24,Tryz.ntmps24
 go_wp2_with fail
 refine HM.out.mono ?_
 rintro e w2 ⟨rfl,g2⟩
 obtain⟨y0,y1,y2,y3,y4,y5,y6,y7,y8,y9,y10,y11,y12,y13,yf⟩:=rc_y (y:=⟨3,⟨⟨src,dst,proto,sport,dport⟩,fbk,fgen,fseen⟩,gen,bks,bk,till,count⟩) (pv:=.slice A bks.length c) (g2.block 0 rfl)
 simp only at y0 y1 y2 y3 y4 y5 y6 y7 y8 y9 y10 y11 y12 y13
 have KG:=Lib.hid (HG.out _ g2)
 clear HM g2 HG
 go_wp2_with fail
 refine KG.out.mono ?_
 rintro e w4 ⟨rfl,g2⟩
 clear KG y0 y1 y2 y3 y4 y5 y6 y7 y8 y9 y10 y11 y12 y13 yf
 obtain⟨y0,y1,y2,y3,y4,y5,y6,y7,y8,y9,y10,y11,y12,y13,yf⟩:=rc_y (y:=⟨3,⟨⟨src,dst,proto,sport,dport⟩,fbk,fgen,fseen⟩,gen,bks,bk,till,count⟩) (pv:=.slice A bks.length c) (g2.block 0 rfl)
 simp only at y0 y1 y2 y3 y4 y5 y6 y7 y8 y9 y10 y11 y12 y13
 have HM:=True
 have G:=Lib.hid g2.drop
 clear g2
 go_wp2_with fail
 go_ret
 exact⟨rfl,G.out⟩
theorem o_applyF1 {src dst proto sport dport fbk fgen fseen gen bk till count:Int} {bks:List Bk} {A:Option Addr} {c:Nat} (hs:BksAt F0 w0 R A bks) (hn:A=none→c=0) (hl:bks.length≤1000000) (wr:WfR ⟨1,⟨⟨src,dst,proto,sport,dport⟩,fbk,fgen,fseen⟩,gen,bks,bk,till,count⟩) (hm:mayRec ⟨1,⟨⟨src,dst,proto,sport,dport⟩,fbk,fgen,fseen⟩,gen,bks,bk,till,count⟩=true) (hf:fullSt s ⟨1,⟨⟨src,dst,proto,sport,dport⟩,fbk,fgen,fseen⟩,gen,bks,bk,till,count⟩=true) (h:In F0 w0 w (StA sb s::R)):Calls Tryz.prog 24 #[pR sb,agR ⟨1,⟨⟨src,dst,proto,sport,dport⟩,fbk,fgen,fseen⟩,gen,bks,bk,till,count⟩ A c] w (ApPost (s,9) sb F0 w0 R):=by
 have h2:=h.cells #[.int .i64 1,.int .u32 src,.int .u32 dst,.int .i64 proto,.int .i64 sport,.int .i64 dport,.int .i64 fbk,.int .i64 fgen,.int .i64 fseen,.int .i64 gen,.slice A bks.length c,.int .i64 bk,.int .i64 till,.int .i64 count] 39
 have KM:=o_rcmay (r:=⟨1,⟨⟨src,dst,proto,sport,dport⟩,fbk,fgen,fseen⟩,gen,bks,bk,till,count⟩) (c:=c) (fun w' h'=>hs w' h'.drop.drop) (Nat.le_trans hl (by decide)) h2
 rw [hm] at KM
 have HFU:Hid (∀ w',In F0 w0 w' (Cells w.heap.size #[.int .i64 1,.int .u32 src,.int .u32 dst,.int .i64 proto,.int .i64 sport,.int .i64 dport,.int .i64 fbk,.int .i64 fgen,.int .i64 fseen,.int .i64 gen,.slice A bks.length c,.int .i64 bk,.int .i64 till,.int .i64 count] 39::StA sb s::R)→Calls Tryz.prog 68 #[pR sb,agR ⟨1,⟨⟨src,dst,proto,sport,dport⟩,fbk,fgen,fseen⟩,gen,bks,bk,till,count⟩ A c] w' (FuPost true sb s F0 w0 (Cells w.heap.size #[.int .i64 1,.int .u32 src,.int .u32 dst,.int .i64 proto,.int .i64 sport,.int .i64 dport,.int .i64 fbk,.int .i64 fgen,.int .i64 fseen,.int .i64 gen,.slice A bks.length c,.int .i64 bk,.int .i64 till,.int .i64 count] 39::R))):=Lib.hid fun w' h'=>by
  have:=o_full (A:=A) (c:=c) wr hm (h'.sel2 (R1:=[_,_]) [1,0] (by decide) rfl)
  rw [hf] at this
  exact this
 have HM:=Lib.hid KM
 clear h h2 hs hn hl wr hm KM hf
 go_enter Tryz.func24,Tryz.ntmps24
 go_wp2_with fail
 refine HM.out.mono ?_
 rintro e w2 ⟨rfl,g2⟩
 obtain⟨y0,y1,y2,y3,y4,y5,y6,y7,y8,y9,y10,y11,y12,y13,yf⟩:=rc_y (y:=⟨1,⟨⟨src,dst,proto,sport,dport⟩,fbk,fgen,fseen⟩,gen,bks,bk,till,count⟩) (pv:=.slice A bks.length c) (g2.block 0 rfl)
 simp only at y0 y1 y2 y3 y4 y5 y6 y7 y8 y9 y10 y11 y12 y13
 have K2:=Lib.hid (HFU.out _ g2)
 clear HM g2 HFU
 go_wp2_with fail
 refine K2.out.mono ?_
 rintro e w3 ⟨rfl,g3⟩
 clear K2 y0 y1 y2 y3 y4 y5 y6 y7 y8 y9 y10 y11 y12 y13 yf
 obtain⟨y0,y1,y2,y3,y4,y5,y6,y7,y8,y9,y10,y11,y12,y13,yf⟩:=rc_y (y:=⟨1,⟨⟨src,dst,proto,sport,dport⟩,fbk,fgen,fseen⟩,gen,bks,bk,till,count⟩) (pv:=.slice A bks.length c) (g3.block 1 rfl)
 simp only at y0 y1 y2 y3 y4 y5 y6 y7 y8 y9 y10 y11 y12 y13
 have G:=Lib.hid (g3.sel2 (R1:=[_,_]) [0] (by decide) rfl)
 clear g3
 go_wp2_with fail
 go_ret
 exact⟨rfl,G.out⟩
theorem o_applyF4 {src dst proto sport dport fbk fgen fseen gen bk till count:Int} {bks:List Bk} {A:Option Addr} {c:Nat} (hs:BksAt F0 w0 R A bks) (hn:A=none→c=0) (hl:bks.length≤1000000) (wr:WfR ⟨4,⟨⟨src,dst,proto,sport,dport⟩,fbk,fgen,fseen⟩,gen,bks,bk,till,count⟩) (hm:mayRec ⟨4,⟨⟨src,dst,proto,sport,dport⟩,fbk,fgen,fseen⟩,gen,bks,bk,till,count⟩=true) (hf:fullSt s ⟨4,⟨⟨src,dst,proto,sport,dport⟩,fbk,fgen,fseen⟩,gen,bks,bk,till,count⟩=true) (h:In F0 w0 w (StA sb s::R)):Calls Tryz.prog 24 #[pR sb,agR ⟨4,⟨⟨src,dst,proto,sport,dport⟩,fbk,fgen,fseen⟩,gen,bks,bk,till,count⟩ A c] w (ApPost (s,9) sb F0 w0 R):=by
 have h2:=h.cells #[.int .i64 4,.int .u32 src,.int .u32 dst,.int .i64 proto,.int .i64 sport,.int .i64 dport,.int .i64 fbk,.int .i64 fgen,.int .i64 fseen,.int .i64 gen,.slice A bks.length c,.int .i64 bk,.int .i64 till,.int .i64 count] 39
 have KM:=o_rcmay (r:=⟨4,⟨⟨src,dst,proto,sport,dport⟩,fbk,fgen,fseen⟩,gen,bks,bk,till,count⟩) (c:=c) (fun w' h'=>hs w' h'.drop.drop) (Nat.le_trans hl (by decide)) h2
 rw [hm] at KM
 have HFU:Hid (∀ w',In F0 w0 w' (Cells w.heap.size #[.int .i64 4,.int .u32 src,.int .u32 dst,.int .i64 proto,.int .i64 sport,.int .i64 dport,.int .i64 fbk,.int .i64 fgen,.int .i64 fseen,.int .i64 gen,.slice A bks.length c,.int .i64 bk,.int .i64 till,.int .i64 count] 39::StA sb s::R)→Calls Tryz.prog 68 #[pR sb,agR ⟨4,⟨⟨src,dst,proto,sport,dport⟩,fbk,fgen,fseen⟩,gen,bks,bk,till,count⟩ A c] w' (FuPost true sb s F0 w0 (Cells w.heap.size #[.int .i64 4,.int .u32 src,.int .u32 dst,.int .i64 proto,.int .i64 sport,.int .i64 dport,.int .i64 fbk,.int .i64 fgen,.int .i64 fseen,.int .i64 gen,.slice A bks.length c,.int .i64 bk,.int .i64 till,.int .i64 count] 39::R))):=Lib.hid fun w' h'=>by
  have:=o_full (A:=A) (c:=c) wr hm (h'.sel2 (R1:=[_,_]) [1,0] (by decide) rfl)
  rw [hf] at this
  exact this
 have HM:=Lib.hid KM
 clear h h2 hs hn hl wr hm KM hf
 go_enter Tryz.func24,Tryz.ntmps24
 go_wp2_with fail
 refine HM.out.mono ?_
 rintro e w2 ⟨rfl,g2⟩
 obtain⟨y0,y1,y2,y3,y4,y5,y6,y7,y8,y9,y10,y11,y12,y13,yf⟩:=rc_y (y:=⟨4,⟨⟨src,dst,proto,sport,dport⟩,fbk,fgen,fseen⟩,gen,bks,bk,till,count⟩) (pv:=.slice A bks.length c) (g2.block 0 rfl)
 simp only at y0 y1 y2 y3 y4 y5 y6 y7 y8 y9 y10 y11 y12 y13
 have K2:=Lib.hid (HFU.out _ g2)
 clear HM g2 HFU
 go_wp2_with fail
 refine K2.out.mono ?_
 rintro e w3 ⟨rfl,g3⟩
 clear K2 y0 y1 y2 y3 y4 y5 y6 y7 y8 y9 y10 y11 y12 y13 yf
 obtain⟨y0,y1,y2,y3,y4,y5,y6,y7,y8,y9,y10,y11,y12,y13,yf⟩:=rc_y (y:=⟨4,⟨⟨src,dst,proto,sport,dport⟩,fbk,fgen,fseen⟩,gen,bks,bk,till,count⟩) (pv:=.slice A bks.length c) (g3.block 1 rfl)
 simp only at y0 y1 y2 y3 y4 y5 y6 y7 y8 y9 y10 y11 y12 y13
 have G:=Lib.hid (g3.sel2 (R1:=[_,_]) [0] (by decide) rfl)
 clear g3
 go_wp2_with fail
 go_ret
 exact⟨rfl,G.out⟩
theorem o_applyD1 {src dst proto sport dport fbk fgen fseen gen bk till count:Int} {bks:List Bk} {A:Option Addr} {c:Nat} (hs:BksAt F0 w0 R A bks) (hn:A=none→c=0) (hl:bks.length≤1000000) (wr:WfR ⟨1,⟨⟨src,dst,proto,sport,dport⟩,fbk,fgen,fseen⟩,gen,bks,bk,till,count⟩) (hm:mayRec ⟨1,⟨⟨src,dst,proto,sport,dport⟩,fbk,fgen,fseen⟩,gen,bks,bk,till,count⟩=true) (hf:fullSt s ⟨1,⟨⟨src,dst,proto,sport,dport⟩,fbk,fgen,fseen⟩,gen,bks,bk,till,count⟩=false) (hok2:OkSt (doSt s ⟨1,⟨⟨src,dst,proto,sport,dport⟩,fbk,fgen,fseen⟩,gen,bks,bk,till,count⟩)) (h:In F0 w0 w (StA sb s::R)):Calls Tryz.prog 24 #[pR sb,agR ⟨1,⟨⟨src,dst,proto,sport,dport⟩,fbk,fgen,fseen⟩,gen,bks,bk,till,count⟩ A c] w (ApPost (doSt s ⟨1,⟨⟨src,dst,proto,sport,dport⟩,fbk,fgen,fseen⟩,gen,bks,bk,till,count⟩,0) sb F0 w0 R):=by
 have h2:=h.cells #[.int .i64 1,.int .u32 src,.int .u32 dst,.int .i64 proto,.int .i64 sport,.int .i64 dport,.int .i64 fbk,.int .i64 fgen,.int .i64 fseen,.int .i64 gen,.slice A bks.length c,.int .i64 bk,.int .i64 till,.int .i64 count] 39
 have KM:=o_rcmay (r:=⟨1,⟨⟨src,dst,proto,sport,dport⟩,fbk,fgen,fseen⟩,gen,bks,bk,till,count⟩) (c:=c) (fun w' h'=>hs w' h'.drop.drop) (Nat.le_trans hl (by decide)) h2
 rw [hm] at KM
 have HFU:Hid (∀ w',In F0 w0 w' (Cells w.heap.size #[.int .i64 1,.int .u32 src,.int .u32 dst,.int .i64 proto,.int .i64 sport,.int .i64 dport,.int .i64 fbk,.int .i64 fgen,.int .i64 fseen,.int .i64 gen,.slice A bks.length c,.int .i64 bk,.int .i64 till,.int .i64 count] 39::StA sb s::R)→Calls Tryz.prog 68 #[pR sb,agR ⟨1,⟨⟨src,dst,proto,sport,dport⟩,fbk,fgen,fseen⟩,gen,bks,bk,till,count⟩ A c] w' (FuPost false sb s F0 w0 (Cells w.heap.size #[.int .i64 1,.int .u32 src,.int .u32 dst,.int .i64 proto,.int .i64 sport,.int .i64 dport,.int .i64 fbk,.int .i64 fgen,.int .i64 fseen,.int .i64 gen,.slice A bks.length c,.int .i64 bk,.int .i64 till,.int .i64 count] 39::R))):=Lib.hid fun w' h'=>by
  have:=o_full (A:=A) (c:=c) wr hm (h'.sel2 (R1:=[_,_]) [1,0] (by decide) rfl)
  rw [hf] at this
  exact this
 have HWT:=Lib.hid (wr.t:WfT ⟨src,dst,proto,sport,dport⟩)
 have hd:doSt s ⟨1,⟨⟨src,dst,proto,sport,dport⟩,fbk,fgen,fseen⟩,gen,bks,bk,till,count⟩={ s with fls:=stPutF ⟨⟨src,dst,proto,sport,dport⟩,fbk,fgen,fseen⟩ s.fls }:=rfl
 rw [hd] at hok2 ⊢
 have HE:Hid (∀ w' dm fm bv g C,In F0 w0 w' (Cells sb (stC s bv dm fm) 116::BkR bv s.bks::SDM dm s.drs::SFM fm ({ s with fls:=stPutF ⟨⟨src,dst,proto,sport,dport⟩,fbk,fgen,fseen⟩ s.fls }).fls::Cells g C 39::R)→ApPost ({ s with fls:=stPutF ⟨⟨src,dst,proto,sport,dport⟩,fbk,fgen,fseen⟩ s.fls },0) sb F0 w0 R (.returned (.int .i64 0)) w'):=Lib.hid fun w' dm fm bv g C h'=>⟨rfl,In.stClose (s:={ s with fls:=stPutF ⟨⟨src,dst,proto,sport,dport⟩,fbk,fgen,fseen⟩ s.fls }) (dm:=dm) (fm:=fm) (bv:=bv) hok2 (h'.sel2 (R1:=[_,_,_,_,_]) [0,1,2,3] (by decide) rfl)⟩
 have HM:=Lib.hid KM
 clear h h2 hs hn hl wr hm KM hf hok2 hd
 go_enter Tryz.func24,Tryz.ntmps24
 go_wp2_with fail
 refine HM.out.mono ?_
 rintro e w2 ⟨rfl,g2⟩
 obtain⟨y0,y1,y2,y3,y4,y5,y6,y7,y8,y9,y10,y11,y12,y13,yf⟩:=rc_y (y:=⟨1,⟨⟨src,dst,proto,sport,dport⟩,fbk,fgen,fseen⟩,gen,bks,bk,till,count⟩) (pv:=.slice A bks.length c) (g2.block 0 rfl)
 simp only at y0 y1 y2 y3 y4 y5 y6 y7 y8 y9 y10 y11 y12 y13
 have K2:=Lib.hid (HFU.out _ g2)
 clear HM g2 HFU
 go_wp2_with fail
 refine K2.out.mono ?_
 rintro e w3 ⟨rfl,g3⟩
 clear K2 y0 y1 y2 y3 y4 y5 y6 y7 y8 y9 y10 y11 y12 y13 yf
 obtain⟨y0,y1,y2,y3,y4,y5,y6,y7,y8,y9,y10,y11,y12,y13,yf⟩:=rc_y (y:=⟨1,⟨⟨src,dst,proto,sport,dport⟩,fbk,fgen,fseen⟩,gen,bks,bk,till,count⟩) (pv:=.slice A bks.length c) (g3.block 1 rfl)
 simp only at y0 y1 y2 y3 y4 y5 y6 y7 y8 y9 y10 y11 y12 y13
 obtain⟨hok,dm,fm,a,c',g4⟩:=In.stOpen g3
 have c0:w3.cell? ⟨sb,3,none⟩=some (.map (some fm)):=cell_of (g4.block 0 rfl) rfl
 obtain⟨w4,r4,-,g5⟩:=sf_put (f:=⟨⟨src,dst,proto,sport,dport⟩,fbk,fgen,fseen⟩) (g4.drewN 1) 3 rfl hok.fsort HWT.out
 have r4':(Instr.mapUpdate 114 (.map (some fm)) (.agg #[.int .u32 src,.int .u32 dst,.int .i64 proto,.int .i64 sport,.int .i64 dport]) (.agg #[.int .u32 src,.int .u32 dst,.int .i64 proto,.int .i64 sport,.int .i64 dport,.int .i64 fbk,.int .i64 fgen,.int .i64 fseen])).run Tryz.prog w3.drew=.ok () w4:=r4
 have HX:=Lib.hid (HE.out _ _ _ _ _ _ g5)
 generalize w.heap.size=g at *
 have hc1:(fun w':World=>w'.cell? ⟨sb,3,none⟩=some (.map (some fm))∧w'.cell? ⟨g,1,none⟩=some (.int .u32 src)∧w'.cell? ⟨g,2,none⟩=some (.int .u32 dst)∧w'.cell? ⟨g,3,none⟩=some (.int .i64 proto)∧w'.cell? ⟨g,4,none⟩=some (.int .i64 sport)∧w'.cell? ⟨g,5,none⟩=some (.int .i64 dport)∧w'.cell? ⟨g,6,none⟩=some (.int .i64 fbk)∧w'.cell? ⟨g,7,none⟩=some (.int .i64 fgen)∧w'.cell? ⟨g,8,none⟩=some (.int .i64 fseen)) w4:=⟨cell_of (g5.block 0 rfl) rfl,cell_of (g5.block 4 rfl) rfl,cell_of (g5.block 4 rfl) rfl,cell_of (g5.block 4 rfl) rfl,cell_of (g5.block 4 rfl) rfl,cell_of (g5.block 4 rfl) rfl,cell_of (g5.block 4 rfl) rfl,cell_of (g5.block 4 rfl) rfl,cell_of (g5.block 4 rfl) rfl⟩
 simp only at hc1
 clear g3 g4 g5 r4 HE HWT
 go_wp2_with fail
 go_region_held3 (fun w'=>w'.cell? ⟨sb,3,none⟩=some (.map (some fm))∧w'.cell? ⟨g,1,none⟩=some (.int .u32 src)∧w'.cell? ⟨g,2,none⟩=some (.int .u32 dst)∧w'.cell? ⟨g,3,none⟩=some (.int .i64 proto)∧w'.cell? ⟨g,4,none⟩=some (.int .i64 sport)∧w'.cell? ⟨g,5,none⟩=some (.int .i64 dport)∧w'.cell? ⟨g,6,none⟩=some (.int .i64 fbk)∧w'.cell? ⟨g,7,none⟩=some (.int .i64 fgen)∧w'.cell? ⟨g,8,none⟩=some (.int .i64 fseen)) (first | exact hc1 | go_keep) (fail)
 clear hc1 r4'
 go_wp2_with fail
 go_ret
 exact HX.out
theorem o_applyD2 {src dst proto sport dport fbk fgen fseen gen bk till count:Int} {bks:List Bk} {A:Option Addr} {c:Nat} (hs:BksAt F0 w0 R A bks) (hn:A=none→c=0) (hl:bks.length≤1000000) (wr:WfR ⟨2,⟨⟨src,dst,proto,sport,dport⟩,fbk,fgen,fseen⟩,gen,bks,bk,till,count⟩) (hm:mayRec ⟨2,⟨⟨src,dst,proto,sport,dport⟩,fbk,fgen,fseen⟩,gen,bks,bk,till,count⟩=true) (hf:fullSt s ⟨2,⟨⟨src,dst,proto,sport,dport⟩,fbk,fgen,fseen⟩,gen,bks,bk,till,count⟩=false) (hok2:OkSt (doSt s ⟨2,⟨⟨src,dst,proto,sport,dport⟩,fbk,fgen,fseen⟩,gen,bks,bk,till,count⟩)) (h:In F0 w0 w (StA sb s::R)):Calls Tryz.prog 24 #[pR sb,agR ⟨2,⟨⟨src,dst,proto,sport,dport⟩,fbk,fgen,fseen⟩,gen,bks,bk,till,count⟩ A c] w (ApPost (doSt s ⟨2,⟨⟨src,dst,proto,sport,dport⟩,fbk,fgen,fseen⟩,gen,bks,bk,till,count⟩,0) sb F0 w0 R):=by
 have h2:=h.cells #[.int .i64 2,.int .u32 src,.int .u32 dst,.int .i64 proto,.int .i64 sport,.int .i64 dport,.int .i64 fbk,.int .i64 fgen,.int .i64 fseen,.int .i64 gen,.slice A bks.length c,.int .i64 bk,.int .i64 till,.int .i64 count] 39
 have KM:=o_rcmay (r:=⟨2,⟨⟨src,dst,proto,sport,dport⟩,fbk,fgen,fseen⟩,gen,bks,bk,till,count⟩) (c:=c) (fun w' h'=>hs w' h'.drop.drop) (Nat.le_trans hl (by decide)) h2
 rw [hm] at KM
 have HFU:Hid (∀ w',In F0 w0 w' (Cells w.heap.size #[.int .i64 2,.int .u32 src,.int .u32 dst,.int .i64 proto,.int .i64 sport,.int .i64 dport,.int .i64 fbk,.int .i64 fgen,.int .i64 fseen,.int .i64 gen,.slice A bks.length c,.int .i64 bk,.int .i64 till,.int .i64 count] 39::StA sb s::R)→Calls Tryz.prog 68 #[pR sb,agR ⟨2,⟨⟨src,dst,proto,sport,dport⟩,fbk,fgen,fseen⟩,gen,bks,bk,till,count⟩ A c] w' (FuPost false sb s F0 w0 (Cells w.heap.size #[.int .i64 2,.int .u32 src,.int .u32 dst,.int .i64 proto,.int .i64 sport,.int .i64 dport,.int .i64 fbk,.int .i64 fgen,.int .i64 fseen,.int .i64 gen,.slice A bks.length c,.int .i64 bk,.int .i64 till,.int .i64 count] 39::R))):=Lib.hid fun w' h'=>by
  have:=o_full (A:=A) (c:=c) wr hm (h'.sel2 (R1:=[_,_]) [1,0] (by decide) rfl)
  rw [hf] at this
  exact this
 have HWT:=Lib.hid (wr.t:WfT ⟨src,dst,proto,sport,dport⟩)
 have hd:doSt s ⟨2,⟨⟨src,dst,proto,sport,dport⟩,fbk,fgen,fseen⟩,gen,bks,bk,till,count⟩={ s with fls:=stDelF ⟨src,dst,proto,sport,dport⟩ s.fls }:=rfl
 rw [hd] at hok2 ⊢
 have HE:Hid (∀ w' dm fm bv g C,In F0 w0 w' (Cells sb (stC s bv dm fm) 116::BkR bv s.bks::SDM dm s.drs::SFM fm ({ s with fls:=stDelF ⟨src,dst,proto,sport,dport⟩ s.fls }).fls::Cells g C 39::R)→ApPost ({ s with fls:=stDelF ⟨src,dst,proto,sport,dport⟩ s.fls },0) sb F0 w0 R (.returned (.int .i64 0)) w'):=Lib.hid fun w' dm fm bv g C h'=>⟨rfl,In.stClose (s:={ s with fls:=stDelF ⟨src,dst,proto,sport,dport⟩ s.fls }) (dm:=dm) (fm:=fm) (bv:=bv) hok2 (h'.sel2 (R1:=[_,_,_,_,_]) [0,1,2,3] (by decide) rfl)⟩
 have HM:=Lib.hid KM
 clear h h2 hs hn hl wr hm KM hf hok2 hd
 go_enter Tryz.func24,Tryz.ntmps24
 go_wp2_with fail
 refine HM.out.mono ?_
 rintro e w2 ⟨rfl,g2⟩
 obtain⟨y0,y1,y2,y3,y4,y5,y6,y7,y8,y9,y10,y11,y12,y13,yf⟩:=rc_y (y:=⟨2,⟨⟨src,dst,proto,sport,dport⟩,fbk,fgen,fseen⟩,gen,bks,bk,till,count⟩) (pv:=.slice A bks.length c) (g2.block 0 rfl)
 simp only at y0 y1 y2 y3 y4 y5 y6 y7 y8 y9 y10 y11 y12 y13
 have K2:=Lib.hid (HFU.out _ g2)
 clear HM g2 HFU
 go_wp2_with fail
 refine K2.out.mono ?_
 rintro e w3 ⟨rfl,g3⟩
 clear K2 y0 y1 y2 y3 y4 y5 y6 y7 y8 y9 y10 y11 y12 y13 yf
 obtain⟨y0,y1,y2,y3,y4,y5,y6,y7,y8,y9,y10,y11,y12,y13,yf⟩:=rc_y (y:=⟨2,⟨⟨src,dst,proto,sport,dport⟩,fbk,fgen,fseen⟩,gen,bks,bk,till,count⟩) (pv:=.slice A bks.length c) (g3.block 1 rfl)
 simp only at y0 y1 y2 y3 y4 y5 y6 y7 y8 y9 y10 y11 y12 y13
 obtain⟨hok,dm,fm,a,c',g4⟩:=In.stOpen g3
 have c0:w3.cell? ⟨sb,3,none⟩=some (.map (some fm)):=cell_of (g4.block 0 rfl) rfl
 obtain⟨w4,r4,-,g5⟩:=sf_del (g4.drewN 1) 3 rfl hok.fsort (t:=⟨src,dst,proto,sport,dport⟩) HWT.out 34 0
 have r4':(Builtin.delete_ #[114,34] 0 #[.map (some fm),(.agg #[.int .u32 src,.int .u32 dst,.int .i64 proto,.int .i64 sport,.int .i64 dport])]).run Tryz.prog w3.drew=.ok (.tuple #[]) w4:=r4
 have HX:=Lib.hid (HE.out _ _ _ _ _ _ g5)
 generalize w.heap.size=g at *
 have hc1:(fun w':World=>w'.cell? ⟨sb,3,none⟩=some (.map (some fm))∧w'.cell? ⟨g,1,none⟩=some (.int .u32 src)∧w'.cell? ⟨g,2,none⟩=some (.int .u32 dst)∧w'.cell? ⟨g,3,none⟩=some (.int .i64 proto)∧w'.cell? ⟨g,4,none⟩=some (.int .i64 sport)∧w'.cell? ⟨g,5,none⟩=some (.int .i64 dport)) w4:=⟨cell_of (g5.block 0 rfl) rfl,cell_of (g5.block 4 rfl) rfl,cell_of (g5.block 4 rfl) rfl,cell_of (g5.block 4 rfl) rfl,cell_of (g5.block 4 rfl) rfl,cell_of (g5.block 4 rfl) rfl⟩
 simp only at hc1
 clear g3 g4 g5 r4 HE HWT
 go_wp2_with fail
 go_region_held3 (fun w'=>w'.cell? ⟨sb,3,none⟩=some (.map (some fm))∧w'.cell? ⟨g,1,none⟩=some (.int .u32 src)∧w'.cell? ⟨g,2,none⟩=some (.int .u32 dst)∧w'.cell? ⟨g,3,none⟩=some (.int .i64 proto)∧w'.cell? ⟨g,4,none⟩=some (.int .i64 sport)∧w'.cell? ⟨g,5,none⟩=some (.int .i64 dport)) (first | exact hc1 | go_keep) (fail)
 clear hc1 r4'
 go_wp2_with fail
 go_ret
 exact HX.out
theorem o_applyD4 {src dst proto sport dport fbk fgen fseen gen bk till count:Int} {bks:List Bk} {A:Option Addr} {c:Nat} (hs:BksAt F0 w0 R A bks) (hn:A=none→c=0) (hl:bks.length≤1000000) (wr:WfR ⟨4,⟨⟨src,dst,proto,sport,dport⟩,fbk,fgen,fseen⟩,gen,bks,bk,till,count⟩) (hm:mayRec ⟨4,⟨⟨src,dst,proto,sport,dport⟩,fbk,fgen,fseen⟩,gen,bks,bk,till,count⟩=true) (hf:fullSt s ⟨4,⟨⟨src,dst,proto,sport,dport⟩,fbk,fgen,fseen⟩,gen,bks,bk,till,count⟩=false) (hok2:OkSt (doSt s ⟨4,⟨⟨src,dst,proto,sport,dport⟩,fbk,fgen,fseen⟩,gen,bks,bk,till,count⟩)) (h:In F0 w0 w (StA sb s::R)):Calls Tryz.prog 24 #[pR sb,agR ⟨4,⟨⟨src,dst,proto,sport,dport⟩,fbk,fgen,fseen⟩,gen,bks,bk,till,count⟩ A c] w (ApPost (doSt s ⟨4,⟨⟨src,dst,proto,sport,dport⟩,fbk,fgen,fseen⟩,gen,bks,bk,till,count⟩,0) sb F0 w0 R):=by
 have h2:=h.cells #[.int .i64 4,.int .u32 src,.int .u32 dst,.int .i64 proto,.int .i64 sport,.int .i64 dport,.int .i64 fbk,.int .i64 fgen,.int .i64 fseen,.int .i64 gen,.slice A bks.length c,.int .i64 bk,.int .i64 till,.int .i64 count] 39
 have KM:=o_rcmay (r:=⟨4,⟨⟨src,dst,proto,sport,dport⟩,fbk,fgen,fseen⟩,gen,bks,bk,till,count⟩) (c:=c) (fun w' h'=>hs w' h'.drop.drop) (Nat.le_trans hl (by decide)) h2
 rw [hm] at KM
 have HFU:Hid (∀ w',In F0 w0 w' (Cells w.heap.size #[.int .i64 4,.int .u32 src,.int .u32 dst,.int .i64 proto,.int .i64 sport,.int .i64 dport,.int .i64 fbk,.int .i64 fgen,.int .i64 fseen,.int .i64 gen,.slice A bks.length c,.int .i64 bk,.int .i64 till,.int .i64 count] 39::StA sb s::R)→Calls Tryz.prog 68 #[pR sb,agR ⟨4,⟨⟨src,dst,proto,sport,dport⟩,fbk,fgen,fseen⟩,gen,bks,bk,till,count⟩ A c] w' (FuPost false sb s F0 w0 (Cells w.heap.size #[.int .i64 4,.int .u32 src,.int .u32 dst,.int .i64 proto,.int .i64 sport,.int .i64 dport,.int .i64 fbk,.int .i64 fgen,.int .i64 fseen,.int .i64 gen,.slice A bks.length c,.int .i64 bk,.int .i64 till,.int .i64 count] 39::R))):=Lib.hid fun w' h'=>by
  have:=o_full (A:=A) (c:=c) wr hm (h'.sel2 (R1:=[_,_]) [1,0] (by decide) rfl)
  rw [hf] at this
  exact this
 have HWT:=Lib.hid (show (Lit.int .i64 bk).wf=true from by rw [mayRec_iff] at hm;simp only at hm;exact wf_i64 (by omega) (by omega))
 have hd:doSt s ⟨4,⟨⟨src,dst,proto,sport,dport⟩,fbk,fgen,fseen⟩,gen,bks,bk,till,count⟩={ s with drs:=stPutD bk till s.drs }:=rfl
 rw [hd] at hok2 ⊢
 have HE:Hid (∀ w' dm fm bv g C,In F0 w0 w' (Cells sb (stC s bv dm fm) 116::BkR bv s.bks::SDM dm ({ s with drs:=stPutD bk till s.drs }).drs::SFM fm s.fls::Cells g C 39::R)→ApPost ({ s with drs:=stPutD bk till s.drs },0) sb F0 w0 R (.returned (.int .i64 0)) w'):=Lib.hid fun w' dm fm bv g C h'=>⟨rfl,In.stClose (s:={ s with drs:=stPutD bk till s.drs }) (dm:=dm) (fm:=fm) (bv:=bv) hok2 (h'.sel2 (R1:=[_,_,_,_,_]) [0,1,2,3] (by decide) rfl)⟩
 have HM:=Lib.hid KM
 clear h h2 hs hn hl wr hm KM hf hok2 hd
 go_enter Tryz.func24,Tryz.ntmps24
 go_wp2_with fail
 refine HM.out.mono ?_
 rintro e w2 ⟨rfl,g2⟩
 obtain⟨y0,y1,y2,y3,y4,y5,y6,y7,y8,y9,y10,y11,y12,y13,yf⟩:=rc_y (y:=⟨4,⟨⟨src,dst,proto,sport,dport⟩,fbk,fgen,fseen⟩,gen,bks,bk,till,count⟩) (pv:=.slice A bks.length c) (g2.block 0 rfl)
 simp only at y0 y1 y2 y3 y4 y5 y6 y7 y8 y9 y10 y11 y12 y13
 have K2:=Lib.hid (HFU.out _ g2)
 clear HM g2 HFU
 go_wp2_with fail
 refine K2.out.mono ?_
 rintro e w3 ⟨rfl,g3⟩
 clear K2 y0 y1 y2 y3 y4 y5 y6 y7 y8 y9 y10 y11 y12 y13 yf
 obtain⟨y0,y1,y2,y3,y4,y5,y6,y7,y8,y9,y10,y11,y12,y13,yf⟩:=rc_y (y:=⟨4,⟨⟨src,dst,proto,sport,dport⟩,fbk,fgen,fseen⟩,gen,bks,bk,till,count⟩) (pv:=.slice A bks.length c) (g3.block 1 rfl)
 simp only at y0 y1 y2 y3 y4 y5 y6 y7 y8 y9 y10 y11 y12 y13
 obtain⟨hok,dm,fm,a,c',g4⟩:=In.stOpen g3
 have c0:w3.cell? ⟨sb,2,none⟩=some (.map (some dm)):=cell_of (g4.block 0 rfl) rfl
 obtain⟨w4,r4,-,g5⟩:=sd_put (g4.drewN 1) 2 rfl hok.dsort HWT.out till
 have r4':(Instr.mapUpdate 113 (.map (some dm)) (.int .i64 bk) (.int .i64 till)).run Tryz.prog w3.drew=.ok () w4:=r4
 have HX:=Lib.hid (HE.out _ _ _ _ _ _ g5)
 generalize w.heap.size=g at *
 have hc1:(fun w':World=>w'.cell? ⟨sb,2,none⟩=some (.map (some dm))∧w'.cell? ⟨g,11,none⟩=some (.int .i64 bk)∧w'.cell? ⟨g,12,none⟩=some (.int .i64 till)) w4:=⟨cell_of (g5.block 0 rfl) rfl,cell_of (g5.block 4 rfl) rfl,cell_of (g5.block 4 rfl) rfl⟩
 simp only at hc1
 clear g3 g4 g5 r4 HE HWT
 go_wp2_with fail
 go_region_held3 (fun w'=>w'.cell? ⟨sb,2,none⟩=some (.map (some dm))∧w'.cell? ⟨g,11,none⟩=some (.int .i64 bk)∧w'.cell? ⟨g,12,none⟩=some (.int .i64 till)) (first | exact hc1 | go_keep) (fail)
 clear hc1 r4'
 go_wp2_with fail
 go_ret
 exact HX.out
theorem o_applyD5 {src dst proto sport dport fbk fgen fseen gen bk till count:Int} {bks:List Bk} {A:Option Addr} {c:Nat} (hs:BksAt F0 w0 R A bks) (hn:A=none→c=0) (hl:bks.length≤1000000) (wr:WfR ⟨5,⟨⟨src,dst,proto,sport,dport⟩,fbk,fgen,fseen⟩,gen,bks,bk,till,count⟩) (hm:mayRec ⟨5,⟨⟨src,dst,proto,sport,dport⟩,fbk,fgen,fseen⟩,gen,bks,bk,till,count⟩=true) (hf:fullSt s ⟨5,⟨⟨src,dst,proto,sport,dport⟩,fbk,fgen,fseen⟩,gen,bks,bk,till,count⟩=false) (hok2:OkSt (doSt s ⟨5,⟨⟨src,dst,proto,sport,dport⟩,fbk,fgen,fseen⟩,gen,bks,bk,till,count⟩)) (h:In F0 w0 w (StA sb s::R)):Calls Tryz.prog 24 #[pR sb,agR ⟨5,⟨⟨src,dst,proto,sport,dport⟩,fbk,fgen,fseen⟩,gen,bks,bk,till,count⟩ A c] w (ApPost (doSt s ⟨5,⟨⟨src,dst,proto,sport,dport⟩,fbk,fgen,fseen⟩,gen,bks,bk,till,count⟩,0) sb F0 w0 R):=by
 have h2:=h.cells #[.int .i64 5,.int .u32 src,.int .u32 dst,.int .i64 proto,.int .i64 sport,.int .i64 dport,.int .i64 fbk,.int .i64 fgen,.int .i64 fseen,.int .i64 gen,.slice A bks.length c,.int .i64 bk,.int .i64 till,.int .i64 count] 39
 have KM:=o_rcmay (r:=⟨5,⟨⟨src,dst,proto,sport,dport⟩,fbk,fgen,fseen⟩,gen,bks,bk,till,count⟩) (c:=c) (fun w' h'=>hs w' h'.drop.drop) (Nat.le_trans hl (by decide)) h2
 rw [hm] at KM
 have HFU:Hid (∀ w',In F0 w0 w' (Cells w.heap.size #[.int .i64 5,.int .u32 src,.int .u32 dst,.int .i64 proto,.int .i64 sport,.int .i64 dport,.int .i64 fbk,.int .i64 fgen,.int .i64 fseen,.int .i64 gen,.slice A bks.length c,.int .i64 bk,.int .i64 till,.int .i64 count] 39::StA sb s::R)→Calls Tryz.prog 68 #[pR sb,agR ⟨5,⟨⟨src,dst,proto,sport,dport⟩,fbk,fgen,fseen⟩,gen,bks,bk,till,count⟩ A c] w' (FuPost false sb s F0 w0 (Cells w.heap.size #[.int .i64 5,.int .u32 src,.int .u32 dst,.int .i64 proto,.int .i64 sport,.int .i64 dport,.int .i64 fbk,.int .i64 fgen,.int .i64 fseen,.int .i64 gen,.slice A bks.length c,.int .i64 bk,.int .i64 till,.int .i64 count] 39::R))):=Lib.hid fun w' h'=>by
  have:=o_full (A:=A) (c:=c) wr hm (h'.sel2 (R1:=[_,_]) [1,0] (by decide) rfl)
  rw [hf] at this
  exact this
 have HWT:=Lib.hid (show (Lit.int .i64 bk).wf=true from by rw [mayRec_iff] at hm;simp only at hm;exact wf_i64 (by omega) (by omega))
 have hd:doSt s ⟨5,⟨⟨src,dst,proto,sport,dport⟩,fbk,fgen,fseen⟩,gen,bks,bk,till,count⟩={ s with drs:=stDelD bk s.drs }:=rfl
 rw [hd] at hok2 ⊢
 have HE:Hid (∀ w' dm fm bv g C,In F0 w0 w' (Cells sb (stC s bv dm fm) 116::BkR bv s.bks::SDM dm ({ s with drs:=stDelD bk s.drs }).drs::SFM fm s.fls::Cells g C 39::R)→ApPost ({ s with drs:=stDelD bk s.drs },0) sb F0 w0 R (.returned (.int .i64 0)) w'):=Lib.hid fun w' dm fm bv g C h'=>⟨rfl,In.stClose (s:={ s with drs:=stDelD bk s.drs }) (dm:=dm) (fm:=fm) (bv:=bv) hok2 (h'.sel2 (R1:=[_,_,_,_,_]) [0,1,2,3] (by decide) rfl)⟩
 have HM:=Lib.hid KM
 clear h h2 hs hn hl wr hm KM hf hok2 hd
 go_enter Tryz.func24,Tryz.ntmps24
 go_wp2_with fail
 refine HM.out.mono ?_
 rintro e w2 ⟨rfl,g2⟩
 obtain⟨y0,y1,y2,y3,y4,y5,y6,y7,y8,y9,y10,y11,y12,y13,yf⟩:=rc_y (y:=⟨5,⟨⟨src,dst,proto,sport,dport⟩,fbk,fgen,fseen⟩,gen,bks,bk,till,count⟩) (pv:=.slice A bks.length c) (g2.block 0 rfl)
 simp only at y0 y1 y2 y3 y4 y5 y6 y7 y8 y9 y10 y11 y12 y13
 have K2:=Lib.hid (HFU.out _ g2)
 clear HM g2 HFU
 go_wp2_with fail
 refine K2.out.mono ?_
 rintro e w3 ⟨rfl,g3⟩
 clear K2 y0 y1 y2 y3 y4 y5 y6 y7 y8 y9 y10 y11 y12 y13 yf
 obtain⟨y0,y1,y2,y3,y4,y5,y6,y7,y8,y9,y10,y11,y12,y13,yf⟩:=rc_y (y:=⟨5,⟨⟨src,dst,proto,sport,dport⟩,fbk,fgen,fseen⟩,gen,bks,bk,till,count⟩) (pv:=.slice A bks.length c) (g3.block 1 rfl)
 simp only at y0 y1 y2 y3 y4 y5 y6 y7 y8 y9 y10 y11 y12 y13
 obtain⟨hok,dm,fm,a,c',g4⟩:=In.stOpen g3
 have c0:w3.cell? ⟨sb,2,none⟩=some (.map (some dm)):=cell_of (g4.block 0 rfl) rfl
 obtain⟨w4,r4,-,g5⟩:=sd_del (g4.drewN 1) 2 rfl hok.dsort HWT.out 3 0
 have r4':(Builtin.delete_ #[113,3] 0 #[.map (some dm),(.int .i64 bk)]).run Tryz.prog w3.drew=.ok (.tuple #[]) w4:=r4
 have HX:=Lib.hid (HE.out _ _ _ _ _ _ g5)
 generalize w.heap.size=g at *
 have hc1:(fun w':World=>w'.cell? ⟨sb,2,none⟩=some (.map (some dm))∧w'.cell? ⟨g,11,none⟩=some (.int .i64 bk)) w4:=⟨cell_of (g5.block 0 rfl) rfl,cell_of (g5.block 4 rfl) rfl⟩
 simp only at hc1
 clear g3 g4 g5 r4 HE HWT
 go_wp2_with fail
 go_region_held3 (fun w'=>w'.cell? ⟨sb,2,none⟩=some (.map (some dm))∧w'.cell? ⟨g,11,none⟩=some (.int .i64 bk)) (first | exact hc1 | go_keep) (fail)
 clear hc1 r4'
 go_wp2_with fail
 go_ret
 exact HX.out
theorem o_applyD3 {src dst proto sport dport fbk fgen fseen gen bk till count:Int} {bks:List Bk} {A:Option Addr} {c:Nat} (hs:BksAt F0 w0 R A bks) (hn:A=none→c=0) (hl:bks.length≤1000000) (wr:WfR ⟨3,⟨⟨src,dst,proto,sport,dport⟩,fbk,fgen,fseen⟩,gen,bks,bk,till,count⟩) (hm:mayRec ⟨3,⟨⟨src,dst,proto,sport,dport⟩,fbk,fgen,fseen⟩,gen,bks,bk,till,count⟩=true) (hg:gensMay bks=true) (hok2:OkSt { s with gen:=gen,bks:=bks }) (h:In F0 w0 w (StA sb s::R)):Calls Tryz.prog 24 #[pR sb,agR ⟨3,⟨⟨src,dst,proto,sport,dport⟩,fbk,fgen,fseen⟩,gen,bks,bk,till,count⟩ A c] w (ApPost ({ s with gen:=gen,bks:=bks },0) sb F0 w0 R):=by
 have h2:=h.cells #[.int .i64 3,.int .u32 src,.int .u32 dst,.int .i64 proto,.int .i64 sport,.int .i64 dport,.int .i64 fbk,.int .i64 fgen,.int .i64 fseen,.int .i64 gen,.slice A bks.length c,.int .i64 bk,.int .i64 till,.int .i64 count] 39
 have KM:=o_rcmay (r:=⟨3,⟨⟨src,dst,proto,sport,dport⟩,fbk,fgen,fseen⟩,gen,bks,bk,till,count⟩) (c:=c) (fun w' h'=>hs w' h'.drop.drop) (Nat.le_trans hl (by decide)) h2
 rw [hm] at KM
 have hf:fullSt s ⟨3,⟨⟨src,dst,proto,sport,dport⟩,fbk,fgen,fseen⟩,gen,bks,bk,till,count⟩=false:=rfl
 have HG:Hid (∀ w',In F0 w0 w' (Cells w.heap.size #[.int .i64 3,.int .u32 src,.int .u32 dst,.int .i64 proto,.int .i64 sport,.int .i64 dport,.int .i64 fbk,.int .i64 fgen,.int .i64 fseen,.int .i64 gen,.slice A bks.length c,.int .i64 bk,.int .i64 till,.int .i64 count] 39::StA sb s::R)→Calls Tryz.prog 67 #[.slice A bks.length c] w' (GnPost true F0 w0 (Cells w.heap.size #[.int .i64 3,.int .u32 src,.int .u32 dst,.int .i64 proto,.int .i64 sport,.int .i64 dport,.int .i64 fbk,.int .i64 fgen,.int .i64 fseen,.int .i64 gen,.slice A bks.length c,.int .i64 bk,.int .i64 till,.int .i64 count] 39::StA sb s::R))):=Lib.hid fun w' h'=>by
  have:=o_gnmay (c:=c) (fun w' h'=>hs w' h'.drop.drop) (Nat.le_trans hl (by decide)) h'
  rw [hg] at this
  exact this
 have HFU:Hid (∀ w',In F0 w0 w' (Cells w.heap.size #[.int .i64 3,.int .u32 src,.int .u32 dst,.int .i64 proto,.int .i64 sport,.int .i64 dport,.int .i64 fbk,.int .i64 fgen,.int .i64 fseen,.int .i64 gen,.slice A bks.length c,.int .i64 bk,.int .i64 till,.int .i64 count] 39::StA sb s::R)→Calls Tryz.prog 68 #[pR sb,agR ⟨3,⟨⟨src,dst,proto,sport,dport⟩,fbk,fgen,fseen⟩,gen,bks,bk,till,count⟩ A c] w' (FuPost false sb s F0 w0 (Cells w.heap.size #[.int .i64 3,.int .u32 src,.int .u32 dst,.int .i64 proto,.int .i64 sport,.int .i64 dport,.int .i64 fbk,.int .i64 fgen,.int .i64 fseen,.int .i64 gen,.slice A bks.length c,.int .i64 bk,.int .i64 till,.int .i64 count] 39::R))):=Lib.hid fun w' h'=>by
  have:=o_full (A:=A) (c:=c) wr hm (h'.sel2 (R1:=[_,_]) [1,0] (by decide) rfl)
  rw [hf] at this
  exact this
 have HE:Hid (∀ w' dm fm bv g C v,In F0 w0 w' (BkR v bks::Cells sb #[.int .i64 gen,v,.map (some dm),.map (some fm)] 116::BkR bv s.bks::SDM dm s.drs::SFM fm s.fls::Cells g C 39::R)→ApPost ({ s with gen:=gen,bks:=bks },0) sb F0 w0 R (.returned (.int .i64 0)) w'):=Lib.hid fun w' dm fm bv g C v h'=>⟨rfl,In.stClose (s:={ s with gen:=gen,bks:=bks }) (dm:=dm) (fm:=fm) (bv:=v) hok2 (h'.sel2 (R1:=[_,_,_,_,_,_]) [1,0,3,4] (by decide) rfl)⟩
 have HB:Hid (∀ w' B1 B2 B3 B4 B5,In F0 w0 w' (B1::B2::B3::B4::B5::R)→Calls Tryz.prog 52 #[.slice A bks.length c] w' fun e w''=>∃ v,e=.returned v∧In F0 w0 w'' (BkR v bks::B1::B2::B3::B4::B5::R)):=Lib.hid fun w' B1 B2 B3 B4 B5 h'=>o_bkclone h' hn (hs _ h'.drop.drop.drop.drop.drop) hl
 have HM:=Lib.hid KM
 clear h h2 hs hn hl wr hm KM hg hf hok2
 go_enter Tryz.func24,Tryz.ntmps24
 go_wp2_with fail
 refine HM.out.mono ?_
 rintro e w2 ⟨rfl,g2⟩
 obtain⟨y0,y1,y2,y3,y4,y5,y6,y7,y8,y9,y10,y11,y12,y13,yf⟩:=rc_y (y:=⟨3,⟨⟨src,dst,proto,sport,dport⟩,fbk,fgen,fseen⟩,gen,bks,bk,till,count⟩) (pv:=.slice A bks.length c) (g2.block 0 rfl)
 simp only at y0 y1 y2 y3 y4 y5 y6 y7 y8 y9 y10 y11 y12 y13
 have KG:=Lib.hid (HG.out _ g2)
 clear HM g2 HG
 go_wp2_with fail
 refine KG.out.mono ?_
 rintro e w4 ⟨rfl,g2⟩
 clear KG y0 y1 y2 y3 y4 y5 y6 y7 y8 y9 y10 y11 y12 y13 yf
 obtain⟨y0,y1,y2,y3,y4,y5,y6,y7,y8,y9,y10,y11,y12,y13,yf⟩:=rc_y (y:=⟨3,⟨⟨src,dst,proto,sport,dport⟩,fbk,fgen,fseen⟩,gen,bks,bk,till,count⟩) (pv:=.slice A bks.length c) (g2.block 0 rfl)
 simp only at y0 y1 y2 y3 y4 y5 y6 y7 y8 y9 y10 y11 y12 y13
 have HM:True:=trivial
 have K2:=Lib.hid (HFU.out _ g2)
 clear HM g2 HFU
 go_wp2_with fail
 refine K2.out.mono ?_
 rintro e w3 ⟨rfl,g3⟩
 clear K2 y0 y1 y2 y3 y4 y5 y6 y7 y8 y9 y10 y11 y12 y13 yf
 obtain⟨y0,y1,y2,y3,y4,y5,y6,y7,y8,y9,y10,y11,y12,y13,yf⟩:=rc_y (y:=⟨3,⟨⟨src,dst,proto,sport,dport⟩,fbk,fgen,fseen⟩,gen,bks,bk,till,count⟩) (pv:=.slice A bks.length c) (g3.block 1 rfl)
 simp only at y0 y1 y2 y3 y4 y5 y6 y7 y8 y9 y10 y11 y12 y13
 obtain⟨hok,dm,fm,a,c',g4⟩:=In.stOpen g3
 have K5:=Lib.hid (HB.out _ _ _ _ _ _ (g4.drewN 1))
 have hne:¬ w.heap.size=sb:=fun e=>(g4.ne 0 4 (by decide) rfl rfl) e.symm
 have hne2:¬ sb=w.heap.size:=fun e=>hne e.symm
 generalize w.heap.size=g at *
 clear g3 HB hok
 go_wp2_with fail
 go_region_held3 (fun w'=>w'.cell? ⟨g,9,none⟩=some (.int .i64 gen)∧w'.cell? ⟨g,10,none⟩=some (.slice A bks.length c)) (first | exact hz | exact⟨y9,y10⟩ | go_keep)
  (first | (go_at_call 52;refine K5.out.mono ?_;rintro e w4 ⟨v,rfl,g6⟩;obtain⟨Fv,rv⟩:=g6.get 0 rfl;obtain⟨pa,pc,rfl,-,-,-⟩:=RowA.shape rv;have hz:w4.cell? ⟨g,9,none⟩=some (.int .i64 gen)∧w4.cell? ⟨g,10,none⟩=some (.slice A bks.length c):=⟨cell_of (g6.block 5 rfl) rfl,cell_of (g6.block 5 rfl) rfl⟩;have d0:w4.cell? ⟨sb,0,none⟩=some (.int .i64 s.gen):=cell_of (g6.block 1 rfl) rfl;have d1:w4.cell? ⟨sb,1,none⟩=some (.slice a s.bks.length c'):=cell_of (g6.block 1 rfl) rfl;have f0:w4.frozen? ⟨sb,0,none⟩=false:=free_of (g6.block 1 rfl);have f1:w4.frozen? ⟨sb,1,none⟩=false:=free_of (g6.block 1 rfl);have G6:=Lib.hid g6;clear g6 rv))
 have HX:=Lib.hid (HE.out _ _ _ _ _ _ _ (G6.out.setCs [.int .i64 gen,.slice pa bks.length pc] 0 1 rfl))
 clear hz d0 d1 f0 f1 G6 HE
 go_wp2_with fail
 go_ret
 exact HX.out
theorem o_apply {r:Rec} {A:Option Addr} {c:Nat} (hs:BksAt F0 w0 R A r.bks) (hn:A=none→c=0) (hl:r.bks.length≤1000000) (wr:WfR r) (h:In F0 w0 w (StA sb s::R)):Calls Tryz.prog 24 #[pR sb,agR r A c] w (ApPost (applySt s r) sb F0 w0 R):=by
 have hok:OkSt s:=h.stOpen.1
 have hok2:=hok.apply wr
 obtain⟨kind,⟨⟨src,dst,proto,sport,dport⟩,fbk,fgen,fseen⟩,gen,bks,bk,till,count⟩:=r
 generalize hr:(⟨kind,⟨⟨src,dst,proto,sport,dport⟩,fbk,fgen,fseen⟩,gen,bks,bk,till,count⟩:Rec)=r at *
 cases hm:mayRec r with
 | false=>
  have e:applySt s r=(s,1):=by unfold applySt;rw [if_pos (by unfold badSt;rw [hm];rfl)]
  rw [e];subst hr
  exact o_applyN hs hn hl wr hm h
 | true=>
  have hk:r.kind=kind:=by rw [← hr]
  have hall:kind=1∨kind=2∨kind=3∨kind=4∨kind=5∨kind=6:=by
   have:=hm;rw [mayRec_iff,hk] at this;omega
  cases hf:fullSt s r with
  | true=>
   have hk14:kind=1∨kind=4:=by
    by_cases k1:kind=1
    ·exact Or.inl k1
    by_cases k4:kind=4
    ·exact Or.inr k4
    ·unfold fullSt at hf;rw [hk,if_neg k1,if_neg k4] at hf;cases hf
   have hb:badSt r=false:=badSt_false.2 ⟨hm,by rw [hk];omega,by rw [hk];intro e;omega⟩
   have e:applySt s r=(s,9):=by unfold applySt;rw [if_neg (by rw [hb];simp),if_pos hf]
   rw [e];subst hr
   rcases hk14 with rfl | rfl
   ·exact o_applyF1 hs hn hl wr hm hf h
   ·exact o_applyF4 hs hn hl wr hm hf h
  | false=>
   by_cases k6:kind=6
   ·have e:applySt s r=(s,1):=by unfold applySt;rw [if_pos (by unfold badSt;rw [hk,k6,hm];rfl)]
    rw [e];subst hr;subst k6
    exact o_apply6 hs hn hl wr hm h
   ·by_cases h3:kind=3∧gensMay r.bks=false
    ·obtain⟨k3,hg⟩:=h3
     have e:applySt s r=(s,1):=by unfold applySt;rw [if_pos (by unfold badSt;rw [hk,k3,hm,hg];rfl)]
     rw [e];subst hr;subst k3
     exact o_apply3N hs hn hl wr hm hg h
    ·have hb:badSt r=false:=badSt_false.2 ⟨hm,by rw [hk];exact k6,by
      rw [hk];intro e
      cases hg:gensMay r.bks with
      | true=>rfl
      | false=>exact absurd ⟨e,hg⟩ h3⟩
     have e:applySt s r=(doSt s r,0):=by unfold applySt;rw [if_neg (by rw [hb];simp),if_neg (by rw [hf];simp)]
     rw [e] at hok2 ⊢
     subst hr
     rcases hall with rfl | rfl | rfl | rfl | rfl | rfl
     ·exact o_applyD1 hs hn hl wr hm hf hok2 h
     ·exact o_applyD2 hs hn hl wr hm hf hok2 h
     ·refine o_applyD3 hs hn hl wr hm ?_ hok2 h
      cases hg:gensMay bks with
      | true=>rfl
      | false=>exact absurd ⟨rfl,hg⟩ h3
     ·exact o_applyD4 hs hn hl wr hm hf hok2 h
     ·exact o_applyD5 hs hn hl wr hm hf hok2 h
     ·exact absurd rfl k6
end
end Go.Proofs.YtpmmiljakbojaaaGreat
