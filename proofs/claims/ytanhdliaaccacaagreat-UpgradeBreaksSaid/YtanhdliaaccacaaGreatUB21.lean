/- .. -/
import Derived.Test.YtanhdliaaccacaaGreatUB20
namespace Go.Proofs.YtanhdliaaccacaaGreat
open Go.RowKit
open Go.Maps (Keyed)
set_option linter.unusedVariables false
set_option maxHeartbeats 64000000
set_option maxRecDepth 100000
section
variable {F0:List Nat} {w0 w:World} {R:List ax} {sb:Nat} {s:eT}
def kg (p:eT×Int) (sb:Nat) (F0:List Nat) (w0:World) (R:List ax) (e:Ending) (w':World):Prop:=e=.returned (.int .i64 p.2)∧In F0 w0 w' (iF sb p.1::R)
theorem RQ {k src dst proto ag ah bN aJ aA gen bk till count:Int} {au:List Bk} {A:Option Addr} {c:Nat} (hs:gZ F0 w0 R A au) (hn:A=none→c=0) (hl:au.length≤1000000) (wr:nS ⟨k,⟨⟨src,dst,proto,ag,ah⟩,bN,aJ,aA⟩,gen,au,bk,till,count⟩) (hm:bR ⟨k,⟨⟨src,dst,proto,ag,ah⟩,bN,aJ,aA⟩,gen,au,bk,till,count⟩=false) (h:In F0 w0 w (iF sb s::R)):Calls Tryz.prog 65 #[pR sb,tq ⟨k,⟨⟨src,dst,proto,ag,ah⟩,bN,aJ,aA⟩,gen,au,bk,till,count⟩ A c] w (kg (s,1) sb F0 w0 R):=by
 have h2:=h.cells #[.int .i64 k,.int .u32 src,.int .u32 dst,.int .i64 proto,.int .i64 ag,.int .i64 ah,.int .i64 bN,.int .i64 aJ,.int .i64 aA,.int .i64 gen,.slice A au.length c,.int .i64 bk,.int .i64 till,.int .i64 count] 59
 have KM:=jE (r:=⟨k,⟨⟨src,dst,proto,ag,ah⟩,bN,aJ,aA⟩,gen,au,bk,till,count⟩) (c:=c) (fun w' h'=>hs w' h'.drop.drop) (Nat.le_trans hl (by decide)) h2
 rw [hm] at KM
 have HM:=Lib.hid KM
 clear h h2 hs hn hl wr hm KM
 go_enter Tryz.func65,Tryz.ntmps65
 go_wp2_with fail
 refine HM.out.mono ?_
 rintro e w2 ⟨rfl,g2⟩
 have G:=Lib.hid g2.drop
 clear g2 HM
 go_wp2_with fail
 go_ret
 exact⟨rfl,G.out⟩
theorem RS {src dst proto ag ah bN aJ aA gen bk till count:Int} {au:List Bk} {A:Option Addr} {c:Nat} (hs:gZ F0 w0 R A au) (hn:A=none→c=0) (hl:au.length≤1000000) (wr:nS ⟨6,⟨⟨src,dst,proto,ag,ah⟩,bN,aJ,aA⟩,gen,au,bk,till,count⟩) (hm:bR ⟨6,⟨⟨src,dst,proto,ag,ah⟩,bN,aJ,aA⟩,gen,au,bk,till,count⟩=true) (h:In F0 w0 w (iF sb s::R)):Calls Tryz.prog 65 #[pR sb,tq ⟨6,⟨⟨src,dst,proto,ag,ah⟩,bN,aJ,aA⟩,gen,au,bk,till,count⟩ A c] w (kg (s,1) sb F0 w0 R):=by
 have h2:=h.cells #[.int .i64 6,.int .u32 src,.int .u32 dst,.int .i64 proto,.int .i64 ag,.int .i64 ah,.int .i64 bN,.int .i64 aJ,.int .i64 aA,.int .i64 gen,.slice A au.length c,.int .i64 bk,.int .i64 till,.int .i64 count] 59
 have KM:=jE (r:=⟨6,⟨⟨src,dst,proto,ag,ah⟩,bN,aJ,aA⟩,gen,au,bk,till,count⟩) (c:=c) (fun w' h'=>hs w' h'.drop.drop) (Nat.le_trans hl (by decide)) h2
 rw [hm] at KM
 have HM:=Lib.hid KM
 clear h h2 hs hn hl wr hm KM
 go_enter Tryz.func65,Tryz.ntmps65
 go_wp2_with fail
 refine HM.out.mono ?_
 rintro e w2 ⟨rfl,g2⟩
 obtain⟨y0,y1,y2,y3,y4,y5,y6,y7,y8,y9,mh,ow,oz,y13,yf⟩:=jr (y:=⟨6,⟨⟨src,dst,proto,ag,ah⟩,bN,aJ,aA⟩,gen,au,bk,till,count⟩) (pv:=.slice A au.length c) (g2.block 0 rfl)
 simp only at y0 y1 y2 y3 y4 y5 y6 y7 y8 y9 mh ow oz y13
 have G:=Lib.hid g2.drop
 clear g2 HM
 go_wp2_with fail
 go_ret
 exact⟨rfl,G.out⟩
theorem Od {src dst proto ag ah bN aJ aA gen bk till count:Int} {au:List Bk} {A:Option Addr} {c:Nat} (hs:gZ F0 w0 R A au) (hn:A=none→c=0) (hl:au.length≤1000000) (wr:nS ⟨3,⟨⟨src,dst,proto,ag,ah⟩,bN,aJ,aA⟩,gen,au,bk,till,count⟩) (hm:bR ⟨3,⟨⟨src,dst,proto,ag,ah⟩,bN,aJ,aA⟩,gen,au,bk,till,count⟩=true) (hg:fu au=false) (h:In F0 w0 w (iF sb s::R)):Calls Tryz.prog 65 #[pR sb,tq ⟨3,⟨⟨src,dst,proto,ag,ah⟩,bN,aJ,aA⟩,gen,au,bk,till,count⟩ A c] w (kg (s,1) sb F0 w0 R):=by
 have h2:=h.cells #[.int .i64 3,.int .u32 src,.int .u32 dst,.int .i64 proto,.int .i64 ag,.int .i64 ah,.int .i64 bN,.int .i64 aJ,.int .i64 aA,.int .i64 gen,.slice A au.length c,.int .i64 bk,.int .i64 till,.int .i64 count] 59
 have KM:=jE (r:=⟨3,⟨⟨src,dst,proto,ag,ah⟩,bN,aJ,aA⟩,gen,au,bk,till,count⟩) (c:=c) (fun w' h'=>hs w' h'.drop.drop) (Nat.le_trans hl (by decide)) h2
 rw [hm] at KM
 have HG:Hid (∀ w',In F0 w0 w' (Cells w.heap.size #[.int .i64 3,.int .u32 src,.int .u32 dst,.int .i64 proto,.int .i64 ag,.int .i64 ah,.int .i64 bN,.int .i64 aJ,.int .i64 aA,.int .i64 gen,.slice A au.length c,.int .i64 bk,.int .i64 till,.int .i64 count] 59::iF sb s::R)→Calls Tryz.prog 135 #[.slice A au.length c] w' (BA false F0 w0 (Cells w.heap.size #[.int .i64 3,.int .u32 src,.int .u32 dst,.int .i64 proto,.int .i64 ag,.int .i64 ah,.int .i64 bN,.int .i64 aJ,.int .i64 aA,.int .i64 gen,.slice A au.length c,.int .i64 bk,.int .i64 till,.int .i64 count] 59::iF sb s::R))):=Lib.hid fun w' h'=>by
  have:=MM (c:=c) (fun w' h'=>hs w' h'.drop.drop) (Nat.le_trans hl (by decide)) h'
  rw [hg] at this
  exact this
 have HM:=Lib.hid KM
 clear h h2 hs hn hl wr hm KM hg
 go_enter Tryz.func65,Tryz.ntmps65
 go_wp2_with fail
 refine HM.out.mono ?_
 rintro e w2 ⟨rfl,g2⟩
 obtain⟨y0,y1,y2,y3,y4,y5,y6,y7,y8,y9,mh,ow,oz,y13,yf⟩:=jr (y:=⟨3,⟨⟨src,dst,proto,ag,ah⟩,bN,aJ,aA⟩,gen,au,bk,till,count⟩) (pv:=.slice A au.length c) (g2.block 0 rfl)
 simp only at y0 y1 y2 y3 y4 y5 y6 y7 y8 y9 mh ow oz y13
 have KG:=Lib.hid (HG.out _ g2)
 clear HM g2 HG
 go_wp2_with fail
 refine KG.out.mono ?_
 rintro e w4 ⟨rfl,g2⟩
 clear KG y0 y1 y2 y3 y4 y5 y6 y7 y8 y9 mh ow oz y13 yf
 obtain⟨y0,y1,y2,y3,y4,y5,y6,y7,y8,y9,mh,ow,oz,y13,yf⟩:=jr (y:=⟨3,⟨⟨src,dst,proto,ag,ah⟩,bN,aJ,aA⟩,gen,au,bk,till,count⟩) (pv:=.slice A au.length c) (g2.block 0 rfl)
 simp only at y0 y1 y2 y3 y4 y5 y6 y7 y8 y9 mh ow oz y13
 have HM:=True
 have G:=Lib.hid g2.drop
 clear g2
 go_wp2_with fail
 go_ret
 exact⟨rfl,G.out⟩
theorem Oe {src dst proto ag ah bN aJ aA gen bk till count:Int} {au:List Bk} {A:Option Addr} {c:Nat} (hs:gZ F0 w0 R A au) (hn:A=none→c=0) (hl:au.length≤1000000) (wr:nS ⟨1,⟨⟨src,dst,proto,ag,ah⟩,bN,aJ,aA⟩,gen,au,bk,till,count⟩) (hm:bR ⟨1,⟨⟨src,dst,proto,ag,ah⟩,bN,aJ,aA⟩,gen,au,bk,till,count⟩=true) (hf:fF s ⟨1,⟨⟨src,dst,proto,ag,ah⟩,bN,aJ,aA⟩,gen,au,bk,till,count⟩=true) (h:In F0 w0 w (iF sb s::R)):Calls Tryz.prog 65 #[pR sb,tq ⟨1,⟨⟨src,dst,proto,ag,ah⟩,bN,aJ,aA⟩,gen,au,bk,till,count⟩ A c] w (kg (s,9) sb F0 w0 R):=by
 have h2:=h.cells #[.int .i64 1,.int .u32 src,.int .u32 dst,.int .i64 proto,.int .i64 ag,.int .i64 ah,.int .i64 bN,.int .i64 aJ,.int .i64 aA,.int .i64 gen,.slice A au.length c,.int .i64 bk,.int .i64 till,.int .i64 count] 59
 have KM:=jE (r:=⟨1,⟨⟨src,dst,proto,ag,ah⟩,bN,aJ,aA⟩,gen,au,bk,till,count⟩) (c:=c) (fun w' h'=>hs w' h'.drop.drop) (Nat.le_trans hl (by decide)) h2
 rw [hm] at KM
 have DD:Hid (∀ w',In F0 w0 w' (Cells w.heap.size #[.int .i64 1,.int .u32 src,.int .u32 dst,.int .i64 proto,.int .i64 ag,.int .i64 ah,.int .i64 bN,.int .i64 aJ,.int .i64 aA,.int .i64 gen,.slice A au.length c,.int .i64 bk,.int .i64 till,.int .i64 count] 59::iF sb s::R)→Calls Tryz.prog 136 #[pR sb,tq ⟨1,⟨⟨src,dst,proto,ag,ah⟩,bN,aJ,aA⟩,gen,au,bk,till,count⟩ A c] w' (kM true sb s F0 w0 (Cells w.heap.size #[.int .i64 1,.int .u32 src,.int .u32 dst,.int .i64 proto,.int .i64 ag,.int .i64 ah,.int .i64 bN,.int .i64 aJ,.int .i64 aA,.int .i64 gen,.slice A au.length c,.int .i64 bk,.int .i64 till,.int .i64 count] 59::R))):=Lib.hid fun w' h'=>by
  have:=vN (A:=A) (c:=c) wr hm (h'.aL (R1:=[_,_]) [1,0] (by decide) rfl)
  rw [hf] at this
  exact this
 have HM:=Lib.hid KM
 clear h h2 hs hn hl wr hm KM hf
 go_enter Tryz.func65,Tryz.ntmps65
 go_wp2_with fail
 refine HM.out.mono ?_
 rintro e w2 ⟨rfl,g2⟩
 obtain⟨y0,y1,y2,y3,y4,y5,y6,y7,y8,y9,mh,ow,oz,y13,yf⟩:=jr (y:=⟨1,⟨⟨src,dst,proto,ag,ah⟩,bN,aJ,aA⟩,gen,au,bk,till,count⟩) (pv:=.slice A au.length c) (g2.block 0 rfl)
 simp only at y0 y1 y2 y3 y4 y5 y6 y7 y8 y9 mh ow oz y13
 have K2:=Lib.hid (DD.out _ g2)
 clear HM g2 DD
 go_wp2_with fail
 refine K2.out.mono ?_
 rintro e w3 ⟨rfl,g3⟩
 clear K2 y0 y1 y2 y3 y4 y5 y6 y7 y8 y9 mh ow oz y13 yf
 obtain⟨y0,y1,y2,y3,y4,y5,y6,y7,y8,y9,mh,ow,oz,y13,yf⟩:=jr (y:=⟨1,⟨⟨src,dst,proto,ag,ah⟩,bN,aJ,aA⟩,gen,au,bk,till,count⟩) (pv:=.slice A au.length c) (g3.block 1 rfl)
 simp only at y0 y1 y2 y3 y4 y5 y6 y7 y8 y9 mh ow oz y13
 have G:=Lib.hid (g3.aL (R1:=[_,_]) [0] (by decide) rfl)
 clear g3
 go_wp2_with fail
 go_ret
 exact⟨rfl,G.out⟩
theorem Og {src dst proto ag ah bN aJ aA gen bk till count:Int} {au:List Bk} {A:Option Addr} {c:Nat} (hs:gZ F0 w0 R A au) (hn:A=none→c=0) (hl:au.length≤1000000) (wr:nS ⟨4,⟨⟨src,dst,proto,ag,ah⟩,bN,aJ,aA⟩,gen,au,bk,till,count⟩) (hm:bR ⟨4,⟨⟨src,dst,proto,ag,ah⟩,bN,aJ,aA⟩,gen,au,bk,till,count⟩=true) (hf:fF s ⟨4,⟨⟨src,dst,proto,ag,ah⟩,bN,aJ,aA⟩,gen,au,bk,till,count⟩=true) (h:In F0 w0 w (iF sb s::R)):Calls Tryz.prog 65 #[pR sb,tq ⟨4,⟨⟨src,dst,proto,ag,ah⟩,bN,aJ,aA⟩,gen,au,bk,till,count⟩ A c] w (kg (s,9) sb F0 w0 R):=by
 have h2:=h.cells #[.int .i64 4,.int .u32 src,.int .u32 dst,.int .i64 proto,.int .i64 ag,.int .i64 ah,.int .i64 bN,.int .i64 aJ,.int .i64 aA,.int .i64 gen,.slice A au.length c,.int .i64 bk,.int .i64 till,.int .i64 count] 59
 have KM:=jE (r:=⟨4,⟨⟨src,dst,proto,ag,ah⟩,bN,aJ,aA⟩,gen,au,bk,till,count⟩) (c:=c) (fun w' h'=>hs w' h'.drop.drop) (Nat.le_trans hl (by decide)) h2
 rw [hm] at KM
 have DD:Hid (∀ w',In F0 w0 w' (Cells w.heap.size #[.int .i64 4,.int .u32 src,.int .u32 dst,.int .i64 proto,.int .i64 ag,.int .i64 ah,.int .i64 bN,.int .i64 aJ,.int .i64 aA,.int .i64 gen,.slice A au.length c,.int .i64 bk,.int .i64 till,.int .i64 count] 59::iF sb s::R)→Calls Tryz.prog 136 #[pR sb,tq ⟨4,⟨⟨src,dst,proto,ag,ah⟩,bN,aJ,aA⟩,gen,au,bk,till,count⟩ A c] w' (kM true sb s F0 w0 (Cells w.heap.size #[.int .i64 4,.int .u32 src,.int .u32 dst,.int .i64 proto,.int .i64 ag,.int .i64 ah,.int .i64 bN,.int .i64 aJ,.int .i64 aA,.int .i64 gen,.slice A au.length c,.int .i64 bk,.int .i64 till,.int .i64 count] 59::R))):=Lib.hid fun w' h'=>by
  have:=vN (A:=A) (c:=c) wr hm (h'.aL (R1:=[_,_]) [1,0] (by decide) rfl)
  rw [hf] at this
  exact this
 have HM:=Lib.hid KM
 clear h h2 hs hn hl wr hm KM hf
 go_enter Tryz.func65,Tryz.ntmps65
 go_wp2_with fail
 refine HM.out.mono ?_
 rintro e w2 ⟨rfl,g2⟩
 obtain⟨y0,y1,y2,y3,y4,y5,y6,y7,y8,y9,mh,ow,oz,y13,yf⟩:=jr (y:=⟨4,⟨⟨src,dst,proto,ag,ah⟩,bN,aJ,aA⟩,gen,au,bk,till,count⟩) (pv:=.slice A au.length c) (g2.block 0 rfl)
 simp only at y0 y1 y2 y3 y4 y5 y6 y7 y8 y9 mh ow oz y13
 have K2:=Lib.hid (DD.out _ g2)
 clear HM g2 DD
 go_wp2_with fail
 refine K2.out.mono ?_
 rintro e w3 ⟨rfl,g3⟩
 clear K2 y0 y1 y2 y3 y4 y5 y6 y7 y8 y9 mh ow oz y13 yf
 obtain⟨y0,y1,y2,y3,y4,y5,y6,y7,y8,y9,mh,ow,oz,y13,yf⟩:=jr (y:=⟨4,⟨⟨src,dst,proto,ag,ah⟩,bN,aJ,aA⟩,gen,au,bk,till,count⟩) (pv:=.slice A au.length c) (g3.block 1 rfl)
 simp only at y0 y1 y2 y3 y4 y5 y6 y7 y8 y9 mh ow oz y13
 have G:=Lib.hid (g3.aL (R1:=[_,_]) [0] (by decide) rfl)
 clear g3
 go_wp2_with fail
 go_ret
 exact⟨rfl,G.out⟩
theorem Oh {src dst proto ag ah bN aJ aA gen bk till count:Int} {au:List Bk} {A:Option Addr} {c:Nat} (hs:gZ F0 w0 R A au) (hn:A=none→c=0) (hl:au.length≤1000000) (wr:nS ⟨1,⟨⟨src,dst,proto,ag,ah⟩,bN,aJ,aA⟩,gen,au,bk,till,count⟩) (hm:bR ⟨1,⟨⟨src,dst,proto,ag,ah⟩,bN,aJ,aA⟩,gen,au,bk,till,count⟩=true) (hf:fF s ⟨1,⟨⟨src,dst,proto,ag,ah⟩,bN,aJ,aA⟩,gen,au,bk,till,count⟩=false) (hok2:gm (lF s ⟨1,⟨⟨src,dst,proto,ag,ah⟩,bN,aJ,aA⟩,gen,au,bk,till,count⟩)) (h:In F0 w0 w (iF sb s::R)):Calls Tryz.prog 65 #[pR sb,tq ⟨1,⟨⟨src,dst,proto,ag,ah⟩,bN,aJ,aA⟩,gen,au,bk,till,count⟩ A c] w (kg (lF s ⟨1,⟨⟨src,dst,proto,ag,ah⟩,bN,aJ,aA⟩,gen,au,bk,till,count⟩,0) sb F0 w0 R):=by
 have h2:=h.cells #[.int .i64 1,.int .u32 src,.int .u32 dst,.int .i64 proto,.int .i64 ag,.int .i64 ah,.int .i64 bN,.int .i64 aJ,.int .i64 aA,.int .i64 gen,.slice A au.length c,.int .i64 bk,.int .i64 till,.int .i64 count] 59
 have KM:=jE (r:=⟨1,⟨⟨src,dst,proto,ag,ah⟩,bN,aJ,aA⟩,gen,au,bk,till,count⟩) (c:=c) (fun w' h'=>hs w' h'.drop.drop) (Nat.le_trans hl (by decide)) h2
 rw [hm] at KM
 have DD:Hid (∀ w',In F0 w0 w' (Cells w.heap.size #[.int .i64 1,.int .u32 src,.int .u32 dst,.int .i64 proto,.int .i64 ag,.int .i64 ah,.int .i64 bN,.int .i64 aJ,.int .i64 aA,.int .i64 gen,.slice A au.length c,.int .i64 bk,.int .i64 till,.int .i64 count] 59::iF sb s::R)→Calls Tryz.prog 136 #[pR sb,tq ⟨1,⟨⟨src,dst,proto,ag,ah⟩,bN,aJ,aA⟩,gen,au,bk,till,count⟩ A c] w' (kM false sb s F0 w0 (Cells w.heap.size #[.int .i64 1,.int .u32 src,.int .u32 dst,.int .i64 proto,.int .i64 ag,.int .i64 ah,.int .i64 bN,.int .i64 aJ,.int .i64 aA,.int .i64 gen,.slice A au.length c,.int .i64 bk,.int .i64 till,.int .i64 count] 59::R))):=Lib.hid fun w' h'=>by
  have:=vN (A:=A) (c:=c) wr hm (h'.aL (R1:=[_,_]) [1,0] (by decide) rfl)
  rw [hf] at this
  exact this
 have RU:=Lib.hid (wr.t:GK ⟨src,dst,proto,ag,ah⟩)
 have hd:lF s ⟨1,⟨⟨src,dst,proto,ag,ah⟩,bN,aJ,aA⟩,gen,au,bk,till,count⟩={ s with bS:=stPutF ⟨⟨src,dst,proto,ag,ah⟩,bN,aJ,aA⟩ s.bS }:=rfl
 rw [hd] at hok2 ⊢
 have HE:Hid (∀ w' dm fm bv g C,In F0 w0 w' (Cells sb (JC s bv dm fm) 100::gq bv s.au::zO dm s.bL::Cq fm ({ s with bS:=stPutF ⟨⟨src,dst,proto,ag,ah⟩,bN,aJ,aA⟩ s.bS }).bS::Cells g C 59::R)→kg ({ s with bS:=stPutF ⟨⟨src,dst,proto,ag,ah⟩,bN,aJ,aA⟩ s.bS },0) sb F0 w0 R (.returned (.int .i64 0)) w'):=Lib.hid fun w' dm fm bv g C h'=>⟨rfl,In.lT (s:={ s with bS:=stPutF ⟨⟨src,dst,proto,ag,ah⟩,bN,aJ,aA⟩ s.bS }) (dm:=dm) (fm:=fm) (bv:=bv) hok2 (h'.aL (R1:=[_,_,_,_,_]) [0,1,2,3] (by decide) rfl)⟩
 have HM:=Lib.hid KM
 clear h h2 hs hn hl wr hm KM hf hok2 hd
 go_enter Tryz.func65,Tryz.ntmps65
 go_wp2_with fail
 refine HM.out.mono ?_
 rintro e w2 ⟨rfl,g2⟩
 obtain⟨y0,y1,y2,y3,y4,y5,y6,y7,y8,y9,mh,ow,oz,y13,yf⟩:=jr (y:=⟨1,⟨⟨src,dst,proto,ag,ah⟩,bN,aJ,aA⟩,gen,au,bk,till,count⟩) (pv:=.slice A au.length c) (g2.block 0 rfl)
 simp only at y0 y1 y2 y3 y4 y5 y6 y7 y8 y9 mh ow oz y13
 have K2:=Lib.hid (DD.out _ g2)
 clear HM g2 DD
 go_wp2_with fail
 refine K2.out.mono ?_
 rintro e w3 ⟨rfl,g3⟩
 clear K2 y0 y1 y2 y3 y4 y5 y6 y7 y8 y9 mh ow oz y13 yf
 obtain⟨y0,y1,y2,y3,y4,y5,y6,y7,y8,y9,mh,ow,oz,y13,yf⟩:=jr (y:=⟨1,⟨⟨src,dst,proto,ag,ah⟩,bN,aJ,aA⟩,gen,au,bk,till,count⟩) (pv:=.slice A au.length c) (g3.block 1 rfl)
 simp only at y0 y1 y2 y3 y4 y5 y6 y7 y8 y9 mh ow oz y13
 obtain⟨hok,dm,fm,a,c',g4⟩:=In.nu g3
 have c0:w3.cell? ⟨sb,3,none⟩=some (.map (some fm)):=cell_of (g4.block 0 rfl) rfl
 obtain⟨w4,r4,-,g5⟩:=XW (f:=⟨⟨src,dst,proto,ag,ah⟩,bN,aJ,aA⟩) (g4.drewN 1) 3 rfl hok.CQ RU.out
 have Ye:(Instr.mapUpdate 98 (.map (some fm)) (.agg #[.int .u32 src,.int .u32 dst,.int .i64 proto,.int .i64 ag,.int .i64 ah]) (.agg #[.int .u32 src,.int .u32 dst,.int .i64 proto,.int .i64 ag,.int .i64 ah,.int .i64 bN,.int .i64 aJ,.int .i64 aA])).run Tryz.prog w3.drew=.ok () w4:=r4
 have HX:=Lib.hid (HE.out _ _ _ _ _ _ g5)
 generalize w.heap.size=g at *
 have hc1:(fun w':World=>w'.cell? ⟨sb,3,none⟩=some (.map (some fm))∧w'.cell? ⟨g,1,none⟩=some (.int .u32 src)∧w'.cell? ⟨g,2,none⟩=some (.int .u32 dst)∧w'.cell? ⟨g,3,none⟩=some (.int .i64 proto)∧w'.cell? ⟨g,4,none⟩=some (.int .i64 ag)∧w'.cell? ⟨g,5,none⟩=some (.int .i64 ah)∧w'.cell? ⟨g,6,none⟩=some (.int .i64 bN)∧w'.cell? ⟨g,7,none⟩=some (.int .i64 aJ)∧w'.cell? ⟨g,8,none⟩=some (.int .i64 aA)) w4:=⟨cell_of (g5.block 0 rfl) rfl,cell_of (g5.block 4 rfl) rfl,cell_of (g5.block 4 rfl) rfl,cell_of (g5.block 4 rfl) rfl,cell_of (g5.block 4 rfl) rfl,cell_of (g5.block 4 rfl) rfl,cell_of (g5.block 4 rfl) rfl,cell_of (g5.block 4 rfl) rfl,cell_of (g5.block 4 rfl) rfl⟩
 simp only at hc1
 clear g3 g4 g5 r4 HE RU
 go_wp2_with fail
 go_region_held3 (fun w'=>w'.cell? ⟨sb,3,none⟩=some (.map (some fm))∧w'.cell? ⟨g,1,none⟩=some (.int .u32 src)∧w'.cell? ⟨g,2,none⟩=some (.int .u32 dst)∧w'.cell? ⟨g,3,none⟩=some (.int .i64 proto)∧w'.cell? ⟨g,4,none⟩=some (.int .i64 ag)∧w'.cell? ⟨g,5,none⟩=some (.int .i64 ah)∧w'.cell? ⟨g,6,none⟩=some (.int .i64 bN)∧w'.cell? ⟨g,7,none⟩=some (.int .i64 aJ)∧w'.cell? ⟨g,8,none⟩=some (.int .i64 aA)) (first | exact hc1 | go_keep) (fail)
 clear hc1 Ye
 go_wp2_with fail
 go_ret
 exact HX.out
theorem Oi {src dst proto ag ah bN aJ aA gen bk till count:Int} {au:List Bk} {A:Option Addr} {c:Nat} (hs:gZ F0 w0 R A au) (hn:A=none→c=0) (hl:au.length≤1000000) (wr:nS ⟨2,⟨⟨src,dst,proto,ag,ah⟩,bN,aJ,aA⟩,gen,au,bk,till,count⟩) (hm:bR ⟨2,⟨⟨src,dst,proto,ag,ah⟩,bN,aJ,aA⟩,gen,au,bk,till,count⟩=true) (hf:fF s ⟨2,⟨⟨src,dst,proto,ag,ah⟩,bN,aJ,aA⟩,gen,au,bk,till,count⟩=false) (hok2:gm (lF s ⟨2,⟨⟨src,dst,proto,ag,ah⟩,bN,aJ,aA⟩,gen,au,bk,till,count⟩)) (h:In F0 w0 w (iF sb s::R)):Calls Tryz.prog 65 #[pR sb,tq ⟨2,⟨⟨src,dst,proto,ag,ah⟩,bN,aJ,aA⟩,gen,au,bk,till,count⟩ A c] w (kg (lF s ⟨2,⟨⟨src,dst,proto,ag,ah⟩,bN,aJ,aA⟩,gen,au,bk,till,count⟩,0) sb F0 w0 R):=by
 have h2:=h.cells #[.int .i64 2,.int .u32 src,.int .u32 dst,.int .i64 proto,.int .i64 ag,.int .i64 ah,.int .i64 bN,.int .i64 aJ,.int .i64 aA,.int .i64 gen,.slice A au.length c,.int .i64 bk,.int .i64 till,.int .i64 count] 59
 have KM:=jE (r:=⟨2,⟨⟨src,dst,proto,ag,ah⟩,bN,aJ,aA⟩,gen,au,bk,till,count⟩) (c:=c) (fun w' h'=>hs w' h'.drop.drop) (Nat.le_trans hl (by decide)) h2
 rw [hm] at KM
 have DD:Hid (∀ w',In F0 w0 w' (Cells w.heap.size #[.int .i64 2,.int .u32 src,.int .u32 dst,.int .i64 proto,.int .i64 ag,.int .i64 ah,.int .i64 bN,.int .i64 aJ,.int .i64 aA,.int .i64 gen,.slice A au.length c,.int .i64 bk,.int .i64 till,.int .i64 count] 59::iF sb s::R)→Calls Tryz.prog 136 #[pR sb,tq ⟨2,⟨⟨src,dst,proto,ag,ah⟩,bN,aJ,aA⟩,gen,au,bk,till,count⟩ A c] w' (kM false sb s F0 w0 (Cells w.heap.size #[.int .i64 2,.int .u32 src,.int .u32 dst,.int .i64 proto,.int .i64 ag,.int .i64 ah,.int .i64 bN,.int .i64 aJ,.int .i64 aA,.int .i64 gen,.slice A au.length c,.int .i64 bk,.int .i64 till,.int .i64 count] 59::R))):=Lib.hid fun w' h'=>by
  have:=vN (A:=A) (c:=c) wr hm (h'.aL (R1:=[_,_]) [1,0] (by decide) rfl)
  rw [hf] at this
  exact this
 have RU:=Lib.hid (wr.t:GK ⟨src,dst,proto,ag,ah⟩)
 have hd:lF s ⟨2,⟨⟨src,dst,proto,ag,ah⟩,bN,aJ,aA⟩,gen,au,bk,till,count⟩={ s with bS:=kG ⟨src,dst,proto,ag,ah⟩ s.bS }:=rfl
 rw [hd] at hok2 ⊢
 have HE:Hid (∀ w' dm fm bv g C,In F0 w0 w' (Cells sb (JC s bv dm fm) 100::gq bv s.au::zO dm s.bL::Cq fm ({ s with bS:=kG ⟨src,dst,proto,ag,ah⟩ s.bS }).bS::Cells g C 59::R)→kg ({ s with bS:=kG ⟨src,dst,proto,ag,ah⟩ s.bS },0) sb F0 w0 R (.returned (.int .i64 0)) w'):=Lib.hid fun w' dm fm bv g C h'=>⟨rfl,In.lT (s:={ s with bS:=kG ⟨src,dst,proto,ag,ah⟩ s.bS }) (dm:=dm) (fm:=fm) (bv:=bv) hok2 (h'.aL (R1:=[_,_,_,_,_]) [0,1,2,3] (by decide) rfl)⟩
 have HM:=Lib.hid KM
 clear h h2 hs hn hl wr hm KM hf hok2 hd
 go_enter Tryz.func65,Tryz.ntmps65
 go_wp2_with fail
 refine HM.out.mono ?_
 rintro e w2 ⟨rfl,g2⟩
 obtain⟨y0,y1,y2,y3,y4,y5,y6,y7,y8,y9,mh,ow,oz,y13,yf⟩:=jr (y:=⟨2,⟨⟨src,dst,proto,ag,ah⟩,bN,aJ,aA⟩,gen,au,bk,till,count⟩) (pv:=.slice A au.length c) (g2.block 0 rfl)
 simp only at y0 y1 y2 y3 y4 y5 y6 y7 y8 y9 mh ow oz y13
 have K2:=Lib.hid (DD.out _ g2)
 clear HM g2 DD
 go_wp2_with fail
 refine K2.out.mono ?_
 rintro e w3 ⟨rfl,g3⟩
 clear K2 y0 y1 y2 y3 y4 y5 y6 y7 y8 y9 mh ow oz y13 yf
 obtain⟨y0,y1,y2,y3,y4,y5,y6,y7,y8,y9,mh,ow,oz,y13,yf⟩:=jr (y:=⟨2,⟨⟨src,dst,proto,ag,ah⟩,bN,aJ,aA⟩,gen,au,bk,till,count⟩) (pv:=.slice A au.length c) (g3.block 1 rfl)
 simp only at y0 y1 y2 y3 y4 y5 y6 y7 y8 y9 mh ow oz y13
 obtain⟨hok,dm,fm,a,c',g4⟩:=In.nu g3
 have c0:w3.cell? ⟨sb,3,none⟩=some (.map (some fm)):=cell_of (g4.block 0 rfl) rfl
 obtain⟨w4,r4,-,g5⟩:=XX (g4.drewN 1) 3 rfl hok.CQ (t:=⟨src,dst,proto,ag,ah⟩) RU.out 47 0
 have Ye:(Builtin.delete_ #[98,47] 0 #[.map (some fm),(.agg #[.int .u32 src,.int .u32 dst,.int .i64 proto,.int .i64 ag,.int .i64 ah])]).run Tryz.prog w3.drew=.ok (.tuple #[]) w4:=r4
 have HX:=Lib.hid (HE.out _ _ _ _ _ _ g5)
 generalize w.heap.size=g at *
 have hc1:(fun w':World=>w'.cell? ⟨sb,3,none⟩=some (.map (some fm))∧w'.cell? ⟨g,1,none⟩=some (.int .u32 src)∧w'.cell? ⟨g,2,none⟩=some (.int .u32 dst)∧w'.cell? ⟨g,3,none⟩=some (.int .i64 proto)∧w'.cell? ⟨g,4,none⟩=some (.int .i64 ag)∧w'.cell? ⟨g,5,none⟩=some (.int .i64 ah)) w4:=⟨cell_of (g5.block 0 rfl) rfl,cell_of (g5.block 4 rfl) rfl,cell_of (g5.block 4 rfl) rfl,cell_of (g5.block 4 rfl) rfl,cell_of (g5.block 4 rfl) rfl,cell_of (g5.block 4 rfl) rfl⟩
 simp only at hc1
 clear g3 g4 g5 r4 HE RU
 go_wp2_with fail
 go_region_held3 (fun w'=>w'.cell? ⟨sb,3,none⟩=some (.map (some fm))∧w'.cell? ⟨g,1,none⟩=some (.int .u32 src)∧w'.cell? ⟨g,2,none⟩=some (.int .u32 dst)∧w'.cell? ⟨g,3,none⟩=some (.int .i64 proto)∧w'.cell? ⟨g,4,none⟩=some (.int .i64 ag)∧w'.cell? ⟨g,5,none⟩=some (.int .i64 ah)) (first | exact hc1 | go_keep) (fail)
 clear hc1 Ye
 go_wp2_with fail
 go_ret
 exact HX.out
theorem Oj {src dst proto ag ah bN aJ aA gen bk till count:Int} {au:List Bk} {A:Option Addr} {c:Nat} (hs:gZ F0 w0 R A au) (hn:A=none→c=0) (hl:au.length≤1000000) (wr:nS ⟨4,⟨⟨src,dst,proto,ag,ah⟩,bN,aJ,aA⟩,gen,au,bk,till,count⟩) (hm:bR ⟨4,⟨⟨src,dst,proto,ag,ah⟩,bN,aJ,aA⟩,gen,au,bk,till,count⟩=true) (hf:fF s ⟨4,⟨⟨src,dst,proto,ag,ah⟩,bN,aJ,aA⟩,gen,au,bk,till,count⟩=false) (hok2:gm (lF s ⟨4,⟨⟨src,dst,proto,ag,ah⟩,bN,aJ,aA⟩,gen,au,bk,till,count⟩)) (h:In F0 w0 w (iF sb s::R)):Calls Tryz.prog 65 #[pR sb,tq ⟨4,⟨⟨src,dst,proto,ag,ah⟩,bN,aJ,aA⟩,gen,au,bk,till,count⟩ A c] w (kg (lF s ⟨4,⟨⟨src,dst,proto,ag,ah⟩,bN,aJ,aA⟩,gen,au,bk,till,count⟩,0) sb F0 w0 R):=by
 have h2:=h.cells #[.int .i64 4,.int .u32 src,.int .u32 dst,.int .i64 proto,.int .i64 ag,.int .i64 ah,.int .i64 bN,.int .i64 aJ,.int .i64 aA,.int .i64 gen,.slice A au.length c,.int .i64 bk,.int .i64 till,.int .i64 count] 59
 have KM:=jE (r:=⟨4,⟨⟨src,dst,proto,ag,ah⟩,bN,aJ,aA⟩,gen,au,bk,till,count⟩) (c:=c) (fun w' h'=>hs w' h'.drop.drop) (Nat.le_trans hl (by decide)) h2
 rw [hm] at KM
 have DD:Hid (∀ w',In F0 w0 w' (Cells w.heap.size #[.int .i64 4,.int .u32 src,.int .u32 dst,.int .i64 proto,.int .i64 ag,.int .i64 ah,.int .i64 bN,.int .i64 aJ,.int .i64 aA,.int .i64 gen,.slice A au.length c,.int .i64 bk,.int .i64 till,.int .i64 count] 59::iF sb s::R)→Calls Tryz.prog 136 #[pR sb,tq ⟨4,⟨⟨src,dst,proto,ag,ah⟩,bN,aJ,aA⟩,gen,au,bk,till,count⟩ A c] w' (kM false sb s F0 w0 (Cells w.heap.size #[.int .i64 4,.int .u32 src,.int .u32 dst,.int .i64 proto,.int .i64 ag,.int .i64 ah,.int .i64 bN,.int .i64 aJ,.int .i64 aA,.int .i64 gen,.slice A au.length c,.int .i64 bk,.int .i64 till,.int .i64 count] 59::R))):=Lib.hid fun w' h'=>by
  have:=vN (A:=A) (c:=c) wr hm (h'.aL (R1:=[_,_]) [1,0] (by decide) rfl)
  rw [hf] at this
  exact this
 have RU:=Lib.hid (show (Lit.int .i64 bk).wf=true from by rw [dV] at hm;simp only at hm;exact wf_i64 (by omega) (by omega))
 have hd:lF s ⟨4,⟨⟨src,dst,proto,ag,ah⟩,bN,aJ,aA⟩,gen,au,bk,till,count⟩={ s with bL:=stPutD bk till s.bL }:=rfl
 rw [hd] at hok2 ⊢
 have HE:Hid (∀ w' dm fm bv g C,In F0 w0 w' (Cells sb (JC s bv dm fm) 100::gq bv s.au::zO dm ({ s with bL:=stPutD bk till s.bL }).bL::Cq fm s.bS::Cells g C 59::R)→kg ({ s with bL:=stPutD bk till s.bL },0) sb F0 w0 R (.returned (.int .i64 0)) w'):=Lib.hid fun w' dm fm bv g C h'=>⟨rfl,In.lT (s:={ s with bL:=stPutD bk till s.bL }) (dm:=dm) (fm:=fm) (bv:=bv) hok2 (h'.aL (R1:=[_,_,_,_,_]) [0,1,2,3] (by decide) rfl)⟩
 have HM:=Lib.hid KM
 clear h h2 hs hn hl wr hm KM hf hok2 hd
 go_enter Tryz.func65,Tryz.ntmps65
 go_wp2_with fail
 refine HM.out.mono ?_
 rintro e w2 ⟨rfl,g2⟩
 obtain⟨y0,y1,y2,y3,y4,y5,y6,y7,y8,y9,mh,ow,oz,y13,yf⟩:=jr (y:=⟨4,⟨⟨src,dst,proto,ag,ah⟩,bN,aJ,aA⟩,gen,au,bk,till,count⟩) (pv:=.slice A au.length c) (g2.block 0 rfl)
 simp only at y0 y1 y2 y3 y4 y5 y6 y7 y8 y9 mh ow oz y13
 have K2:=Lib.hid (DD.out _ g2)
 clear HM g2 DD
 go_wp2_with fail
 refine K2.out.mono ?_
 rintro e w3 ⟨rfl,g3⟩
 clear K2 y0 y1 y2 y3 y4 y5 y6 y7 y8 y9 mh ow oz y13 yf
 obtain⟨y0,y1,y2,y3,y4,y5,y6,y7,y8,y9,mh,ow,oz,y13,yf⟩:=jr (y:=⟨4,⟨⟨src,dst,proto,ag,ah⟩,bN,aJ,aA⟩,gen,au,bk,till,count⟩) (pv:=.slice A au.length c) (g3.block 1 rfl)
 simp only at y0 y1 y2 y3 y4 y5 y6 y7 y8 y9 mh ow oz y13
 obtain⟨hok,dm,fm,a,c',g4⟩:=In.nu g3
 have c0:w3.cell? ⟨sb,2,none⟩=some (.map (some dm)):=cell_of (g4.block 0 rfl) rfl
 obtain⟨w4,r4,-,g5⟩:=XY (g4.drewN 1) 2 rfl hok.CP RU.out till
 have Ye:(Instr.mapUpdate 97 (.map (some dm)) (.int .i64 bk) (.int .i64 till)).run Tryz.prog w3.drew=.ok () w4:=r4
 have HX:=Lib.hid (HE.out _ _ _ _ _ _ g5)
 generalize w.heap.size=g at *
 have hc1:(fun w':World=>w'.cell? ⟨sb,2,none⟩=some (.map (some dm))∧w'.cell? ⟨g,11,none⟩=some (.int .i64 bk)∧w'.cell? ⟨g,12,none⟩=some (.int .i64 till)) w4:=⟨cell_of (g5.block 0 rfl) rfl,cell_of (g5.block 4 rfl) rfl,cell_of (g5.block 4 rfl) rfl⟩
 simp only at hc1
 clear g3 g4 g5 r4 HE RU
 go_wp2_with fail
 go_region_held3 (fun w'=>w'.cell? ⟨sb,2,none⟩=some (.map (some dm))∧w'.cell? ⟨g,11,none⟩=some (.int .i64 bk)∧w'.cell? ⟨g,12,none⟩=some (.int .i64 till)) (first | exact hc1 | go_keep) (fail)
 clear hc1 Ye
 go_wp2_with fail
 go_ret
 exact HX.out
theorem Ol {src dst proto ag ah bN aJ aA gen bk till count:Int} {au:List Bk} {A:Option Addr} {c:Nat} (hs:gZ F0 w0 R A au) (hn:A=none→c=0) (hl:au.length≤1000000) (wr:nS ⟨5,⟨⟨src,dst,proto,ag,ah⟩,bN,aJ,aA⟩,gen,au,bk,till,count⟩) (hm:bR ⟨5,⟨⟨src,dst,proto,ag,ah⟩,bN,aJ,aA⟩,gen,au,bk,till,count⟩=true) (hf:fF s ⟨5,⟨⟨src,dst,proto,ag,ah⟩,bN,aJ,aA⟩,gen,au,bk,till,count⟩=false) (hok2:gm (lF s ⟨5,⟨⟨src,dst,proto,ag,ah⟩,bN,aJ,aA⟩,gen,au,bk,till,count⟩)) (h:In F0 w0 w (iF sb s::R)):Calls Tryz.prog 65 #[pR sb,tq ⟨5,⟨⟨src,dst,proto,ag,ah⟩,bN,aJ,aA⟩,gen,au,bk,till,count⟩ A c] w (kg (lF s ⟨5,⟨⟨src,dst,proto,ag,ah⟩,bN,aJ,aA⟩,gen,au,bk,till,count⟩,0) sb F0 w0 R):=by
 have h2:=h.cells #[.int .i64 5,.int .u32 src,.int .u32 dst,.int .i64 proto,.int .i64 ag,.int .i64 ah,.int .i64 bN,.int .i64 aJ,.int .i64 aA,.int .i64 gen,.slice A au.length c,.int .i64 bk,.int .i64 till,.int .i64 count] 59
 have KM:=jE (r:=⟨5,⟨⟨src,dst,proto,ag,ah⟩,bN,aJ,aA⟩,gen,au,bk,till,count⟩) (c:=c) (fun w' h'=>hs w' h'.drop.drop) (Nat.le_trans hl (by decide)) h2
 rw [hm] at KM
 have DD:Hid (∀ w',In F0 w0 w' (Cells w.heap.size #[.int .i64 5,.int .u32 src,.int .u32 dst,.int .i64 proto,.int .i64 ag,.int .i64 ah,.int .i64 bN,.int .i64 aJ,.int .i64 aA,.int .i64 gen,.slice A au.length c,.int .i64 bk,.int .i64 till,.int .i64 count] 59::iF sb s::R)→Calls Tryz.prog 136 #[pR sb,tq ⟨5,⟨⟨src,dst,proto,ag,ah⟩,bN,aJ,aA⟩,gen,au,bk,till,count⟩ A c] w' (kM false sb s F0 w0 (Cells w.heap.size #[.int .i64 5,.int .u32 src,.int .u32 dst,.int .i64 proto,.int .i64 ag,.int .i64 ah,.int .i64 bN,.int .i64 aJ,.int .i64 aA,.int .i64 gen,.slice A au.length c,.int .i64 bk,.int .i64 till,.int .i64 count] 59::R))):=Lib.hid fun w' h'=>by
  have:=vN (A:=A) (c:=c) wr hm (h'.aL (R1:=[_,_]) [1,0] (by decide) rfl)
  rw [hf] at this
  exact this
 have RU:=Lib.hid (show (Lit.int .i64 bk).wf=true from by rw [dV] at hm;simp only at hm;exact wf_i64 (by omega) (by omega))
 have hd:lF s ⟨5,⟨⟨src,dst,proto,ag,ah⟩,bN,aJ,aA⟩,gen,au,bk,till,count⟩={ s with bL:=kH bk s.bL }:=rfl
 rw [hd] at hok2 ⊢
 have HE:Hid (∀ w' dm fm bv g C,In F0 w0 w' (Cells sb (JC s bv dm fm) 100::gq bv s.au::zO dm ({ s with bL:=kH bk s.bL }).bL::Cq fm s.bS::Cells g C 59::R)→kg ({ s with bL:=kH bk s.bL },0) sb F0 w0 R (.returned (.int .i64 0)) w'):=Lib.hid fun w' dm fm bv g C h'=>⟨rfl,In.lT (s:={ s with bL:=kH bk s.bL }) (dm:=dm) (fm:=fm) (bv:=bv) hok2 (h'.aL (R1:=[_,_,_,_,_]) [0,1,2,3] (by decide) rfl)⟩
 have HM:=Lib.hid KM
 clear h h2 hs hn hl wr hm KM hf hok2 hd
 go_enter Tryz.func65,Tryz.ntmps65
 go_wp2_with fail
 refine HM.out.mono ?_
 rintro e w2 ⟨rfl,g2⟩
 obtain⟨y0,y1,y2,y3,y4,y5,y6,y7,y8,y9,mh,ow,oz,y13,yf⟩:=jr (y:=⟨5,⟨⟨src,dst,proto,ag,ah⟩,bN,aJ,aA⟩,gen,au,bk,till,count⟩) (pv:=.slice A au.length c) (g2.block 0 rfl)
 simp only at y0 y1 y2 y3 y4 y5 y6 y7 y8 y9 mh ow oz y13
 have K2:=Lib.hid (DD.out _ g2)
 clear HM g2 DD
 go_wp2_with fail
 refine K2.out.mono ?_
 rintro e w3 ⟨rfl,g3⟩
 clear K2 y0 y1 y2 y3 y4 y5 y6 y7 y8 y9 mh ow oz y13 yf
 obtain⟨y0,y1,y2,y3,y4,y5,y6,y7,y8,y9,mh,ow,oz,y13,yf⟩:=jr (y:=⟨5,⟨⟨src,dst,proto,ag,ah⟩,bN,aJ,aA⟩,gen,au,bk,till,count⟩) (pv:=.slice A au.length c) (g3.block 1 rfl)
 simp only at y0 y1 y2 y3 y4 y5 y6 y7 y8 y9 mh ow oz y13
 obtain⟨hok,dm,fm,a,c',g4⟩:=In.nu g3
 have c0:w3.cell? ⟨sb,2,none⟩=some (.map (some dm)):=cell_of (g4.block 0 rfl) rfl
 obtain⟨w4,r4,-,g5⟩:=XZ (g4.drewN 1) 2 rfl hok.CP RU.out 3 0
 have Ye:(Builtin.delete_ #[97,3] 0 #[.map (some dm),(.int .i64 bk)]).run Tryz.prog w3.drew=.ok (.tuple #[]) w4:=r4
 have HX:=Lib.hid (HE.out _ _ _ _ _ _ g5)
 generalize w.heap.size=g at *
 have hc1:(fun w':World=>w'.cell? ⟨sb,2,none⟩=some (.map (some dm))∧w'.cell? ⟨g,11,none⟩=some (.int .i64 bk)) w4:=⟨cell_of (g5.block 0 rfl) rfl,cell_of (g5.block 4 rfl) rfl⟩
 simp only at hc1
 clear g3 g4 g5 r4 HE RU
 go_wp2_with fail
 go_region_held3 (fun w'=>w'.cell? ⟨sb,2,none⟩=some (.map (some dm))∧w'.cell? ⟨g,11,none⟩=some (.int .i64 bk)) (first | exact hc1 | go_keep) (fail)
 clear hc1 Ye
 go_wp2_with fail
 go_ret
 exact HX.out
theorem Om {src dst proto ag ah bN aJ aA gen bk till count:Int} {au:List Bk} {A:Option Addr} {c:Nat} (hs:gZ F0 w0 R A au) (hn:A=none→c=0) (hl:au.length≤1000000) (wr:nS ⟨3,⟨⟨src,dst,proto,ag,ah⟩,bN,aJ,aA⟩,gen,au,bk,till,count⟩) (hm:bR ⟨3,⟨⟨src,dst,proto,ag,ah⟩,bN,aJ,aA⟩,gen,au,bk,till,count⟩=true) (hg:fu au=true) (hok2:gm { s with gen:=gen,au:=au }) (h:In F0 w0 w (iF sb s::R)):Calls Tryz.prog 65 #[pR sb,tq ⟨3,⟨⟨src,dst,proto,ag,ah⟩,bN,aJ,aA⟩,gen,au,bk,till,count⟩ A c] w (kg ({ s with gen:=gen,au:=au },0) sb F0 w0 R):=by
 have h2:=h.cells #[.int .i64 3,.int .u32 src,.int .u32 dst,.int .i64 proto,.int .i64 ag,.int .i64 ah,.int .i64 bN,.int .i64 aJ,.int .i64 aA,.int .i64 gen,.slice A au.length c,.int .i64 bk,.int .i64 till,.int .i64 count] 59
 have KM:=jE (r:=⟨3,⟨⟨src,dst,proto,ag,ah⟩,bN,aJ,aA⟩,gen,au,bk,till,count⟩) (c:=c) (fun w' h'=>hs w' h'.drop.drop) (Nat.le_trans hl (by decide)) h2
 rw [hm] at KM
 have hf:fF s ⟨3,⟨⟨src,dst,proto,ag,ah⟩,bN,aJ,aA⟩,gen,au,bk,till,count⟩=false:=rfl
 have HG:Hid (∀ w',In F0 w0 w' (Cells w.heap.size #[.int .i64 3,.int .u32 src,.int .u32 dst,.int .i64 proto,.int .i64 ag,.int .i64 ah,.int .i64 bN,.int .i64 aJ,.int .i64 aA,.int .i64 gen,.slice A au.length c,.int .i64 bk,.int .i64 till,.int .i64 count] 59::iF sb s::R)→Calls Tryz.prog 135 #[.slice A au.length c] w' (BA true F0 w0 (Cells w.heap.size #[.int .i64 3,.int .u32 src,.int .u32 dst,.int .i64 proto,.int .i64 ag,.int .i64 ah,.int .i64 bN,.int .i64 aJ,.int .i64 aA,.int .i64 gen,.slice A au.length c,.int .i64 bk,.int .i64 till,.int .i64 count] 59::iF sb s::R))):=Lib.hid fun w' h'=>by
  have:=MM (c:=c) (fun w' h'=>hs w' h'.drop.drop) (Nat.le_trans hl (by decide)) h'
  rw [hg] at this
  exact this
 have DD:Hid (∀ w',In F0 w0 w' (Cells w.heap.size #[.int .i64 3,.int .u32 src,.int .u32 dst,.int .i64 proto,.int .i64 ag,.int .i64 ah,.int .i64 bN,.int .i64 aJ,.int .i64 aA,.int .i64 gen,.slice A au.length c,.int .i64 bk,.int .i64 till,.int .i64 count] 59::iF sb s::R)→Calls Tryz.prog 136 #[pR sb,tq ⟨3,⟨⟨src,dst,proto,ag,ah⟩,bN,aJ,aA⟩,gen,au,bk,till,count⟩ A c] w' (kM false sb s F0 w0 (Cells w.heap.size #[.int .i64 3,.int .u32 src,.int .u32 dst,.int .i64 proto,.int .i64 ag,.int .i64 ah,.int .i64 bN,.int .i64 aJ,.int .i64 aA,.int .i64 gen,.slice A au.length c,.int .i64 bk,.int .i64 till,.int .i64 count] 59::R))):=Lib.hid fun w' h'=>by
  have:=vN (A:=A) (c:=c) wr hm (h'.aL (R1:=[_,_]) [1,0] (by decide) rfl)
  rw [hf] at this
  exact this
 have HE:Hid (∀ w' dm fm bv g C v,In F0 w0 w' (gq v au::Cells sb #[.int .i64 gen,v,.map (some dm),.map (some fm)] 100::gq bv s.au::zO dm s.bL::Cq fm s.bS::Cells g C 59::R)→kg ({ s with gen:=gen,au:=au },0) sb F0 w0 R (.returned (.int .i64 0)) w'):=Lib.hid fun w' dm fm bv g C v h'=>⟨rfl,In.lT (s:={ s with gen:=gen,au:=au }) (dm:=dm) (fm:=fm) (bv:=v) hok2 (h'.aL (R1:=[_,_,_,_,_,_]) [1,0,3,4] (by decide) rfl)⟩
 have HB:Hid (∀ w' B1 B2 B3 B4 B5,In F0 w0 w' (B1::B2::B3::B4::B5::R)→Calls Tryz.prog 49 #[.slice A au.length c] w' fun e w''=>∃ v,e=.returned v∧In F0 w0 w'' (gq v au::B1::B2::B3::B4::B5::R)):=Lib.hid fun w' B1 B2 B3 B4 B5 h'=>nQ h' hn (hs _ h'.drop.drop.drop.drop.drop) hl
 have HM:=Lib.hid KM
 clear h h2 hs hn hl wr hm KM hg hf hok2
 go_enter Tryz.func65,Tryz.ntmps65
 go_wp2_with fail
 refine HM.out.mono ?_
 rintro e w2 ⟨rfl,g2⟩
 obtain⟨y0,y1,y2,y3,y4,y5,y6,y7,y8,y9,mh,ow,oz,y13,yf⟩:=jr (y:=⟨3,⟨⟨src,dst,proto,ag,ah⟩,bN,aJ,aA⟩,gen,au,bk,till,count⟩) (pv:=.slice A au.length c) (g2.block 0 rfl)
 simp only at y0 y1 y2 y3 y4 y5 y6 y7 y8 y9 mh ow oz y13
 have KG:=Lib.hid (HG.out _ g2)
 clear HM g2 HG
 go_wp2_with fail
 refine KG.out.mono ?_
 rintro e w4 ⟨rfl,g2⟩
 clear KG y0 y1 y2 y3 y4 y5 y6 y7 y8 y9 mh ow oz y13 yf
 obtain⟨y0,y1,y2,y3,y4,y5,y6,y7,y8,y9,mh,ow,oz,y13,yf⟩:=jr (y:=⟨3,⟨⟨src,dst,proto,ag,ah⟩,bN,aJ,aA⟩,gen,au,bk,till,count⟩) (pv:=.slice A au.length c) (g2.block 0 rfl)
 simp only at y0 y1 y2 y3 y4 y5 y6 y7 y8 y9 mh ow oz y13
 have HM:True:=trivial
 have K2:=Lib.hid (DD.out _ g2)
 clear HM g2 DD
 go_wp2_with fail
 refine K2.out.mono ?_
 rintro e w3 ⟨rfl,g3⟩
 clear K2 y0 y1 y2 y3 y4 y5 y6 y7 y8 y9 mh ow oz y13 yf
 obtain⟨y0,y1,y2,y3,y4,y5,y6,y7,y8,y9,mh,ow,oz,y13,yf⟩:=jr (y:=⟨3,⟨⟨src,dst,proto,ag,ah⟩,bN,aJ,aA⟩,gen,au,bk,till,count⟩) (pv:=.slice A au.length c) (g3.block 1 rfl)
 simp only at y0 y1 y2 y3 y4 y5 y6 y7 y8 y9 mh ow oz y13
 obtain⟨hok,dm,fm,a,c',g4⟩:=In.nu g3
 have K5:=Lib.hid (HB.out _ _ _ _ _ _ (g4.drewN 1))
 have hne:¬ w.heap.size=sb:=fun e=>(g4.ne 0 4 (by decide) rfl rfl) e.symm
 have hne2:¬ sb=w.heap.size:=fun e=>hne e.symm
 generalize w.heap.size=g at *
 clear g3 HB hok
 go_wp2_with fail
 go_region_held3 (fun w'=>w'.cell? ⟨g,9,none⟩=some (.int .i64 gen)∧w'.cell? ⟨g,10,none⟩=some (.slice A au.length c)) (first | exact hz | exact⟨y9,mh⟩ | go_keep)
  (first | (go_at_call 49;refine K5.out.mono ?_;rintro e w4 ⟨v,rfl,g6⟩;obtain⟨Fv,rv⟩:=g6.get 0 rfl;obtain⟨pa,pc,rfl,-,-,-⟩:=ay.shape rv;have hz:w4.cell? ⟨g,9,none⟩=some (.int .i64 gen)∧w4.cell? ⟨g,10,none⟩=some (.slice A au.length c):=⟨cell_of (g6.block 5 rfl) rfl,cell_of (g6.block 5 rfl) rfl⟩;have d0:w4.cell? ⟨sb,0,none⟩=some (.int .i64 s.gen):=cell_of (g6.block 1 rfl) rfl;have d1:w4.cell? ⟨sb,1,none⟩=some (.slice a s.au.length c'):=cell_of (g6.block 1 rfl) rfl;have f0:w4.frozen? ⟨sb,0,none⟩=false:=aK (g6.block 1 rfl);have f1:w4.frozen? ⟨sb,1,none⟩=false:=aK (g6.block 1 rfl);have G6:=Lib.hid g6;clear g6 rv))
 have HX:=Lib.hid (HE.out _ _ _ _ _ _ _ (G6.out.ku [.int .i64 gen,.slice pa au.length pc] 0 1 rfl))
 clear hz d0 d1 f0 f1 G6 HE
 go_wp2_with fail
 go_ret
 exact HX.out
theorem xk {r:Rec} {A:Option Addr} {c:Nat} (hs:gZ F0 w0 R A r.au) (hn:A=none→c=0) (hl:r.au.length≤1000000) (wr:nS r) (h:In F0 w0 w (iF sb s::R)):Calls Tryz.prog 65 #[pR sb,tq r A c] w (kg (aX s r) sb F0 w0 R):=by
 have hok:gm s:=h.nu.1
 have hok2:=hok.apply wr
 obtain⟨kind,⟨⟨src,dst,proto,ag,ah⟩,bN,aJ,aA⟩,gen,au,bk,till,count⟩:=r
 generalize hr:(⟨kind,⟨⟨src,dst,proto,ag,ah⟩,bN,aJ,aA⟩,gen,au,bk,till,count⟩:Rec)=r at *
 cases hm:bR r with
 | false=>
  have e:aX s r=(s,1):=by unfold aX;rw [if_pos (by unfold oM;rw [hm];rfl)]
  rw [e];subst hr
  exact RQ hs hn hl wr hm h
 | true=>
  have hk:r.kind=kind:=by rw [← hr]
  have hall:kind=1∨kind=2∨kind=3∨kind=4∨kind=5∨kind=6:=by
   have:=hm;rw [dV,hk] at this;omega
  cases hf:fF s r with
  | true=>
   have aaX:kind=1∨kind=4:=by
    by_cases k1:kind=1
    ·exact Or.inl k1
    by_cases k4:kind=4
    ·exact Or.inr k4
    ·unfold fF at hf;rw [hk,if_neg k1,if_neg k4] at hf;cases hf
   have hb:oM r=false:=iW.2 ⟨hm,by rw [hk];omega,by rw [hk];intro e;omega⟩
   have e:aX s r=(s,9):=by unfold aX;rw [if_neg (by rw [hb];simp),if_pos hf]
   rw [e];subst hr
   rcases aaX with rfl | rfl
   ·exact Oe hs hn hl wr hm hf h
   ·exact Og hs hn hl wr hm hf h
  | false=>
   by_cases k6:kind=6
   ·have e:aX s r=(s,1):=by unfold aX;rw [if_pos (by unfold oM;rw [hk,k6,hm];rfl)]
    rw [e];subst hr;subst k6
    exact RS hs hn hl wr hm h
   ·by_cases h3:kind=3∧fu r.au=false
    ·obtain⟨k3,hg⟩:=h3
     have e:aX s r=(s,1):=by unfold aX;rw [if_pos (by unfold oM;rw [hk,k3,hm,hg];rfl)]
     rw [e];subst hr;subst k3
     exact Od hs hn hl wr hm hg h
    ·have hb:oM r=false:=iW.2 ⟨hm,by rw [hk];exact k6,by
      rw [hk];intro e
      cases hg:fu r.au with
      | true=>rfl
      | false=>exact absurd ⟨e,hg⟩ h3⟩
     have e:aX s r=(lF s r,0):=by unfold aX;rw [if_neg (by rw [hb];simp),if_neg (by rw [hf];simp)]
     rw [e] at hok2 ⊢
     subst hr
     rcases hall with rfl | rfl | rfl | rfl | rfl | rfl
     ·exact Oh hs hn hl wr hm hf hok2 h
     ·exact Oi hs hn hl wr hm hf hok2 h
     ·refine Om hs hn hl wr hm ?_ hok2 h
      cases hg:fu au with
      | true=>rfl
      | false=>exact absurd ⟨rfl,hg⟩ h3
     ·exact Oj hs hn hl wr hm hf hok2 h
     ·exact Ol hs hn hl wr hm hf hok2 h
     ·exact absurd rfl k6
end
end Go.Proofs.YtanhdliaaccacaaGreat
