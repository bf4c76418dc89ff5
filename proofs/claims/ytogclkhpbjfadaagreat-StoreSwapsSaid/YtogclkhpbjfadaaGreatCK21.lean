/- Parts of the proofs that a compaction keeps what lives, and done again is as once. -/
import Derived.Test.YtogclkhpbjfadaaGreatCK20
namespace Go.Proofs.YtogclkhpbjfadaaGreat
open Go.RowKit
open Go.Maps (Keyed)
set_option linter.unusedVariables false
set_option maxHeartbeats 64000000
set_option maxRecDepth 100000
section
variable {F0:List Nat} {w0 w:World} {R:List az} {sb:Nat} {s:fP}
def ko (p:fP×Int) (sb:Nat) (F0:List Nat) (w0:World) (R:List az) (e:Ending) (w':World):Prop:=e=.returned (.int .i64 p.2)∧In F0 w0 w' (iH sb p.1::R)
theorem RG {k src dst proto ag ah bI aG au gen bk till count:Int} {ax:List Bk} {A:Option Addr} {c:Nat} (hs:gZ F0 w0 R A ax) (hn:A=none→c=0) (hl:ax.length≤1000000) (wr:mQ ⟨k,⟨⟨src,dst,proto,ag,ah⟩,bI,aG,au⟩,gen,ax,bk,till,count⟩) (hm:bT ⟨k,⟨⟨src,dst,proto,ag,ah⟩,bI,aG,au⟩,gen,ax,bk,till,count⟩=false) (h:In F0 w0 w (iH sb s::R)):Calls Tryz.prog 49 #[pR sb,uy ⟨k,⟨⟨src,dst,proto,ag,ah⟩,bI,aG,au⟩,gen,ax,bk,till,count⟩ A c] w (ko (s,1) sb F0 w0 R):=by
 have h2:=h.cells #[.int .i64 k,.int .u32 src,.int .u32 dst,.int .i64 proto,.int .i64 ag,.int .i64 ah,.int .i64 bI,.int .i64 aG,.int .i64 au,.int .i64 gen,.slice A ax.length c,.int .i64 bk,.int .i64 till,.int .i64 count] 69
 have KM:=jE (r:=⟨k,⟨⟨src,dst,proto,ag,ah⟩,bI,aG,au⟩,gen,ax,bk,till,count⟩) (c:=c) (fun w' h'=>hs w' h'.drop.drop) (Nat.le_trans hl (by decide)) h2
 rw [hm] at KM
 have HM:=Lib.hid KM
 clear h h2 hs hn hl wr hm KM
 go_enter Tryz.func49,Tryz.ntmps49
 go_wp2_with fail
 refine HM.out.mono ?_
 rintro e w2 ⟨rfl,g2⟩
 have G:=Lib.hid g2.drop
 clear g2 HM
 go_wp2_with fail
 go_ret
 exact⟨rfl,G.out⟩
theorem RH {src dst proto ag ah bI aG au gen bk till count:Int} {ax:List Bk} {A:Option Addr} {c:Nat} (hs:gZ F0 w0 R A ax) (hn:A=none→c=0) (hl:ax.length≤1000000) (wr:mQ ⟨6,⟨⟨src,dst,proto,ag,ah⟩,bI,aG,au⟩,gen,ax,bk,till,count⟩) (hm:bT ⟨6,⟨⟨src,dst,proto,ag,ah⟩,bI,aG,au⟩,gen,ax,bk,till,count⟩=true) (h:In F0 w0 w (iH sb s::R)):Calls Tryz.prog 49 #[pR sb,uy ⟨6,⟨⟨src,dst,proto,ag,ah⟩,bI,aG,au⟩,gen,ax,bk,till,count⟩ A c] w (ko (s,1) sb F0 w0 R):=by
 have h2:=h.cells #[.int .i64 6,.int .u32 src,.int .u32 dst,.int .i64 proto,.int .i64 ag,.int .i64 ah,.int .i64 bI,.int .i64 aG,.int .i64 au,.int .i64 gen,.slice A ax.length c,.int .i64 bk,.int .i64 till,.int .i64 count] 69
 have KM:=jE (r:=⟨6,⟨⟨src,dst,proto,ag,ah⟩,bI,aG,au⟩,gen,ax,bk,till,count⟩) (c:=c) (fun w' h'=>hs w' h'.drop.drop) (Nat.le_trans hl (by decide)) h2
 rw [hm] at KM
 have HM:=Lib.hid KM
 clear h h2 hs hn hl wr hm KM
 go_enter Tryz.func49,Tryz.ntmps49
 go_wp2_with fail
 refine HM.out.mono ?_
 rintro e w2 ⟨rfl,g2⟩
 obtain⟨y0,y1,y2,y3,y4,y5,y6,y7,y8,y9,mf,om,oo,y13,yf⟩:=jk (y:=⟨6,⟨⟨src,dst,proto,ag,ah⟩,bI,aG,au⟩,gen,ax,bk,till,count⟩) (pv:=.slice A ax.length c) (g2.block 0 rfl)
 simp only at y0 y1 y2 y3 y4 y5 y6 y7 y8 y9 mf om oo y13
 have G:=Lib.hid g2.drop
 clear g2 HM
 go_wp2_with fail
 go_ret
 exact⟨rfl,G.out⟩
theorem NR {src dst proto ag ah bI aG au gen bk till count:Int} {ax:List Bk} {A:Option Addr} {c:Nat} (hs:gZ F0 w0 R A ax) (hn:A=none→c=0) (hl:ax.length≤1000000) (wr:mQ ⟨3,⟨⟨src,dst,proto,ag,ah⟩,bI,aG,au⟩,gen,ax,bk,till,count⟩) (hm:bT ⟨3,⟨⟨src,dst,proto,ag,ah⟩,bI,aG,au⟩,gen,ax,bk,till,count⟩=true) (hg:eU ax=false) (h:In F0 w0 w (iH sb s::R)):Calls Tryz.prog 49 #[pR sb,uy ⟨3,⟨⟨src,dst,proto,ag,ah⟩,bI,aG,au⟩,gen,ax,bk,till,count⟩ A c] w (ko (s,1) sb F0 w0 R):=by
 have h2:=h.cells #[.int .i64 3,.int .u32 src,.int .u32 dst,.int .i64 proto,.int .i64 ag,.int .i64 ah,.int .i64 bI,.int .i64 aG,.int .i64 au,.int .i64 gen,.slice A ax.length c,.int .i64 bk,.int .i64 till,.int .i64 count] 69
 have KM:=jE (r:=⟨3,⟨⟨src,dst,proto,ag,ah⟩,bI,aG,au⟩,gen,ax,bk,till,count⟩) (c:=c) (fun w' h'=>hs w' h'.drop.drop) (Nat.le_trans hl (by decide)) h2
 rw [hm] at KM
 have HG:Hid (∀ w',In F0 w0 w' (Cells w.heap.size #[.int .i64 3,.int .u32 src,.int .u32 dst,.int .i64 proto,.int .i64 ag,.int .i64 ah,.int .i64 bI,.int .i64 aG,.int .i64 au,.int .i64 gen,.slice A ax.length c,.int .i64 bk,.int .i64 till,.int .i64 count] 69::iH sb s::R)→Calls Tryz.prog 133 #[.slice A ax.length c] w' (BA false F0 w0 (Cells w.heap.size #[.int .i64 3,.int .u32 src,.int .u32 dst,.int .i64 proto,.int .i64 ag,.int .i64 ah,.int .i64 bI,.int .i64 aG,.int .i64 au,.int .i64 gen,.slice A ax.length c,.int .i64 bk,.int .i64 till,.int .i64 count] 69::iH sb s::R))):=Lib.hid fun w' h'=>by
  have:=Mv (c:=c) (fun w' h'=>hs w' h'.drop.drop) (Nat.le_trans hl (by decide)) h'
  rw [hg] at this
  exact this
 have HM:=Lib.hid KM
 clear h h2 hs hn hl wr hm KM hg
 go_enter Tryz.func49,Tryz.ntmps49
 go_wp2_with fail
 refine HM.out.mono ?_
 rintro e w2 ⟨rfl,g2⟩
 obtain⟨y0,y1,y2,y3,y4,y5,y6,y7,y8,y9,mf,om,oo,y13,yf⟩:=jk (y:=⟨3,⟨⟨src,dst,proto,ag,ah⟩,bI,aG,au⟩,gen,ax,bk,till,count⟩) (pv:=.slice A ax.length c) (g2.block 0 rfl)
 simp only at y0 y1 y2 y3 y4 y5 y6 y7 y8 y9 mf om oo y13
 have KG:=Lib.hid (HG.out _ g2)
 clear HM g2 HG
 go_wp2_with fail
 refine KG.out.mono ?_
 rintro e w4 ⟨rfl,g2⟩
 clear KG y0 y1 y2 y3 y4 y5 y6 y7 y8 y9 mf om oo y13 yf
 obtain⟨y0,y1,y2,y3,y4,y5,y6,y7,y8,y9,mf,om,oo,y13,yf⟩:=jk (y:=⟨3,⟨⟨src,dst,proto,ag,ah⟩,bI,aG,au⟩,gen,ax,bk,till,count⟩) (pv:=.slice A ax.length c) (g2.block 0 rfl)
 simp only at y0 y1 y2 y3 y4 y5 y6 y7 y8 y9 mf om oo y13
 have HM:=True
 have G:=Lib.hid g2.drop
 clear g2
 go_wp2_with fail
 go_ret
 exact⟨rfl,G.out⟩
theorem NS {src dst proto ag ah bI aG au gen bk till count:Int} {ax:List Bk} {A:Option Addr} {c:Nat} (hs:gZ F0 w0 R A ax) (hn:A=none→c=0) (hl:ax.length≤1000000) (wr:mQ ⟨1,⟨⟨src,dst,proto,ag,ah⟩,bI,aG,au⟩,gen,ax,bk,till,count⟩) (hm:bT ⟨1,⟨⟨src,dst,proto,ag,ah⟩,bI,aG,au⟩,gen,ax,bk,till,count⟩=true) (hf:eZ s ⟨1,⟨⟨src,dst,proto,ag,ah⟩,bI,aG,au⟩,gen,ax,bk,till,count⟩=true) (h:In F0 w0 w (iH sb s::R)):Calls Tryz.prog 49 #[pR sb,uy ⟨1,⟨⟨src,dst,proto,ag,ah⟩,bI,aG,au⟩,gen,ax,bk,till,count⟩ A c] w (ko (s,9) sb F0 w0 R):=by
 have h2:=h.cells #[.int .i64 1,.int .u32 src,.int .u32 dst,.int .i64 proto,.int .i64 ag,.int .i64 ah,.int .i64 bI,.int .i64 aG,.int .i64 au,.int .i64 gen,.slice A ax.length c,.int .i64 bk,.int .i64 till,.int .i64 count] 69
 have KM:=jE (r:=⟨1,⟨⟨src,dst,proto,ag,ah⟩,bI,aG,au⟩,gen,ax,bk,till,count⟩) (c:=c) (fun w' h'=>hs w' h'.drop.drop) (Nat.le_trans hl (by decide)) h2
 rw [hm] at KM
 have DD:Hid (∀ w',In F0 w0 w' (Cells w.heap.size #[.int .i64 1,.int .u32 src,.int .u32 dst,.int .i64 proto,.int .i64 ag,.int .i64 ah,.int .i64 bI,.int .i64 aG,.int .i64 au,.int .i64 gen,.slice A ax.length c,.int .i64 bk,.int .i64 till,.int .i64 count] 69::iH sb s::R)→Calls Tryz.prog 134 #[pR sb,uy ⟨1,⟨⟨src,dst,proto,ag,ah⟩,bI,aG,au⟩,gen,ax,bk,till,count⟩ A c] w' (kP true sb s F0 w0 (Cells w.heap.size #[.int .i64 1,.int .u32 src,.int .u32 dst,.int .i64 proto,.int .i64 ag,.int .i64 ah,.int .i64 bI,.int .i64 aG,.int .i64 au,.int .i64 gen,.slice A ax.length c,.int .i64 bk,.int .i64 till,.int .i64 count] 69::R))):=Lib.hid fun w' h'=>by
  have:=vG (A:=A) (c:=c) wr hm (h'.aI (R1:=[_,_]) [1,0] (by decide) rfl)
  rw [hf] at this
  exact this
 have HM:=Lib.hid KM
 clear h h2 hs hn hl wr hm KM hf
 go_enter Tryz.func49,Tryz.ntmps49
 go_wp2_with fail
 refine HM.out.mono ?_
 rintro e w2 ⟨rfl,g2⟩
 obtain⟨y0,y1,y2,y3,y4,y5,y6,y7,y8,y9,mf,om,oo,y13,yf⟩:=jk (y:=⟨1,⟨⟨src,dst,proto,ag,ah⟩,bI,aG,au⟩,gen,ax,bk,till,count⟩) (pv:=.slice A ax.length c) (g2.block 0 rfl)
 simp only at y0 y1 y2 y3 y4 y5 y6 y7 y8 y9 mf om oo y13
 have K2:=Lib.hid (DD.out _ g2)
 clear HM g2 DD
 go_wp2_with fail
 refine K2.out.mono ?_
 rintro e w3 ⟨rfl,g3⟩
 clear K2 y0 y1 y2 y3 y4 y5 y6 y7 y8 y9 mf om oo y13 yf
 obtain⟨y0,y1,y2,y3,y4,y5,y6,y7,y8,y9,mf,om,oo,y13,yf⟩:=jk (y:=⟨1,⟨⟨src,dst,proto,ag,ah⟩,bI,aG,au⟩,gen,ax,bk,till,count⟩) (pv:=.slice A ax.length c) (g3.block 1 rfl)
 simp only at y0 y1 y2 y3 y4 y5 y6 y7 y8 y9 mf om oo y13
 have G:=Lib.hid (g3.aI (R1:=[_,_]) [0] (by decide) rfl)
 clear g3
 go_wp2_with fail
 go_ret
 exact⟨rfl,G.out⟩
theorem NT {src dst proto ag ah bI aG au gen bk till count:Int} {ax:List Bk} {A:Option Addr} {c:Nat} (hs:gZ F0 w0 R A ax) (hn:A=none→c=0) (hl:ax.length≤1000000) (wr:mQ ⟨4,⟨⟨src,dst,proto,ag,ah⟩,bI,aG,au⟩,gen,ax,bk,till,count⟩) (hm:bT ⟨4,⟨⟨src,dst,proto,ag,ah⟩,bI,aG,au⟩,gen,ax,bk,till,count⟩=true) (hf:eZ s ⟨4,⟨⟨src,dst,proto,ag,ah⟩,bI,aG,au⟩,gen,ax,bk,till,count⟩=true) (h:In F0 w0 w (iH sb s::R)):Calls Tryz.prog 49 #[pR sb,uy ⟨4,⟨⟨src,dst,proto,ag,ah⟩,bI,aG,au⟩,gen,ax,bk,till,count⟩ A c] w (ko (s,9) sb F0 w0 R):=by
 have h2:=h.cells #[.int .i64 4,.int .u32 src,.int .u32 dst,.int .i64 proto,.int .i64 ag,.int .i64 ah,.int .i64 bI,.int .i64 aG,.int .i64 au,.int .i64 gen,.slice A ax.length c,.int .i64 bk,.int .i64 till,.int .i64 count] 69
 have KM:=jE (r:=⟨4,⟨⟨src,dst,proto,ag,ah⟩,bI,aG,au⟩,gen,ax,bk,till,count⟩) (c:=c) (fun w' h'=>hs w' h'.drop.drop) (Nat.le_trans hl (by decide)) h2
 rw [hm] at KM
 have DD:Hid (∀ w',In F0 w0 w' (Cells w.heap.size #[.int .i64 4,.int .u32 src,.int .u32 dst,.int .i64 proto,.int .i64 ag,.int .i64 ah,.int .i64 bI,.int .i64 aG,.int .i64 au,.int .i64 gen,.slice A ax.length c,.int .i64 bk,.int .i64 till,.int .i64 count] 69::iH sb s::R)→Calls Tryz.prog 134 #[pR sb,uy ⟨4,⟨⟨src,dst,proto,ag,ah⟩,bI,aG,au⟩,gen,ax,bk,till,count⟩ A c] w' (kP true sb s F0 w0 (Cells w.heap.size #[.int .i64 4,.int .u32 src,.int .u32 dst,.int .i64 proto,.int .i64 ag,.int .i64 ah,.int .i64 bI,.int .i64 aG,.int .i64 au,.int .i64 gen,.slice A ax.length c,.int .i64 bk,.int .i64 till,.int .i64 count] 69::R))):=Lib.hid fun w' h'=>by
  have:=vG (A:=A) (c:=c) wr hm (h'.aI (R1:=[_,_]) [1,0] (by decide) rfl)
  rw [hf] at this
  exact this
 have HM:=Lib.hid KM
 clear h h2 hs hn hl wr hm KM hf
 go_enter Tryz.func49,Tryz.ntmps49
 go_wp2_with fail
 refine HM.out.mono ?_
 rintro e w2 ⟨rfl,g2⟩
 obtain⟨y0,y1,y2,y3,y4,y5,y6,y7,y8,y9,mf,om,oo,y13,yf⟩:=jk (y:=⟨4,⟨⟨src,dst,proto,ag,ah⟩,bI,aG,au⟩,gen,ax,bk,till,count⟩) (pv:=.slice A ax.length c) (g2.block 0 rfl)
 simp only at y0 y1 y2 y3 y4 y5 y6 y7 y8 y9 mf om oo y13
 have K2:=Lib.hid (DD.out _ g2)
 clear HM g2 DD
 go_wp2_with fail
 refine K2.out.mono ?_
 rintro e w3 ⟨rfl,g3⟩
 clear K2 y0 y1 y2 y3 y4 y5 y6 y7 y8 y9 mf om oo y13 yf
 obtain⟨y0,y1,y2,y3,y4,y5,y6,y7,y8,y9,mf,om,oo,y13,yf⟩:=jk (y:=⟨4,⟨⟨src,dst,proto,ag,ah⟩,bI,aG,au⟩,gen,ax,bk,till,count⟩) (pv:=.slice A ax.length c) (g3.block 1 rfl)
 simp only at y0 y1 y2 y3 y4 y5 y6 y7 y8 y9 mf om oo y13
 have G:=Lib.hid (g3.aI (R1:=[_,_]) [0] (by decide) rfl)
 clear g3
 go_wp2_with fail
 go_ret
 exact⟨rfl,G.out⟩
theorem NU {src dst proto ag ah bI aG au gen bk till count:Int} {ax:List Bk} {A:Option Addr} {c:Nat} (hs:gZ F0 w0 R A ax) (hn:A=none→c=0) (hl:ax.length≤1000000) (wr:mQ ⟨1,⟨⟨src,dst,proto,ag,ah⟩,bI,aG,au⟩,gen,ax,bk,till,count⟩) (hm:bT ⟨1,⟨⟨src,dst,proto,ag,ah⟩,bI,aG,au⟩,gen,ax,bk,till,count⟩=true) (hf:eZ s ⟨1,⟨⟨src,dst,proto,ag,ah⟩,bI,aG,au⟩,gen,ax,bk,till,count⟩=false) (hok2:fU (lG s ⟨1,⟨⟨src,dst,proto,ag,ah⟩,bI,aG,au⟩,gen,ax,bk,till,count⟩)) (h:In F0 w0 w (iH sb s::R)):Calls Tryz.prog 49 #[pR sb,uy ⟨1,⟨⟨src,dst,proto,ag,ah⟩,bI,aG,au⟩,gen,ax,bk,till,count⟩ A c] w (ko (lG s ⟨1,⟨⟨src,dst,proto,ag,ah⟩,bI,aG,au⟩,gen,ax,bk,till,count⟩,0) sb F0 w0 R):=by
 have h2:=h.cells #[.int .i64 1,.int .u32 src,.int .u32 dst,.int .i64 proto,.int .i64 ag,.int .i64 ah,.int .i64 bI,.int .i64 aG,.int .i64 au,.int .i64 gen,.slice A ax.length c,.int .i64 bk,.int .i64 till,.int .i64 count] 69
 have KM:=jE (r:=⟨1,⟨⟨src,dst,proto,ag,ah⟩,bI,aG,au⟩,gen,ax,bk,till,count⟩) (c:=c) (fun w' h'=>hs w' h'.drop.drop) (Nat.le_trans hl (by decide)) h2
 rw [hm] at KM
 have DD:Hid (∀ w',In F0 w0 w' (Cells w.heap.size #[.int .i64 1,.int .u32 src,.int .u32 dst,.int .i64 proto,.int .i64 ag,.int .i64 ah,.int .i64 bI,.int .i64 aG,.int .i64 au,.int .i64 gen,.slice A ax.length c,.int .i64 bk,.int .i64 till,.int .i64 count] 69::iH sb s::R)→Calls Tryz.prog 134 #[pR sb,uy ⟨1,⟨⟨src,dst,proto,ag,ah⟩,bI,aG,au⟩,gen,ax,bk,till,count⟩ A c] w' (kP false sb s F0 w0 (Cells w.heap.size #[.int .i64 1,.int .u32 src,.int .u32 dst,.int .i64 proto,.int .i64 ag,.int .i64 ah,.int .i64 bI,.int .i64 aG,.int .i64 au,.int .i64 gen,.slice A ax.length c,.int .i64 bk,.int .i64 till,.int .i64 count] 69::R))):=Lib.hid fun w' h'=>by
  have:=vG (A:=A) (c:=c) wr hm (h'.aI (R1:=[_,_]) [1,0] (by decide) rfl)
  rw [hf] at this
  exact this
 have RI:=Lib.hid (wr.t:Gy ⟨src,dst,proto,ag,ah⟩)
 have hd:lG s ⟨1,⟨⟨src,dst,proto,ag,ah⟩,bI,aG,au⟩,gen,ax,bk,till,count⟩={ s with bU:=stPutF ⟨⟨src,dst,proto,ag,ah⟩,bI,aG,au⟩ s.bU }:=rfl
 rw [hd] at hok2 ⊢
 have HE:Hid (∀ w' dm fm bv g C,In F0 w0 w' (Cells sb (Js s bv dm fm) 157::gG bv s.ax::zN dm s.bN::Cs fm ({ s with bU:=stPutF ⟨⟨src,dst,proto,ag,ah⟩,bI,aG,au⟩ s.bU }).bU::Cells g C 69::R)→ko ({ s with bU:=stPutF ⟨⟨src,dst,proto,ag,ah⟩,bI,aG,au⟩ s.bU },0) sb F0 w0 R (.returned (.int .i64 0)) w'):=Lib.hid fun w' dm fm bv g C h'=>⟨rfl,In.lT (s:={ s with bU:=stPutF ⟨⟨src,dst,proto,ag,ah⟩,bI,aG,au⟩ s.bU }) (dm:=dm) (fm:=fm) (bv:=bv) hok2 (h'.aI (R1:=[_,_,_,_,_]) [0,1,2,3] (by decide) rfl)⟩
 have HM:=Lib.hid KM
 clear h h2 hs hn hl wr hm KM hf hok2 hd
 go_enter Tryz.func49,Tryz.ntmps49
 go_wp2_with fail
 refine HM.out.mono ?_
 rintro e w2 ⟨rfl,g2⟩
 obtain⟨y0,y1,y2,y3,y4,y5,y6,y7,y8,y9,mf,om,oo,y13,yf⟩:=jk (y:=⟨1,⟨⟨src,dst,proto,ag,ah⟩,bI,aG,au⟩,gen,ax,bk,till,count⟩) (pv:=.slice A ax.length c) (g2.block 0 rfl)
 simp only at y0 y1 y2 y3 y4 y5 y6 y7 y8 y9 mf om oo y13
 have K2:=Lib.hid (DD.out _ g2)
 clear HM g2 DD
 go_wp2_with fail
 refine K2.out.mono ?_
 rintro e w3 ⟨rfl,g3⟩
 clear K2 y0 y1 y2 y3 y4 y5 y6 y7 y8 y9 mf om oo y13 yf
 obtain⟨y0,y1,y2,y3,y4,y5,y6,y7,y8,y9,mf,om,oo,y13,yf⟩:=jk (y:=⟨1,⟨⟨src,dst,proto,ag,ah⟩,bI,aG,au⟩,gen,ax,bk,till,count⟩) (pv:=.slice A ax.length c) (g3.block 1 rfl)
 simp only at y0 y1 y2 y3 y4 y5 y6 y7 y8 y9 mf om oo y13
 obtain⟨hok,dm,fm,a,c',g4⟩:=In.ny g3
 have c0:w3.cell? ⟨sb,3,none⟩=some (.map (some fm)):=cell_of (g4.block 0 rfl) rfl
 obtain⟨w4,r4,-,g5⟩:=XT (f:=⟨⟨src,dst,proto,ag,ah⟩,bI,aG,au⟩) (g4.drewN 1) 3 rfl hok.CP RI.out
 have Ya:(Instr.mapUpdate 155 (.map (some fm)) (.agg #[.int .u32 src,.int .u32 dst,.int .i64 proto,.int .i64 ag,.int .i64 ah]) (.agg #[.int .u32 src,.int .u32 dst,.int .i64 proto,.int .i64 ag,.int .i64 ah,.int .i64 bI,.int .i64 aG,.int .i64 au])).run Tryz.prog w3.drew=.ok () w4:=r4
 have HX:=Lib.hid (HE.out _ _ _ _ _ _ g5)
 generalize w.heap.size=g at *
 have hc1:(fun w':World=>w'.cell? ⟨sb,3,none⟩=some (.map (some fm))∧w'.cell? ⟨g,1,none⟩=some (.int .u32 src)∧w'.cell? ⟨g,2,none⟩=some (.int .u32 dst)∧w'.cell? ⟨g,3,none⟩=some (.int .i64 proto)∧w'.cell? ⟨g,4,none⟩=some (.int .i64 ag)∧w'.cell? ⟨g,5,none⟩=some (.int .i64 ah)∧w'.cell? ⟨g,6,none⟩=some (.int .i64 bI)∧w'.cell? ⟨g,7,none⟩=some (.int .i64 aG)∧w'.cell? ⟨g,8,none⟩=some (.int .i64 au)) w4:=⟨cell_of (g5.block 0 rfl) rfl,cell_of (g5.block 4 rfl) rfl,cell_of (g5.block 4 rfl) rfl,cell_of (g5.block 4 rfl) rfl,cell_of (g5.block 4 rfl) rfl,cell_of (g5.block 4 rfl) rfl,cell_of (g5.block 4 rfl) rfl,cell_of (g5.block 4 rfl) rfl,cell_of (g5.block 4 rfl) rfl⟩
 simp only at hc1
 clear g3 g4 g5 r4 HE RI
 go_wp2_with fail
 go_region_held3 (fun w'=>w'.cell? ⟨sb,3,none⟩=some (.map (some fm))∧w'.cell? ⟨g,1,none⟩=some (.int .u32 src)∧w'.cell? ⟨g,2,none⟩=some (.int .u32 dst)∧w'.cell? ⟨g,3,none⟩=some (.int .i64 proto)∧w'.cell? ⟨g,4,none⟩=some (.int .i64 ag)∧w'.cell? ⟨g,5,none⟩=some (.int .i64 ah)∧w'.cell? ⟨g,6,none⟩=some (.int .i64 bI)∧w'.cell? ⟨g,7,none⟩=some (.int .i64 aG)∧w'.cell? ⟨g,8,none⟩=some (.int .i64 au)) (first | exact hc1 | go_keep) (fail)
 clear hc1 Ya
 go_wp2_with fail
 go_ret
 exact HX.out
theorem NV {src dst proto ag ah bI aG au gen bk till count:Int} {ax:List Bk} {A:Option Addr} {c:Nat} (hs:gZ F0 w0 R A ax) (hn:A=none→c=0) (hl:ax.length≤1000000) (wr:mQ ⟨2,⟨⟨src,dst,proto,ag,ah⟩,bI,aG,au⟩,gen,ax,bk,till,count⟩) (hm:bT ⟨2,⟨⟨src,dst,proto,ag,ah⟩,bI,aG,au⟩,gen,ax,bk,till,count⟩=true) (hf:eZ s ⟨2,⟨⟨src,dst,proto,ag,ah⟩,bI,aG,au⟩,gen,ax,bk,till,count⟩=false) (hok2:fU (lG s ⟨2,⟨⟨src,dst,proto,ag,ah⟩,bI,aG,au⟩,gen,ax,bk,till,count⟩)) (h:In F0 w0 w (iH sb s::R)):Calls Tryz.prog 49 #[pR sb,uy ⟨2,⟨⟨src,dst,proto,ag,ah⟩,bI,aG,au⟩,gen,ax,bk,till,count⟩ A c] w (ko (lG s ⟨2,⟨⟨src,dst,proto,ag,ah⟩,bI,aG,au⟩,gen,ax,bk,till,count⟩,0) sb F0 w0 R):=by
 have h2:=h.cells #[.int .i64 2,.int .u32 src,.int .u32 dst,.int .i64 proto,.int .i64 ag,.int .i64 ah,.int .i64 bI,.int .i64 aG,.int .i64 au,.int .i64 gen,.slice A ax.length c,.int .i64 bk,.int .i64 till,.int .i64 count] 69
 have KM:=jE (r:=⟨2,⟨⟨src,dst,proto,ag,ah⟩,bI,aG,au⟩,gen,ax,bk,till,count⟩) (c:=c) (fun w' h'=>hs w' h'.drop.drop) (Nat.le_trans hl (by decide)) h2
 rw [hm] at KM
 have DD:Hid (∀ w',In F0 w0 w' (Cells w.heap.size #[.int .i64 2,.int .u32 src,.int .u32 dst,.int .i64 proto,.int .i64 ag,.int .i64 ah,.int .i64 bI,.int .i64 aG,.int .i64 au,.int .i64 gen,.slice A ax.length c,.int .i64 bk,.int .i64 till,.int .i64 count] 69::iH sb s::R)→Calls Tryz.prog 134 #[pR sb,uy ⟨2,⟨⟨src,dst,proto,ag,ah⟩,bI,aG,au⟩,gen,ax,bk,till,count⟩ A c] w' (kP false sb s F0 w0 (Cells w.heap.size #[.int .i64 2,.int .u32 src,.int .u32 dst,.int .i64 proto,.int .i64 ag,.int .i64 ah,.int .i64 bI,.int .i64 aG,.int .i64 au,.int .i64 gen,.slice A ax.length c,.int .i64 bk,.int .i64 till,.int .i64 count] 69::R))):=Lib.hid fun w' h'=>by
  have:=vG (A:=A) (c:=c) wr hm (h'.aI (R1:=[_,_]) [1,0] (by decide) rfl)
  rw [hf] at this
  exact this
 have RI:=Lib.hid (wr.t:Gy ⟨src,dst,proto,ag,ah⟩)
 have hd:lG s ⟨2,⟨⟨src,dst,proto,ag,ah⟩,bI,aG,au⟩,gen,ax,bk,till,count⟩={ s with bU:=kH ⟨src,dst,proto,ag,ah⟩ s.bU }:=rfl
 rw [hd] at hok2 ⊢
 have HE:Hid (∀ w' dm fm bv g C,In F0 w0 w' (Cells sb (Js s bv dm fm) 157::gG bv s.ax::zN dm s.bN::Cs fm ({ s with bU:=kH ⟨src,dst,proto,ag,ah⟩ s.bU }).bU::Cells g C 69::R)→ko ({ s with bU:=kH ⟨src,dst,proto,ag,ah⟩ s.bU },0) sb F0 w0 R (.returned (.int .i64 0)) w'):=Lib.hid fun w' dm fm bv g C h'=>⟨rfl,In.lT (s:={ s with bU:=kH ⟨src,dst,proto,ag,ah⟩ s.bU }) (dm:=dm) (fm:=fm) (bv:=bv) hok2 (h'.aI (R1:=[_,_,_,_,_]) [0,1,2,3] (by decide) rfl)⟩
 have HM:=Lib.hid KM
 clear h h2 hs hn hl wr hm KM hf hok2 hd
 go_enter Tryz.func49,Tryz.ntmps49
 go_wp2_with fail
 refine HM.out.mono ?_
 rintro e w2 ⟨rfl,g2⟩
 obtain⟨y0,y1,y2,y3,y4,y5,y6,y7,y8,y9,mf,om,oo,y13,yf⟩:=jk (y:=⟨2,⟨⟨src,dst,proto,ag,ah⟩,bI,aG,au⟩,gen,ax,bk,till,count⟩) (pv:=.slice A ax.length c) (g2.block 0 rfl)
 simp only at y0 y1 y2 y3 y4 y5 y6 y7 y8 y9 mf om oo y13
 have K2:=Lib.hid (DD.out _ g2)
 clear HM g2 DD
 go_wp2_with fail
 refine K2.out.mono ?_
 rintro e w3 ⟨rfl,g3⟩
 clear K2 y0 y1 y2 y3 y4 y5 y6 y7 y8 y9 mf om oo y13 yf
 obtain⟨y0,y1,y2,y3,y4,y5,y6,y7,y8,y9,mf,om,oo,y13,yf⟩:=jk (y:=⟨2,⟨⟨src,dst,proto,ag,ah⟩,bI,aG,au⟩,gen,ax,bk,till,count⟩) (pv:=.slice A ax.length c) (g3.block 1 rfl)
 simp only at y0 y1 y2 y3 y4 y5 y6 y7 y8 y9 mf om oo y13
 obtain⟨hok,dm,fm,a,c',g4⟩:=In.ny g3
 have c0:w3.cell? ⟨sb,3,none⟩=some (.map (some fm)):=cell_of (g4.block 0 rfl) rfl
 obtain⟨w4,r4,-,g5⟩:=XU (g4.drewN 1) 3 rfl hok.CP (t:=⟨src,dst,proto,ag,ah⟩) RI.out 65 0
 have Ya:(Builtin.delete_ #[155,65] 0 #[.map (some fm),(.agg #[.int .u32 src,.int .u32 dst,.int .i64 proto,.int .i64 ag,.int .i64 ah])]).run Tryz.prog w3.drew=.ok (.tuple #[]) w4:=r4
 have HX:=Lib.hid (HE.out _ _ _ _ _ _ g5)
 generalize w.heap.size=g at *
 have hc1:(fun w':World=>w'.cell? ⟨sb,3,none⟩=some (.map (some fm))∧w'.cell? ⟨g,1,none⟩=some (.int .u32 src)∧w'.cell? ⟨g,2,none⟩=some (.int .u32 dst)∧w'.cell? ⟨g,3,none⟩=some (.int .i64 proto)∧w'.cell? ⟨g,4,none⟩=some (.int .i64 ag)∧w'.cell? ⟨g,5,none⟩=some (.int .i64 ah)) w4:=⟨cell_of (g5.block 0 rfl) rfl,cell_of (g5.block 4 rfl) rfl,cell_of (g5.block 4 rfl) rfl,cell_of (g5.block 4 rfl) rfl,cell_of (g5.block 4 rfl) rfl,cell_of (g5.block 4 rfl) rfl⟩
 simp only at hc1
 clear g3 g4 g5 r4 HE RI
 go_wp2_with fail
 go_region_held3 (fun w'=>w'.cell? ⟨sb,3,none⟩=some (.map (some fm))∧w'.cell? ⟨g,1,none⟩=some (.int .u32 src)∧w'.cell? ⟨g,2,none⟩=some (.int .u32 dst)∧w'.cell? ⟨g,3,none⟩=some (.int .i64 proto)∧w'.cell? ⟨g,4,none⟩=some (.int .i64 ag)∧w'.cell? ⟨g,5,none⟩=some (.int .i64 ah)) (first | exact hc1 | go_keep) (fail)
 clear hc1 Ya
 go_wp2_with fail
 go_ret
 exact HX.out
theorem NW {src dst proto ag ah bI aG au gen bk till count:Int} {ax:List Bk} {A:Option Addr} {c:Nat} (hs:gZ F0 w0 R A ax) (hn:A=none→c=0) (hl:ax.length≤1000000) (wr:mQ ⟨4,⟨⟨src,dst,proto,ag,ah⟩,bI,aG,au⟩,gen,ax,bk,till,count⟩) (hm:bT ⟨4,⟨⟨src,dst,proto,ag,ah⟩,bI,aG,au⟩,gen,ax,bk,till,count⟩=true) (hf:eZ s ⟨4,⟨⟨src,dst,proto,ag,ah⟩,bI,aG,au⟩,gen,ax,bk,till,count⟩=false) (hok2:fU (lG s ⟨4,⟨⟨src,dst,proto,ag,ah⟩,bI,aG,au⟩,gen,ax,bk,till,count⟩)) (h:In F0 w0 w (iH sb s::R)):Calls Tryz.prog 49 #[pR sb,uy ⟨4,⟨⟨src,dst,proto,ag,ah⟩,bI,aG,au⟩,gen,ax,bk,till,count⟩ A c] w (ko (lG s ⟨4,⟨⟨src,dst,proto,ag,ah⟩,bI,aG,au⟩,gen,ax,bk,till,count⟩,0) sb F0 w0 R):=by
 have h2:=h.cells #[.int .i64 4,.int .u32 src,.int .u32 dst,.int .i64 proto,.int .i64 ag,.int .i64 ah,.int .i64 bI,.int .i64 aG,.int .i64 au,.int .i64 gen,.slice A ax.length c,.int .i64 bk,.int .i64 till,.int .i64 count] 69
 have KM:=jE (r:=⟨4,⟨⟨src,dst,proto,ag,ah⟩,bI,aG,au⟩,gen,ax,bk,till,count⟩) (c:=c) (fun w' h'=>hs w' h'.drop.drop) (Nat.le_trans hl (by decide)) h2
 rw [hm] at KM
 have DD:Hid (∀ w',In F0 w0 w' (Cells w.heap.size #[.int .i64 4,.int .u32 src,.int .u32 dst,.int .i64 proto,.int .i64 ag,.int .i64 ah,.int .i64 bI,.int .i64 aG,.int .i64 au,.int .i64 gen,.slice A ax.length c,.int .i64 bk,.int .i64 till,.int .i64 count] 69::iH sb s::R)→Calls Tryz.prog 134 #[pR sb,uy ⟨4,⟨⟨src,dst,proto,ag,ah⟩,bI,aG,au⟩,gen,ax,bk,till,count⟩ A c] w' (kP false sb s F0 w0 (Cells w.heap.size #[.int .i64 4,.int .u32 src,.int .u32 dst,.int .i64 proto,.int .i64 ag,.int .i64 ah,.int .i64 bI,.int .i64 aG,.int .i64 au,.int .i64 gen,.slice A ax.length c,.int .i64 bk,.int .i64 till,.int .i64 count] 69::R))):=Lib.hid fun w' h'=>by
  have:=vG (A:=A) (c:=c) wr hm (h'.aI (R1:=[_,_]) [1,0] (by decide) rfl)
  rw [hf] at this
  exact this
 have RI:=Lib.hid (show (Lit.int .i64 bk).wf=true from by rw [dS] at hm;simp only at hm;exact wf_i64 (by omega) (by omega))
 have hd:lG s ⟨4,⟨⟨src,dst,proto,ag,ah⟩,bI,aG,au⟩,gen,ax,bk,till,count⟩={ s with bN:=stPutD bk till s.bN }:=rfl
 rw [hd] at hok2 ⊢
 have HE:Hid (∀ w' dm fm bv g C,In F0 w0 w' (Cells sb (Js s bv dm fm) 157::gG bv s.ax::zN dm ({ s with bN:=stPutD bk till s.bN }).bN::Cs fm s.bU::Cells g C 69::R)→ko ({ s with bN:=stPutD bk till s.bN },0) sb F0 w0 R (.returned (.int .i64 0)) w'):=Lib.hid fun w' dm fm bv g C h'=>⟨rfl,In.lT (s:={ s with bN:=stPutD bk till s.bN }) (dm:=dm) (fm:=fm) (bv:=bv) hok2 (h'.aI (R1:=[_,_,_,_,_]) [0,1,2,3] (by decide) rfl)⟩
 have HM:=Lib.hid KM
 clear h h2 hs hn hl wr hm KM hf hok2 hd
 go_enter Tryz.func49,Tryz.ntmps49
 go_wp2_with fail
 refine HM.out.mono ?_
 rintro e w2 ⟨rfl,g2⟩
 obtain⟨y0,y1,y2,y3,y4,y5,y6,y7,y8,y9,mf,om,oo,y13,yf⟩:=jk (y:=⟨4,⟨⟨src,dst,proto,ag,ah⟩,bI,aG,au⟩,gen,ax,bk,till,count⟩) (pv:=.slice A ax.length c) (g2.block 0 rfl)
 simp only at y0 y1 y2 y3 y4 y5 y6 y7 y8 y9 mf om oo y13
 have K2:=Lib.hid (DD.out _ g2)
 clear HM g2 DD
 go_wp2_with fail
 refine K2.out.mono ?_
 rintro e w3 ⟨rfl,g3⟩
 clear K2 y0 y1 y2 y3 y4 y5 y6 y7 y8 y9 mf om oo y13 yf
 obtain⟨y0,y1,y2,y3,y4,y5,y6,y7,y8,y9,mf,om,oo,y13,yf⟩:=jk (y:=⟨4,⟨⟨src,dst,proto,ag,ah⟩,bI,aG,au⟩,gen,ax,bk,till,count⟩) (pv:=.slice A ax.length c) (g3.block 1 rfl)
 simp only at y0 y1 y2 y3 y4 y5 y6 y7 y8 y9 mf om oo y13
 obtain⟨hok,dm,fm,a,c',g4⟩:=In.ny g3
 have c0:w3.cell? ⟨sb,2,none⟩=some (.map (some dm)):=cell_of (g4.block 0 rfl) rfl
 obtain⟨w4,r4,-,g5⟩:=XV (g4.drewN 1) 2 rfl hok.CO RI.out till
 have Ya:(Instr.mapUpdate 154 (.map (some dm)) (.int .i64 bk) (.int .i64 till)).run Tryz.prog w3.drew=.ok () w4:=r4
 have HX:=Lib.hid (HE.out _ _ _ _ _ _ g5)
 generalize w.heap.size=g at *
 have hc1:(fun w':World=>w'.cell? ⟨sb,2,none⟩=some (.map (some dm))∧w'.cell? ⟨g,11,none⟩=some (.int .i64 bk)∧w'.cell? ⟨g,12,none⟩=some (.int .i64 till)) w4:=⟨cell_of (g5.block 0 rfl) rfl,cell_of (g5.block 4 rfl) rfl,cell_of (g5.block 4 rfl) rfl⟩
 simp only at hc1
 clear g3 g4 g5 r4 HE RI
 go_wp2_with fail
 go_region_held3 (fun w'=>w'.cell? ⟨sb,2,none⟩=some (.map (some dm))∧w'.cell? ⟨g,11,none⟩=some (.int .i64 bk)∧w'.cell? ⟨g,12,none⟩=some (.int .i64 till)) (first | exact hc1 | go_keep) (fail)
 clear hc1 Ya
 go_wp2_with fail
 go_ret
 exact HX.out
theorem NY {src dst proto ag ah bI aG au gen bk till count:Int} {ax:List Bk} {A:Option Addr} {c:Nat} (hs:gZ F0 w0 R A ax) (hn:A=none→c=0) (hl:ax.length≤1000000) (wr:mQ ⟨5,⟨⟨src,dst,proto,ag,ah⟩,bI,aG,au⟩,gen,ax,bk,till,count⟩) (hm:bT ⟨5,⟨⟨src,dst,proto,ag,ah⟩,bI,aG,au⟩,gen,ax,bk,till,count⟩=true) (hf:eZ s ⟨5,⟨⟨src,dst,proto,ag,ah⟩,bI,aG,au⟩,gen,ax,bk,till,count⟩=false) (hok2:fU (lG s ⟨5,⟨⟨src,dst,proto,ag,ah⟩,bI,aG,au⟩,gen,ax,bk,till,count⟩)) (h:In F0 w0 w (iH sb s::R)):Calls Tryz.prog 49 #[pR sb,uy ⟨5,⟨⟨src,dst,proto,ag,ah⟩,bI,aG,au⟩,gen,ax,bk,till,count⟩ A c] w (ko (lG s ⟨5,⟨⟨src,dst,proto,ag,ah⟩,bI,aG,au⟩,gen,ax,bk,till,count⟩,0) sb F0 w0 R):=by
 have h2:=h.cells #[.int .i64 5,.int .u32 src,.int .u32 dst,.int .i64 proto,.int .i64 ag,.int .i64 ah,.int .i64 bI,.int .i64 aG,.int .i64 au,.int .i64 gen,.slice A ax.length c,.int .i64 bk,.int .i64 till,.int .i64 count] 69
 have KM:=jE (r:=⟨5,⟨⟨src,dst,proto,ag,ah⟩,bI,aG,au⟩,gen,ax,bk,till,count⟩) (c:=c) (fun w' h'=>hs w' h'.drop.drop) (Nat.le_trans hl (by decide)) h2
 rw [hm] at KM
 have DD:Hid (∀ w',In F0 w0 w' (Cells w.heap.size #[.int .i64 5,.int .u32 src,.int .u32 dst,.int .i64 proto,.int .i64 ag,.int .i64 ah,.int .i64 bI,.int .i64 aG,.int .i64 au,.int .i64 gen,.slice A ax.length c,.int .i64 bk,.int .i64 till,.int .i64 count] 69::iH sb s::R)→Calls Tryz.prog 134 #[pR sb,uy ⟨5,⟨⟨src,dst,proto,ag,ah⟩,bI,aG,au⟩,gen,ax,bk,till,count⟩ A c] w' (kP false sb s F0 w0 (Cells w.heap.size #[.int .i64 5,.int .u32 src,.int .u32 dst,.int .i64 proto,.int .i64 ag,.int .i64 ah,.int .i64 bI,.int .i64 aG,.int .i64 au,.int .i64 gen,.slice A ax.length c,.int .i64 bk,.int .i64 till,.int .i64 count] 69::R))):=Lib.hid fun w' h'=>by
  have:=vG (A:=A) (c:=c) wr hm (h'.aI (R1:=[_,_]) [1,0] (by decide) rfl)
  rw [hf] at this
  exact this
 have RI:=Lib.hid (show (Lit.int .i64 bk).wf=true from by rw [dS] at hm;simp only at hm;exact wf_i64 (by omega) (by omega))
 have hd:lG s ⟨5,⟨⟨src,dst,proto,ag,ah⟩,bI,aG,au⟩,gen,ax,bk,till,count⟩={ s with bN:=kI bk s.bN }:=rfl
 rw [hd] at hok2 ⊢
 have HE:Hid (∀ w' dm fm bv g C,In F0 w0 w' (Cells sb (Js s bv dm fm) 157::gG bv s.ax::zN dm ({ s with bN:=kI bk s.bN }).bN::Cs fm s.bU::Cells g C 69::R)→ko ({ s with bN:=kI bk s.bN },0) sb F0 w0 R (.returned (.int .i64 0)) w'):=Lib.hid fun w' dm fm bv g C h'=>⟨rfl,In.lT (s:={ s with bN:=kI bk s.bN }) (dm:=dm) (fm:=fm) (bv:=bv) hok2 (h'.aI (R1:=[_,_,_,_,_]) [0,1,2,3] (by decide) rfl)⟩
 have HM:=Lib.hid KM
 clear h h2 hs hn hl wr hm KM hf hok2 hd
 go_enter Tryz.func49,Tryz.ntmps49
 go_wp2_with fail
 refine HM.out.mono ?_
 rintro e w2 ⟨rfl,g2⟩
 obtain⟨y0,y1,y2,y3,y4,y5,y6,y7,y8,y9,mf,om,oo,y13,yf⟩:=jk (y:=⟨5,⟨⟨src,dst,proto,ag,ah⟩,bI,aG,au⟩,gen,ax,bk,till,count⟩) (pv:=.slice A ax.length c) (g2.block 0 rfl)
 simp only at y0 y1 y2 y3 y4 y5 y6 y7 y8 y9 mf om oo y13
 have K2:=Lib.hid (DD.out _ g2)
 clear HM g2 DD
 go_wp2_with fail
 refine K2.out.mono ?_
 rintro e w3 ⟨rfl,g3⟩
 clear K2 y0 y1 y2 y3 y4 y5 y6 y7 y8 y9 mf om oo y13 yf
 obtain⟨y0,y1,y2,y3,y4,y5,y6,y7,y8,y9,mf,om,oo,y13,yf⟩:=jk (y:=⟨5,⟨⟨src,dst,proto,ag,ah⟩,bI,aG,au⟩,gen,ax,bk,till,count⟩) (pv:=.slice A ax.length c) (g3.block 1 rfl)
 simp only at y0 y1 y2 y3 y4 y5 y6 y7 y8 y9 mf om oo y13
 obtain⟨hok,dm,fm,a,c',g4⟩:=In.ny g3
 have c0:w3.cell? ⟨sb,2,none⟩=some (.map (some dm)):=cell_of (g4.block 0 rfl) rfl
 obtain⟨w4,r4,-,g5⟩:=XW (g4.drewN 1) 2 rfl hok.CO RI.out 3 0
 have Ya:(Builtin.delete_ #[154,3] 0 #[.map (some dm),(.int .i64 bk)]).run Tryz.prog w3.drew=.ok (.tuple #[]) w4:=r4
 have HX:=Lib.hid (HE.out _ _ _ _ _ _ g5)
 generalize w.heap.size=g at *
 have hc1:(fun w':World=>w'.cell? ⟨sb,2,none⟩=some (.map (some dm))∧w'.cell? ⟨g,11,none⟩=some (.int .i64 bk)) w4:=⟨cell_of (g5.block 0 rfl) rfl,cell_of (g5.block 4 rfl) rfl⟩
 simp only at hc1
 clear g3 g4 g5 r4 HE RI
 go_wp2_with fail
 go_region_held3 (fun w'=>w'.cell? ⟨sb,2,none⟩=some (.map (some dm))∧w'.cell? ⟨g,11,none⟩=some (.int .i64 bk)) (first | exact hc1 | go_keep) (fail)
 clear hc1 Ya
 go_wp2_with fail
 go_ret
 exact HX.out
theorem NZ {src dst proto ag ah bI aG au gen bk till count:Int} {ax:List Bk} {A:Option Addr} {c:Nat} (hs:gZ F0 w0 R A ax) (hn:A=none→c=0) (hl:ax.length≤1000000) (wr:mQ ⟨3,⟨⟨src,dst,proto,ag,ah⟩,bI,aG,au⟩,gen,ax,bk,till,count⟩) (hm:bT ⟨3,⟨⟨src,dst,proto,ag,ah⟩,bI,aG,au⟩,gen,ax,bk,till,count⟩=true) (hg:eU ax=true) (hok2:fU { s with gen:=gen,ax:=ax }) (h:In F0 w0 w (iH sb s::R)):Calls Tryz.prog 49 #[pR sb,uy ⟨3,⟨⟨src,dst,proto,ag,ah⟩,bI,aG,au⟩,gen,ax,bk,till,count⟩ A c] w (ko ({ s with gen:=gen,ax:=ax },0) sb F0 w0 R):=by
 have h2:=h.cells #[.int .i64 3,.int .u32 src,.int .u32 dst,.int .i64 proto,.int .i64 ag,.int .i64 ah,.int .i64 bI,.int .i64 aG,.int .i64 au,.int .i64 gen,.slice A ax.length c,.int .i64 bk,.int .i64 till,.int .i64 count] 69
 have KM:=jE (r:=⟨3,⟨⟨src,dst,proto,ag,ah⟩,bI,aG,au⟩,gen,ax,bk,till,count⟩) (c:=c) (fun w' h'=>hs w' h'.drop.drop) (Nat.le_trans hl (by decide)) h2
 rw [hm] at KM
 have hf:eZ s ⟨3,⟨⟨src,dst,proto,ag,ah⟩,bI,aG,au⟩,gen,ax,bk,till,count⟩=false:=rfl
 have HG:Hid (∀ w',In F0 w0 w' (Cells w.heap.size #[.int .i64 3,.int .u32 src,.int .u32 dst,.int .i64 proto,.int .i64 ag,.int .i64 ah,.int .i64 bI,.int .i64 aG,.int .i64 au,.int .i64 gen,.slice A ax.length c,.int .i64 bk,.int .i64 till,.int .i64 count] 69::iH sb s::R)→Calls Tryz.prog 133 #[.slice A ax.length c] w' (BA true F0 w0 (Cells w.heap.size #[.int .i64 3,.int .u32 src,.int .u32 dst,.int .i64 proto,.int .i64 ag,.int .i64 ah,.int .i64 bI,.int .i64 aG,.int .i64 au,.int .i64 gen,.slice A ax.length c,.int .i64 bk,.int .i64 till,.int .i64 count] 69::iH sb s::R))):=Lib.hid fun w' h'=>by
  have:=Mv (c:=c) (fun w' h'=>hs w' h'.drop.drop) (Nat.le_trans hl (by decide)) h'
  rw [hg] at this
  exact this
 have DD:Hid (∀ w',In F0 w0 w' (Cells w.heap.size #[.int .i64 3,.int .u32 src,.int .u32 dst,.int .i64 proto,.int .i64 ag,.int .i64 ah,.int .i64 bI,.int .i64 aG,.int .i64 au,.int .i64 gen,.slice A ax.length c,.int .i64 bk,.int .i64 till,.int .i64 count] 69::iH sb s::R)→Calls Tryz.prog 134 #[pR sb,uy ⟨3,⟨⟨src,dst,proto,ag,ah⟩,bI,aG,au⟩,gen,ax,bk,till,count⟩ A c] w' (kP false sb s F0 w0 (Cells w.heap.size #[.int .i64 3,.int .u32 src,.int .u32 dst,.int .i64 proto,.int .i64 ag,.int .i64 ah,.int .i64 bI,.int .i64 aG,.int .i64 au,.int .i64 gen,.slice A ax.length c,.int .i64 bk,.int .i64 till,.int .i64 count] 69::R))):=Lib.hid fun w' h'=>by
  have:=vG (A:=A) (c:=c) wr hm (h'.aI (R1:=[_,_]) [1,0] (by decide) rfl)
  rw [hf] at this
  exact this
 have HE:Hid (∀ w' dm fm bv g C v,In F0 w0 w' (gG v ax::Cells sb #[.int .i64 gen,v,.map (some dm),.map (some fm)] 157::gG bv s.ax::zN dm s.bN::Cs fm s.bU::Cells g C 69::R)→ko ({ s with gen:=gen,ax:=ax },0) sb F0 w0 R (.returned (.int .i64 0)) w'):=Lib.hid fun w' dm fm bv g C v h'=>⟨rfl,In.lT (s:={ s with gen:=gen,ax:=ax }) (dm:=dm) (fm:=fm) (bv:=v) hok2 (h'.aI (R1:=[_,_,_,_,_,_]) [1,0,3,4] (by decide) rfl)⟩
 have HB:Hid (∀ w' B1 B2 B3 B4 B5,In F0 w0 w' (B1::B2::B3::B4::B5::R)→Calls Tryz.prog 103 #[.slice A ax.length c] w' fun e w''=>∃ v,e=.returned v∧In F0 w0 w'' (gG v ax::B1::B2::B3::B4::B5::R)):=Lib.hid fun w' B1 B2 B3 B4 B5 h'=>nK h' hn (hs _ h'.drop.drop.drop.drop.drop) hl
 have HM:=Lib.hid KM
 clear h h2 hs hn hl wr hm KM hg hf hok2
 go_enter Tryz.func49,Tryz.ntmps49
 go_wp2_with fail
 refine HM.out.mono ?_
 rintro e w2 ⟨rfl,g2⟩
 obtain⟨y0,y1,y2,y3,y4,y5,y6,y7,y8,y9,mf,om,oo,y13,yf⟩:=jk (y:=⟨3,⟨⟨src,dst,proto,ag,ah⟩,bI,aG,au⟩,gen,ax,bk,till,count⟩) (pv:=.slice A ax.length c) (g2.block 0 rfl)
 simp only at y0 y1 y2 y3 y4 y5 y6 y7 y8 y9 mf om oo y13
 have KG:=Lib.hid (HG.out _ g2)
 clear HM g2 HG
 go_wp2_with fail
 refine KG.out.mono ?_
 rintro e w4 ⟨rfl,g2⟩
 clear KG y0 y1 y2 y3 y4 y5 y6 y7 y8 y9 mf om oo y13 yf
 obtain⟨y0,y1,y2,y3,y4,y5,y6,y7,y8,y9,mf,om,oo,y13,yf⟩:=jk (y:=⟨3,⟨⟨src,dst,proto,ag,ah⟩,bI,aG,au⟩,gen,ax,bk,till,count⟩) (pv:=.slice A ax.length c) (g2.block 0 rfl)
 simp only at y0 y1 y2 y3 y4 y5 y6 y7 y8 y9 mf om oo y13
 have HM:True:=trivial
 have K2:=Lib.hid (DD.out _ g2)
 clear HM g2 DD
 go_wp2_with fail
 refine K2.out.mono ?_
 rintro e w3 ⟨rfl,g3⟩
 clear K2 y0 y1 y2 y3 y4 y5 y6 y7 y8 y9 mf om oo y13 yf
 obtain⟨y0,y1,y2,y3,y4,y5,y6,y7,y8,y9,mf,om,oo,y13,yf⟩:=jk (y:=⟨3,⟨⟨src,dst,proto,ag,ah⟩,bI,aG,au⟩,gen,ax,bk,till,count⟩) (pv:=.slice A ax.length c) (g3.block 1 rfl)
 simp only at y0 y1 y2 y3 y4 y5 y6 y7 y8 y9 mf om oo y13
 obtain⟨hok,dm,fm,a,c',g4⟩:=In.ny g3
 have K5:=Lib.hid (HB.out _ _ _ _ _ _ (g4.drewN 1))
 have hne:¬ w.heap.size=sb:=fun e=>(g4.ne 0 4 (by decide) rfl rfl) e.symm
 have hne2:¬ sb=w.heap.size:=fun e=>hne e.symm
 generalize w.heap.size=g at *
 clear g3 HB hok
 go_wp2_with fail
 go_region_held3 (fun w'=>w'.cell? ⟨g,9,none⟩=some (.int .i64 gen)∧w'.cell? ⟨g,10,none⟩=some (.slice A ax.length c)) (first | exact hz | exact⟨y9,mf⟩ | go_keep)
  (first | (go_at_call 103;refine K5.out.mono ?_;rintro e w4 ⟨v,rfl,g6⟩;obtain⟨Fv,rv⟩:=g6.get 0 rfl;obtain⟨pa,pc,rfl,-,-,-⟩:=ay.shape rv;have hz:w4.cell? ⟨g,9,none⟩=some (.int .i64 gen)∧w4.cell? ⟨g,10,none⟩=some (.slice A ax.length c):=⟨cell_of (g6.block 5 rfl) rfl,cell_of (g6.block 5 rfl) rfl⟩;have d0:w4.cell? ⟨sb,0,none⟩=some (.int .i64 s.gen):=cell_of (g6.block 1 rfl) rfl;have d1:w4.cell? ⟨sb,1,none⟩=some (.slice a s.ax.length c'):=cell_of (g6.block 1 rfl) rfl;have f0:w4.frozen? ⟨sb,0,none⟩=false:=aL (g6.block 1 rfl);have f1:w4.frozen? ⟨sb,1,none⟩=false:=aL (g6.block 1 rfl);have G6:=Lib.hid g6;clear g6 rv))
 have HX:=Lib.hid (HE.out _ _ _ _ _ _ _ (G6.out.ku [.int .i64 gen,.slice pa ax.length pc] 0 1 rfl))
 clear hz d0 d1 f0 f1 G6 HE
 go_wp2_with fail
 go_ret
 exact HX.out
theorem wX {r:Rec} {A:Option Addr} {c:Nat} (hs:gZ F0 w0 R A r.ax) (hn:A=none→c=0) (hl:r.ax.length≤1000000) (wr:mQ r) (h:In F0 w0 w (iH sb s::R)):Calls Tryz.prog 49 #[pR sb,uy r A c] w (ko (aX s r) sb F0 w0 R):=by
 have hok:fU s:=h.ny.1
 have hok2:=hok.apply wr
 obtain⟨kind,⟨⟨src,dst,proto,ag,ah⟩,bI,aG,au⟩,gen,ax,bk,till,count⟩:=r
 generalize hr:(⟨kind,⟨⟨src,dst,proto,ag,ah⟩,bI,aG,au⟩,gen,ax,bk,till,count⟩:Rec)=r at *
 cases hm:bT r with
 | false=>
  have e:aX s r=(s,1):=by unfold aX;rw [if_pos (by unfold oM;rw [hm];rfl)]
  rw [e];subst hr
  exact RG hs hn hl wr hm h
 | true=>
  have hk:r.kind=kind:=by rw [← hr]
  have hall:kind=1∨kind=2∨kind=3∨kind=4∨kind=5∨kind=6:=by
   have:=hm;rw [dS,hk] at this;omega
  cases hf:eZ s r with
  | true=>
   have aaF:kind=1∨kind=4:=by
    by_cases k1:kind=1
    ·exact Or.inl k1
    by_cases k4:kind=4
    ·exact Or.inr k4
    ·unfold eZ at hf;rw [hk,if_neg k1,if_neg k4] at hf;cases hf
   have hb:oM r=false:=iY.2 ⟨hm,by rw [hk];omega,by rw [hk];intro e;omega⟩
   have e:aX s r=(s,9):=by unfold aX;rw [if_neg (by rw [hb];simp),if_pos hf]
   rw [e];subst hr
   rcases aaF with rfl | rfl
   ·exact NS hs hn hl wr hm hf h
   ·exact NT hs hn hl wr hm hf h
  | false=>
   by_cases k6:kind=6
   ·have e:aX s r=(s,1):=by unfold aX;rw [if_pos (by unfold oM;rw [hk,k6,hm];rfl)]
    rw [e];subst hr;subst k6
    exact RH hs hn hl wr hm h
   ·by_cases h3:kind=3∧eU r.ax=false
    ·obtain⟨k3,hg⟩:=h3
     have e:aX s r=(s,1):=by unfold aX;rw [if_pos (by unfold oM;rw [hk,k3,hm,hg];rfl)]
     rw [e];subst hr;subst k3
     exact NR hs hn hl wr hm hg h
    ·have hb:oM r=false:=iY.2 ⟨hm,by rw [hk];exact k6,by
      rw [hk];intro e
      cases hg:eU r.ax with
      | true=>rfl
      | false=>exact absurd ⟨e,hg⟩ h3⟩
     have e:aX s r=(lG s r,0):=by unfold aX;rw [if_neg (by rw [hb];simp),if_neg (by rw [hf];simp)]
     rw [e] at hok2 ⊢
     subst hr
     rcases hall with rfl | rfl | rfl | rfl | rfl | rfl
     ·exact NU hs hn hl wr hm hf hok2 h
     ·exact NV hs hn hl wr hm hf hok2 h
     ·refine NZ hs hn hl wr hm ?_ hok2 h
      cases hg:eU ax with
      | true=>rfl
      | false=>exact absurd ⟨rfl,hg⟩ h3
     ·exact NW hs hn hl wr hm hf hok2 h
     ·exact NY hs hn hl wr hm hf hok2 h
     ·exact absurd rfl k6
end
end Go.Proofs.YtogclkhpbjfadaaGreat
