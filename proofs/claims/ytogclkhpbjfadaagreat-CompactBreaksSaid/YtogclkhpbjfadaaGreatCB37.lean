/- What is proved here: contracts of the program's functions, and plain laws, on which the proofs of StoreSure and CompactBreaks rest; without conditions. -/
import Derived.Test.YtogclkhpbjfadaaGreatCB36
import Derived.Test.YtogclkhpbjfadaaGreatCB32
import Derived.Test.YtogclkhpbjfadaaGreatCB30
import Derived.Test.YtogclkhpbjfadaaGreatCBStoreSureWalk
namespace Go.Proofs.YtogclkhpbjfadaaGreat
open Go.RowKit
set_option linter.unusedVariables false
set_option maxHeartbeats 64000000
set_option maxRecDepth 100000
section
variable {F0:List Nat} {w0 w:World} {R:List Asrt}
theorem bodiesR_ix:∀ {vs:List Value} {fs:List FrD} {k:Nat} {v:Value} {f:FrD},vs[k]?=some v→fs[k]?=some f→(bodiesR vs fs)[k]?=some (bodyA v f)
 | [],_,_,_,_,h,_=>by simp at h
 | _::_,[],_,_,_,_,h=>by simp at h
 | a::vs,b::fs,0,v,f,h1,h2=>by simp at h1 h2;subst h1 h2;rfl
 | a::vs,b::fs,k+1,v,f,h1,h2=>by
  simp only [List.getElem?_cons_succ] at h1 h2
  show (bodiesR vs fs)[k]?=_
  exact bodiesR_ix h1 h2
theorem frR_cell' {a:Option Addr} {n c k:Nat} {fs:List FrD} {vs:List Value} {f:FrD} {A:Option Addr} {cc m:Nat} (h:In F0 w0 w (RowA 40 3 (.slice a n c) fs.length (flatFr fs vs)::(bodiesR vs fs++R))) (hl:vs.length=fs.length) (hf:fs[k]?=some f) (hv:vs[k]?=some (.slice A m cc)) :
  ∃ g,a=some ⟨g,0,none⟩∧FrCell w g (k * 3) f A cc∧m=f.body.length:=by
 obtain⟨e0,e1,e2⟩:=flatFr_at hl hf hv
 obtain⟨F1,h1⟩:=h.get 0 rfl
 obtain⟨g,rfl,c0⟩:=h1.at.2 _ _ e0
 obtain⟨g',hg',c1⟩:=h1.at.2 _ _ e1
 cases hg'
 obtain⟨g',hg',c2⟩:=h1.at.2 _ _ e2
 cases hg'
 have hk:=(List.getElem?_eq_some_iff.1 (bodiesR_ix hv hf)).1
 obtain⟨F2,h2⟩:=h.get (k+1) (A:=bodyA (.slice A m cc) f) (by rw [List.getElem?_cons_succ,List.getElem?_append_left hk];exact bodiesR_ix hv hf)
 have hm:=(RowA.at h2).1
 subst hm
 exact⟨g,rfl,⟨c0,c1,c2,RowA.all h2,src_none (RowA.all h2)⟩,rfl⟩
theorem frs_u {a:Option Addr} {n c:Nat} {fs:List FrD} {vs:List Value} (h:In F0 w0 w (RowA 40 3 (.slice a n c) fs.length (flatFr fs vs)::(bodiesR vs fs++R))) (hl:vs.length=fs.length):FrU F0 w0 (RowA 40 3 (.slice a n c) fs.length (flatFr fs vs)::(bodiesR vs fs++R)) a fs:=by
 intro k f hf
 obtain⟨v,hv⟩:∃ v,vs[k]?=some v:=⟨vs[k]'(by have:=(List.getElem?_eq_some_iff.1 hf).1;omega),List.getElem?_eq_getElem _⟩
 have hk:=(List.getElem?_eq_some_iff.1 (bodiesR_ix hv hf)).1
 obtain⟨F2,h2⟩:=h.get (k+1) (A:=bodyA v f) (by rw [List.getElem?_cons_succ,List.getElem?_append_left hk];exact bodiesR_ix hv hf)
 obtain⟨A,cc,rfl,-,-,-⟩:=RowA.shape h2
 obtain⟨g,rfl,_,_⟩:=frR_cell' h hl hf hv
 refine⟨g,0,A,cc,rfl,fun w' h'=>?_⟩
 obtain⟨g',e,hc,_⟩:=frR_cell' h' hl hf hv
 cases e
 rw [Nat.zero_add];exact hc
theorem perm_out {α:Type} {r l d:α} {b x:List α}:(r::(b++(l::d::x))).Perm (l::d::r::(b++x)):=by
 have h1:(b++(l::d::x)).Perm (l::d::(b++x)):=(List.perm_middle).trans (List.Perm.cons _ List.perm_middle)
 exact (List.Perm.cons r h1).trans ((List.Perm.swap l r _).trans (List.Perm.cons l (List.Perm.swap d r _)))
variable {sb lb bd stb tb:Nat} {st:StD}
def SoSwPost (sb lb bd:Nat) (r:SD×Int) (F0:List Nat) (w0:World) (R:List Asrt) (e:Ending) (w':World):Prop:=∃ stb,e=.returned (.int .i64 r.2)∧In F0 w0 w' (SoL sb lb bd stb r.1 R)
theorem o_soswap {s:SD} {ver:Int} {Fr Fr0:List FrD} {k k0:Nat} (hl:LgOk s.2.l) (hi:LogInv s.1 s.2.l Fr k Fr0 k0) (ho:s.1.ops≤98000000) (i0:Nat) (hA:(SoL sb lb bd stb s R)[i0]?=some (StA tb st)) (h:In F0 w0 w (SoL sb lb bd stb s R)) :
  Calls Tryz.prog 50 #[pR sb,.int .i64 ver,pR tb] w (SoSwPost sb lb bd (swapS ver st s) F0 w0 R):=by
 obtain⟨X0,x0,D0,d0,Y0,y0,g0⟩:=h.soOpen
 have c0:w.cell? ⟨sb,0,none⟩=some (dptr lb):=cell_of (g0.block 0 rfl) rfl
 have KV:=Lib.hid (o_version (h.sel2 (R1:=[_,_,_,_]) [1,0,2,3] (by decide) rfl))
 have H0:=Lib.hid h
 by_cases hv1:ver < s.2.l.m.ver
 ·have q:decide (ver < (s.2.l.m.ver:Int))=true:=decide_eq_true hv1
  rw [show swapS ver st s=(s,10) from by unfold swapS;rw [if_pos (Or.inl hv1)]]
  clear h g0 hv1 hA hl hi ho
  go_enter Tryz.func50,Tryz.ntmps50
  go_wp2_with fail
  refine KV.out.mono ?_
  rintro e w1 ⟨rfl,rfl⟩
  clear KV
  go_wp2_with fail
  go_ret
  exact⟨_,rfl,H0.out⟩
 by_cases hv3:3 < ver
 ·have q:decide (ver < (s.2.l.m.ver:Int))=false:=decide_eq_false hv1
  have q3:decide (3 < ver)=true:=decide_eq_true hv3
  rw [show swapS ver st s=(s,10) from by unfold swapS;rw [if_pos (Or.inr hv3)]]
  clear h g0 hv1 hv3 hA hl hi ho
  go_enter Tryz.func50,Tryz.ntmps50
  go_wp2_with fail
  refine KV.out.mono ?_
  rintro e w1 ⟨rfl,rfl⟩
  clear KV
  go_wp2_with fail
  go_ret
  exact⟨_,rfl,H0.out⟩
 have q:decide (ver < (s.2.l.m.ver:Int))=false:=decide_eq_false hv1
 have q3:decide (3 < ver)=false:=decide_eq_false hv3
 have hlv:=(mayM_iff.1 hl.2.2).1
 have hvk:verOk ver=true:=by unfold verOk;simp;omega
 have hok:OkSt st:=by
  obtain⟨F,dm,fm,bv,hok,_⟩:=h.get i0 hA
  exact hok
 have KR:=Lib.hid (o_sorows hvk i0 hA h)
 have hrows:=rows_ok hok hvk
 have hrl:(rowsS ver st).length≤1000:=by
  have:=recsSt_len hok
  simp only [rowsS,List.length_map];omega
 have hinv:=swap_inv2 hi ver.toNat (rowsS ver st) hrows
 have hvt:(ver.toNat:Int)=ver:=by omega
 have hlk:LgOk (swapA ver st s).1.2:=by
  have hm:mayM (swapA ver st s).1.2.m=true:=by
   rcases hinv.2 with ⟨_,_,_,_,g⟩|⟨_,⟨_,_,g⟩|⟨_,_,g⟩⟩
   ·exact g.now.1
   ·exact g.now.1
   ·exact g.now.1
  have hsz:(swapA ver st s).1.2.size=s.2.l.size:=hinv.1
  exact⟨by rw [hsz];exact hl.1,by rw [hsz];exact hl.2.1,hm⟩
 have hS:swapS ver st s=(((swapA ver st s).1.1,⟨(swapA ver st s).1.2,if s.2.l.m.segs=(swapA ver st s).1.2.m.segs then s.2.st else inSt ver st,if (swapA ver st s).2=0 then inSt ver st else s.2.sure⟩),(swapA ver st s).2):=by unfold swapS;rw [if_neg (by omega)]
 have HSW:Hid (∀ w' (R':List Asrt) (a:Option Addr) (c:Nat),In F0 w0 w' (LgA lb bd s.2.l::DkA bd s.1::R')→FrU F0 w0 R' a (rowsS ver st)→Calls Tryz.prog 27 #[dptr lb,.int .i64 ver,.slice a (rowsS ver st).length c] w' (SwapPost lb bd (swapA ver st s) F0 w0 R')):=Lib.hid (fun w' R' a c h' hu=>by
  have:=o_swap (c:=c) (ver:=ver.toNat) h' hl (by omega) (by omega) hu (fun f hf=>(hrows f hf).1) hrl
  rw [hvt] at this
  exact this)
 have hsn:s.2.l.m.segs.length≤1000000:=by have:=hlv.2.2.2.1;omega
 generalize swapA ver st s=r at *
 have HFIN:Hid (∀ u,(if r.2=0 then inSt ver st else s.2.sure)=u→∀ t,(if s.2.l.m.segs=r.1.2.m.segs then s.2.st else inSt ver st)=t→swapS ver st s=((r.1.1,⟨r.1.2,t,u⟩),r.2)):=Lib.hid (fun u hu t ht=>by rw [hS,ht,hu])
 have HLK:=Lib.hid hlk
 have HSN:=Lib.hid hsn
 have HL:=Lib.hid hl
 clear h g0 hA hl hi ho hlv hvk hok hrows hrl hinv hvt hlk hS hsn hv1 hv3 H0
 go_enter Tryz.func50,Tryz.ntmps50
 go_wp2_with fail
 refine KV.out.mono ?_
 rintro e w1 ⟨rfl,rfl⟩
 clear KV
 go_wp2_with fail
 refine KR.out.mono ?_
 rintro e w2 ⟨fa,fc,mb,rfl,g2⟩
 obtain⟨X,x,D,d,F,f,g3⟩:=(g2.sel2 (R1:=[_,_,_,_,_,_]) [2,0,1,3,4,5] (by decide) rfl).soOpen
 have c1:w2.cell? ⟨sb,0,none⟩=some (dptr lb):=cell_of (g3.block 0 rfl) rfl
 have K2:=Lib.hid (o_lgsegs HL.out (g3.sel2 (R1:=[_,_,_,_,_,_,_,_,_]) [6,0,1,2,3,4,5,7,8] (by decide) rfl))
 clear g2 g3 KR c0
 go_wp2_with fail
 refine K2.out.mono ?_
 rintro e w3 ⟨wa,wc,rfl,g4⟩
 have c2:w3.cell? ⟨sb,0,none⟩=some (dptr lb):=cell_of (g4.block 2 rfl) rfl
 obtain⟨vs,hvs,g6⟩:=(g4.sel2 (R1:=[_,_,_,_,_,_,_,_,_,_]) [6,1,8,0,2,3,4,5,7,9] (by decide) rfl).frsOpen
 have g7:=g6.perm perm_out
 have K3:=Lib.hid (HSW.out w3 _ fa fc g7 (frs_u g7.drop.drop hvs))
 clear g4 g6 g7 K2 c1 HSW
 go_wp2_with fail
 refine K3.out.mono ?_
 rintro e w4 ⟨rfl,g8⟩
 have g9:=(In.mid (bodiesR vs (rowsS ver st)) (g8.perm perm_out.symm)).drop
 have c3:w4.cell? ⟨sb,0,none⟩=some (dptr lb):=cell_of (g9.block 3 rfl) rfl
 clear g8 K3 c2 hvs
 by_cases he:r.2=0
 ·rw [he]
  have HZ:=Lib.hid he
  have K4:=Lib.hid (o_stview' (g9.sel2 (R1:=[_,_,_,_,_,_,_,_,_]) [7,0,1,2,3,4,5,6,8] (by decide) rfl))
  clear g9 he
  go_wp2_with fail
  refine K4.out.mono ?_
  rintro e w5 ⟨A1,a1,D1,d1,F1,f1,rfl,g10⟩
  have Q1:=Lib.hid (there_at (g10.block 7 rfl) 2 4 (Nat.le_refl 6))
  have g11:=g10.setCs [.int .i64 (inSt ver st).gen,.slice A1 (inSt ver st).bks.length a1,.slice D1 (inSt ver st).drs.length d1,.slice F1 (inSt ver st).fls.length f1] 2 (b:=sb) (T:=150) (C:=soC lb stb s.2.sure.gen (.slice X s.2.sure.bks.length x) (.slice D s.2.sure.drs.length d) (.slice F s.2.sure.fls.length f)) 7 rfl
  have TL:Hid (In F0 w0 (w5.setCells sb 2 [.int .i64 (inSt ver st).gen,.slice A1 (inSt ver st).bks.length a1,.slice D1 (inSt ver st).drs.length d1,.slice F1 (inSt ver st).fls.length f1]) (LgA lb bd r.1.2::DkA bd r.1.1::IntsR (.slice wa s.2.l.m.segs.length wc) s.2.l.m.segs::Cells sb (soC lb stb (inSt ver st).gen (.slice A1 (inSt ver st).bks.length a1) (.slice D1 (inSt ver st).drs.length d1) (.slice F1 (inSt ver st).fls.length f1)) 150::BkR (.slice A1 (inSt ver st).bks.length a1) (inSt ver st).bks::DrR (.slice D1 (inSt ver st).drs.length d1) (inSt ver st).drs::FlR (.slice F1 (inSt ver st).fls.length f1) (inSt ver st).fls::StA mb (inSt ver st)::StA stb s.2.st::R)):=Lib.hid (g11.sel2 (R1:=[_,_,_,_,_,_,_,_,_,_,_,_]) [4,5,6,7,0,1,2,3,11] (by decide) rfl)
  clear g10 g11 K4 c3
  have e0:(w5.setCells sb 2 [.int .i64 (inSt ver st).gen,.slice A1 (inSt ver st).bks.length a1,.slice D1 (inSt ver st).drs.length d1,.slice F1 (inSt ver st).fls.length f1]).cell? ⟨sb,0,none⟩=some (dptr lb):=cell_of (TL.out.block 3 rfl) rfl
  have K6:=Lib.hid (o_lgsegs HLK.out TL.out)
  clear TL
  go_wp2_with (refine wpList_store_mid (op:=⟨none,Op.store 62 (.tmp 58) (.tmp 56),_,_,_,_⟩) (by rfl) 62 (.tmp 58) (.tmp 56) rfl sb 2 #[.int .i64 (inSt ver st).gen,.slice A1 (inSt ver st).bks.length a1,.slice D1 (inSt ver st).drs.length d1,.slice F1 (inSt ver st).fls.length f1] (by rfl) (by rfl) Q1.out (by kernel_rfl) (st4_all2 _ _ _ _ _ _ _ _ _ _) ?_)
  refine K6.out.mono ?_
  rintro e w8 ⟨ya,yc,rfl,g8⟩
  have K7:=Lib.hid (o_ieq (l1:=s.2.l.m.segs) (l2:=r.1.2.m.segs) (A1:=wa) (A2:=ya) (c1:=wc) (c2:=yc) (fun w' h'=>by obtain⟨F',r'⟩:=h'.get 3 rfl;exact r'.all) (fun w' h'=>by obtain⟨F',r'⟩:=h'.get 0 rfl;exact r'.all) HSN.out g8)
  clear g8 K6 e0
  go_wp2_with fail
  refine K7.out.mono ?_
  rintro e w9 ⟨rfl,g9⟩
  by_cases hseg:s.2.l.m.segs=r.1.2.m.segs
  ·rw [show decide (s.2.l.m.segs=r.1.2.m.segs)=true from decide_eq_true hseg]
   have G:Hid (In F0 w0 w9 (SoL sb lb bd stb (r.1.1,⟨r.1.2,s.2.st,inSt ver st⟩) R)):=Lib.hid (In.soClose (s:=inSt ver st) (lb:=lb) (stb:=stb) (g9.sel2 (R1:=[_,_,_,_,_,_,_,_,_,_]) [4,5,6,7,1,2,9] (by decide) rfl))
   have HE:=Lib.hid (HFIN.out _ (if_pos HZ.out) _ (if_pos hseg))
   clear g9 K7 hseg
   go_wp2_with fail
   go_ret
   exact⟨_,by rw [HE.out];show _=Ending.returned (.int .i64 r.2);rw [HZ.out];rfl,by rw [HE.out];exact G.out⟩
  ·rw [show decide (s.2.l.m.segs=r.1.2.m.segs)=false from decide_eq_false hseg]
   have e1:w9.cell? ⟨sb,1,none⟩=some (pR stb):=cell_of (g9.block 4 rfl) rfl
   have f1':w9.frozen? ⟨sb,1,none⟩=false:=free_of (g9.block 4 rfl)
   have g10:=g9.put (b:=sb) (T:=150) 4 rfl 1 (pR mb)
   have G:Hid (In F0 w0 (w9.setCell ⟨sb,1,none⟩ (pR mb)) (SoL sb lb bd mb (r.1.1,⟨r.1.2,inSt ver st,inSt ver st⟩) R)):=Lib.hid (In.soClose (s:=inSt ver st) (lb:=lb) (stb:=mb) (g10.sel2 (R1:=[_,_,_,_,_,_,_,_,_,_]) [4,5,6,7,1,2,8] (by decide) rfl))
   have HE:=Lib.hid (HFIN.out _ (if_pos HZ.out) _ (if_neg hseg))
   clear g9 g10 K7 hseg
   go_wp2_with fail
   go_ret
   exact⟨_,by rw [HE.out];show _=Ending.returned (.int .i64 r.2);rw [HZ.out];rfl,by rw [HE.out];exact G.out⟩
 ·have q0:(r.2 == 0)=false:=by rw [beq_eq_false_iff_ne];exact he
  have HZ:=Lib.hid he
  have TL:Hid (In F0 w0 w4 (LgA lb bd r.1.2::DkA bd r.1.1::IntsR (.slice wa s.2.l.m.segs.length wc) s.2.l.m.segs::Cells sb (soC lb stb s.2.sure.gen (.slice X s.2.sure.bks.length x) (.slice D s.2.sure.drs.length d) (.slice F s.2.sure.fls.length f)) 150::BkR (.slice X s.2.sure.bks.length x) s.2.sure.bks::DrR (.slice D s.2.sure.drs.length d) s.2.sure.drs::FlR (.slice F s.2.sure.fls.length f) s.2.sure.fls::StA mb (inSt ver st)::StA stb s.2.st::R)):=Lib.hid g9
  clear g9 he c3
  have e0:w4.cell? ⟨sb,0,none⟩=some (dptr lb):=cell_of (TL.out.block 3 rfl) rfl
  have K6:=Lib.hid (o_lgsegs HLK.out TL.out)
  clear TL
  go_wp2_with fail
  refine K6.out.mono ?_
  rintro e w8 ⟨ya,yc,rfl,g8⟩
  have K7:=Lib.hid (o_ieq (l1:=s.2.l.m.segs) (l2:=r.1.2.m.segs) (A1:=wa) (A2:=ya) (c1:=wc) (c2:=yc) (fun w' h'=>by obtain⟨F',r'⟩:=h'.get 3 rfl;exact r'.all) (fun w' h'=>by obtain⟨F',r'⟩:=h'.get 0 rfl;exact r'.all) HSN.out g8)
  clear g8 K6 e0
  go_wp2_with fail
  refine K7.out.mono ?_
  rintro e w9 ⟨rfl,g9⟩
  by_cases hseg:s.2.l.m.segs=r.1.2.m.segs
  ·rw [show decide (s.2.l.m.segs=r.1.2.m.segs)=true from decide_eq_true hseg]
   have G:Hid (In F0 w0 w9 (SoL sb lb bd stb (r.1.1,⟨r.1.2,s.2.st,s.2.sure⟩) R)):=Lib.hid (In.soClose (s:=s.2.sure) (lb:=lb) (stb:=stb) (g9.sel2 (R1:=[_,_,_,_,_,_,_,_,_,_]) [4,5,6,7,1,2,9] (by decide) rfl))
   have HE:=Lib.hid (HFIN.out _ (if_neg HZ.out) _ (if_pos hseg))
   clear g9 K7 hseg
   go_wp2_with fail
   go_ret
   exact⟨_,by rw [HE.out];rfl,by rw [HE.out];exact G.out⟩
  ·rw [show decide (s.2.l.m.segs=r.1.2.m.segs)=false from decide_eq_false hseg]
   have e1:w9.cell? ⟨sb,1,none⟩=some (pR stb):=cell_of (g9.block 4 rfl) rfl
   have f1':w9.frozen? ⟨sb,1,none⟩=false:=free_of (g9.block 4 rfl)
   have g10:=g9.put (b:=sb) (T:=150) 4 rfl 1 (pR mb)
   have G:Hid (In F0 w0 (w9.setCell ⟨sb,1,none⟩ (pR mb)) (SoL sb lb bd mb (r.1.1,⟨r.1.2,inSt ver st,s.2.sure⟩) R)):=Lib.hid (In.soClose (s:=s.2.sure) (lb:=lb) (stb:=mb) (g10.sel2 (R1:=[_,_,_,_,_,_,_,_,_,_]) [4,5,6,7,1,2,8] (by decide) rfl))
   have HE:=Lib.hid (HFIN.out _ (if_neg HZ.out) _ (if_neg hseg))
   clear g9 g10 K7 hseg
   go_wp2_with fail
   go_ret
   exact⟨_,by rw [HE.out];rfl,by rw [HE.out];exact G.out⟩
end
def FmtSt (v:Int) (s:StD):Prop:=(∀ f∈s.fls,inFl v f=f)∧∀ b∈s.bks,inBk v b=b
theorem FmtSt.eq {v:Int} {s:StD} (h:FmtSt v s):inSt v s=s:=by
 obtain⟨g,b,d,f⟩:=s
 unfold inSt
 have h1:b.map (inBk v)=b:=(List.map_congr_left h.2).trans (List.map_id' _)
 have h2:f.map (inFl v)=f:=(List.map_congr_left h.1).trans (List.map_id' _)
 simp only [h1,h2]
theorem FmtSt.zero (v:Int):FmtSt v zeroSt:=⟨by simp [zeroSt],by simp [zeroSt]⟩
theorem inFl_idem (v:Int) (f:Fl):inFl v (inFl v f)=inFl v f:=by
 unfold inFl
 simp only
 congr 1
 ·split <;> rfl
 ·split <;> rfl
theorem inBk_idem (v:Int) (b:Bk):inBk v (inBk v b)=inBk v b:=by
 unfold inBk
 split <;> simp_all
theorem FmtSt.apply {v:Int} {s:StD} (h:FmtSt v s) (hv:verOk v=true) (r:Rec):FmtSt v (applySt s (inRec r v)).1:=by
 have hk:=inRec_kind (r:=r) hv
 by_cases h0:(applySt s (inRec r v)).2=0
 case neg=>rw [applySt_err h0];exact h
 rw [applySt_do h0]
 have hfl:r.kind=1→inFl v (inRec r v).fl=(inRec r v).fl:=by
  intro h1
  unfold inRec
  rw [if_neg (by simp [hv])]
  simp only [if_pos h1]
  exact inFl_idem v _
 have hbk:∀ b∈(inRec r v).bks,inBk v b=b:=by
  unfold inRec
  rw [if_neg (by simp [hv])]
  intro b hb
  simp only [List.mem_map] at hb
  obtain⟨x,_,rfl⟩:=hb
  exact inBk_idem v x
 unfold doSt
 rw [hk]
 split
 ·rename_i h1
  exact⟨fun f hf=>by
   rcases stPutF_mem hf with rfl | hf
   ·exact hfl h1
   ·exact h.1 f hf,h.2⟩
 ·split
  ·exact⟨fun f hf=>h.1 f (List.mem_filter.1 hf).1,h.2⟩
  ·split
   ·exact⟨h.1,hbk⟩
   ·repeat' split
    all_goals exact h
theorem write_fmt {s:SD} {Fr:List FrD} {k:Nat} {Fr0:List FrD} {k0:Nat} (h:SoInv s Fr k Fr0 k0) (hf:FmtSt s.2.l.m.ver s.2.st) (r:Rec):FmtSt s.2.l.m.ver (writeS r s).1.2.st:=by
 have hv:=h.ver
 have hm:(writeA r s).1.2.m.ver=s.2.l.m.ver:=(append_inv h.log ((writeE r s).1.kind:Int) (writeE r s).1.body).2.1
 unfold writeS
 split
 ·exact hf
 ·split
  ·exact hf
  ·split
   ·exact hf
   ·split
    ·exact hf
    ·show FmtSt _ (applySt s.2.st (inRec r (writeA r s).1.2.m.ver)).1
     rw [hm]
     exact hf.apply hv r
structure FiSt (k z:Nat) (v:Int) (s:SD):Prop where
 su:SuSt 61 k z s
 ver:(s.2.l.m.ver:Int)=v
 fmt:FmtSt v s.2.st
theorem FiSt.write {k z:Nat} {v:Int} {s:SD} (h:FiSt k z v s) (hk:k < 61) {r:Rec} (wr:WfR r):FiSt (k+1) z v (writeS r s).1:=by
 obtain⟨h1,h2⟩:=h.su.write hk wr
 obtain⟨Fr,kk,g⟩:=h.su.inv
 have hv:=(g.write wr).2.1
 have hf:=write_fmt g (by rw [h.ver];exact h.fmt) r
 refine⟨h1,by rw [hv];exact h.ver,?_⟩
 rw [h.ver] at hf;exact hf
theorem FiSt.more {k z:Nat} {v:Int} {s:SD} (h:FiSt k z v s):FiSt (k+1) z v s:=⟨h.su.more,h.ver,h.fmt⟩
theorem FiSt.to {k z:Nat} {v:Int} {s:SD} (h:FiSt k z v s):∀ {j:Nat},k≤j→FiSt j z v s
 | 0,hj=>by
  have e:k=0:=Nat.le_zero.1 hj
  subst e
  exact h
 | j+1,hj=>by
  by_cases e:k=j+1
  ·subst e;exact h
  ·exact (h.to (by omega)).more
theorem FiSt.start {v:Int} (hv:1≤v∧v≤3) (size:Int):∃ s:SD,createS v size (dNew 300000)=(s.1,some s.2,0)∧FiSt 0 (sized size) v s:=by
 obtain⟨s,h1,h2,h3,h4,h5⟩:=SuSt.start 61 (by omega) hv size
 exact⟨s,h1,h2,h5,by rw [h3];exact FmtSt.zero v⟩
theorem SoInv.fail {s:SD} {Fr:List FrD} {k:Nat} {Fr0:List FrD} {k0:Nat} (h:SoInv s Fr k Fr0 k0) (n:Int):SoInv (dFail s.1 n,s.2) Fr k Fr0 k0:=⟨h.log.fail n,h.st,h.ok,h.oks,h.ne⟩
theorem SoInv.crash2 {s:SD} {Fr:List FrD} {Fr0:List FrD} {st:StD} (h:SoInv s Fr Fr.length Fr0 Fr0.length) (h1:rdAll Fr zeroSt=(st,0)) (h2:rdAll Fr0 zeroSt=(st,0)) (p:List UInt8):∃ m0 Fr',OnDisk (dCrash s.1 p) m0 Fr'∧rdAll Fr' zeroSt=(st,0):=by
 rcases h.log.crash p with ⟨j,j1,j2,j3⟩|⟨_,m0,j,j1,j2,j3⟩
 ·rw [List.take_of_length_le j1] at j3
  exact⟨_,_,j3,h1⟩
 ·rw [List.take_of_length_le j1] at j3
  exact⟨_,_,j3,h2⟩
theorem cp_swap {s:SD} {Fr:List FrD} (h:SoInv s Fr Fr.length Fr Fr.length) (hf:FmtSt s.2.l.m.ver s.2.st) :
  (swapS s.2.l.m.ver s.2.st s).1.2.st=s.2.st∧∀ p,∃ m0 Fr',OnDisk (dCrash (swapS s.2.l.m.ver s.2.st s).1.1 p) m0 Fr'∧rdAll Fr' zeroSt=(s.2.st,0):=by
 have hv:=h.ver
 unfold verOk at hv
 simp only [decide_eq_true_eq] at hv
 obtain⟨_,h2⟩:=h.swap (v:=s.2.l.m.ver) h.ok ⟨Int.le_refl _,hv.2⟩
 rw [hf.eq] at h2
 have hrows:rdAll (rowsS s.2.l.m.ver s.2.st) zeroSt=(s.2.st,0):=by
  have:=rdAll_rows h.ok h.ver
  rw [hf.eq] at this
  exact this
 rcases h2 with ⟨_,_,_,_,g1,g2⟩|⟨_,_,⟨_,g2,g1⟩|⟨_,g2,g1⟩⟩
 ·exact⟨g2,fun p=>g1.crash2 hrows hrows p⟩
 ·exact⟨g2,fun p=>g1.crash2 h.st h.st p⟩
 ·exact⟨g2,fun p=>g1.crash2 hrows h.st p⟩
theorem swapL_ops2 {ver:Nat} {bs:List (List UInt8)} {d:DiskD} {l:LogD} (hl:LgOk l) (hb:∀ b∈bs,b.length≤5000):(swapL ver bs (d,l)).1.1.ops≤d.ops+3 * bs.length+80:=by
 have h1:=settleL_ops (d,l)
 have h2:=settleL_ok (s:=(d,l)) hl
 by_cases hz:(settleL (d,l)).2=0
 ·rw [swapL_end ver bs (d,l) hz]
  obtain⟨h3,h4,_⟩:=swapT_ops (ver:=ver) (l:=(settleL (d,l)).1.2) (d:=(settleL (d,l)).1.1) hb
  have h5:(settleL (d,l)).1.2.m.segs.length≤64:=(mayM_iff.1 h2.2.2).1.2.2.2.1
  have h6:=removeD_ops (settleL (d,l)).1.2.m.segs (swapT ver bs (settleL (d,l)).1.2 (settleL (d,l)).1.1).1.d
  have h7:=dropD_ops (swapT ver bs (settleL (d,l)).1.2 (settleL (d,l)).1.1).1.segs (swapT ver bs (settleL (d,l)).1.2 (settleL (d,l)).1.1).1.d
  simp only at h1
  unfold swapEnd
  split
  ·simp only;omega
  split
  ·simp only;omega
  ·simp only;omega
 ·rw [swapL_err hz];simp only at h1;omega
theorem swapS_ops {s:SD} (hl:LgOk s.2.l) (hok:OkSt s.2.st) (hv:verOk (s.2.l.m.ver:Int)=true):(swapS s.2.l.m.ver s.2.st s).1.1.ops≤s.1.ops+2000:=by
 unfold swapS
 split
 ·show s.1.ops≤_;omega
 ·have hb:∀ b∈(rowsS (s.2.l.m.ver:Int) s.2.st).map frBytes,b.length≤5000:=by
   intro b hb
   obtain⟨f,hf,rfl⟩:=List.mem_map.1 hb
   have:=(rows_ok hok hv f hf).1.body
   rw [frBytes_length];omega
  have:=swapL_ops2 (ver:=(s.2.l.m.ver:Int).toNat) (d:=s.1) hl hb
  have hn:=recsSt_len hok
  simp only [rowsS,List.length_map] at this
  show (swapL _ _ (s.1,s.2.l)).1.1.ops≤_
  simp only [rowsS]
  omega
section
variable {F0:List Nat} {w0 w:World} {R:List Asrt} {sb lb bd stb:Nat}
theorem o_cpdo {s:SD} {Fr Fr0:List FrD} {k k0:Nat} (hl:LgOk s.2.l) (hi:LogInv s.1 s.2.l Fr k Fr0 k0) (ho:s.1.ops≤98000000) (h:In F0 w0 w (SoL sb lb bd stb s R)) :
  Calls Tryz.prog 54 #[pR sb] w (SoSwPost sb lb bd (swapS s.2.l.m.ver s.2.st s) F0 w0 R):=by
 have K1:=Lib.hid (o_soversion h)
 have K2:=Lib.hid (o_sostate h)
 have K3:=Lib.hid (o_soswap (ver:=(s.2.l.m.ver:Int)) hl hi ho 3 rfl h)
 clear h hl hi ho
 go_enter Tryz.func54,Tryz.ntmps54
 go_wp2_with fail
 refine K1.out.mono ?_
 rintro e w1 ⟨rfl,rfl⟩
 go_wp2_with fail
 refine K2.out.mono ?_
 rintro e w2 ⟨rfl,rfl⟩
 go_wp2_with fail
 refine K3.out.mono ?_
 rintro e w3 ⟨stb2,rfl,g⟩
 have G:=Lib.hid g
 clear g K1 K2 K3
 go_wp2_with fail
 go_ret
 exact⟨_,rfl,G.out⟩
end
section
variable {W w:World} {R:List Asrt}
def FiRel (sb lb bd stb n z:Nat) (v:Int) (W:World) (R:List Asrt) (i:Value) (wr:World):Prop:=
 ∃ (k:Nat) (s:SD),k≤n∧i=.int .i64 k∧FiSt (min k 60) z v s∧In [] W wr (SoL sb lb bd stb s R)
def FiPost (z:Nat) (v:Int) (W:World) (R:List Asrt) (e:Ending) (w':World):Prop:=
 ∃ sb lb bd stb s,e=.returned (.tuple #[dptr bd,pR sb])∧FiSt 60 z v s∧In [] W w' (SoL sb lb bd stb s R)
theorem o_filled {v:Value} {cs:List CallR} {ver:Int} (hver:1≤ver∧ver≤3) (size:Int) (h:In [] W w R) (hv:ArgCalls15 W v cs) :
  Calls Tryz.prog 56 #[.int .i64 ver,.int .i64 size,v] w (FiPost (sized size) ver W R):=by
 obtain⟨a,cap,rfl,hc1,hc2,hcn,hc⟩:=hv.ex
 have HC:=Lib.hid hc
 unfold maxLen at hc2
 have KN:=Lib.hid (o_dnew h 300000 (by omega) (by omega))
 obtain⟨s0,hc0,hst⟩:=FiSt.start hver size
 have KC:Hid (∀ bd w',In [] W w' (DkA bd (dNew 300000)::R)→Calls Tryz.prog 30 #[dptr bd,.int .i64 ver,.int .i64 size] w' (SoCrPost bd (s0.1,some s0.2,0) [] W R)):=Lib.hid (fun bd w' h'=>by
  have:=o_socreate h' (by decide) ver size
  rw [hc0] at this;exact this)
 have HST:=Lib.hid hst
 clear h hv hc hcn hc0 hst
 go_enter Tryz.func56,Tryz.ntmps56
 go_wp2_with fail
 refine KN.out.mono ?_
 rintro e w2 ⟨bd,rfl,g2⟩
 have C1:=Lib.hid (KC.out bd w2 g2)
 clear g2 KN KC
 go_wp2_with fail
 refine C1.out.mono ?_
 intro e w3 hp
 obtain⟨sb,lb,stb,rfl,g3⟩:=hp.some rfl
 have HR:Hid (FiRel sb lb bd stb cs.length (sized size) ver W R (.int .i64 0) w3):=Lib.hid ⟨0,s0,Nat.zero_le _,rfl,HST.out,g3⟩
 clear hp C1 g3 HST
 go_wp2_with fail
 go_loopw [29] (FiRel sb lb bd stb cs.length (sized size) ver W R) (fun i _=>cs.length - (intOf i).toNat)
 case atStart=>exact HR.out
 case round=>
  obtain⟨k,s,hk,rfl,hst,ho⟩:=hrel
  clear HR
  by_cases hlt:k < cs.length
  ·obtain⟨x,hx⟩:∃ x,cs[k]?=some x:=⟨cs[k],List.getElem?_eq_getElem hlt⟩
   obtain⟨g,o,csx,rfl,hcr,hcell⟩:=HC.out k x hx
   obtain⟨ab,cb,ar,cr,ap,cp,rfl,hsrc,hnn,hbl,hwf,hvr,_,hrl⟩:=call_of hcr
   have hlt':(k:Int) < (cs.length:Int):=by omega
   have hw2:wrap64 ((k:Int)+1)=(k:Int)+1:=by unfold wrap64;omega
   have HRG:=Lib.hid (range_old ho hcell)
   obtain⟨hth,h4⟩:=call_box ho x ab cb ar cr ap cp
   have HTH:=Lib.hid hth
   obtain⟨w4,hw4⟩:∃ w4,w4=(wr.alloc (.cells zCall 72)).setCells wr.heap.size 0 (callV x ab cb ar cr ap cp).toArray.toList:=⟨_,rfl⟩
   rw [← hw4] at h4
   unfold maxLen at hbl
   have H5:=Lib.hid h4.drop
   have c12:w4.cell? ⟨wr.heap.size,12,none⟩=some (.slice ab x.r.bks.length cb):=cell_of (h4.block 0 rfl) callV_12
   have HRB:=Lib.hid (call_range (h4.block 0 rfl))
   have HW4:=Lib.hid hw4
   have HST:=Lib.hid hst
   have HM:=Lib.hid (meas_lt hlt')
   have HK:Hid (k+1≤cs.length):=Lib.hid hlt
   have HSRC:=Lib.hid hsrc
   have HNN:=Lib.hid hnn
   have HWF:=Lib.hid hwf
   have HOP:Hid (s.1.ops≤5000):=Lib.hid (by have:=hst.su.ops;omega)
   have HLG:=Lib.hid (hst.su.lgOk (sized_ok size))
   clear ho h4 hvr hx hlt hcell hcr hw4 hth hsrc hnn hwf hst hrl hk
   go_upto_region 7 with fail
   go_cut [11,12] (fun x11 x12 wx=>x11=.int .i64 k∧x12=.pointer (some ⟨wr.heap.size,0,none⟩)∧wx=w4)
   case first=>
    go_wp2_with (first | (refine wpList_load_mid (by rfl) 72 (.tmp 32) rfl g (o+k * 18) rfl (callV x ab cb ar cr ap cp) _ HRG.out Tryz.underlying72 rfl (by kernel_rfl) ?_) | (refine wpList_store_mid (by rfl) 72 (.tmp 12) (.tmp 33) rfl wr.heap.size 0 (callV x ab cb ar cr ap cp).toArray (by rfl) (by rfl) HTH.out (by kernel_rfl) callV_one ?_))
    go_meet
    exact⟨rfl,rfl,HW4.out.symm⟩
   case rest=>
   obtain⟨rfl,rfl,rfl⟩:=hcut
   clear HRG HTH HW4
   generalize wr.heap.size=fb at *
   by_cases q1:k < 60
   case neg=>
    have q1':decide ((k:Int) < 60)=false:=decide_eq_false (by omega)
    have HR:Hid (FiRel sb lb bd stb cs.length (sized size) ver W R (.int .i64 ((k:Int)+1)) wc):=Lib.hid ⟨k+1,s,HK.out,by rw [Int.natCast_add];rfl,HST.out.to (by omega),H5.out⟩
    clear q1 H5 HST
    go_wp2_with fail
    go_roundw
    case rel=>(try rw [hw2]);exact HR.out
    case measure=>(try rw [hw2]);exact HM.out
   have q1':(k:Int) < 60:=by omega
   by_cases q2:x.r.bks.length≤40
   case neg=>
    have q2':decide ((x.r.bks.length:Int)≤40)=false:=decide_eq_false (by omega)
    have HR:Hid (FiRel sb lb bd stb cs.length (sized size) ver W R (.int .i64 ((k:Int)+1)) wc):=Lib.hid ⟨k+1,s,HK.out,by rw [Int.natCast_add];rfl,HST.out.to (by omega),H5.out⟩
    clear q1 q2 H5 HST
    go_wp2_with fail
    go_roundw
    case rel=>(try rw [hw2]);exact HR.out
    case measure=>(try rw [hw2]);exact HM.out
   have q2':(x.r.bks.length:Int)≤40:=by omega
   have KW:=Lib.hid (o_sowrite (r:=x.r) (A:=ab) (c:=cb) HLG.out (by have:=HOP.out;omega) (fun w' h'=>HSRC.out.old h') HNN.out (by omega) HWF.out.rr H5.out)
   have HN:Hid (FiSt (min (k+1) 60) (sized size) ver (writeS x.r s).1):=Lib.hid (by
    have h1:=HST.out
    rw [Nat.min_eq_left (by omega)] at h1
    rw [Nat.min_eq_left (by omega)]
    exact h1.write (by omega) HWF.out.rr)
   clear HST H5 q1 q2
   go_wp2_with (refine wpList_load_mid (by rfl) 69 (.tmp 44) rfl fb 2 rfl (recV x.r ab cb) _ HRB.out Tryz.underlying69 rfl (by kernel_rfl) ?_)
   refine KW.out.mono ?_
   rintro e w5 ⟨rfl,g5⟩
   have HR:Hid (FiRel sb lb bd stb cs.length (sized size) ver W R (.int .i64 ((k:Int)+1)) w5):=Lib.hid ⟨k+1,_,HK.out,by rw [Int.natCast_add];rfl,HN.out,g5⟩
   clear g5 KW HRB c12 HN
   go_wp2_with fail
   go_roundw
   case rel=>(try rw [hw2]);exact HR.out
   case measure=>(try rw [hw2]);exact HM.out
  ·have hge:(cs.length:Int)≤(k:Int):=by omega
   have G:=Lib.hid (FiSt.to hst (show min k 60≤60 by omega))
   have GO:=Lib.hid ho
   clear ho hlt hk hst
   go_wp2_with fail
   go_ret2
   exact⟨sb,lb,bd,stb,s,rfl,G.out,GO.out⟩
end
def cs0:DiskD×Option StoreD×Int:=createS 1 200 (dNew 5000)
def csS:SD:=(cs0.1,cs0.2.1.getD default)
def rA:Rec:=⟨1,⟨⟨0,0,6,0,0⟩,3,0,0⟩,0,[],0,0,0⟩
def rB:Rec:=⟨2,⟨⟨0,0,6,0,0⟩,3,0,0⟩,0,[],0,0,0⟩
def cs1:SD×Int:=writeS rA csS
def cs2:SD×Int:=writeS rB cs1.1
def cs3:SD×Int:=swapS cs2.1.2.l.m.ver cs2.1.2.st cs2.1
theorem cs_facts:cs0.2.1.isSome=true∧cs0.2.2=0∧cs3.2=0∧sizeL (cs3.1.1,cs3.1.2.l)=21∧lgOkC csS.2.l=true∧lgOkC cs1.1.2.l=true∧lgOkC cs2.1.2.l=true∧lgOkC cs3.1.2.l=true∧csS.1.ops≤1000∧cs1.1.1.ops≤1000∧cs2.1.1.ops≤1000:=by decide +kernel
theorem rA_wf:WfR rA:=⟨by constructor <;> decide,by simp [rA]⟩
theorem rB_wf:WfR rB:=⟨by constructor <;> decide,by simp [rB]⟩
theorem SoRm.next1 {s:SD} {Fr:List FrD} {k n:Nat} (h:SoRm s Fr k (n+1)) {r:Rec} (wr:WfR r):∃ Fr',SoRm (writeS r s).1 Fr' k n:=by
 rcases (h.write wr).2.2.2 with ⟨_,f,g⟩|⟨_,g⟩
 ·exact⟨_,g⟩
 ·rw [g];exact⟨Fr,h.less (Nat.le_succ n)⟩
theorem cs_inv:∃ Fr k,LogInv cs2.1.1 cs2.1.2.l Fr k Fr k:=by
 obtain⟨s,h1,h2,_⟩:=SoRm.start (v:=1) (by omega) 200 5000 3 (by omega) (by omega)
 have e:s=csS:=by
  show s=(cs0.1,cs0.2.1.getD default)
  rw [show cs0=(s.1,some s.2,0) from h1];rfl
 subst e
 obtain⟨F1,g1⟩:=h2.next1 rA_wf
 obtain⟨F2,g2⟩:=SoRm.next1 (s:=cs1.1) g1 rB_wf
 exact⟨F2,0,g2.inv.log⟩
section
variable {F0:List Nat} {w0 w:World} {R:List Asrt} {sb lb bd stb:Nat}
theorem o_sosize {s:SD} (hl:LgOk s.2.l) (h:In F0 w0 w (SoL sb lb bd stb s R)):Calls Tryz.prog 57 #[pR sb] w fun e w'=>e=.returned (.int .i64 (sizeL (s.1,s.2.l)))∧In F0 w0 w' (SoL sb lb bd stb s R):=by
 obtain⟨A,a,D,d,F,f,g0⟩:=h.soOpen
 have c0:w.cell? ⟨sb,0,none⟩=some (dptr lb):=cell_of (g0.block 0 rfl) rfl
 have K:=Lib.hid (o_lgsize hl (h.sel2 (R1:=[_,_,_,_]) [1,2,0,3] (by decide) rfl))
 clear h g0
 go_enter Tryz.func57,Tryz.ntmps57
 go_wp2_with fail
 refine K.out.mono ?_
 rintro e w1 ⟨rfl,g⟩
 have G:=Lib.hid (g.sel2 (R1:=[_,_,_,_]) [2,0,1,3] (by decide) rfl)
 clear g K c0
 go_wp2_with fail
 go_ret
 exact⟨rfl,G.out⟩
theorem cells8 {W:World} {g:Nat} (h:W.heap[g]?=some (.cells #[.int .u32 0,.int .u32 0,.int .i64 6,.int .i64 0,.int .i64 0,.int .i64 3,.int .i64 0,.int .i64 0] 67 (0,0))):W.cell? ⟨g,0,none⟩=some (.int .u32 0)∧W.cell? ⟨g,1,none⟩=some (.int .u32 0)∧W.cell? ⟨g,2,none⟩=some (.int .i64 6)∧W.cell? ⟨g,3,none⟩=some (.int .i64 0)∧W.cell? ⟨g,4,none⟩=some (.int .i64 0)∧W.cell? ⟨g,5,none⟩=some (.int .i64 3)∧W.cell? ⟨g,6,none⟩=some (.int .i64 0)∧W.cell? ⟨g,7,none⟩=some (.int .i64 0):=
 ⟨cell_of h rfl,cell_of h rfl,cell_of h rfl,cell_of h rfl,cell_of h rfl,cell_of h rfl,cell_of h rfl,cell_of h rfl⟩
theorem o_awake16 (h:In F0 w0 w R):Calls Tryz.prog 51 #[] w fun e w'=>e=.returned (.bool true)∧In F0 w0 w' R:=by
 obtain⟨f1,f2,f3,f4,l0,l1,l2,l3,o0,o1,o2⟩:=cs_facts
 obtain⟨Fr,kk,hinv⟩:=cs_inv
 have K0:=Lib.hid (o_dnew h 5000 (by omega) (by omega))
 have K1:=Lib.hid (fun bd w' (h':In F0 w0 w' (DkA bd (dNew 5000)::R))=>o_socreate h' (by decide) 1 200)
 have K2:=Lib.hid (fun sb lb bd stb w' (R':List Asrt) (h':In F0 w0 w' (SoL sb lb bd stb csS R'))=>o_sowrite (A:=none) (c:=0) (r:=rA) (lgOk_ofC l0) (by omega) (fun _ _=>Src.nil _ _ _) (fun _=>rfl) (by decide) rA_wf h')
 have K3:=Lib.hid (fun sb lb bd stb w' (R':List Asrt) (h':In F0 w0 w' (SoL sb lb bd stb cs1.1 R'))=>o_sowrite (A:=none) (c:=0) (r:=rB) (lgOk_ofC l1) (by omega) (fun _ _=>Src.nil _ _ _) (fun _=>rfl) (by decide) rB_wf h')
 have K4:=Lib.hid (fun sb lb bd stb w' (R':List Asrt) (h':In F0 w0 w' (SoL sb lb bd stb cs2.1 R'))=>o_cpdo (lgOk_ofC l2) hinv (by omega) h')
 have K5:=Lib.hid (fun sb lb bd stb w' (R':List Asrt) (h':In F0 w0 w' (SoL sb lb bd stb cs3.1 R'))=>o_sosize (lgOk_ofC l3) h')
 have HS0:Hid (cs0.2.1=some csS.2):=Lib.hid (by
  show _=some (cs0.2.1.getD default)
  cases e:cs0.2.1 with
  | none=>rw [e] at f1;cases f1
  | some l=>rfl)
 have E0:=Lib.hid f2
 have E3:=Lib.hid f3
 have E4:=Lib.hid f4
 clear h f1 f2 f3 f4 l0 l1 l2 l3 o0 o1 o2 hinv
 go_enter Tryz.func51,Tryz.ntmps51
 go_wp2_with fail
 refine K0.out.mono ?_
 rintro e w1 ⟨bd,rfl,g1⟩
 have C1:=Lib.hid (K1.out bd w1 g1)
 clear g1 K0 K1
 go_wp2_with fail
 refine C1.out.mono ?_
 intro e w2 hp
 obtain⟨sb,lb,stb,rfl,g2⟩:=hp.some HS0.out
 rw [show createS 1 200 (dNew 5000)=cs0 from rfl,E0.out]
 have g3:=(g2.cells #[.int .u32 0,.int .u32 0,.int .i64 6,.int .i64 0,.int .i64 0,.int .i64 3,.int .i64 0,.int .i64 0] 67).sel2 (R1:=[_,_,_,_,_]) [1,2,3,4,0] (by decide) rfl
 have C2:=Lib.hid (K2.out sb lb bd stb _ _ g3)
 clear g2 g3 hp C1 K2
 go_wp2_with fail
 refine C2.out.mono ?_
 rintro e w3 ⟨rfl,g4⟩
 obtain⟨d0,d1,d2,d3,d4,d5,d6,d7⟩:=cells8 (g4.block 4 rfl)
 have C3:=Lib.hid (K3.out sb lb bd stb _ _ g4)
 clear g4 C2 K3
 go_wp2_with fail
 refine C3.out.mono ?_
 rintro e w4 ⟨rfl,g5⟩
 have C4:=Lib.hid (K4.out sb lb bd stb _ _ g5)
 clear g5 C3 K4 d0 d1 d2 d3 d4 d5 d6 d7
 go_wp2_with fail
 refine C4.out.mono ?_
 rintro e w5 ⟨stb2,rfl,g6⟩
 rw [show swapS cs2.1.2.l.m.ver cs2.1.2.st cs2.1=cs3 from rfl,E3.out]
 have C5:=Lib.hid (K5.out sb lb bd stb2 _ _ g6)
 clear g6 C4 K5
 go_wp2_with fail
 refine C5.out.mono ?_
 rintro e w6 ⟨rfl,g7⟩
 rw [E4.out]
 have G:=Lib.hid (g7.sel2 (R1:=[_,_,_,_,_]) [] (by decide) rfl)
 clear g7 C5
 go_wp2_with fail
 go_ret
 exact⟨rfl,G.out⟩
end
end Go.Proofs.YtogclkhpbjfadaaGreat
