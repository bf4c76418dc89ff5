/- Rows.CompactBoundsSaid -/
import Derived.Test.YtaopfagclnocdaaGreatCU40
import Derived.Test.YtaopfagclnocdaaGreatCU37
import Derived.Test.YtaopfagclnocdaaGreatCU35
import Derived.Test.YtaopfagclnocdaaGreatCU38
namespace Go.Proofs.YtaopfagclnocdaaGreat
open Go.RowKit
set_option linter.unusedVariables false
set_option maxHeartbeats 64000000
set_option maxRecDepth 100000
section
variable {F0:List Nat} {w0 w:World} {R:List Asrt}
theorem bodiesR_ix:∀ {vs:List Value} {fs:List FrD} {k:Nat} {v:Value} {f:FrD},vs[k]?=some v→fs[k]?=some f→(bodiesR vs fs)[k]?=some (bodyA v f)
 | [],_,_,_,_,h,_=>by simp at h
 | _::_,[],_,_,_,_,h=>by simp at h
 | a::vs,b::fs,0,v,f,h1,h2=>by simp at h1 h2;subst h1 h2;rfl
 | a::vs,b::fs,k+1,v,f,h1,h2=>by
  simp only [List.getElem?_cons_succ] at h1 h2
  show (bodiesR vs fs)[k]?=_
  exact bodiesR_ix h1 h2
theorem frR_cell' {a:Option Addr} {n c k:Nat} {fs:List FrD} {vs:List Value} {f:FrD} {A:Option Addr} {cc m:Nat} (h:In F0 w0 w (RowA 85 3 (.slice a n c) fs.length (flatFr fs vs)::(bodiesR vs fs++R))) (hl:vs.length=fs.length) (hf:fs[k]?=some f) (hv:vs[k]?=some (.slice A m cc)) :
  ∃ g,a=some ⟨g,0,none⟩∧FrCell w g (k * 3) f A cc∧m=f.body.length:=by
 obtain⟨e0,e1,e2⟩:=flatFr_at hl hf hv
 obtain⟨F1,h1⟩:=h.get 0 rfl
 obtain⟨g,rfl,c0⟩:=h1.at.2 _ _ e0
 obtain⟨g',hg',c1⟩:=h1.at.2 _ _ e1
 cases hg'
 obtain⟨g',hg',c2⟩:=h1.at.2 _ _ e2
 cases hg'
 have hk:=(List.getElem?_eq_some_iff.1 (bodiesR_ix hv hf)).1
 obtain⟨F2,h2⟩:=h.get (k+1) (A:=bodyA (.slice A m cc) f) (by rw [List.getElem?_cons_succ,List.getElem?_append_left hk];exact bodiesR_ix hv hf)
 have hm:=(RowA.at h2).1
 subst hm
 exact⟨g,rfl,⟨c0,c1,c2,RowA.all h2,src_none (RowA.all h2)⟩,rfl⟩
theorem frs_u {a:Option Addr} {n c:Nat} {fs:List FrD} {vs:List Value} (h:In F0 w0 w (RowA 85 3 (.slice a n c) fs.length (flatFr fs vs)::(bodiesR vs fs++R))) (hl:vs.length=fs.length):FrU F0 w0 (RowA 85 3 (.slice a n c) fs.length (flatFr fs vs)::(bodiesR vs fs++R)) a fs:=by
 intro k f hf
 obtain⟨v,hv⟩:∃ v,vs[k]?=some v:=⟨vs[k]'(by have:=(List.getElem?_eq_some_iff.1 hf).1;omega),List.getElem?_eq_getElem _⟩
 have hk:=(List.getElem?_eq_some_iff.1 (bodiesR_ix hv hf)).1
 obtain⟨F2,h2⟩:=h.get (k+1) (A:=bodyA v f) (by rw [List.getElem?_cons_succ,List.getElem?_append_left hk];exact bodiesR_ix hv hf)
 obtain⟨A,cc,rfl,-,-,-⟩:=RowA.shape h2
 obtain⟨g,rfl,_,_⟩:=frR_cell' h hl hf hv
 refine⟨g,0,A,cc,rfl,fun w' h'=>?_⟩
 obtain⟨g',e,hc,_⟩:=frR_cell' h' hl hf hv
 cases e
 rw [Nat.zero_add];exact hc
theorem perm_out {α:Type} {r l d:α} {b x:List α}:(r::(b++(l::d::x))).Perm (l::d::r::(b++x)):=by
 have h1:(b++(l::d::x)).Perm (l::d::(b++x)):=(List.perm_middle).trans (List.Perm.cons _ List.perm_middle)
 exact (List.Perm.cons r h1).trans ((List.Perm.swap l r _).trans (List.Perm.cons l (List.Perm.swap d r _)))
variable {sb lb bd stb tb:Nat} {st:StD}
def SoSwPost (sb lb bd:Nat) (r:SD×Int) (F0:List Nat) (w0:World) (R:List Asrt) (e:Ending) (w':World):Prop:=∃ stb,e=.returned (.int .i64 r.2)∧In F0 w0 w' (SoL sb lb bd stb r.1 R)
theorem o_soswap {s:SD} {ver:Int} {Fr Fr0:List FrD} {k k0:Nat} (hl:LgOk s.2.l) (hi:LogInv s.1 s.2.l Fr k Fr0 k0) (ho:s.1.ops≤98000000) (i0:Nat) (hA:(SoL sb lb bd stb s R)[i0]?=some (StA tb st)) (h:In F0 w0 w (SoL sb lb bd stb s R)) :
  Calls Tryz.prog 72 #[pR sb,.int .i64 ver,pR tb] w (SoSwPost sb lb bd (swapS ver st s) F0 w0 R):=by
 obtain⟨X0,x0,D0,d0,Y0,y0,g0⟩:=h.soOpen
 have c0:w.cell? ⟨sb,0,none⟩=some (dptr lb):=cell_of (g0.block 0 rfl) rfl
 have KV:=Lib.hid (o_version (h.sel2 (R1:=[_,_,_,_]) [1,0,2,3] (by decide) rfl))
 have H0:=Lib.hid h
 by_cases hv1:ver < s.2.l.m.ver
 ·have q:decide (ver < (s.2.l.m.ver:Int))=true:=decide_eq_true hv1
  rw [show swapS ver st s=(s,10) from by unfold swapS;rw [if_pos (Or.inl hv1)]]
  clear h g0 hv1 hA hl hi ho
  go_enter Tryz.func72,Tryz.ntmps72
  go_wp2_with fail
  refine KV.out.mono ?_
  rintro e w1 ⟨rfl,rfl⟩
  clear KV
  go_wp2_with fail
  go_ret
  exact⟨_,rfl,H0.out⟩
 by_cases hv3:3 < ver
 ·have q:decide (ver < (s.2.l.m.ver:Int))=false:=decide_eq_false hv1
  have q3:decide (3 < ver)=true:=decide_eq_true hv3
  rw [show swapS ver st s=(s,10) from by unfold swapS;rw [if_pos (Or.inr hv3)]]
  clear h g0 hv1 hv3 hA hl hi ho
  go_enter Tryz.func72,Tryz.ntmps72
  go_wp2_with fail
  refine KV.out.mono ?_
  rintro e w1 ⟨rfl,rfl⟩
  clear KV
  go_wp2_with fail
  go_ret
  exact⟨_,rfl,H0.out⟩
 have q:decide (ver < (s.2.l.m.ver:Int))=false:=decide_eq_false hv1
 have q3:decide (3 < ver)=false:=decide_eq_false hv3
 have hlv:=(mayM_iff.1 hl.2.2).1
 have hvk:verOk ver=true:=by unfold verOk;simp;omega
 have hok:OkSt st:=by
  obtain⟨F,dm,fm,bv,hok,_⟩:=h.get i0 hA
  exact hok
 have KR:=Lib.hid (o_sorows hvk i0 hA h)
 have hrows:=rows_ok hok hvk
 have hrl:(rowsS ver st).length≤1000:=by
  have:=recsSt_len hok
  simp only [rowsS,List.length_map];omega
 have hinv:=swap_inv2 hi ver.toNat (rowsS ver st) hrows
 have hvt:(ver.toNat:Int)=ver:=by omega
 have hlk:LgOk (swapA ver st s).1.2:=by
  have hm:mayM (swapA ver st s).1.2.m=true:=by
   rcases hinv.2 with ⟨_,_,_,_,g⟩|⟨_,⟨_,_,g⟩|⟨_,_,g⟩⟩
   ·exact g.now.1
   ·exact g.now.1
   ·exact g.now.1
  have hsz:(swapA ver st s).1.2.size=s.2.l.size:=hinv.1
  exact⟨by rw [hsz];exact hl.1,by rw [hsz];exact hl.2.1,hm⟩
 have hS:swapS ver st s=(((swapA ver st s).1.1,⟨(swapA ver st s).1.2,if s.2.l.m.segs=(swapA ver st s).1.2.m.segs then s.2.st else inSt ver st,if (swapA ver st s).2=0 then inSt ver st else s.2.sure⟩),(swapA ver st s).2):=by unfold swapS;rw [if_neg (by omega)]
 have HSW:Hid (∀ w' (R':List Asrt) (a:Option Addr) (c:Nat),In F0 w0 w' (LgA lb bd s.2.l::DkA bd s.1::R')→FrU F0 w0 R' a (rowsS ver st)→Calls Tryz.prog 153 #[dptr lb,.int .i64 ver,.slice a (rowsS ver st).length c] w' (SwapPost lb bd (swapA ver st s) F0 w0 R')):=Lib.hid (fun w' R' a c h' hu=>by
  have:=o_swap (c:=c) (ver:=ver.toNat) h' hl (by omega) (by omega) hu (fun f hf=>(hrows f hf).1) hrl
  rw [hvt] at this
  exact this)
 have hsn:s.2.l.m.segs.length≤1000000:=by have:=hlv.2.2.2.1;omega
 generalize swapA ver st s=r at *
 have HFIN:Hid (∀ u,(if r.2=0 then inSt ver st else s.2.sure)=u→∀ t,(if s.2.l.m.segs=r.1.2.m.segs then s.2.st else inSt ver st)=t→swapS ver st s=((r.1.1,⟨r.1.2,t,u⟩),r.2)):=Lib.hid (fun u hu t ht=>by rw [hS,ht,hu])
 have HLK:=Lib.hid hlk
 have HSN:=Lib.hid hsn
 have HL:=Lib.hid hl
 clear h g0 hA hl hi ho hlv hvk hok hrows hrl hinv hvt hlk hS hsn hv1 hv3 H0
 go_enter Tryz.func72,Tryz.ntmps72
 go_wp2_with fail
 refine KV.out.mono ?_
 rintro e w1 ⟨rfl,rfl⟩
 clear KV
 go_wp2_with fail
 refine KR.out.mono ?_
 rintro e w2 ⟨fa,fc,mb,rfl,g2⟩
 obtain⟨X,x,D,d,F,f,g3⟩:=(g2.sel2 (R1:=[_,_,_,_,_,_]) [2,0,1,3,4,5] (by decide) rfl).soOpen
 have c1:w2.cell? ⟨sb,0,none⟩=some (dptr lb):=cell_of (g3.block 0 rfl) rfl
 have K2:=Lib.hid (o_lgsegs HL.out (g3.sel2 (R1:=[_,_,_,_,_,_,_,_,_]) [6,0,1,2,3,4,5,7,8] (by decide) rfl))
 clear g2 g3 KR c0
 go_wp2_with fail
 refine K2.out.mono ?_
 rintro e w3 ⟨wa,wc,rfl,g4⟩
 have c2:w3.cell? ⟨sb,0,none⟩=some (dptr lb):=cell_of (g4.block 2 rfl) rfl
 obtain⟨vs,hvs,g6⟩:=(g4.sel2 (R1:=[_,_,_,_,_,_,_,_,_,_]) [6,1,8,0,2,3,4,5,7,9] (by decide) rfl).frsOpen
 have g7:=g6.perm perm_out
 have K3:=Lib.hid (HSW.out w3 _ fa fc g7 (frs_u g7.drop.drop hvs))
 clear g4 g6 g7 K2 c1 HSW
 go_wp2_with fail
 refine K3.out.mono ?_
 rintro e w4 ⟨rfl,g8⟩
 have g9:=(In.mid (bodiesR vs (rowsS ver st)) (g8.perm perm_out.symm)).drop
 have c3:w4.cell? ⟨sb,0,none⟩=some (dptr lb):=cell_of (g9.block 3 rfl) rfl
 clear g8 K3 c2 hvs
 by_cases he:r.2=0
 ·rw [he]
  have HZ:=Lib.hid he
  have K4:=Lib.hid (o_stview' (g9.sel2 (R1:=[_,_,_,_,_,_,_,_,_]) [7,0,1,2,3,4,5,6,8] (by decide) rfl))
  clear g9 he
  go_wp2_with fail
  refine K4.out.mono ?_
  rintro e w5 ⟨A1,a1,D1,d1,F1,f1,rfl,g10⟩
  have Q1:=Lib.hid (there_at (g10.block 7 rfl) 2 4 (Nat.le_refl 6))
  have g11:=g10.setCs [.int .i64 (inSt ver st).gen,.slice A1 (inSt ver st).bks.length a1,.slice D1 (inSt ver st).drs.length d1,.slice F1 (inSt ver st).fls.length f1] 2 (b:=sb) (T:=82) (C:=soC lb stb s.2.sure.gen (.slice X s.2.sure.bks.length x) (.slice D s.2.sure.drs.length d) (.slice F s.2.sure.fls.length f)) 7 rfl
  have TL:Hid (In F0 w0 (w5.setCells sb 2 [.int .i64 (inSt ver st).gen,.slice A1 (inSt ver st).bks.length a1,.slice D1 (inSt ver st).drs.length d1,.slice F1 (inSt ver st).fls.length f1]) (LgA lb bd r.1.2::DkA bd r.1.1::IntsR (.slice wa s.2.l.m.segs.length wc) s.2.l.m.segs::Cells sb (soC lb stb (inSt ver st).gen (.slice A1 (inSt ver st).bks.length a1) (.slice D1 (inSt ver st).drs.length d1) (.slice F1 (inSt ver st).fls.length f1)) 82::BkR (.slice A1 (inSt ver st).bks.length a1) (inSt ver st).bks::DrR (.slice D1 (inSt ver st).drs.length d1) (inSt ver st).drs::FlR (.slice F1 (inSt ver st).fls.length f1) (inSt ver st).fls::StA mb (inSt ver st)::StA stb s.2.st::R)):=Lib.hid (g11.sel2 (R1:=[_,_,_,_,_,_,_,_,_,_,_,_]) [4,5,6,7,0,1,2,3,11] (by decide) rfl)
  clear g10 g11 K4 c3
  have e0:(w5.setCells sb 2 [.int .i64 (inSt ver st).gen,.slice A1 (inSt ver st).bks.length a1,.slice D1 (inSt ver st).drs.length d1,.slice F1 (inSt ver st).fls.length f1]).cell? ⟨sb,0,none⟩=some (dptr lb):=cell_of (TL.out.block 3 rfl) rfl
  have K6:=Lib.hid (o_lgsegs HLK.out TL.out)
  clear TL
  go_wp2_with (refine wpList_store_mid (op:=⟨none,Op.store 36 (.tmp 58) (.tmp 56),_,_,_,_⟩) (by rfl) 36 (.tmp 58) (.tmp 56) rfl sb 2 #[.int .i64 (inSt ver st).gen,.slice A1 (inSt ver st).bks.length a1,.slice D1 (inSt ver st).drs.length d1,.slice F1 (inSt ver st).fls.length f1] (by rfl) (by rfl) Q1.out (by kernel_rfl) (st4_all2 _ _ _ _ _ _ _ _ _ _) ?_)
  refine K6.out.mono ?_
  rintro e w8 ⟨ya,yc,rfl,g8⟩
  have K7:=Lib.hid (o_ieq (l1:=s.2.l.m.segs) (l2:=r.1.2.m.segs) (A1:=wa) (A2:=ya) (c1:=wc) (c2:=yc) (fun w' h'=>by obtain⟨F',r'⟩:=h'.get 3 rfl;exact r'.all) (fun w' h'=>by obtain⟨F',r'⟩:=h'.get 0 rfl;exact r'.all) HSN.out g8)
  clear g8 K6 e0
  go_wp2_with fail
  refine K7.out.mono ?_
  rintro e w9 ⟨rfl,g9⟩
  by_cases hseg:s.2.l.m.segs=r.1.2.m.segs
  ·rw [show decide (s.2.l.m.segs=r.1.2.m.segs)=true from decide_eq_true hseg]
   have G:Hid (In F0 w0 w9 (SoL sb lb bd stb (r.1.1,⟨r.1.2,s.2.st,inSt ver st⟩) R)):=Lib.hid (In.soClose (s:=inSt ver st) (lb:=lb) (stb:=stb) (g9.sel2 (R1:=[_,_,_,_,_,_,_,_,_,_]) [4,5,6,7,1,2,9] (by decide) rfl))
   have HE:=Lib.hid (HFIN.out _ (if_pos HZ.out) _ (if_pos hseg))
   clear g9 K7 hseg
   go_wp2_with fail
   go_ret
   exact⟨_,by rw [HE.out];show _=Ending.returned (.int .i64 r.2);rw [HZ.out];rfl,by rw [HE.out];exact G.out⟩
  ·rw [show decide (s.2.l.m.segs=r.1.2.m.segs)=false from decide_eq_false hseg]
   have e1:w9.cell? ⟨sb,1,none⟩=some (pR stb):=cell_of (g9.block 4 rfl) rfl
   have f1':w9.frozen? ⟨sb,1,none⟩=false:=free_of (g9.block 4 rfl)
   have g10:=g9.put (b:=sb) (T:=82) 4 rfl 1 (pR mb)
   have G:Hid (In F0 w0 (w9.setCell ⟨sb,1,none⟩ (pR mb)) (SoL sb lb bd mb (r.1.1,⟨r.1.2,inSt ver st,inSt ver st⟩) R)):=Lib.hid (In.soClose (s:=inSt ver st) (lb:=lb) (stb:=mb) (g10.sel2 (R1:=[_,_,_,_,_,_,_,_,_,_]) [4,5,6,7,1,2,8] (by decide) rfl))
   have HE:=Lib.hid (HFIN.out _ (if_pos HZ.out) _ (if_neg hseg))
   clear g9 g10 K7 hseg
   go_wp2_with fail
   go_ret
   exact⟨_,by rw [HE.out];show _=Ending.returned (.int .i64 r.2);rw [HZ.out];rfl,by rw [HE.out];exact G.out⟩
 ·have q0:(r.2 == 0)=false:=by rw [beq_eq_false_iff_ne];exact he
  have HZ:=Lib.hid he
  have TL:Hid (In F0 w0 w4 (LgA lb bd r.1.2::DkA bd r.1.1::IntsR (.slice wa s.2.l.m.segs.length wc) s.2.l.m.segs::Cells sb (soC lb stb s.2.sure.gen (.slice X s.2.sure.bks.length x) (.slice D s.2.sure.drs.length d) (.slice F s.2.sure.fls.length f)) 82::BkR (.slice X s.2.sure.bks.length x) s.2.sure.bks::DrR (.slice D s.2.sure.drs.length d) s.2.sure.drs::FlR (.slice F s.2.sure.fls.length f) s.2.sure.fls::StA mb (inSt ver st)::StA stb s.2.st::R)):=Lib.hid g9
  clear g9 he c3
  have e0:w4.cell? ⟨sb,0,none⟩=some (dptr lb):=cell_of (TL.out.block 3 rfl) rfl
  have K6:=Lib.hid (o_lgsegs HLK.out TL.out)
  clear TL
  go_wp2_with fail
  refine K6.out.mono ?_
  rintro e w8 ⟨ya,yc,rfl,g8⟩
  have K7:=Lib.hid (o_ieq (l1:=s.2.l.m.segs) (l2:=r.1.2.m.segs) (A1:=wa) (A2:=ya) (c1:=wc) (c2:=yc) (fun w' h'=>by obtain⟨F',r'⟩:=h'.get 3 rfl;exact r'.all) (fun w' h'=>by obtain⟨F',r'⟩:=h'.get 0 rfl;exact r'.all) HSN.out g8)
  clear g8 K6 e0
  go_wp2_with fail
  refine K7.out.mono ?_
  rintro e w9 ⟨rfl,g9⟩
  by_cases hseg:s.2.l.m.segs=r.1.2.m.segs
  ·rw [show decide (s.2.l.m.segs=r.1.2.m.segs)=true from decide_eq_true hseg]
   have G:Hid (In F0 w0 w9 (SoL sb lb bd stb (r.1.1,⟨r.1.2,s.2.st,s.2.sure⟩) R)):=Lib.hid (In.soClose (s:=s.2.sure) (lb:=lb) (stb:=stb) (g9.sel2 (R1:=[_,_,_,_,_,_,_,_,_,_]) [4,5,6,7,1,2,9] (by decide) rfl))
   have HE:=Lib.hid (HFIN.out _ (if_neg HZ.out) _ (if_pos hseg))
   clear g9 K7 hseg
   go_wp2_with fail
   go_ret
   exact⟨_,by rw [HE.out];rfl,by rw [HE.out];exact G.out⟩
  ·rw [show decide (s.2.l.m.segs=r.1.2.m.segs)=false from decide_eq_false hseg]
   have e1:w9.cell? ⟨sb,1,none⟩=some (pR stb):=cell_of (g9.block 4 rfl) rfl
   have f1':w9.frozen? ⟨sb,1,none⟩=false:=free_of (g9.block 4 rfl)
   have g10:=g9.put (b:=sb) (T:=82) 4 rfl 1 (pR mb)
   have G:Hid (In F0 w0 (w9.setCell ⟨sb,1,none⟩ (pR mb)) (SoL sb lb bd mb (r.1.1,⟨r.1.2,inSt ver st,s.2.sure⟩) R)):=Lib.hid (In.soClose (s:=s.2.sure) (lb:=lb) (stb:=mb) (g10.sel2 (R1:=[_,_,_,_,_,_,_,_,_,_]) [4,5,6,7,1,2,8] (by decide) rfl))
   have HE:=Lib.hid (HFIN.out _ (if_neg HZ.out) _ (if_neg hseg))
   clear g9 g10 K7 hseg
   go_wp2_with fail
   go_ret
   exact⟨_,by rw [HE.out];rfl,by rw [HE.out];exact G.out⟩
end
def FmtSt (v:Int) (s:StD):Prop:=(∀ f∈s.fls,inFl v f=f)∧∀ b∈s.bks,inBk v b=b
structure FiSt (k z:Nat) (v:Int) (s:SD):Prop where
 su:SuSt 61 k z s
 ver:(s.2.l.m.ver:Int)=v
 fmt:FmtSt v s.2.st
section
variable {F0:List Nat} {w0 w:World} {R:List Asrt} {sb lb bd stb:Nat}
theorem o_cpdo {s:SD} {Fr Fr0:List FrD} {k k0:Nat} (hl:LgOk s.2.l) (hi:LogInv s.1 s.2.l Fr k Fr0 k0) (ho:s.1.ops≤98000000) (h:In F0 w0 w (SoL sb lb bd stb s R)) :
  Calls Tryz.prog 20 #[pR sb] w (SoSwPost sb lb bd (swapS s.2.l.m.ver s.2.st s) F0 w0 R):=by
 have K1:=Lib.hid (o_soversion h)
 have K2:=Lib.hid (o_sostate h)
 have K3:=Lib.hid (o_soswap (ver:=(s.2.l.m.ver:Int)) hl hi ho 3 rfl h)
 clear h hl hi ho
 go_enter Tryz.func20,Tryz.ntmps20
 go_wp2_with fail
 refine K1.out.mono ?_
 rintro e w1 ⟨rfl,rfl⟩
 go_wp2_with fail
 refine K2.out.mono ?_
 rintro e w2 ⟨rfl,rfl⟩
 go_wp2_with fail
 refine K3.out.mono ?_
 rintro e w3 ⟨stb2,rfl,g⟩
 have G:=Lib.hid g
 clear g K1 K2 K3
 go_wp2_with fail
 go_ret
 exact⟨_,rfl,G.out⟩
end
section
variable {W w:World} {R:List Asrt}
def FiRel (sb lb bd stb n z:Nat) (v:Int) (W:World) (R:List Asrt) (i:Value) (wr:World):Prop:=
 ∃ (k:Nat) (s:SD),k≤n∧i=.int .i64 k∧FiSt (min k 60) z v s∧In [] W wr (SoL sb lb bd stb s R)
def FiPost (z:Nat) (v:Int) (W:World) (R:List Asrt) (e:Ending) (w':World):Prop:=
 ∃ sb lb bd stb s,e=.returned (.tuple #[dptr bd,pR sb])∧FiSt 60 z v s∧In [] W w' (SoL sb lb bd stb s R)
end
def Only (d:DiskD) (K:ByteArray→Prop):Prop:=∀ n,nmAt d.now n≠Option.none→K n
section
variable {d:DiskD} {K K':ByteArray→Prop}
end
/-! ### How many segments rows make -/
def cntR (z:Nat) (s:Nat×Nat) (b:Nat):Nat×Nat:=if s.1=0 then (1,b) else if s.2=0∨s.2+b≤z then (s.1,s.2+b) else (s.1+1,b)
def cntL (z:Nat) (l:List (List UInt8)) (s:Nat×Nat):Nat×Nat:=l.foldl (fun a b=>cntR z a b.length) s
def KNew (K:ByteArray→Prop) (segs:List Nat) (x:ByteArray):Prop:=K x∨∃ s∈segs,x=segName s
structure RmRow (K:ByteArray→Prop) (B n:Nat) (c:Nat×Nat) (r:(DiskD×List Nat×Nat)×Int):Prop where
 ok:r.2=0
 rm:Rm r.1.1 B (n+(64 - r.1.2.1.length))
 cnt:(r.1.2.1.length,r.1.2.2)=c
 only:Only r.1.1 (KNew K r.1.2.1)
 few:r.1.2.1.length≤64
structure SwRm (d:DiskD) (l:LogD) (ver B n c:Nat) (r:DL×Int):Prop where
 ok:r.2=0
 rm:Rm r.1.1 B n
 only:Only r.1.1 (Mine r.1.2.m.segs)
 cnt:r.1.2.m.segs.length=c
 next:r.1.2.m.next=l.m.next+c
 few:c≤64
structure SoNt (s:SD) (Fr:List FrD) (k n:Nat):Prop where
 so:SoRm s Fr k n
 rm:Rm s.1 (200000+600 * n) (2 * n)
 segs:s.2.l.m.segs.length+n≤62
 next:s.2.l.m.next+n≤63
 only:Only s.1 (Mine s.2.l.m.segs)
theorem body_le {r:Rec} {v:Int} (hv:verOk v=true) (hm:mayRec r=true):(encRec r v).1.body.length≤200:=by
 unfold encRec
 rw [if_neg (by simp [hv]),if_neg (by simp [hm])]
 exact recBody_length _ hm
structure FiNt (k z:Nat) (v:Int) (s:SD):Prop where
 su:SuSt 61 k z s
 ver:(s.2.l.m.ver:Int)=v
 fmt:FmtSt v s.2.st
 nt:∃ Fr kk,SoNt s Fr kk (61 - k)
section
variable {W w:World} {R:List Asrt}
def NtRel (sb lb bd stb n z:Nat) (v:Int) (W:World) (R:List Asrt) (i:Value) (wr:World):Prop:=
 ∃ (k:Nat) (s:SD),k≤n∧i=.int .i64 k∧FiNt (min k 60) z v s∧In [] W wr (SoL sb lb bd stb s R)
def NtPost (z:Nat) (v:Int) (W:World) (R:List Asrt) (e:Ending) (w':World):Prop:=
 ∃ sb lb bd stb s,e=.returned (.tuple #[dptr bd,pR sb])∧FiNt 60 z v s∧In [] W w' (SoL sb lb bd stb s R)
end
def cs0:DiskD×Option StoreD×Int:=createS 1 200 (dNew 5000)
def csS:SD:=(cs0.1,cs0.2.1.getD default)
def rA:Rec:=⟨1,⟨⟨0,0,6,0,0⟩,3,0,0⟩,0,[],0,0,0⟩
def rB:Rec:=⟨2,⟨⟨0,0,6,0,0⟩,3,0,0⟩,0,[],0,0,0⟩
def cs1:SD×Int:=writeS rA csS
def cs2:SD×Int:=writeS rB cs1.1
def cs3:SD×Int:=swapS cs2.1.2.l.m.ver cs2.1.2.st cs2.1
theorem cs_facts:cs0.2.1.isSome=true∧cs0.2.2=0∧cs3.2=0∧sizeL (cs3.1.1,cs3.1.2.l)=21∧lgOkC csS.2.l=true∧lgOkC cs1.1.2.l=true∧lgOkC cs2.1.2.l=true∧lgOkC cs3.1.2.l=true∧csS.1.ops≤1000∧cs1.1.1.ops≤1000∧cs2.1.1.ops≤1000:=by decide +kernel
theorem rA_wf:WfR rA:=⟨by constructor <;> decide,by simp [rA]⟩
theorem rB_wf:WfR rB:=⟨by constructor <;> decide,by simp [rB]⟩
theorem SoRm.next1 {s:SD} {Fr:List FrD} {k n:Nat} (h:SoRm s Fr k (n+1)) {r:Rec} (wr:WfR r):∃ Fr',SoRm (writeS r s).1 Fr' k n:=by
 rcases (h.write wr).2.2.2 with ⟨_,f,g⟩|⟨_,g⟩
 ·exact⟨_,g⟩
 ·rw [g];exact⟨Fr,h.less (Nat.le_succ n)⟩
theorem cs_inv:∃ Fr k,LogInv cs2.1.1 cs2.1.2.l Fr k Fr k:=by
 obtain⟨s,h1,h2,_⟩:=SoRm.start (v:=1) (by omega) 200 5000 3 (by omega) (by omega)
 have e:s=csS:=by
  show s=(cs0.1,cs0.2.1.getD default)
  rw [show cs0=(s.1,some s.2,0) from h1];rfl
 subst e
 obtain⟨F1,g1⟩:=h2.next1 rA_wf
 obtain⟨F2,g2⟩:=SoRm.next1 (s:=cs1.1) g1 rB_wf
 exact⟨F2,0,g2.inv.log⟩
section
variable {F0:List Nat} {w0 w:World} {R:List Asrt} {sb lb bd stb:Nat}
theorem o_sosize {s:SD} (hl:LgOk s.2.l) (h:In F0 w0 w (SoL sb lb bd stb s R)):Calls Tryz.prog 66 #[pR sb] w fun e w'=>e=.returned (.int .i64 (sizeL (s.1,s.2.l)))∧In F0 w0 w' (SoL sb lb bd stb s R):=by
 obtain⟨A,a,D,d,F,f,g0⟩:=h.soOpen
 have c0:w.cell? ⟨sb,0,none⟩=some (dptr lb):=cell_of (g0.block 0 rfl) rfl
 have K:=Lib.hid (o_lgsize hl (h.sel2 (R1:=[_,_,_,_]) [1,2,0,3] (by decide) rfl))
 clear h g0
 go_enter Tryz.func66,Tryz.ntmps66
 go_wp2_with fail
 refine K.out.mono ?_
 rintro e w1 ⟨rfl,g⟩
 have G:=Lib.hid (g.sel2 (R1:=[_,_,_,_]) [2,0,1,3] (by decide) rfl)
 clear g K c0
 go_wp2_with fail
 go_ret
 exact⟨rfl,G.out⟩
theorem cells8 {W:World} {g:Nat} (h:W.heap[g]?=some (.cells #[.int .u32 0,.int .u32 0,.int .i64 6,.int .i64 0,.int .i64 0,.int .i64 3,.int .i64 0,.int .i64 0] 43 (0,0))):W.cell? ⟨g,0,none⟩=some (.int .u32 0)∧W.cell? ⟨g,1,none⟩=some (.int .u32 0)∧W.cell? ⟨g,2,none⟩=some (.int .i64 6)∧W.cell? ⟨g,3,none⟩=some (.int .i64 0)∧W.cell? ⟨g,4,none⟩=some (.int .i64 0)∧W.cell? ⟨g,5,none⟩=some (.int .i64 3)∧W.cell? ⟨g,6,none⟩=some (.int .i64 0)∧W.cell? ⟨g,7,none⟩=some (.int .i64 0):=
 ⟨cell_of h rfl,cell_of h rfl,cell_of h rfl,cell_of h rfl,cell_of h rfl,cell_of h rfl,cell_of h rfl,cell_of h rfl⟩
theorem o_awake16 (h:In F0 w0 w R):Calls Tryz.prog 17 #[] w fun e w'=>e=.returned (.bool true)∧In F0 w0 w' R:=by
 obtain⟨f1,f2,f3,f4,l0,l1,l2,l3,o0,o1,o2⟩:=cs_facts
 obtain⟨Fr,kk,hinv⟩:=cs_inv
 have K0:=Lib.hid (o_dnew h 5000 (by omega) (by omega))
 have K1:=Lib.hid (fun bd w' (h':In F0 w0 w' (DkA bd (dNew 5000)::R))=>o_socreate h' (by decide) 1 200)
 have K2:=Lib.hid (fun sb lb bd stb w' (R':List Asrt) (h':In F0 w0 w' (SoL sb lb bd stb csS R'))=>o_sowrite (A:=none) (c:=0) (r:=rA) (lgOk_ofC l0) (by omega) (fun _ _=>Src.nil _ _ _) (fun _=>rfl) (by decide) rA_wf h')
 have K3:=Lib.hid (fun sb lb bd stb w' (R':List Asrt) (h':In F0 w0 w' (SoL sb lb bd stb cs1.1 R'))=>o_sowrite (A:=none) (c:=0) (r:=rB) (lgOk_ofC l1) (by omega) (fun _ _=>Src.nil _ _ _) (fun _=>rfl) (by decide) rB_wf h')
 have K4:=Lib.hid (fun sb lb bd stb w' (R':List Asrt) (h':In F0 w0 w' (SoL sb lb bd stb cs2.1 R'))=>o_cpdo (lgOk_ofC l2) hinv (by omega) h')
 have K5:=Lib.hid (fun sb lb bd stb w' (R':List Asrt) (h':In F0 w0 w' (SoL sb lb bd stb cs3.1 R'))=>o_sosize (lgOk_ofC l3) h')
 have HS0:Hid (cs0.2.1=some csS.2):=Lib.hid (by
  show _=some (cs0.2.1.getD default)
  cases e:cs0.2.1 with
  | none=>rw [e] at f1;cases f1
  | some l=>rfl)
 have E0:=Lib.hid f2
 have E3:=Lib.hid f3
 have E4:=Lib.hid f4
 clear h f1 f2 f3 f4 l0 l1 l2 l3 o0 o1 o2 hinv
 go_enter Tryz.func17,Tryz.ntmps17
 go_wp2_with fail
 refine K0.out.mono ?_
 rintro e w1 ⟨bd,rfl,g1⟩
 have C1:=Lib.hid (K1.out bd w1 g1)
 clear g1 K0 K1
 go_wp2_with fail
 refine C1.out.mono ?_
 intro e w2 hp
 obtain⟨sb,lb,stb,rfl,g2⟩:=hp.some HS0.out
 rw [show createS 1 200 (dNew 5000)=cs0 from rfl,E0.out]
 have g3:=(g2.cells #[.int .u32 0,.int .u32 0,.int .i64 6,.int .i64 0,.int .i64 0,.int .i64 3,.int .i64 0,.int .i64 0] 43).sel2 (R1:=[_,_,_,_,_]) [1,2,3,4,0] (by decide) rfl
 have C2:=Lib.hid (K2.out sb lb bd stb _ _ g3)
 clear g2 g3 hp C1 K2
 go_wp2_with fail
 refine C2.out.mono ?_
 rintro e w3 ⟨rfl,g4⟩
 obtain⟨d0,d1,d2,d3,d4,d5,d6,d7⟩:=cells8 (g4.block 4 rfl)
 have C3:=Lib.hid (K3.out sb lb bd stb _ _ g4)
 clear g4 C2 K3
 go_wp2_with fail
 refine C3.out.mono ?_
 rintro e w4 ⟨rfl,g5⟩
 have C4:=Lib.hid (K4.out sb lb bd stb _ _ g5)
 clear g5 C3 K4 d0 d1 d2 d3 d4 d5 d6 d7
 go_wp2_with fail
 refine C4.out.mono ?_
 rintro e w5 ⟨stb2,rfl,g6⟩
 rw [show swapS cs2.1.2.l.m.ver cs2.1.2.st cs2.1=cs3 from rfl,E3.out]
 have C5:=Lib.hid (K5.out sb lb bd stb2 _ _ g6)
 clear g6 C4 K5
 go_wp2_with fail
 refine C5.out.mono ?_
 rintro e w6 ⟨rfl,g7⟩
 rw [E4.out]
 have G:=Lib.hid (g7.sel2 (R1:=[_,_,_,_,_]) [] (by decide) rfl)
 clear g7 C5
 go_wp2_with fail
 go_ret
 exact⟨rfl,G.out⟩
end
structure CpSt (z:Nat) (v:Int) (B n x:Nat) (s:SD):Prop where
 inv:∃ Fr k,SoInv s Fr k Fr k
 loose:s.2.l.loose=false
 rm:Rm s.1 B n
 only:Only s.1 (Mine s.2.l.m.segs)
 size:s.2.l.size=z
 ver:(s.2.l.m.ver:Int)=v
 fmt:FmtSt v s.2.st
 next:s.2.l.m.next≤x
def rowsC (z:Nat) (v:Int) (st:StD):Nat:=(cntL z ((rowsS v st).map frBytes) (0,0)).1
theorem join_le {c:Nat}:∀ {R:List FrD},(∀ f∈R,(frBytes f).length≤c)→(frJoin R).length≤c * R.length
 | [],_=>Nat.zero_le _
 | f::R,h=>by
  have h1:=join_le (R:=R) (fun g hg=>h g (List.mem_cons_of_mem _ hg))
  have h2:=h f (by simp)
  have e:(frJoin (f::R)).length=(frBytes f).length+(frJoin R).length:=by simp [frJoin]
  rw [e,List.length_cons,Nat.mul_add]
  omega
theorem rows_len {st:StD} (h:OkSt st) {v:Int} (hv:verOk v=true):(frJoin (rowsS v st)).length≤60000:=by
 have h1:(frJoin (rowsS v st)).length≤216 * (rowsS v st).length:=join_le (fun f hf=>by
  obtain⟨r,hr,rfl⟩:=List.mem_map.1 hf
  obtain⟨w1,w2,w3⟩:=WfR.recs h r hr
  have:=body_le hv w2
  rw [frBytes_length];omega)
 have h2:(rowsS v st).length≤273:=by unfold rowsS;rw [List.length_map];exact recsSt_len h
 omega
theorem bnd_wrap {n m l:Nat} (h1:m=n+(16+l)) (h2:m≤60000):wrap64 ((n:Int)+wrap64 (16+(l:Int)))=(m:Int):=by unfold wrap64;omega
section
variable {F0:List Nat} {w0 w:World} {R:List Asrt} {st:StD}
def BndRel (st:StD) (ver:Int) (rv pv:Value) (F0:List Nat) (w0:World) (R:List Asrt) (v i:Value) (wr:World):Prop:=
 ∃ k:Nat,k≤(recsSt st).length∧i=.int .i64 k∧v=.int .i64 ((frJoin ((rowsS ver st).take k)).length:Nat)∧In F0 w0 wr (RowA 45 14 rv (recsSt st).length (recsV pv (recsSt st))::BkR pv st.bks::R)
theorem o_bound (hok:OkSt st) {ver:Int} (hv:verOk ver=true) (size:Int) {A D F:Option Addr} {a d f:Nat} (hA:AStV F0 w0 R st A D F) (hn:A=none→a=0) (h:In F0 w0 w R) :
  Calls Tryz.prog 18 #[agSt st A a D d F f,.int .i64 ver,.int .i64 size] w fun e w'=>e=.returned (.int .i64 ((frJoin (rowsS ver st)).length:Nat))∧In F0 w0 w' R:=by
 have h1:=h.cells #[.int .i64 st.gen,.slice A st.bks.length a,.slice D st.drs.length d,.slice F st.fls.length f] 36
 obtain⟨l1,l2,l3⟩:=hok.lens
 have K1:=o_stof (v:=st) (a:=a) (d:=d) (f:=f) (hA.more (Cells w.heap.size #[.int .i64 st.gen,.slice A st.bks.length a,.slice D st.drs.length d,.slice F st.fls.length f] 36)) hn (by omega) (by omega) (by omega) (fun r hr=>(WfR.recs hok r hr).1) h1
 have K1':Hid (Calls Tryz.prog 67 #[agSt st A a D d F f] (w.alloc (.cells #[.int .i64 st.gen,.slice A st.bks.length a,.slice D st.drs.length d,.slice F st.fls.length f] 36)) fun e w'=>∃ sb,e=.returned (.tuple #[pR sb,.int .i64 0])∧In F0 w0 w' (StA sb st::Cells w.heap.size #[.int .i64 st.gen,.slice A st.bks.length a,.slice D st.drs.length d,.slice F st.fls.length f] 36::R)):=Lib.hid (K1.mono (fun e w' hp=>by unfold OfPost at hp;rw [ofSt_ok hok] at hp;exact hp))
 have HOK:=Lib.hid hok
 have HV:=Lib.hid hv
 have HLEN:=Lib.hid (rows_len hok hv)
 have hrl:(rowsS ver st).length=(recsSt st).length:=by simp [rowsS]
 have hlen:=recsSt_len hok
 clear h h1 K1 hok hv hA hn l1 l2 l3
 go_enter Tryz.func18,Tryz.ntmps18
 go_wp2_with fail
 refine K1'.out.mono ?_
 rintro e w1 ⟨sb,rfl,g1⟩
 have K2:=Lib.hid (o_records g1)
 clear g1 K1'
 go_wp2_with fail
 refine K2.out.mono ?_
 rintro e w2 ⟨rv,pv,rfl,g2⟩
 obtain⟨Fr,rr⟩:=g2.get 0 rfl
 obtain⟨ra,rc,rfl,-,-,-⟩:=RowA.shape rr
 obtain⟨Fp,rp⟩:=g2.get 1 rfl
 obtain⟨pa,pc,rfl,-,-,-⟩:=RowA.shape rp
 have HN:Hid (pa=none→pc=0):=Lib.hid (fun e=>RowA.noc rp e)
 have HR:Hid (BndRel st ver (.slice ra (recsSt st).length rc) (.slice pa st.bks.length pc) F0 w0 R (.int .i64 0) (.int .i64 0) w2):=Lib.hid ⟨0,Nat.zero_le _,rfl,rfl,(g2.sel2 (R1:=[_,_,_,_]) (R2:=R) [0,1] (by decide) rfl)⟩
 clear g2 K2 rr rp
 go_wp2_with fail
 go_loopw [9,24] (BndRel st ver (.slice ra (recsSt st).length rc) (.slice pa st.bks.length pc) F0 w0 R) (fun _ k _=>(recsSt st).length - (intOf k).toNat)
 case atStart=>exact HR.out
 case round=>
  obtain⟨k,hk,rfl,rfl,hio⟩:=hrel
  clear HR
  by_cases hlt:k < (recsSt st).length
  ·obtain⟨x,hx⟩:∃ x,(recsSt st)[k]?=some x:=⟨(recsSt st)[k],List.getElem?_eq_getElem hlt⟩
   obtain⟨Fr,rr⟩:=hio.get 0 rfl
   obtain⟨gr,o,rfl,sc⟩:=rr.all.plain (by omega) (by decide)
   obtain⟨Ax,cx,hpx,hnx,hbx⟩:∃ Ax cx,(if k=0 then (Value.slice pa st.bks.length pc) else .slice none 0 0)=.slice Ax x.bks.length cx∧(Ax=none→cx=0)∧BksAt F0 w0 (RowA 45 14 (.slice (some ⟨gr,o,none⟩) (recsSt st).length rc) (recsSt st).length (recsV (.slice pa st.bks.length pc) (recsSt st))::BkR (.slice pa st.bks.length pc) st.bks::R) Ax x.bks:=by
    rcases recs_el hx with ⟨rfl,e⟩|⟨h0,e⟩
    ·refine⟨pa,pc,by rw [if_pos rfl,e],HN.out,?_⟩
     rw [e]
     exact fun w' h'=>by obtain⟨F',r'⟩:=h'.get 1 rfl;exact r'.all
    ·refine⟨none,0,by rw [if_neg h0,e];rfl,fun _=>rfl,?_⟩
     rw [e]
     exact fun w' h'=>Src.nil _ _ _
   have c0:wr.cell? ⟨gr,o+k * 14,none⟩=some (.int .i64 x.kind):=by
    have:=sc (k * 14+0) _ (by rw [recsV_at hx 0 (by decide),hpx];rfl)
    rwa [← Nat.add_assoc] at this
   have c1:wr.cell? ⟨gr,o+k * 14+1,none⟩=some (.int .u32 x.fl.t.src):=by
    have:=sc (k * 14+1) _ (by rw [recsV_at hx 1 (by decide),hpx];rfl)
    rwa [← Nat.add_assoc] at this
   have c2:wr.cell? ⟨gr,o+k * 14+2,none⟩=some (.int .u32 x.fl.t.dst):=by
    have:=sc (k * 14+2) _ (by rw [recsV_at hx 2 (by decide),hpx];rfl)
    rwa [← Nat.add_assoc] at this
   have c3:wr.cell? ⟨gr,o+k * 14+3,none⟩=some (.int .i64 x.fl.t.proto):=by
    have:=sc (k * 14+3) _ (by rw [recsV_at hx 3 (by decide),hpx];rfl)
    rwa [← Nat.add_assoc] at this
   have c4:wr.cell? ⟨gr,o+k * 14+4,none⟩=some (.int .i64 x.fl.t.sport):=by
    have:=sc (k * 14+4) _ (by rw [recsV_at hx 4 (by decide),hpx];rfl)
    rwa [← Nat.add_assoc] at this
   have c5:wr.cell? ⟨gr,o+k * 14+5,none⟩=some (.int .i64 x.fl.t.dport):=by
    have:=sc (k * 14+5) _ (by rw [recsV_at hx 5 (by decide),hpx];rfl)
    rwa [← Nat.add_assoc] at this
   have c6:wr.cell? ⟨gr,o+k * 14+6,none⟩=some (.int .i64 x.fl.bk):=by
    have:=sc (k * 14+6) _ (by rw [recsV_at hx 6 (by decide),hpx];rfl)
    rwa [← Nat.add_assoc] at this
   have c7:wr.cell? ⟨gr,o+k * 14+7,none⟩=some (.int .i64 x.fl.gen):=by
    have:=sc (k * 14+7) _ (by rw [recsV_at hx 7 (by decide),hpx];rfl)
    rwa [← Nat.add_assoc] at this
   have c8:wr.cell? ⟨gr,o+k * 14+8,none⟩=some (.int .i64 x.fl.seen):=by
    have:=sc (k * 14+8) _ (by rw [recsV_at hx 8 (by decide),hpx];rfl)
    rwa [← Nat.add_assoc] at this
   have c9:wr.cell? ⟨gr,o+k * 14+9,none⟩=some (.int .i64 x.gen):=by
    have:=sc (k * 14+9) _ (by rw [recsV_at hx 9 (by decide),hpx];rfl)
    rwa [← Nat.add_assoc] at this
   have c10:wr.cell? ⟨gr,o+k * 14+10,none⟩=some (.slice Ax x.bks.length cx):=by
    have:=sc (k * 14+10) _ (by rw [recsV_at hx 10 (by decide),hpx];rfl)
    rwa [← Nat.add_assoc] at this
   have c11:wr.cell? ⟨gr,o+k * 14+11,none⟩=some (.int .i64 x.bk):=by
    have:=sc (k * 14+11) _ (by rw [recsV_at hx 11 (by decide),hpx];rfl)
    rwa [← Nat.add_assoc] at this
   have c12:wr.cell? ⟨gr,o+k * 14+12,none⟩=some (.int .i64 x.till):=by
    have:=sc (k * 14+12) _ (by rw [recsV_at hx 12 (by decide),hpx];rfl)
    rwa [← Nat.add_assoc] at this
   have c13:wr.cell? ⟨gr,o+k * 14+13,none⟩=some (.int .i64 x.count):=by
    have:=sc (k * 14+13) _ (by rw [recsV_at hx 13 (by decide),hpx];rfl)
    rwa [← Nat.add_assoc] at this
   have hlt':(k:Int) < ((recsSt st).length:Int):=Int.ofNat_lt.2 hlt
   have hw2:wrap64 ((k:Int)+1)=(k:Int)+1:=by unfold wrap64;omega
   obtain⟨wx1,wx2,wx3⟩:=WfR.recs HOK.out x (List.mem_of_getElem? hx)
   have hbl:x.bks.length≤1000000:=by
    have:=(HOK.out.lens).1
    rcases recs_el hx with ⟨_,e⟩|⟨_,e⟩ <;> rw [e]
    ·omega
    ·exact Nat.zero_le _
   have henc:=(dec_enc wx1 HV.out wx2).1
   have hfk:(rowsS ver st)[k]?=some (encRec x ver).1:=by simp [rowsS,hx]
   have htk:(rowsS ver st).take (k+1)=(rowsS ver st).take k++[(encRec x ver).1]:=by rw [List.take_add_one,hfk];rfl
   have htl:(frJoin ((rowsS ver st).take (k+1))).length=(frJoin ((rowsS ver st).take k)).length+(16+(encRec x ver).1.body.length):=by
    rw [htk,frJoin_append,List.length_append];simp [frJoin,frBytes_length]
   have htm:(frJoin ((rowsS ver st).take (k+1))).length≤60000:=by
    refine Nat.le_trans ?_ HLEN.out
    conv=>rhs;rw [← List.take_append_drop (k+1) (rowsS ver st),frJoin_append,List.length_append]
    exact Nat.le_add_right _ _
   have g1:=hio.cells #[.int .i64 x.kind,.int .u32 x.fl.t.src,.int .u32 x.fl.t.dst,.int .i64 x.fl.t.proto,.int .i64 x.fl.t.sport,.int .i64 x.fl.t.dport,.int .i64 x.fl.bk,.int .i64 x.fl.gen,.int .i64 x.fl.seen,.int .i64 x.gen,.slice Ax x.bks.length cx,.int .i64 x.bk,.int .i64 x.till,.int .i64 x.count] 45
   have KE:=(o_rcenc (r:=x) (c:=cx) ver (hbx.moreL [Cells wr.heap.size #[.int .i64 x.kind,.int .u32 x.fl.t.src,.int .u32 x.fl.t.dst,.int .i64 x.fl.t.proto,.int .i64 x.fl.t.sport,.int .i64 x.fl.t.dport,.int .i64 x.fl.bk,.int .i64 x.fl.gen,.int .i64 x.fl.seen,.int .i64 x.gen,.slice Ax x.bks.length cx,.int .i64 x.bk,.int .i64 x.till,.int .i64 x.count] 45]) wx1 hbl g1)
   have HM:=Lib.hid (meas_lt hlt')
   have HK:Hid (k+1≤(recsSt st).length):=Lib.hid hlt
   clear hio hx hk rr sc hpx hnx hbx g1 hfk htk wx1 wx2 wx3 hlt
   rw [show encRec x ver=((encRec x ver).1,0) from by rw [← henc]] at KE
   replace KE:=Lib.hid KE
   clear henc
   obtain⟨n2,hn2⟩:∃ n2,n2=(frJoin ((rowsS ver st).take (k+1))).length:=⟨_,rfl⟩
   generalize (frJoin ((rowsS ver st).take k)).length=n at *
   generalize (encRec x ver).1=fr at *
   have hwn:wrap64 ((n:Int)+wrap64 (16+(fr.body.length:Int)))=(n2:Int):=bnd_wrap (hn2.trans htl) (by rw [hn2];exact htm)
   have HN2:=Lib.hid hn2
   clear htl htm hn2
   go_wp2_with fail
   refine KE.out.mono ?_
   rintro e w3 ⟨v,rfl,g3⟩
   obtain⟨Fv,rv⟩:=g3.get 0 rfl
   obtain⟨bv,bc,rfl,-,-,-⟩:=RowA.shape rv
   have HR:Hid (BndRel st ver (.slice (some ⟨gr,o,none⟩) (recsSt st).length rc) (.slice pa st.bks.length pc) F0 w0 R (.int .i64 (n2:Int)) (.int .i64 ((k:Int)+1)) (w3.alloc (.cells #[.int .i64 fr.kind,.int .i64 fr.ver,.slice bv fr.body.length bc] 85))):=Lib.hid ⟨k+1,HK.out,by rw [Int.natCast_add];rfl,by rw [HN2.out],(g3.cells #[.int .i64 fr.kind,.int .i64 fr.ver,.slice bv fr.body.length bc] 85).sel2 (R1:=[_,_,_,_,_]) (R2:=R) [3,4] (by decide) rfl⟩
   clear g3 rv KE HN2
   go_wp2_with fail
   go_roundw
   case rel=>(try rw [hw2]);(try rw [hwn]);exact HR.out
   case measure=>(try rw [hw2]);exact HM.out
  ·have hge:((recsSt st).length:Int)≤(k:Int):=Int.ofNat_le.2 (Nat.le_of_not_lt hlt)
   have hkl:k=(recsSt st).length:=by omega
   subst hkl
   have G:Hid (In F0 w0 wr R):=Lib.hid hio.drop.drop
   have HT:Hid ((rowsS ver st).take (recsSt st).length=rowsS ver st):=Lib.hid (List.take_of_length_le (Nat.le_of_eq hrl))
   clear hio hlt hk hrl
   rw [HT.out]
   clear HT
   obtain⟨n,hn⟩:∃ n,n=(frJoin (rowsS ver st)).length:=⟨_,rfl⟩
   rw [← hn]
   have HNE:=Lib.hid hn
   clear hn
   go_wp2_with fail
   go_ret
   exact⟨by rw [← HNE.out];rfl,G.out⟩
end
end Go.Proofs.YtaopfagclnocdaaGreat
