/- Parts of the proofs that a compaction keeps what lives, and done again is as once. -/
import Derived.Test.YtogclkhpbjfadaaGreatCK36
import Derived.Test.YtogclkhpbjfadaaGreatCK32
import Derived.Test.YtogclkhpbjfadaaGreatCK30
import Derived.Test.YtogclkhpbjfadaaGreatCK33
import Derived.Test.YtogclkhpbjfadaaGreatCK12
namespace Go.Proofs.YtogclkhpbjfadaaGreat
open Go.RowKit
set_option linter.unusedVariables false
set_option maxHeartbeats 64000000
set_option maxRecDepth 100000
section
variable {F0:List Nat} {w0 w:World} {R:List az}
theorem ow:∀ {vs:List Value} {fs:List cB} {k:Nat} {v:Value} {f:cB},vs[k]?=some v→fs[k]?=some f→(bodiesR vs fs)[k]?=some (nz v f)
 | [],_,_,_,_,h,_=>by simp at h
 | _::_,[],_,_,_,_,h=>by simp at h
 | a::vs,b::fs,0,v,f,h1,h2=>by simp at h1 h2;subst h1 h2;rfl
 | a::vs,b::fs,k+1,v,f,h1,h2=>by
  simp only [List.getElem?_cons_succ] at h1 h2
  show (bodiesR vs fs)[k]?=_
  exact ow h1 h2
theorem Ea {a:Option Addr} {n c k:Nat} {fs:List cB} {vs:List Value} {f:cB} {A:Option Addr} {cc m:Nat} (h:In F0 w0 w (ay 40 3 (.slice a n c) fs.length (flatFr fs vs)::(bodiesR vs fs++R))) (hl:vs.length=fs.length) (hf:fs[k]?=some f) (hv:vs[k]?=some (.slice A m cc)) :
  ∃ g,a=some ⟨g,0,none⟩∧Lu w g (k * 3) f A cc∧m=f.body.length:=by
 obtain⟨e0,e1,e2⟩:=yw hl hf hv
 obtain⟨F1,h1⟩:=h.get 0 rfl
 obtain⟨g,rfl,c0⟩:=h1.at.2 _ _ e0
 obtain⟨g',hg',c1⟩:=h1.at.2 _ _ e1
 cases hg'
 obtain⟨g',hg',c2⟩:=h1.at.2 _ _ e2
 cases hg'
 have hk:=(List.getElem?_eq_some_iff.1 (ow hv hf)).1
 obtain⟨F2,h2⟩:=h.get (k+1) (A:=nz (.slice A m cc) f) (by rw [List.getElem?_cons_succ,List.getElem?_append_left hk];exact ow hv hf)
 have hm:=(ay.at h2).1
 subst hm
 exact⟨g,rfl,⟨c0,c1,c2,ay.all h2,PD (ay.all h2)⟩,rfl⟩
theorem aae {a:Option Addr} {n c:Nat} {fs:List cB} {vs:List Value} (h:In F0 w0 w (ay 40 3 (.slice a n c) fs.length (flatFr fs vs)::(bodiesR vs fs++R))) (hl:vs.length=fs.length):FrU F0 w0 (ay 40 3 (.slice a n c) fs.length (flatFr fs vs)::(bodiesR vs fs++R)) a fs:=by
 intro k f hf
 obtain⟨v,hv⟩:∃ v,vs[k]?=some v:=⟨vs[k]'(by have:=(List.getElem?_eq_some_iff.1 hf).1;omega),List.getElem?_eq_getElem _⟩
 have hk:=(List.getElem?_eq_some_iff.1 (ow hv hf)).1
 obtain⟨F2,h2⟩:=h.get (k+1) (A:=nz v f) (by rw [List.getElem?_cons_succ,List.getElem?_append_left hk];exact ow hv hf)
 obtain⟨A,cc,rfl,-,-,-⟩:=ay.shape h2
 obtain⟨g,rfl,_,_⟩:=Ea h hl hf hv
 refine⟨g,0,A,cc,rfl,fun w' h'=>?_⟩
 obtain⟨g',e,hc,_⟩:=Ea h' hl hf hv
 cases e
 rw [Nat.zero_add];exact hc
theorem Je {α:Type} {r l d:α} {b x:List α}:(r::(b++(l::d::x))).Perm (l::d::r::(b++x)):=by
 have h1:(b++(l::d::x)).Perm (l::d::(b++x)):=(List.perm_middle).trans (List.Perm.cons _ List.perm_middle)
 exact (List.Perm.cons r h1).trans ((List.Perm.swap l r _).trans (List.Perm.cons l (List.Perm.swap d r _)))
variable {sb lb bd dz tb:Nat} {st:fP}
def Jf (sb lb bd:Nat) (r:SD×Int) (F0:List Nat) (w0:World) (R:List az) (e:Ending) (w':World):Prop:=∃ dz,e=.returned (.int .i64 r.2)∧In F0 w0 w' (oG sb lb bd dz r.1 R)
theorem Tp {s:SD} {aj:Int} {Fr lq:List cB} {k k0:Nat} (hl:gH s.2.l) (hi:gW s.1 s.2.l Fr k lq k0) (ho:s.1.ops≤98000000) (i0:Nat) (hA:(oG sb lb bd dz s R)[i0]?=some (iH tb st)) (h:In F0 w0 w (oG sb lb bd dz s R)) :
  Calls Tryz.prog 50 #[pR sb,.int .i64 aj,pR tb] w (Jf sb lb bd (dx aj st s) F0 w0 R):=by
 obtain⟨X0,x0,D0,d0,Y0,y0,g0⟩:=h.rH
 have c0:w.cell? ⟨sb,0,none⟩=some (aD lb):=cell_of (g0.block 0 rfl) rfl
 have KV:=Lib.hid (qJ (h.aI (R1:=[_,_,_,_]) [1,0,2,3] (by decide) rfl))
 have H0:=Lib.hid h
 by_cases hv1:aj < s.2.l.m.aj
 ·have q:decide (aj < (s.2.l.m.aj:Int))=true:=decide_eq_true hv1
  rw [show dx aj st s=(s,10) from by unfold dx;rw [if_pos (Or.inl hv1)]]
  clear h g0 hv1 hA hl hi ho
  go_enter Tryz.func50,Tryz.ntmps50
  go_wp2_with fail
  refine KV.out.mono ?_
  rintro e w1 ⟨rfl,rfl⟩
  clear KV
  go_wp2_with fail
  go_ret
  exact⟨_,rfl,H0.out⟩
 by_cases hv3:3 < aj
 ·have q:decide (aj < (s.2.l.m.aj:Int))=false:=decide_eq_false hv1
  have q3:decide (3 < aj)=true:=decide_eq_true hv3
  rw [show dx aj st s=(s,10) from by unfold dx;rw [if_pos (Or.inr hv3)]]
  clear h g0 hv1 hv3 hA hl hi ho
  go_enter Tryz.func50,Tryz.ntmps50
  go_wp2_with fail
  refine KV.out.mono ?_
  rintro e w1 ⟨rfl,rfl⟩
  clear KV
  go_wp2_with fail
  go_ret
  exact⟨_,rfl,H0.out⟩
 have q:decide (aj < (s.2.l.m.aj:Int))=false:=decide_eq_false hv1
 have q3:decide (3 < aj)=false:=decide_eq_false hv3
 have hlv:=(bH.1 hl.2.2).1
 have hvk:dQ aj=true:=by unfold dQ;simp;omega
 have hok:fU st:=by
  obtain⟨F,dm,fm,bv,hok,_⟩:=h.get i0 hA
  exact hok
 have KR:=Lib.hid (Tn hvk i0 hA h)
 have hrows:=rows_ok hok hvk
 have hrl:(cK aj st).length≤1000:=by
  have:=nO hok
  simp only [cK,List.length_map];omega
 have hinv:=Dr hi aj.toNat (cK aj st) hrows
 have QA:(aj.toNat:Int)=aj:=by omega
 have hlk:gH (gV aj st s).1.2:=by
  have hm:fM (gV aj st s).1.2.m=true:=by
   rcases hinv.2 with ⟨_,_,_,_,g⟩|⟨_,⟨_,_,g⟩|⟨_,_,g⟩⟩
   ·exact g.now.1
   ·exact g.now.1
   ·exact g.now.1
  have hsz:(gV aj st s).1.2.size=s.2.l.size:=hinv.1
  exact⟨by rw [hsz];exact hl.1,by rw [hsz];exact hl.2.1,hm⟩
 have hS:dx aj st s=(((gV aj st s).1.1,⟨(gV aj st s).1.2,if s.2.l.m.aa=(gV aj st s).1.2.m.aa then s.2.st else eP aj st,if (gV aj st s).2=0 then eP aj st else s.2.sure⟩),(gV aj st s).2):=by unfold dx;rw [if_neg (by omega)]
 have HSW:Hid (∀ w' (R':List az) (a:Option Addr) (c:Nat),In F0 w0 w' (eB lb bd s.2.l::bJ bd s.1::R')→FrU F0 w0 R' a (cK aj st)→Calls Tryz.prog 27 #[aD lb,.int .i64 aj,.slice a (cK aj st).length c] w' (ou lb bd (gV aj st s) F0 w0 R')):=Lib.hid (fun w' R' a c h' hu=>by
  have:=YB (c:=c) (aj:=aj.toNat) h' hl (by omega) (by omega) hu (fun f hf=>(hrows f hf).1) hrl
  rw [QA] at this
  exact this)
 have hsn:s.2.l.m.aa.length≤1000000:=by have:=hlv.2.2.2.1;omega
 generalize gV aj st s=r at *
 have iO:Hid (∀ u,(if r.2=0 then eP aj st else s.2.sure)=u→∀ t,(if s.2.l.m.aa=r.1.2.m.aa then s.2.st else eP aj st)=t→dx aj st s=((r.1.1,⟨r.1.2,t,u⟩),r.2)):=Lib.hid (fun u hu t ht=>by rw [hS,ht,hu])
 have Ph:=Lib.hid hlk
 have Pk:=Lib.hid hsn
 have HL:=Lib.hid hl
 clear h g0 hA hl hi ho hlv hvk hok hrows hrl hinv QA hlk hS hsn hv1 hv3 H0
 go_enter Tryz.func50,Tryz.ntmps50
 go_wp2_with fail
 refine KV.out.mono ?_
 rintro e w1 ⟨rfl,rfl⟩
 clear KV
 go_wp2_with fail
 refine KR.out.mono ?_
 rintro e w2 ⟨fa,fc,mb,rfl,g2⟩
 obtain⟨X,x,D,d,F,f,g3⟩:=(g2.aI (R1:=[_,_,_,_,_,_]) [2,0,1,3,4,5] (by decide) rfl).rH
 have c1:w2.cell? ⟨sb,0,none⟩=some (aD lb):=cell_of (g3.block 0 rfl) rfl
 have K2:=Lib.hid (tC HL.out (g3.aI (R1:=[_,_,_,_,_,_,_,_,_]) [6,0,1,2,3,4,5,7,8] (by decide) rfl))
 clear g2 g3 KR c0
 go_wp2_with fail
 refine K2.out.mono ?_
 rintro e w3 ⟨wa,wc,rfl,g4⟩
 have c2:w3.cell? ⟨sb,0,none⟩=some (aD lb):=cell_of (g4.block 2 rfl) rfl
 obtain⟨vs,hvs,g6⟩:=(g4.aI (R1:=[_,_,_,_,_,_,_,_,_,_]) [6,1,8,0,2,3,4,5,7,9] (by decide) rfl).FW
 have g7:=g6.perm Je
 have K3:=Lib.hid (HSW.out w3 _ fa fc g7 (aae g7.drop.drop hvs))
 clear g4 g6 g7 K2 c1 HSW
 go_wp2_with fail
 refine K3.out.mono ?_
 rintro e w4 ⟨rfl,g8⟩
 have g9:=(In.mid (bodiesR vs (cK aj st)) (g8.perm Je.symm)).drop
 have c3:w4.cell? ⟨sb,0,none⟩=some (aD lb):=cell_of (g9.block 3 rfl) rfl
 clear g8 K3 c2 hvs
 by_cases he:r.2=0
 ·rw [he]
  have HZ:=Lib.hid he
  have K4:=Lib.hid (ig (g9.aI (R1:=[_,_,_,_,_,_,_,_,_]) [7,0,1,2,3,4,5,6,8] (by decide) rfl))
  clear g9 he
  go_wp2_with fail
  refine K4.out.mono ?_
  rintro e w5 ⟨A1,a1,D1,d1,F1,f1,rfl,g10⟩
  have Q1:=Lib.hid (BX (g10.block 7 rfl) 2 4 (Nat.le_refl 6))
  have g11:=g10.ku [.int .i64 (eP aj st).gen,.slice A1 (eP aj st).ax.length a1,.slice D1 (eP aj st).bN.length d1,.slice F1 (eP aj st).bU.length f1] 2 (b:=sb) (T:=150) (C:=IM lb dz s.2.sure.gen (.slice X s.2.sure.ax.length x) (.slice D s.2.sure.bN.length d) (.slice F s.2.sure.bU.length f)) 7 rfl
  have TL:Hid (In F0 w0 (w5.setCells sb 2 [.int .i64 (eP aj st).gen,.slice A1 (eP aj st).ax.length a1,.slice D1 (eP aj st).bN.length d1,.slice F1 (eP aj st).bU.length f1]) (eB lb bd r.1.2::bJ bd r.1.1::xh (.slice wa s.2.l.m.aa.length wc) s.2.l.m.aa::Cells sb (IM lb dz (eP aj st).gen (.slice A1 (eP aj st).ax.length a1) (.slice D1 (eP aj st).bN.length d1) (.slice F1 (eP aj st).bU.length f1)) 150::gG (.slice A1 (eP aj st).ax.length a1) (eP aj st).ax::zq (.slice D1 (eP aj st).bN.length d1) (eP aj st).bN::BI (.slice F1 (eP aj st).bU.length f1) (eP aj st).bU::iH mb (eP aj st)::iH dz s.2.st::R)):=Lib.hid (g11.aI (R1:=[_,_,_,_,_,_,_,_,_,_,_,_]) [4,5,6,7,0,1,2,3,11] (by decide) rfl)
  clear g10 g11 K4 c3
  have e0:(w5.setCells sb 2 [.int .i64 (eP aj st).gen,.slice A1 (eP aj st).ax.length a1,.slice D1 (eP aj st).bN.length d1,.slice F1 (eP aj st).bU.length f1]).cell? ⟨sb,0,none⟩=some (aD lb):=cell_of (TL.out.block 3 rfl) rfl
  have K6:=Lib.hid (tC Ph.out TL.out)
  clear TL
  go_wp2_with (refine wpList_store_mid (op:=⟨none,Op.store 62 (.tmp 58) (.tmp 56),_,_,_,_⟩) (by rfl) 62 (.tmp 58) (.tmp 56) rfl sb 2 #[.int .i64 (eP aj st).gen,.slice A1 (eP aj st).ax.length a1,.slice D1 (eP aj st).bN.length d1,.slice F1 (eP aj st).bU.length f1] (by rfl) (by rfl) Q1.out (by kernel_rfl) (qG _ _ _ _ _ _ _ _ _ _) ?_)
  refine K6.out.mono ?_
  rintro e w8 ⟨ya,yc,rfl,g8⟩
  have K7:=Lib.hid (WJ (l1:=s.2.l.m.aa) (l2:=r.1.2.m.aa) (A1:=wa) (A2:=ya) (c1:=wc) (c2:=yc) (fun w' h'=>by obtain⟨F',r'⟩:=h'.get 3 rfl;exact r'.all) (fun w' h'=>by obtain⟨F',r'⟩:=h'.get 0 rfl;exact r'.all) Pk.out g8)
  clear g8 K6 e0
  go_wp2_with fail
  refine K7.out.mono ?_
  rintro e w9 ⟨rfl,g9⟩
  by_cases hseg:s.2.l.m.aa=r.1.2.m.aa
  ·rw [show decide (s.2.l.m.aa=r.1.2.m.aa)=true from decide_eq_true hseg]
   have G:Hid (In F0 w0 w9 (oG sb lb bd dz (r.1.1,⟨r.1.2,s.2.st,eP aj st⟩) R)):=Lib.hid (In.kF (s:=eP aj st) (lb:=lb) (dz:=dz) (g9.aI (R1:=[_,_,_,_,_,_,_,_,_,_]) [4,5,6,7,1,2,9] (by decide) rfl))
   have HE:=Lib.hid (iO.out _ (if_pos HZ.out) _ (if_pos hseg))
   clear g9 K7 hseg
   go_wp2_with fail
   go_ret
   exact⟨_,by rw [HE.out];show _=Ending.returned (.int .i64 r.2);rw [HZ.out];rfl,by rw [HE.out];exact G.out⟩
  ·rw [show decide (s.2.l.m.aa=r.1.2.m.aa)=false from decide_eq_false hseg]
   have e1:w9.cell? ⟨sb,1,none⟩=some (pR dz):=cell_of (g9.block 4 rfl) rfl
   have f1':w9.frozen? ⟨sb,1,none⟩=false:=aL (g9.block 4 rfl)
   have g10:=g9.put (b:=sb) (T:=150) 4 rfl 1 (pR mb)
   have G:Hid (In F0 w0 (w9.setCell ⟨sb,1,none⟩ (pR mb)) (oG sb lb bd mb (r.1.1,⟨r.1.2,eP aj st,eP aj st⟩) R)):=Lib.hid (In.kF (s:=eP aj st) (lb:=lb) (dz:=mb) (g10.aI (R1:=[_,_,_,_,_,_,_,_,_,_]) [4,5,6,7,1,2,8] (by decide) rfl))
   have HE:=Lib.hid (iO.out _ (if_pos HZ.out) _ (if_neg hseg))
   clear g9 g10 K7 hseg
   go_wp2_with fail
   go_ret
   exact⟨_,by rw [HE.out];show _=Ending.returned (.int .i64 r.2);rw [HZ.out];rfl,by rw [HE.out];exact G.out⟩
 ·have q0:(r.2 == 0)=false:=by rw [beq_eq_false_iff_ne];exact he
  have HZ:=Lib.hid he
  have TL:Hid (In F0 w0 w4 (eB lb bd r.1.2::bJ bd r.1.1::xh (.slice wa s.2.l.m.aa.length wc) s.2.l.m.aa::Cells sb (IM lb dz s.2.sure.gen (.slice X s.2.sure.ax.length x) (.slice D s.2.sure.bN.length d) (.slice F s.2.sure.bU.length f)) 150::gG (.slice X s.2.sure.ax.length x) s.2.sure.ax::zq (.slice D s.2.sure.bN.length d) s.2.sure.bN::BI (.slice F s.2.sure.bU.length f) s.2.sure.bU::iH mb (eP aj st)::iH dz s.2.st::R)):=Lib.hid g9
  clear g9 he c3
  have e0:w4.cell? ⟨sb,0,none⟩=some (aD lb):=cell_of (TL.out.block 3 rfl) rfl
  have K6:=Lib.hid (tC Ph.out TL.out)
  clear TL
  go_wp2_with fail
  refine K6.out.mono ?_
  rintro e w8 ⟨ya,yc,rfl,g8⟩
  have K7:=Lib.hid (WJ (l1:=s.2.l.m.aa) (l2:=r.1.2.m.aa) (A1:=wa) (A2:=ya) (c1:=wc) (c2:=yc) (fun w' h'=>by obtain⟨F',r'⟩:=h'.get 3 rfl;exact r'.all) (fun w' h'=>by obtain⟨F',r'⟩:=h'.get 0 rfl;exact r'.all) Pk.out g8)
  clear g8 K6 e0
  go_wp2_with fail
  refine K7.out.mono ?_
  rintro e w9 ⟨rfl,g9⟩
  by_cases hseg:s.2.l.m.aa=r.1.2.m.aa
  ·rw [show decide (s.2.l.m.aa=r.1.2.m.aa)=true from decide_eq_true hseg]
   have G:Hid (In F0 w0 w9 (oG sb lb bd dz (r.1.1,⟨r.1.2,s.2.st,s.2.sure⟩) R)):=Lib.hid (In.kF (s:=s.2.sure) (lb:=lb) (dz:=dz) (g9.aI (R1:=[_,_,_,_,_,_,_,_,_,_]) [4,5,6,7,1,2,9] (by decide) rfl))
   have HE:=Lib.hid (iO.out _ (if_neg HZ.out) _ (if_pos hseg))
   clear g9 K7 hseg
   go_wp2_with fail
   go_ret
   exact⟨_,by rw [HE.out];rfl,by rw [HE.out];exact G.out⟩
  ·rw [show decide (s.2.l.m.aa=r.1.2.m.aa)=false from decide_eq_false hseg]
   have e1:w9.cell? ⟨sb,1,none⟩=some (pR dz):=cell_of (g9.block 4 rfl) rfl
   have f1':w9.frozen? ⟨sb,1,none⟩=false:=aL (g9.block 4 rfl)
   have g10:=g9.put (b:=sb) (T:=150) 4 rfl 1 (pR mb)
   have G:Hid (In F0 w0 (w9.setCell ⟨sb,1,none⟩ (pR mb)) (oG sb lb bd mb (r.1.1,⟨r.1.2,eP aj st,s.2.sure⟩) R)):=Lib.hid (In.kF (s:=s.2.sure) (lb:=lb) (dz:=mb) (g10.aI (R1:=[_,_,_,_,_,_,_,_,_,_]) [4,5,6,7,1,2,8] (by decide) rfl))
   have HE:=Lib.hid (iO.out _ (if_neg HZ.out) _ (if_neg hseg))
   clear g9 g10 K7 hseg
   go_wp2_with fail
   go_ret
   exact⟨_,by rw [HE.out];rfl,by rw [HE.out];exact G.out⟩
end
def pg (v:Int) (s:fP):Prop:=(∀ f∈s.bU,oC v f=f)∧∀ b∈s.ax,fF v b=b
theorem pg.eq {v:Int} {s:fP} (h:pg v s):eP v s=s:=by
 obtain⟨g,b,d,f⟩:=s
 unfold eP
 have h1:b.map (fF v)=b:=(List.map_congr_left h.2).trans (List.map_id' _)
 have h2:f.map (oC v)=f:=(List.map_congr_left h.1).trans (List.map_id' _)
 simp only [h1,h2]
theorem pg.zero (v:Int):pg v aJ:=⟨by simp [aJ],by simp [aJ]⟩
theorem OM (v:Int) (f:Fl):oC v (oC v f)=oC v f:=by
 unfold oC
 simp only
 congr 1
 ·split <;> rfl
 ·split <;> rfl
theorem OO (v:Int) (b:Bk):fF v (fF v b)=fF v b:=by
 unfold fF
 split <;> simp_all
theorem pg.apply {v:Int} {s:fP} (h:pg v s) (hv:dQ v=true) (r:Rec):pg v (aX s (dM r v)).1:=by
 have hk:=qU (r:=r) hv
 by_cases h0:(aX s (dM r v)).2=0
 case neg=>rw [yM h0];exact h
 rw [Ao h0]
 have hfl:r.kind=1→oC v (dM r v).fl=(dM r v).fl:=by
  intro h1
  unfold dM
  rw [if_neg (by simp [hv])]
  simp only [if_pos h1]
  exact OM v _
 have hbk:∀ b∈(dM r v).ax,fF v b=b:=by
  unfold dM
  rw [if_neg (by simp [hv])]
  intro b hb
  simp only [List.mem_map] at hb
  obtain⟨x,_,rfl⟩:=hb
  exact OO v x
 unfold lG
 rw [hk]
 split
 ·rename_i h1
  exact⟨fun f hf=>by
   rcases nN hf with rfl | hf
   ·exact hfl h1
   ·exact h.1 f hf,h.2⟩
 ·split
  ·exact⟨fun f hf=>h.1 f (List.mem_filter.1 hf).1,h.2⟩
  ·split
   ·exact⟨h.1,hbk⟩
   ·repeat' split
    all_goals exact h
theorem OP {s:SD} {Fr:List cB} {k:Nat} {lq:List cB} {k0:Nat} (h:iF s Fr k lq k0) (hf:pg s.2.l.m.aj s.2.st) (r:Rec):pg s.2.l.m.aj (bG r s).1.2.st:=by
 have hv:=h.aj
 have hm:(eT r s).1.2.m.aj=s.2.l.m.aj:=(vo h.log ((fu r s).1.kind:Int) (fu r s).1.body).2.1
 unfold bG
 split
 ·exact hf
 ·split
  ·exact hf
  ·split
   ·exact hf
   ·split
    ·exact hf
    ·show pg _ (aX s.2.st (dM r (eT r s).1.2.m.aj)).1
     rw [hm]
     exact hf.apply hv r
structure Gm (k z:Nat) (v:Int) (s:SD):Prop where
 su:uz 61 k z s
 aj:(s.2.l.m.aj:Int)=v
 fmt:pg v s.2.st
theorem Gm.write {k z:Nat} {v:Int} {s:SD} (h:Gm k z v s) (hk:k < 61) {r:Rec} (wr:mQ r):Gm (k+1) z v (bG r s).1:=by
 obtain⟨h1,h2⟩:=h.su.write hk wr
 obtain⟨Fr,kk,g⟩:=h.su.inv
 have hv:=(g.write wr).2.1
 have hf:=OP g (by rw [h.aj];exact h.fmt) r
 refine⟨h1,by rw [hv];exact h.aj,?_⟩
 rw [h.aj] at hf;exact hf
theorem Gm.start {v:Int} (hv:1≤v∧v≤3) (size:Int):∃ s:SD,createS v size (jF 300000)=(s.1,some s.2,0)∧Gm 0 (sized size) v s:=by
 obtain⟨s,h1,h2,h3,h4,h5⟩:=uz.start 61 (by omega) hv size
 exact⟨s,h1,h2,h5,by rw [h3];exact pg.zero v⟩
theorem iF.YG {s:SD} {Fr:List cB} {lq:List cB} {st:fP} (h:iF s Fr Fr.length lq lq.length) (h1:rdAll Fr aJ=(st,0)) (h2:rdAll lq aJ=(st,0)) (p:List UInt8):∃ m0 Cq,nV (iw s.1 p) m0 Cq∧rdAll Cq aJ=(st,0):=by
 rcases h.log.uC p with ⟨j,j1,j2,j3⟩|⟨_,m0,j,j1,j2,j3⟩
 ·rw [List.take_of_length_le j1] at j3
  exact⟨_,_,j3,h1⟩
 ·rw [List.take_of_length_le j1] at j3
  exact⟨_,_,j3,h2⟩
theorem LB {aj:Nat} {bs:List (List UInt8)} {d:ae} {l:bK} (hl:gH l) (hb:∀ b∈bs,b.length≤5000):(gM aj bs (d,l)).1.1.ops≤d.ops+3 * bs.length+80:=by
 have h1:=kZ (d,l)
 have h2:=rG (s:=(d,l)) hl
 by_cases hz:(aY (d,l)).2=0
 ·rw [DV aj bs (d,l) hz]
  obtain⟨h3,h4,_⟩:=DW (aj:=aj) (l:=(aY (d,l)).1.2) (d:=(aY (d,l)).1.1) hb
  have h5:(aY (d,l)).1.2.m.aa.length≤64:=(bH.1 h2.2.2).1.2.2.2.1
  have h6:=tJ (aY (d,l)).1.2.m.aa (swapT aj bs (aY (d,l)).1.2 (aY (d,l)).1.1).1.d
  have h7:=yz (swapT aj bs (aY (d,l)).1.2 (aY (d,l)).1.1).1.aa (swapT aj bs (aY (d,l)).1.2 (aY (d,l)).1.1).1.d
  simp only at h1
  unfold kG
  split
  ·simp only;omega
  split
  ·simp only;omega
  ·simp only;omega
 ·rw [DZ hz];simp only at h1;omega
theorem yC {s:SD} (hl:gH s.2.l) (hok:fU s.2.st) (hv:dQ (s.2.l.m.aj:Int)=true):(dx s.2.l.m.aj s.2.st s).1.1.ops≤s.1.ops+2000:=by
 unfold dx
 split
 ·show s.1.ops≤_;omega
 ·have hb:∀ b∈(cK (s.2.l.m.aj:Int) s.2.st).map ak,b.length≤5000:=by
   intro b hb
   obtain⟨f,hf,rfl⟩:=List.mem_map.1 hb
   have:=(rows_ok hok hv f hf).1.body
   rw [dD];omega
  have:=LB (aj:=(s.2.l.m.aj:Int).toNat) (d:=s.1) hl hb
  have hn:=nO hok
  simp only [cK,List.length_map] at this
  show (gM _ _ (s.1,s.2.l)).1.1.ops≤_
  simp only [cK]
  omega
section
variable {F0:List Nat} {w0 w:World} {R:List az} {sb lb bd dz:Nat}
theorem Gn {s:SD} {Fr lq:List cB} {k k0:Nat} (hl:gH s.2.l) (hi:gW s.1 s.2.l Fr k lq k0) (ho:s.1.ops≤98000000) (h:In F0 w0 w (oG sb lb bd dz s R)) :
  Calls Tryz.prog 54 #[pR sb] w (Jf sb lb bd (dx s.2.l.m.aj s.2.st s) F0 w0 R):=by
 have K1:=Lib.hid (sZ h)
 have K2:=Lib.hid (jT h)
 have K3:=Lib.hid (Tp (aj:=(s.2.l.m.aj:Int)) hl hi ho 3 rfl h)
 clear h hl hi ho
 go_enter Tryz.func54,Tryz.ntmps54
 go_wp2_with fail
 refine K1.out.mono ?_
 rintro e w1 ⟨rfl,rfl⟩
 go_wp2_with fail
 refine K2.out.mono ?_
 rintro e w2 ⟨rfl,rfl⟩
 go_wp2_with fail
 refine K3.out.mono ?_
 rintro e w3 ⟨Tq,rfl,g⟩
 have G:=Lib.hid g
 clear g K1 K2 K3
 go_wp2_with fail
 go_ret
 exact⟨_,rfl,G.out⟩
end
section
variable {W w:World} {R:List az}
def aa7 (sb lb bd dz n z:Nat) (v:Int) (W:World) (R:List az) (i:Value) (wr:World):Prop:=
 ∃ (k:Nat) (s:SD),k≤n∧i=.int .i64 k∧Gm (min k 60) z v s∧In [] W wr (oG sb lb bd dz s R)
def aaP (z:Nat) (v:Int) (W:World) (R:List az) (e:Ending) (w':World):Prop:=
 ∃ sb lb bd dz s,e=.returned (.tuple #[aD bd,pR sb])∧Gm 60 z v s∧In [] W w' (oG sb lb bd dz s R)
end
def Only (d:ae) (K:ByteArray→Prop):Prop:=∀ n,bQ d.now n≠Option.none→K n
section
variable {d:ae} {K K':ByteArray→Prop}
theorem Only.mono (h:Only d K) (hk:∀ n,K n→K' n):Only d K':=fun n hn=>hk n (h n hn)
theorem nL (h:Only d K) (n:ByteArray):Only (aW d n).1 K:=by
 rcases iJ d n with ⟨e,h1,_⟩|⟨_,i,_,h1⟩ <;> (rw [h1];exact h)
theorem Tt (h:Only d K):Only (bE d).1 K:=by
 rcases gz d with h1 | ⟨_,h1⟩ <;> (rw [h1];exact h)
theorem pq (hok:aP d) (h:Only d K) (n:ByteArray) (b:List UInt8):Only (aH d n b).1 (fun x=>K x∨x=n):=by
 rcases fE d n b with ⟨e,h1,_⟩|⟨_,_,_,⟨i,h4,h5⟩|⟨h4,h5⟩⟩
 ·rw [h1];exact fun x hx=>Or.inl (h x hx)
 ·rw [h5];exact fun x hx=>Or.inl (h x hx)
 ·rw [h5]
  intro x hx
  have e:=qc hok.now.row n x d.files.length
  by_cases hc:x=n
  ·exact Or.inr hc
  ·refine Or.inl (h x (fun e0=>hx ?_))
   show bQ (iQ d.now n d.files.length) x=_
   rw [e,if_neg hc];exact e0
theorem tK (hok:aP d) (h:Only d K) {n:ByteArray} (hn:K n) (b:List UInt8):Only (aH d n b).1 K:=
 (pq hok h n b).mono (fun x hx=>hx.elim id (fun e=>by rw [e];exact hn))
theorem zh (hok:aP d) (hf:d.fail=0) (h:Only d K) (n:ByteArray):Only (cZ d n).1 (fun x=>K x∧x≠n):=by
 unfold cZ
 rw [if_neg (kX hf)]
 cases e:bQ d.now n with
 | none=>exact fun x hx=>⟨h x hx,fun e'=>hx (by rw [e'];exact e)⟩
 | some i=>
  intro x hx
  have e2:=nR hok.now.row n x
  by_cases hc:x=n
  ·refine absurd ?_ hx
   show bQ (dZ d.now n) x=_
   rw [e2,if_pos hc]
  ·refine⟨h x (fun e0=>hx ?_),hc⟩
   show bQ (dZ d.now n) x=_
   rw [e2,if_neg hc];exact e0
theorem vJ (hok:aP d) (hf:d.fail=0) (h:Only d K) (n:ByteArray):Only (bF n d).1 (fun x=>K x∧x≠n):=by
 unfold bF
 by_cases hs:(bQ d.now n).isSome=true
 ·rw [if_pos hs];exact zh hok hf h n
 ·rw [if_neg hs]
  exact fun x hx=>⟨h x hx,fun e=>hs (by rw [← e];exact Option.isSome_iff_ne_none.2 hx)⟩
theorem Jg (hok:aP d) (hf:d.fail=0) (h:Only d K) {a b:ByteArray} (hab:a≠b) (h0:(bZ d a b).2=0):Only (bZ d a b).1 (fun x=>(K x∨x=b)∧x≠a):=by
 rcases jr d a b with ⟨e,h1,he⟩|⟨_,⟨i,hi⟩,hb,⟨e,_⟩|⟨_,h1⟩⟩
 ·rw [h1] at h0;simp only at h0;omega
 ·exact absurd e hab
 ·rw [h1]
  intro x hx
  have e0:(bq (aC d) (.ren a b)).now=dZ (iQ d.now b i) a:=by
   show (match bQ d.now a with | some f=>dZ (iQ d.now b f) a | Option.none=>d.now)=_
   rw [hi]
  rw [e0,nR (mi hok.now.row b i) a x] at hx
  by_cases hc:x=a
  ·rw [if_pos hc] at hx;exact absurd rfl hx
  rw [if_neg hc,qc hok.now.row b x i] at hx
  refine⟨?_,hc⟩
  by_cases hb':x=b
  ·exact Or.inr hb'
  ·rw [if_neg hb'] at hx;exact Or.inl (h x hx)
theorem LC {B n:Nat} (hok:aP d) {m:dw} (hm:fM m=true) (h:Rm d (B+278) (n+1)) (ho:Only d K):Only (eQ m d).1 (fun x=>(K x∨x=bL)∧x≠aB):=by
 have hl:=Md hm
 obtain⟨a1,a2⟩:=sP h aB
 have a3:=jM hok aB
 have a4:=jN (n:=aB) hok
 have a5:=vJ hok h.fail ho aB
 have hfresh:eQ m d=bR (bR (bR (bF aB d) (fun d=>aH d aB (ak (eu m)))) (fun d=>aW d aB)) (fun d=>bZ d aB bL):=rfl
 generalize bF aB d=r1 at *
 rw [aV a1] at hfresh
 obtain⟨b1,b2,_⟩:=xS a3 a2 (nm:=aB) (by decide) (b:=ak (eu m)) (by omega) (fun _=>by omega)
 have b3:=iy a3 aB (ak (eu m))
 have b4:=kM a3 (b:=ak (eu m)) (a4 a1) b1
 have b5:=pq a3 a5 aB (ak (eu m))
 rw [if_pos (a4 a1)] at b2
 generalize aH r1.1 aB (ak (eu m))=r2 at *
 rw [aV b1] at hfresh
 obtain⟨i,i1,_,_⟩:=b4
 obtain⟨c1,c2,c4⟩:=mK b3 b2 i1
 have c3:=gU b3 aB
 have c5:=nL b5 aB
 generalize aW r2.1 aB=r3 at *
 rw [aV c1] at hfresh
 rw [hfresh]
 obtain⟨e1,e2⟩:=Dl c3 c2 (a:=aB) (b:=bL) (i:=i) (by rw [c4];exact i1) (by decide) (fun e=>jK e.symm)
 refine (Jg c3 c2.fail c5 (fun e=>jK e.symm) e1).mono (fun x hx=>⟨?_,hx.2⟩)
 rcases hx.1 with (h1 | h1) | h1
 ·exact Or.inl h1.1
 ·exact absurd h1 hx.2
 ·exact Or.inr h1
theorem tL {B n:Nat} (hok:aP d) {m:dw} (hm:fM m=true) (h:Rm d (B+278) (n+1)) (ho:Only d K) (hk:K bL):Only (aK m d).1 K:=by
 have h1:=LC hok hm h ho
 obtain⟨a1,a2⟩:=Hu hok hm h
 unfold aK
 rw [if_neg (by simp [hm]),if_neg (by simp [a1])]
 exact (Tt h1).mono (fun x hx=>hx.1.elim id (fun e=>by rw [e];exact hk))
theorem Ci {B n s:Nat} (hok:aP d) (hs:1≤s∧s < 1000000) (h:Rm d B (n+1)) (ho:Only d K):Only (dK s d).1 (fun x=>K x∨x=ai s):=by
 obtain⟨a1,a2⟩:=sP h (ai s)
 have a3:=jM hok (ai s)
 have a5:=vJ hok h.fail ho (ai s)
 have hb:dK s d=bR (bF (ai s) d) (fun d=>aH d (ai s) []):=rfl
 generalize bF (ai s) d=r1 at *
 rw [aV a1] at hb
 rw [hb]
 exact (pq a3 a5 (ai s) []).mono (fun x hx=>hx.elim (fun e=>Or.inl e.1) Or.inr)
end
theorem OQ {d:ae} {l:bK} {Fr:List cB} {s B n:Nat} (h:fD d l.m Fr s) (hr:Rm d (B+278) (n+2)) (hs:l.m.aa.length < 64) (hn:l.m.next < 1000000) (ho:Only d (Mine l.m.aa)) :
  Only (gD (d,l)).1.1 (Mine (gL l).aa):=by
 obtain⟨_,hm1⟩:=bH.1 h.now.1
 have hn1:=(bH.1 h.now.1).1.2.2.2.2.1
 have hmt:fM (gL l)=true:=by
  obtain⟨⟨v1,v2,s1,s2,n1,n2⟩,hu⟩:=bH.1 h.now.1
  refine bH.2 ⟨⟨v1,v2,by simp [gL],by simp [gL];omega,by simp [gL],by simp [gL];omega⟩,?_⟩
  refine EK ?_ (fun x hx=>?_)
  ·refine List.pairwise_append.2 ⟨qf h.now.1,List.pairwise_singleton _ _,fun a ha b hb=>?_⟩
   simp at hb;subst hb
   exact (dW h.now.1 ha).2.1
  ·rcases List.mem_append.1 hx with hx | hx
   ·have:=dW h.now.1 hx;exact⟨by omega,by simp [gL];omega⟩
   ·simp at hx;subst hx;exact⟨by omega,by simp [gL]⟩
 unfold gD
 simp only
 rw [if_neg (by omega)]
 have e1:gT (fun d=>aW d (bA l)) (d,l)=(((aW d (bA l)).1,l),(aW d (bA l)).2):=rfl
 rw [e1]
 obtain⟨C,L,k,g1,rfl,g3⟩:=h.now.2.2
 obtain⟨i,i1,_,_⟩:=g1.last
 rw [← jL g1.len] at i1
 obtain⟨a1,a2,a3⟩:=mK h.ok hr i1
 have a4:=gU h.ok (bA l)
 have a5:=nL ho (bA l)
 generalize aW d (bA l)=r1 at *
 have a1':(((r1.1,l),r1.2):DL×Int).2=0:=a1
 rw [aV a1']
 have e2:gT (dK l.m.next) (r1.1,l)=(((dK l.m.next r1.1).1,l),(dK l.m.next r1.1).2):=rfl
 rw [e2]
 obtain⟨b1,b2,b3,b4⟩:=wD a4 ⟨hn1,hn⟩ (n:=n+1) a2
 have b5:=Ci a4 ⟨hn1,hn⟩ (n:=n+1) a2 a5
 generalize dK l.m.next r1.1=r2 at *
 have b1':(((r2.1,l),r2.2):DL×Int).2=0:=b1
 rw [aV b1']
 have e3:gT (fun d=>aW d (ai l.m.next)) (r2.1,l)=(((aW r2.1 (ai l.m.next)).1,l),(aW r2.1 (ai l.m.next)).2):=rfl
 rw [e3]
 obtain⟨j,j1,_,_⟩:=b4
 obtain⟨c1,c2,c3⟩:=mK b3 b2 j1
 have c4:=gU b3 (ai l.m.next)
 have c5:=nL b5 (ai l.m.next)
 generalize aW r2.1 (ai l.m.next)=r3 at *
 have c1':(((r3.1,l),r3.2):DL×Int).2=0:=c1
 rw [aV c1']
 have c6:Only r3.1 (Mine (gL l).aa):=c5.mono (fun x hx=>by
  rcases hx with (hx | ⟨s,hs,hx⟩) | hx
  ·exact Or.inl hx
  ·exact Or.inr ⟨s,by simp [gL,hs],hx⟩
  ·exact Or.inr ⟨l.m.next,by simp [gL],hx⟩)
 have d3:=tL c4 hmt c2 c6 (Or.inl rfl)
 unfold dI
 simp only
 exact d3
theorem Jh {d:ae} {l:bK} {Fr:List cB} {s B n:Nat} (h:fD d l.m Fr s) (hl:l.loose=false) (kind:Int) (body:List UInt8) (hr:Rm d (B+278+(16+body.length)) (n+2)) (hs:l.m.aa.length < 64) (hn:l.m.next < 1000000) (hp:gq kind l.m.aj body.length=0) (ho:Only d (Mine l.m.aa)) :
  Only (bW kind body (d,l)).1.1 (Mine (bW kind body (d,l)).1.2.m.aa):=by
 have hset:aY (d,l)=((d,l),0):=by unfold aY;simp [hl]
 unfold bW
 simp only
 rw [if_neg (by simp [hp]),hset,aV (r:=((d,l),(0:Int))) rfl]
 simp only
 have hfl:(ak ⟨kind.toNat,l.m.aj,body⟩).length=16+body.length:=dD _
 generalize Ho:(if lK l (bytesD d (bA l)) (ak ⟨kind.toNat,l.m.aj,body⟩).length=true then ((d,l),(0:Int)) else gD (d,l))=r2
 have h5:r2.2=0∧Only r2.1.1 (Mine r2.1.2.m.aa)∧∃ Cq s',fD r2.1.1 r2.1.2.m Cq s':=by
  rw [← Ho]
  split
  ·exact⟨rfl,ho,Fr,s,h⟩
  ·obtain⟨t1,t2,t3⟩:=Me (B:=B+(16+body.length)) (n:=n) h (by rw [show B+(16+body.length)+278=B+278+(16+body.length) by omega];exact hr) hs hn
   have t4:=OQ (B:=B+(16+body.length)) (n:=n) h (by rw [show B+(16+body.length)+278=B+278+(16+body.length) by omega];exact hr) hs hn ho
   obtain⟨_,u2,u3⟩:=AX h hl
   refine⟨t1,by rw [t3];exact t4,?_⟩
   rcases u3 with ⟨_,_,u6⟩|⟨u4,_⟩
   ·exact⟨_,_,u6⟩
   ·exact absurd t1 u4
 clear Ho
 obtain⟨h6,h7,Cq,s',h11⟩:=h5
 rw [aV h6]
 unfold gT
 simp only
 obtain⟨C,L,k,g1,_,g3⟩:=h11.now.2.2
 refine tK h11.ok h7 ?_ _
 rw [jL g1.len]
 exact Or.inr ⟨_,iT (by rw [g1.len];omega),rfl⟩
/-! ### How many segments rows make -/
def vK (z:Nat) (s:Nat×Nat) (b:Nat):Nat×Nat:=if s.1=0 then (1,b) else if s.2=0∨s.2+b≤z then (s.1,s.2+b) else (s.1+1,b)
def vL (z:Nat) (l:List (List UInt8)) (s:Nat×Nat):Nat×Nat:=l.foldl (fun a b=>vK z a b.length) s
theorem VW (z:Nat) (s:Nat×Nat) (b:Nat):s.1≤(vK z s b).1:=by
 unfold vK
 split
 ·simp only;omega
 ·split <;> simp only <;> omega
theorem Gp (z:Nat):∀ (l:List (List UInt8)) (s:Nat×Nat),s.1≤(vL z l s).1
 | [],s=>Nat.le_refl _
 | b::l,s=>Nat.le_trans (VW z s b.length) (Gp z l _)
theorem MO {d0:ae} {m:dw} {P:List cB} {aj:Nat} {s:ae×List Nat×Nat} {B n:Nat} (h:Laid d0 m aj P true s) (b:List UInt8) (hr:Rm s.1 (B+b.length) (n+(64 - s.2.1.length))) (hn1:1≤m.next) (hn:m.next+64≤1000000) :
  ((dN m.next b s).2=0∧Rm (dN m.next b s).1.1 B (n+(64 - (dN m.next b s).1.2.1.length))∧(dN m.next b s).1.2.1.length=s.2.1.length+1∧(dN m.next b s).1.2.2=b.length∧(dN m.next b s).1.2.1=s.2.1++[m.next+s.2.1.length]∧(∀ K,Only s.1 K→Only (dN m.next b s).1.1 (fun x=>K x∨x=ai (m.next+s.2.1.length)))∧s.2.1.length < 64) ∨
  ((dN m.next b s).2=4∧64≤s.2.1.length):=by
 unfold dN
 by_cases h64:64≤s.2.1.length
 ·rw [if_pos h64];exact Or.inr ⟨rfl,h64⟩
 rw [if_neg h64]
 left
 have k0:=h.beside.ok
 obtain⟨a1,a2⟩:=sP hr (ai (m.next+s.2.1.length))
 have a3:=jM k0 (ai (m.next+s.2.1.length))
 have a4:=jN (n:=ai (m.next+s.2.1.length)) k0
 have a5:=fun K (hK:Only s.1 K)=>vJ k0 hr.fail hK (ai (m.next+s.2.1.length))
 generalize bF (ai (m.next+s.2.1.length)) s.1=c1 at *
 rw [if_neg (by simp [a1])]
 obtain⟨b1,b2,_⟩:=xS a3 a2 (tZ (s:=m.next+s.2.1.length) (by omega)) (b:=b) (by omega) (fun _=>by omega)
 rw [if_pos (a4 a1)] at b2
 refine⟨b1,b2.le (by omega) ?_,by simp,rfl,rfl,fun K hK=>?_,by omega⟩
 ·simp only [List.length_append,List.length_singleton];omega
 ·exact (pq a3 (a5 K hK) (ai (m.next+s.2.1.length)) b).mono (fun x hx=>hx.elim (fun e=>Or.inl e.1) Or.inr)
theorem Laid.last_at {d0:ae} {m:dw} {aj:Nat} {P:List cB} {b:Bool} {s:ae×List Nat×Nat} (h:Laid d0 m aj P b s) (hne:s.2.1≠[]):∃ i,bQ s.1.now (newest s.2.1)=some i∧∃ x∈s.2.1,newest s.2.1=ai x∧x < 1000000∧m.next≤x:=by
 rcases h.held with ⟨e1,_⟩|⟨C,L,k,g1,_⟩
 ·exact absurd e1 hne
 obtain⟨i,i1,_,_⟩:=g1.last
 have hmem:s.2.1.getD C.length 0∈s.2.1:=iT (by rw [g1.len];omega)
 exact⟨i,by rw [mq g1.len];exact i1,_,hmem,mq g1.len,h.valid _ hmem,(h.beside.mem hmem).1⟩
def Ji (K:ByteArray→Prop) (aa:List Nat) (x:ByteArray):Prop:=K x∨∃ s∈aa,x=ai s
theorem Ji.snoc {K:ByteArray→Prop} {aa:List Nat} {s:Nat} {x:ByteArray} (h:Ji K aa x∨x=ai s):Ji K (aa++[s]) x:=by
 rcases h with (h | ⟨y,hy,e⟩) | h
 ·exact Or.inl h
 ·exact Or.inr ⟨y,List.mem_append_left _ hy,e⟩
 ·exact Or.inr ⟨s,by simp,h⟩
structure MP (K:ByteArray→Prop) (B n:Nat) (c:Nat×Nat) (r:(ae×List Nat×Nat)×Int):Prop where
 ok:r.2=0
 rm:Rm r.1.1 B (n+(64 - r.1.2.1.length))
 cnt:(r.1.2.1.length,r.1.2.2)=c
 only:Only r.1.1 (Ji K r.1.2.1)
 few:r.1.2.1.length≤64
theorem YH {d0:ae} {l:bK} {aj:Nat} {P:List cB} {f:cB} {s:ae×List Nat×Nat} {K:ByteArray→Prop} {B n:Nat} (hv:∀ x∈l.m.aa,1≤x∧x < 1000000) (hlt:∀ x∈l.m.aa,x < l.m.next) (hn1:1≤l.m.next) (hn:l.m.next+64≤1000000) (h:Laid d0 l.m aj P false s) (hr:Rm s.1 (B+(ak f).length) (n+(64 - s.2.1.length))) (ho:Only s.1 (Ji K s.2.1)) (hs:s.2.1.length≤64) :
  MP K B n (vK l.size (s.2.1.length,s.2.2) (ak f).length) (jh l (ak f) s)∨((jh l (ak f) s).2=4∧64 < (vK l.size (s.2.1.length,s.2.2) (ak f).length).1):=by
 unfold jh
 by_cases he:s.2.1=[]
 ·rw [if_pos he]
  have hl:Laid d0 l.m aj P true s:=by
   refine⟨h.beside,h.valid,?_⟩
   rcases h.held with h1 | ⟨C,L,k,g1,_⟩
   ·exact Or.inl h1
   ·have:=g1.len;rw [he] at this;simp at this
  have e0:s.2.1.length=0:=by rw [he];rfl
  have hc:vK l.size (s.2.1.length,s.2.2) (ak f).length=(1,(ak f).length):=by unfold vK;rw [if_pos e0]
  rw [hc]
  rcases MO hl (ak f) hr hn1 hn with ⟨q1,q2,q3,q4,q5,q6,q7⟩|⟨q1,q2⟩
  ·refine Or.inl ⟨q1,q2,by rw [q3,q4,e0],?_,by omega⟩
   rw [q5];exact (q6 _ ho).mono (fun x hx=>Ji.snoc hx)
  ·omega
 rw [if_neg he]
 have hpos:s.2.1.length≠0:=fun e=>he (List.eq_nil_of_length_eq_zero e)
 obtain⟨i,i1,x,hx,ex,hxv,Pf⟩:=h.last_at he
 by_cases hfit:lK l s.2.2 (ak f).length=true
 ·rw [if_pos hfit]
  have hc:vK l.size (s.2.1.length,s.2.2) (ak f).length=(s.2.1.length,s.2.2+(ak f).length):=by
   unfold vK
   rw [if_neg hpos]
   exact if_pos (of_decide_eq_true hfit)
  rw [hc]
  obtain⟨b1,b2,_⟩:=xS h.beside.ok hr (nm:=newest s.2.1) (by rw [ex];exact tZ ⟨by omega,hxv⟩) (b:=ak f) (by omega) (fun e=>by rw [i1] at e;cases e)
  rw [if_neg (by rw [i1];simp)] at b2
  refine Or.inl ⟨b1,b2.le (by omega) (Nat.le_refl _),rfl,?_,hs⟩
  exact tK h.beside.ok ho (Or.inr ⟨x,hx,ex⟩) _
 ·rw [if_neg hfit]
  obtain⟨a1,a2,a3⟩:=mK h.beside.ok hr i1
  have a4:=nL ho (newest s.2.1)
  have hc:vK l.size (s.2.1.length,s.2.2) (ak f).length=(s.2.1.length+1,(ak f).length):=by
   unfold vK
   rw [if_neg hpos]
   exact if_neg (of_decide_eq_false (by unfold lK at hfit;simpa using hfit))
  rw [hc]
  rcases xR hv hlt hn1 h he with ⟨q1,q2⟩|⟨q1,q2⟩
  ·rw [aV (by exact q1)]
   rcases MO q2 (ak f) a2 hn1 hn with ⟨q1,q2,q3,q4,q5,q6,q7⟩|⟨q1,q2⟩
   ·refine Or.inl ⟨q1,q2,by rw [q3,q4],?_,Nat.le_trans (Nat.le_of_eq q3) q7⟩
    rw [q5];exact (q6 _ a4).mono (fun x hx=>Ji.snoc hx)
   ·exact Or.inr ⟨q1,by show 64 < s.2.1.length+1;simp only at q2;omega⟩
  ·exact absurd a1 q1
theorem MQ {d0:ae} {l:bK} {aj:Nat} {K:ByteArray→Prop} {B n:Nat} (hv:∀ x∈l.m.aa,1≤x∧x < 1000000) (hlt:∀ x∈l.m.aa,x < l.m.next) (hn1:1≤l.m.next) (hn:l.m.next+64≤1000000):∀ (R P:List cB) (s:ae×List Nat×Nat),Laid d0 l.m aj P false s→(∀ f∈R,jI f∧f.aj=aj)→Rm s.1 (B+(aN R).length) (n+(64 - s.2.1.length))→Only s.1 (Ji K s.2.1)→s.2.1.length≤64 →
  (MP K B n (vL l.size (R.map ak) (s.2.1.length,s.2.2)) (rowsD l (R.map ak) s)∧Laid d0 l.m aj (P++R) false (rowsD l (R.map ak) s).1)∨((rowsD l (R.map ak) s).2=4∧64 < (vL l.size (R.map ak) (s.2.1.length,s.2.2)).1)
 | [],P,s,h,_,hr,ho,hs=>Or.inl ⟨⟨rfl,hr.le (by omega) (Nat.le_refl _),rfl,ho,hs⟩,by rw [List.append_nil];exact h⟩
 | f::R,P,s,h,hR,hr,ho,hs=>by
  have hj:(aN (f::R)).length=(ak f).length+(aN R).length:=by simp [aN]
  rw [hj] at hr
  rw [List.map_cons]
  unfold rowsD
  show (MP K B n (vL l.size (R.map ak) (vK l.size (s.2.1.length,s.2.2) (ak f).length)) _∧_)∨(_∧64 < (vL l.size (R.map ak) (vK l.size (s.2.1.length,s.2.2) (ak f).length)).1)
  rcases YH (f:=f) (B:=B+(aN R).length) hv hlt hn1 hn h (hr.le (by omega) (Nat.le_refl _)) ho hs with q | ⟨q1,q2⟩
  ·rcases Hq hv hlt hn1 h (hR f (by simp)) with ⟨_,p2,_⟩|⟨p1,_⟩
   ·rw [aV q.ok,← q.cnt]
    have:=MQ hv hlt hn1 hn R (P++[f]) _ p2 (fun g hg=>hR g (List.mem_cons_of_mem _ hg)) q.rm q.only q.few
    rw [List.append_assoc] at this
    exact this
   ·exact absurd q.ok p1
  ·rw [bz (by rw [q1];decide)]
   exact Or.inr ⟨q1,Nat.lt_of_lt_of_le q2 (Gp _ _ _)⟩
theorem Tu (z:Nat) {l:List (List UInt8)} (h:l≠[]):1≤(vL z l (0,0)).1:=by
 cases l with
 | nil=>exact absurd rfl h
 | cons b l=>
  refine Nat.le_trans ?_ (Gp z l (vK z (0,0) b.length))
  unfold vK
  exact Nat.le_refl 1
theorem YI {d:ae} {l:bK} {aj:Nat} {K:ByteArray→Prop} {B n:Nat} (hok:aP d) (hm:fM l.m=true) (hn:l.m.next+64≤1000000) (R:List cB) (hR:∀ f∈R,jI f∧f.aj=aj) (hne:R≠[]) (hr:Rm d (B+(aN R).length) (n+64)) (ho:Only d K) :
  MP K B n (vL l.size (R.map ak) (0,0)) (fH l (R.map ak) d)∨((fH l (R.map ak) d).2=4∧64 < (vL l.size (R.map ak) (0,0)).1):=by
 have hv:∀ x∈l.m.aa,1≤x∧x < 1000000:=fun x hx=>⟨(dW hm hx).1,(dW hm hx).2.2⟩
 have hlt:∀ x∈l.m.aa,x < l.m.next:=fun x hx=>(dW hm hx).2.1
 have hn1:1≤l.m.next:=(bH.1 hm).1.2.2.2.2.1
 have h0:Laid d l.m aj [] false (d,[],0):=⟨⟨dJ.refl _ d,hok,rfl⟩,by simp,Or.inl ⟨rfl,rfl⟩⟩
 unfold fH
 rcases MQ (K:=K) (B:=B) (n:=n) hv hlt hn1 hn R [] _ h0 hR hr (fun x hx=>Or.inl (ho x hx)) (by simp) with ⟨q,q2⟩|⟨q1,q2⟩
 case inr=>
  have q1':(rowsD l (R.map ak) (d,[],0)).2≠0:=by rw [q1];decide
  rw [bz q1',bz q1'];exact Or.inr ⟨q1,q2⟩
 rw [aV q.ok]
 have hpos:=Tu l.size (l:=R.map ak) (by simpa using hne)
 have hcnt:=q.cnt
 have hc:(vL l.size (R.map ak) (([]:List Nat).length,0))=vL l.size (R.map ak) (0,0):=rfl
 rw [List.nil_append] at q2
 obtain⟨abB,aaQ,aa8,YJ,aaf⟩:=q
 generalize (rowsD l (R.map ak) (d,[],0)).1=s at *
 have hsn:s.2.1≠[]:=by
  intro e
  have:=congrArg Prod.fst hcnt
  simp only [e,List.length_nil] at this
  rw [← this] at hpos;simp at hpos
 rw [if_neg hsn,aV rfl]
 obtain⟨i,i1,_⟩:=q2.last_at hsn
 obtain⟨a1,a2,a3⟩:=mK q2.beside.ok aaQ i1
 exact Or.inl ⟨a1,a2,hcnt,nL YJ _,aaf⟩
end Go.Proofs.YtogclkhpbjfadaaGreat
