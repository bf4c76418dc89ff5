/- .. -/
import Derived.Test.YtanhdliaaccacaaGreatUB36
import Derived.Test.YtanhdliaaccacaaGreatUB32
import Derived.Test.YtanhdliaaccacaaGreatUB30
import Derived.Test.YtanhdliaaccacaaGreatUB33
import Derived.Test.YtanhdliaaccacaaGreatUB12
namespace Go.Proofs.YtanhdliaaccacaaGreat
open Go.RowKit
set_option linter.unusedVariables false
set_option maxHeartbeats 64000000
set_option maxRecDepth 100000
section
variable {F0:List Nat} {w0 w:World} {R:List ax}
theorem oG:∀ {vs:List Value} {fs:List cz} {k:Nat} {v:Value} {f:cz},vs[k]?=some v→fs[k]?=some f→(bodiesR vs fs)[k]?=some (nz v f)
 | [],_,_,_,_,h,_=>by simp at h
 | _::_,[],_,_,_,_,h=>by simp at h
 | a::vs,b::fs,0,v,f,h1,h2=>by simp at h1 h2;subst h1 h2;rfl
 | a::vs,b::fs,k+1,v,f,h1,h2=>by
  simp only [List.getElem?_cons_succ] at h1 h2
  show (bodiesR vs fs)[k]?=_
  exact oG h1 h2
theorem DY {a:Option Addr} {n c k:Nat} {fs:List cz} {vs:List Value} {f:cz} {A:Option Addr} {cc m:Nat} (h:In F0 w0 w (ay 86 3 (.slice a n c) fs.length (flatFr fs vs)::(bodiesR vs fs++R))) (hl:vs.length=fs.length) (hf:fs[k]?=some f) (hv:vs[k]?=some (.slice A m cc)) :
  ∃ g,a=some ⟨g,0,none⟩∧LM w g (k * 3) f A cc∧m=f.body.length:=by
 obtain⟨e0,e1,e2⟩:=yx hl hf hv
 obtain⟨F1,h1⟩:=h.get 0 rfl
 obtain⟨g,rfl,c0⟩:=h1.at.2 _ _ e0
 obtain⟨g',hg',c1⟩:=h1.at.2 _ _ e1
 cases hg'
 obtain⟨g',hg',c2⟩:=h1.at.2 _ _ e2
 cases hg'
 have hk:=(List.getElem?_eq_some_iff.1 (oG hv hf)).1
 obtain⟨F2,h2⟩:=h.get (k+1) (A:=nz (.slice A m cc) f) (by rw [List.getElem?_cons_succ,List.getElem?_append_left hk];exact oG hv hf)
 have hm:=(ay.at h2).1
 subst hm
 exact⟨g,rfl,⟨c0,c1,c2,ay.all h2,PW (ay.all h2)⟩,rfl⟩
theorem aar {a:Option Addr} {n c:Nat} {fs:List cz} {vs:List Value} (h:In F0 w0 w (ay 86 3 (.slice a n c) fs.length (flatFr fs vs)::(bodiesR vs fs++R))) (hl:vs.length=fs.length):FrU F0 w0 (ay 86 3 (.slice a n c) fs.length (flatFr fs vs)::(bodiesR vs fs++R)) a fs:=by
 intro k f hf
 obtain⟨v,hv⟩:∃ v,vs[k]?=some v:=⟨vs[k]'(by have:=(List.getElem?_eq_some_iff.1 hf).1;omega),List.getElem?_eq_getElem _⟩
 have hk:=(List.getElem?_eq_some_iff.1 (oG hv hf)).1
 obtain⟨F2,h2⟩:=h.get (k+1) (A:=nz v f) (by rw [List.getElem?_cons_succ,List.getElem?_append_left hk];exact oG hv hf)
 obtain⟨A,cc,rfl,-,-,-⟩:=ay.shape h2
 obtain⟨g,rfl,_,_⟩:=DY h hl hf hv
 refine⟨g,0,A,cc,rfl,fun w' h'=>?_⟩
 obtain⟨g',e,hc,_⟩:=DY h' hl hf hv
 cases e
 rw [Nat.zero_add];exact hc
theorem Jm {α:Type} {r l d:α} {b x:List α}:(r::(b++(l::d::x))).Perm (l::d::r::(b++x)):=by
 have h1:(b++(l::d::x)).Perm (l::d::(b++x)):=(List.perm_middle).trans (List.Perm.cons _ List.perm_middle)
 exact (List.Perm.cons r h1).trans ((List.Perm.swap l r _).trans (List.Perm.cons l (List.Perm.swap d r _)))
variable {sb lb bd dA tb:Nat} {st:eT}
def Jn (sb lb bd:Nat) (r:SD×Int) (F0:List Nat) (w0:World) (R:List ax) (e:Ending) (w':World):Prop:=∃ dA,e=.returned (.int .i64 r.2)∧In F0 w0 w' (vQ sb lb bd dA r.1 R)
theorem Tt {s:SD} {ak:Int} {Fr mD:List cz} {k k0:Nat} (hl:ib s.2.l) (hi:iB s.1 s.2.l Fr k mD k0) (ho:s.1.ops≤98000000) (i0:Nat) (hA:(vQ sb lb bd dA s R)[i0]?=some (iF tb st)) (h:In F0 w0 w (vQ sb lb bd dA s R)) :
  Calls Tryz.prog 48 #[pR sb,.int .i64 ak,pR tb] w (Jn sb lb bd (fq ak st s) F0 w0 R):=by
 obtain⟨X0,x0,D0,d0,Y0,y0,g0⟩:=h.yu
 have c0:w.cell? ⟨sb,0,none⟩=some (aF lb):=cell_of (g0.block 0 rfl) rfl
 have KV:=Lib.hid (qH (h.aL (R1:=[_,_,_,_]) [1,0,2,3] (by decide) rfl))
 have H0:=Lib.hid h
 by_cases hv1:ak < s.2.l.m.ak
 ·have q:decide (ak < (s.2.l.m.ak:Int))=true:=decide_eq_true hv1
  rw [show fq ak st s=(s,10) from by unfold fq;rw [if_pos (Or.inl hv1)]]
  clear h g0 hv1 hA hl hi ho
  go_enter Tryz.func48,Tryz.ntmps48
  go_wp2_with fail
  refine KV.out.mono ?_
  rintro e w1 ⟨rfl,rfl⟩
  clear KV
  go_wp2_with fail
  go_ret
  exact⟨_,rfl,H0.out⟩
 by_cases hv3:3 < ak
 ·have q:decide (ak < (s.2.l.m.ak:Int))=false:=decide_eq_false hv1
  have q3:decide (3 < ak)=true:=decide_eq_true hv3
  rw [show fq ak st s=(s,10) from by unfold fq;rw [if_pos (Or.inr hv3)]]
  clear h g0 hv1 hv3 hA hl hi ho
  go_enter Tryz.func48,Tryz.ntmps48
  go_wp2_with fail
  refine KV.out.mono ?_
  rintro e w1 ⟨rfl,rfl⟩
  clear KV
  go_wp2_with fail
  go_ret
  exact⟨_,rfl,H0.out⟩
 have q:decide (ak < (s.2.l.m.ak:Int))=false:=decide_eq_false hv1
 have q3:decide (3 < ak)=false:=decide_eq_false hv3
 have hlv:=(bQ.1 hl.2.2).1
 have hvk:di ak=true:=by unfold di;simp;omega
 have hok:gm st:=by
  obtain⟨F,dm,fm,bv,hok,_⟩:=h.get i0 hA
  exact hok
 have KR:=Lib.hid (Tq hvk i0 hA h)
 have hrows:=rows_ok hok hvk
 have hrl:(dR ak st).length≤1000:=by
  have:=rq hok
  simp only [dR,List.length_map];omega
 have hinv:=Dr hi ak.toNat (dR ak st) hrows
 have TN:(ak.toNat:Int)=ak:=by omega
 have hlk:ib (fZ ak st s).1.2:=by
  have hm:fJ (fZ ak st s).1.2.m=true:=by
   rcases hinv.2 with ⟨_,_,_,_,g⟩|⟨_,⟨_,_,g⟩|⟨_,_,g⟩⟩
   ·exact g.now.1
   ·exact g.now.1
   ·exact g.now.1
  have hsz:(fZ ak st s).1.2.size=s.2.l.size:=hinv.1
  exact⟨by rw [hsz];exact hl.1,by rw [hsz];exact hl.2.1,hm⟩
 have hS:fq ak st s=(((fZ ak st s).1.1,⟨(fZ ak st s).1.2,if s.2.l.m.aa=(fZ ak st s).1.2.m.aa then s.2.st else eG ak st,if (fZ ak st s).2=0 then eG ak st else s.2.sure⟩),(fZ ak st s).2):=by unfold fq;rw [if_neg (by omega)]
 have HSW:Hid (∀ w' (R':List ax) (a:Option Addr) (c:Nat),In F0 w0 w' (eH lb bd s.2.l::bJ bd s.1::R')→FrU F0 w0 R' a (dR ak st)→Calls Tryz.prog 105 #[aF lb,.int .i64 ak,.slice a (dR ak st).length c] w' (oF lb bd (fZ ak st s) F0 w0 R')):=Lib.hid (fun w' R' a c h' hu=>by
  have:=YH (c:=c) (ak:=ak.toNat) h' hl (by omega) (by omega) hu (fun f hf=>(hrows f hf).1) hrl
  rw [TN] at this
  exact this)
 have hsn:s.2.l.m.aa.length≤1000000:=by have:=hlv.2.2.2.1;omega
 generalize fZ ak st s=r at *
 have iM:Hid (∀ u,(if r.2=0 then eG ak st else s.2.sure)=u→∀ t,(if s.2.l.m.aa=r.1.2.m.aa then s.2.st else eG ak st)=t→fq ak st s=((r.1.1,⟨r.1.2,t,u⟩),r.2)):=Lib.hid (fun u hu t ht=>by rw [hS,ht,hu])
 have Py:=Lib.hid hlk
 have PD:=Lib.hid hsn
 have HL:=Lib.hid hl
 clear h g0 hA hl hi ho hlv hvk hok hrows hrl hinv TN hlk hS hsn hv1 hv3 H0
 go_enter Tryz.func48,Tryz.ntmps48
 go_wp2_with fail
 refine KV.out.mono ?_
 rintro e w1 ⟨rfl,rfl⟩
 clear KV
 go_wp2_with fail
 refine KR.out.mono ?_
 rintro e w2 ⟨fa,fc,mb,rfl,g2⟩
 obtain⟨X,x,D,d,F,f,g3⟩:=(g2.aL (R1:=[_,_,_,_,_,_]) [2,0,1,3,4,5] (by decide) rfl).yu
 have c1:w2.cell? ⟨sb,0,none⟩=some (aF lb):=cell_of (g3.block 0 rfl) rfl
 have K2:=Lib.hid (BX HL.out (g3.aL (R1:=[_,_,_,_,_,_,_,_,_]) [6,0,1,2,3,4,5,7,8] (by decide) rfl))
 clear g2 g3 KR c0
 go_wp2_with fail
 refine K2.out.mono ?_
 rintro e w3 ⟨wa,wc,rfl,g4⟩
 have c2:w3.cell? ⟨sb,0,none⟩=some (aF lb):=cell_of (g4.block 2 rfl) rfl
 obtain⟨vs,hvs,g6⟩:=(g4.aL (R1:=[_,_,_,_,_,_,_,_,_,_]) [6,1,8,0,2,3,4,5,7,9] (by decide) rfl).FV
 have g7:=g6.perm Jm
 have K3:=Lib.hid (HSW.out w3 _ fa fc g7 (aar g7.drop.drop hvs))
 clear g4 g6 g7 K2 c1 HSW
 go_wp2_with fail
 refine K3.out.mono ?_
 rintro e w4 ⟨rfl,g8⟩
 have g9:=(In.mid (bodiesR vs (dR ak st)) (g8.perm Jm.symm)).drop
 have c3:w4.cell? ⟨sb,0,none⟩=some (aF lb):=cell_of (g9.block 3 rfl) rfl
 clear g8 K3 c2 hvs
 by_cases he:r.2=0
 ·rw [he]
  have HZ:=Lib.hid he
  have K4:=Lib.hid (uC (g9.aL (R1:=[_,_,_,_,_,_,_,_,_]) [7,0,1,2,3,4,5,6,8] (by decide) rfl))
  clear g9 he
  go_wp2_with fail
  refine K4.out.mono ?_
  rintro e w5 ⟨A1,a1,D1,d1,F1,f1,rfl,g10⟩
  have Q1:=Lib.hid (BU (g10.block 7 rfl) 2 4 (Nat.le_refl 6))
  have g11:=g10.ku [.int .i64 (eG ak st).gen,.slice A1 (eG ak st).au.length a1,.slice D1 (eG ak st).bL.length d1,.slice F1 (eG ak st).bS.length f1] 2 (b:=sb) (T:=96) (C:=IZ lb dA s.2.sure.gen (.slice X s.2.sure.au.length x) (.slice D s.2.sure.bL.length d) (.slice F s.2.sure.bS.length f)) 7 rfl
  have TL:Hid (In F0 w0 (w5.setCells sb 2 [.int .i64 (eG ak st).gen,.slice A1 (eG ak st).au.length a1,.slice D1 (eG ak st).bL.length d1,.slice F1 (eG ak st).bS.length f1]) (eH lb bd r.1.2::bJ bd r.1.1::za (.slice wa s.2.l.m.aa.length wc) s.2.l.m.aa::Cells sb (IZ lb dA (eG ak st).gen (.slice A1 (eG ak st).au.length a1) (.slice D1 (eG ak st).bL.length d1) (.slice F1 (eG ak st).bS.length f1)) 96::gq (.slice A1 (eG ak st).au.length a1) (eG ak st).au::xA (.slice D1 (eG ak st).bL.length d1) (eG ak st).bL::FM (.slice F1 (eG ak st).bS.length f1) (eG ak st).bS::iF mb (eG ak st)::iF dA s.2.st::R)):=Lib.hid (g11.aL (R1:=[_,_,_,_,_,_,_,_,_,_,_,_]) [4,5,6,7,0,1,2,3,11] (by decide) rfl)
  clear g10 g11 K4 c3
  have e0:(w5.setCells sb 2 [.int .i64 (eG ak st).gen,.slice A1 (eG ak st).au.length a1,.slice D1 (eG ak st).bL.length d1,.slice F1 (eG ak st).bS.length f1]).cell? ⟨sb,0,none⟩=some (aF lb):=cell_of (TL.out.block 3 rfl) rfl
  have K6:=Lib.hid (BX Py.out TL.out)
  clear TL
  go_wp2_with (refine wpList_store_mid (op:=⟨none,Op.store 26 (.tmp 58) (.tmp 56),_,_,_,_⟩) (by rfl) 26 (.tmp 58) (.tmp 56) rfl sb 2 #[.int .i64 (eG ak st).gen,.slice A1 (eG ak st).au.length a1,.slice D1 (eG ak st).bL.length d1,.slice F1 (eG ak st).bS.length f1] (by rfl) (by rfl) Q1.out (by kernel_rfl) (oC _ _ _ _ _ _ _ _ _ _) ?_)
  refine K6.out.mono ?_
  rintro e w8 ⟨ya,yc,rfl,g8⟩
  have K7:=Lib.hid (WO (l1:=s.2.l.m.aa) (l2:=r.1.2.m.aa) (A1:=wa) (A2:=ya) (c1:=wc) (c2:=yc) (fun w' h'=>by obtain⟨F',r'⟩:=h'.get 3 rfl;exact r'.all) (fun w' h'=>by obtain⟨F',r'⟩:=h'.get 0 rfl;exact r'.all) PD.out g8)
  clear g8 K6 e0
  go_wp2_with fail
  refine K7.out.mono ?_
  rintro e w9 ⟨rfl,g9⟩
  by_cases hseg:s.2.l.m.aa=r.1.2.m.aa
  ·rw [show decide (s.2.l.m.aa=r.1.2.m.aa)=true from decide_eq_true hseg]
   have G:Hid (In F0 w0 w9 (vQ sb lb bd dA (r.1.1,⟨r.1.2,s.2.st,eG ak st⟩) R)):=Lib.hid (In.lY (s:=eG ak st) (lb:=lb) (dA:=dA) (g9.aL (R1:=[_,_,_,_,_,_,_,_,_,_]) [4,5,6,7,1,2,9] (by decide) rfl))
   have HE:=Lib.hid (iM.out _ (if_pos HZ.out) _ (if_pos hseg))
   clear g9 K7 hseg
   go_wp2_with fail
   go_ret
   exact⟨_,by rw [HE.out];show _=Ending.returned (.int .i64 r.2);rw [HZ.out];rfl,by rw [HE.out];exact G.out⟩
  ·rw [show decide (s.2.l.m.aa=r.1.2.m.aa)=false from decide_eq_false hseg]
   have e1:w9.cell? ⟨sb,1,none⟩=some (pR dA):=cell_of (g9.block 4 rfl) rfl
   have f1':w9.frozen? ⟨sb,1,none⟩=false:=aK (g9.block 4 rfl)
   have g10:=g9.put (b:=sb) (T:=96) 4 rfl 1 (pR mb)
   have G:Hid (In F0 w0 (w9.setCell ⟨sb,1,none⟩ (pR mb)) (vQ sb lb bd mb (r.1.1,⟨r.1.2,eG ak st,eG ak st⟩) R)):=Lib.hid (In.lY (s:=eG ak st) (lb:=lb) (dA:=mb) (g10.aL (R1:=[_,_,_,_,_,_,_,_,_,_]) [4,5,6,7,1,2,8] (by decide) rfl))
   have HE:=Lib.hid (iM.out _ (if_pos HZ.out) _ (if_neg hseg))
   clear g9 g10 K7 hseg
   go_wp2_with fail
   go_ret
   exact⟨_,by rw [HE.out];show _=Ending.returned (.int .i64 r.2);rw [HZ.out];rfl,by rw [HE.out];exact G.out⟩
 ·have q0:(r.2 == 0)=false:=by rw [beq_eq_false_iff_ne];exact he
  have HZ:=Lib.hid he
  have TL:Hid (In F0 w0 w4 (eH lb bd r.1.2::bJ bd r.1.1::za (.slice wa s.2.l.m.aa.length wc) s.2.l.m.aa::Cells sb (IZ lb dA s.2.sure.gen (.slice X s.2.sure.au.length x) (.slice D s.2.sure.bL.length d) (.slice F s.2.sure.bS.length f)) 96::gq (.slice X s.2.sure.au.length x) s.2.sure.au::xA (.slice D s.2.sure.bL.length d) s.2.sure.bL::FM (.slice F s.2.sure.bS.length f) s.2.sure.bS::iF mb (eG ak st)::iF dA s.2.st::R)):=Lib.hid g9
  clear g9 he c3
  have e0:w4.cell? ⟨sb,0,none⟩=some (aF lb):=cell_of (TL.out.block 3 rfl) rfl
  have K6:=Lib.hid (BX Py.out TL.out)
  clear TL
  go_wp2_with fail
  refine K6.out.mono ?_
  rintro e w8 ⟨ya,yc,rfl,g8⟩
  have K7:=Lib.hid (WO (l1:=s.2.l.m.aa) (l2:=r.1.2.m.aa) (A1:=wa) (A2:=ya) (c1:=wc) (c2:=yc) (fun w' h'=>by obtain⟨F',r'⟩:=h'.get 3 rfl;exact r'.all) (fun w' h'=>by obtain⟨F',r'⟩:=h'.get 0 rfl;exact r'.all) PD.out g8)
  clear g8 K6 e0
  go_wp2_with fail
  refine K7.out.mono ?_
  rintro e w9 ⟨rfl,g9⟩
  by_cases hseg:s.2.l.m.aa=r.1.2.m.aa
  ·rw [show decide (s.2.l.m.aa=r.1.2.m.aa)=true from decide_eq_true hseg]
   have G:Hid (In F0 w0 w9 (vQ sb lb bd dA (r.1.1,⟨r.1.2,s.2.st,s.2.sure⟩) R)):=Lib.hid (In.lY (s:=s.2.sure) (lb:=lb) (dA:=dA) (g9.aL (R1:=[_,_,_,_,_,_,_,_,_,_]) [4,5,6,7,1,2,9] (by decide) rfl))
   have HE:=Lib.hid (iM.out _ (if_neg HZ.out) _ (if_pos hseg))
   clear g9 K7 hseg
   go_wp2_with fail
   go_ret
   exact⟨_,by rw [HE.out];rfl,by rw [HE.out];exact G.out⟩
  ·rw [show decide (s.2.l.m.aa=r.1.2.m.aa)=false from decide_eq_false hseg]
   have e1:w9.cell? ⟨sb,1,none⟩=some (pR dA):=cell_of (g9.block 4 rfl) rfl
   have f1':w9.frozen? ⟨sb,1,none⟩=false:=aK (g9.block 4 rfl)
   have g10:=g9.put (b:=sb) (T:=96) 4 rfl 1 (pR mb)
   have G:Hid (In F0 w0 (w9.setCell ⟨sb,1,none⟩ (pR mb)) (vQ sb lb bd mb (r.1.1,⟨r.1.2,eG ak st,s.2.sure⟩) R)):=Lib.hid (In.lY (s:=s.2.sure) (lb:=lb) (dA:=mb) (g10.aL (R1:=[_,_,_,_,_,_,_,_,_,_]) [4,5,6,7,1,2,8] (by decide) rfl))
   have HE:=Lib.hid (iM.out _ (if_neg HZ.out) _ (if_neg hseg))
   clear g9 g10 K7 hseg
   go_wp2_with fail
   go_ret
   exact⟨_,by rw [HE.out];rfl,by rw [HE.out];exact G.out⟩
end
def nD (v:Int) (s:eT):Prop:=(∀ f∈s.bS,nG v f=f)∧∀ b∈s.au,eU v b=b
theorem nD.eq {v:Int} {s:eT} (h:nD v s):eG v s=s:=by
 obtain⟨g,b,d,f⟩:=s
 unfold eG
 have h1:b.map (eU v)=b:=(List.map_congr_left h.2).trans (List.map_id' _)
 have h2:f.map (nG v)=f:=(List.map_congr_left h.1).trans (List.map_id' _)
 simp only [h1,h2]
theorem nD.zero (v:Int):nD v aH:=⟨by simp [aH],by simp [aH]⟩
theorem DZ (v:Int) (f:Fl):nG v (nG v f)=nG v f:=by
 unfold nG
 simp only
 congr 1
 ·split <;> rfl
 ·split <;> rfl
theorem Ea (v:Int) (b:Bk):eU v (eU v b)=eU v b:=by
 unfold eU
 split <;> simp_all
theorem nD.apply {v:Int} {s:eT} (h:nD v s) (hv:di v=true) (r:Rec):nD v (aX s (dB r v)).1:=by
 have hk:=qR (r:=r) hv
 by_cases h0:(aX s (dB r v)).2=0
 case neg=>rw [yO h0];exact h
 rw [Ar h0]
 have hfl:r.kind=1→nG v (dB r v).fl=(dB r v).fl:=by
  intro h1
  unfold dB
  rw [if_neg (by simp [hv])]
  simp only [if_pos h1]
  exact DZ v _
 have hbk:∀ b∈(dB r v).au,eU v b=b:=by
  unfold dB
  rw [if_neg (by simp [hv])]
  intro b hb
  simp only [List.mem_map] at hb
  obtain⟨x,_,rfl⟩:=hb
  exact Ea v x
 unfold lF
 rw [hk]
 split
 ·rename_i h1
  exact⟨fun f hf=>by
   rcases nU hf with rfl | hf
   ·exact hfl h1
   ·exact h.1 f hf,h.2⟩
 ·split
  ·exact⟨fun f hf=>h.1 f (List.mem_filter.1 hf).1,h.2⟩
  ·split
   ·exact⟨h.1,hbk⟩
   ·repeat' split
    all_goals exact h
theorem Pb {s:SD} {Fr:List cz} {k:Nat} {mD:List cz} {k0:Nat} (h:gH s Fr k mD k0) (hf:nD s.2.l.m.ak s.2.st) (r:Rec):nD s.2.l.m.ak (bW r s).1.2.st:=by
 have hv:=h.ak
 have hm:(fG r s).1.2.m.ak=s.2.l.m.ak:=(vC h.log ((fI r s).1.kind:Int) (fI r s).1.body).2.1
 unfold bW
 split
 ·exact hf
 ·split
  ·exact hf
  ·split
   ·exact hf
   ·split
    ·exact hf
    ·show nD _ (aX s.2.st (dB r (fG r s).1.2.m.ak)).1
     rw [hm]
     exact hf.apply hv r
structure Gm (k z:Nat) (v:Int) (s:SD):Prop where
 su:uF 61 k z s
 ak:(s.2.l.m.ak:Int)=v
 fmt:nD v s.2.st
theorem Gm.write {k z:Nat} {v:Int} {s:SD} (h:Gm k z v s) (hk:k < 61) {r:Rec} (wr:nS r):Gm (k+1) z v (bW r s).1:=by
 obtain⟨h1,h2⟩:=h.su.write hk wr
 obtain⟨Fr,kk,g⟩:=h.su.inv
 have hv:=(g.write wr).2.1
 have hf:=Pb g (by rw [h.ak];exact h.fmt) r
 refine⟨h1,by rw [hv];exact h.ak,?_⟩
 rw [h.ak] at hf;exact hf
theorem Gm.start {v:Int} (hv:1≤v∧v≤3) (size:Int):∃ s:SD,createS v size (iU 300000)=(s.1,some s.2,0)∧Gm 0 (sized size) v s:=by
 obtain⟨s,h1,h2,h3,h4,h5⟩:=uF.start 61 (by omega) hv size
 exact⟨s,h1,h2,h5,by rw [h3];exact nD.zero v⟩
theorem gH.fail {s:SD} {Fr:List cz} {k:Nat} {mD:List cz} {k0:Nat} (h:gH s Fr k mD k0) (n:Int):gH (nA s.1 n,s.2) Fr k mD k0:=⟨h.log.fail n,h.st,h.ok,h.oks,h.ne⟩
theorem LX {ak:Nat} {bs:List (List UInt8)} {d:ae} {l:bI} (hl:ib l) (hb:∀ b∈bs,b.length≤5000):(fD ak bs (d,l)).1.1.ops≤d.ops+3 * bs.length+80:=by
 have h1:=kY (d,l)
 have h2:=rM (s:=(d,l)) hl
 by_cases hz:(aY (d,l)).2=0
 ·rw [DT ak bs (d,l) hz]
  obtain⟨h3,h4,_⟩:=DU (ak:=ak) (l:=(aY (d,l)).1.2) (d:=(aY (d,l)).1.1) hb
  have h5:(aY (d,l)).1.2.m.aa.length≤64:=(bQ.1 h2.2.2).1.2.2.2.1
  have h6:=tX (aY (d,l)).1.2.m.aa (swapT ak bs (aY (d,l)).1.2 (aY (d,l)).1.1).1.d
  have h7:=yC (swapT ak bs (aY (d,l)).1.2 (aY (d,l)).1.1).1.aa (swapT ak bs (aY (d,l)).1.2 (aY (d,l)).1.1).1.d
  simp only at h1
  unfold kF
  split
  ·simp only;omega
  split
  ·simp only;omega
  ·simp only;omega
 ·rw [DX hz];simp only at h1;omega
section
variable {F0:List Nat} {w0 w:World} {R:List ax} {sb lb bd dA:Nat}
end
section
variable {W w:World} {R:List ax}
def abt (sb lb bd dA n z:Nat) (v:Int) (W:World) (R:List ax) (i:Value) (wr:World):Prop:=
 ∃ (k:Nat) (s:SD),k≤n∧i=.int .i64 k∧Gm (min k 60) z v s∧In [] W wr (vQ sb lb bd dA s R)
def aa8 (z:Nat) (v:Int) (W:World) (R:List ax) (e:Ending) (w':World):Prop:=
 ∃ sb lb bd dA s,e=.returned (.tuple #[aF bd,pR sb])∧Gm 60 z v s∧In [] W w' (vQ sb lb bd dA s R)
end
def Only (d:ae) (K:ByteArray→Prop):Prop:=∀ n,bP d.now n≠Option.none→K n
section
variable {d:ae} {K K':ByteArray→Prop}
theorem Only.mono (h:Only d K) (hk:∀ n,K n→K' n):Only d K':=fun n hn=>hk n (h n hn)
theorem nR (h:Only d K) (n:ByteArray):Only (aW d n).1 K:=by
 rcases iX d n with ⟨e,h1,_⟩|⟨_,i,_,h1⟩ <;> (rw [h1];exact h)
theorem Tu (h:Only d K):Only (bF d).1 K:=by
 rcases gF d with h1 | ⟨_,h1⟩ <;> (rw [h1];exact h)
theorem oW (hok:aO d) (h:Only d K) (n:ByteArray) (b:List UInt8):Only (aI d n b).1 (fun x=>K x∨x=n):=by
 rcases gp d n b with ⟨e,h1,_⟩|⟨_,_,_,⟨i,h4,h5⟩|⟨h4,h5⟩⟩
 ·rw [h1];exact fun x hx=>Or.inl (h x hx)
 ·rw [h5];exact fun x hx=>Or.inl (h x hx)
 ·rw [h5]
  intro x hx
  have e:=qd hok.now.row n x d.files.length
  by_cases hc:x=n
  ·exact Or.inr hc
  ·refine Or.inl (h x (fun e0=>hx ?_))
   show bP (iN d.now n d.files.length) x=_
   rw [e,if_neg hc];exact e0
theorem tY (hok:aO d) (h:Only d K) {n:ByteArray} (hn:K n) (b:List UInt8):Only (aI d n b).1 K:=
 (oW hok h n b).mono (fun x hx=>hx.elim id (fun e=>by rw [e];exact hn))
theorem zi (hok:aO d) (hf:d.fail=0) (h:Only d K) (n:ByteArray):Only (cO d n).1 (fun x=>K x∧x≠n):=by
 unfold cO
 rw [if_neg (kW hf)]
 cases e:bP d.now n with
 | none=>exact fun x hx=>⟨h x hx,fun e'=>hx (by rw [e'];exact e)⟩
 | some i=>
  intro x hx
  have e2:=nX hok.now.row n x
  by_cases hc:x=n
  ·refine absurd ?_ hx
   show bP (ed d.now n) x=_
   rw [e2,if_pos hc]
  ·refine⟨h x (fun e0=>hx ?_),hc⟩
   show bP (ed d.now n) x=_
   rw [e2,if_neg hc];exact e0
theorem vR (hok:aO d) (hf:d.fail=0) (h:Only d K) (n:ByteArray):Only (bH n d).1 (fun x=>K x∧x≠n):=by
 unfold bH
 by_cases hs:(bP d.now n).isSome=true
 ·rw [if_pos hs];exact zi hok hf h n
 ·rw [if_neg hs]
  exact fun x hx=>⟨h x hx,fun e=>hs (by rw [← e];exact Option.isSome_iff_ne_none.2 hx)⟩
theorem Jo (hok:aO d) (hf:d.fail=0) (h:Only d K) {a b:ByteArray} (hab:a≠b) (h0:(bZ d a b).2=0):Only (bZ d a b).1 (fun x=>(K x∨x=b)∧x≠a):=by
 rcases jw d a b with ⟨e,h1,he⟩|⟨_,⟨i,hi⟩,hb,⟨e,_⟩|⟨_,h1⟩⟩
 ·rw [h1] at h0;simp only at h0;omega
 ·exact absurd e hab
 ·rw [h1]
  intro x hx
  have e0:(bu (aD d) (.ren a b)).now=ed (iN d.now b i) a:=by
   show (match bP d.now a with | some f=>ed (iN d.now b f) a | Option.none=>d.now)=_
   rw [hi]
  rw [e0,nX (mq hok.now.row b i) a x] at hx
  by_cases hc:x=a
  ·rw [if_pos hc] at hx;exact absurd rfl hx
  rw [if_neg hc,qd hok.now.row b x i] at hx
  refine⟨?_,hc⟩
  by_cases hb':x=b
  ·exact Or.inr hb'
  ·rw [if_neg hb'] at hx;exact Or.inl (h x hx)
theorem LY {B n:Nat} (hok:aO d) {m:cZ} (hm:fJ m=true) (h:Rm d (B+278) (n+1)) (ho:Only d K):Only (eY m d).1 (fun x=>(K x∨x=bG)∧x≠az):=by
 have hl:=Mv hm
 obtain⟨a1,a2⟩:=sW h az
 have a3:=jo hok az
 have a4:=jh (n:=az) hok
 have a5:=vR hok h.fail ho az
 have hfresh:eY m d=bM (bM (bM (bH az d) (fun d=>aI d az (aj (dP m)))) (fun d=>aW d az)) (fun d=>bZ d az bG):=rfl
 generalize bH az d=r1 at *
 rw [aT a1] at hfresh
 obtain⟨b1,b2,_⟩:=xQ a3 a2 (nm:=az) (by decide) (b:=aj (dP m)) (by omega) (fun _=>by omega)
 have b3:=gV a3 az (aj (dP m))
 have b4:=jL a3 (b:=aj (dP m)) (a4 a1) b1
 have b5:=oW a3 a5 az (aj (dP m))
 rw [if_pos (a4 a1)] at b2
 generalize aI r1.1 az (aj (dP m))=r2 at *
 rw [aT b1] at hfresh
 obtain⟨i,i1,_,_⟩:=b4
 obtain⟨c1,c2,c4⟩:=mP b3 b2 i1
 have c3:=gG b3 az
 have c5:=nR b5 az
 generalize aW r2.1 az=r3 at *
 rw [aT c1] at hfresh
 rw [hfresh]
 obtain⟨e1,e2⟩:=Dm c3 c2 (a:=az) (b:=bG) (i:=i) (by rw [c4];exact i1) (by decide) (fun e=>je e.symm)
 refine (Jo c3 c2.fail c5 (fun e=>je e.symm) e1).mono (fun x hx=>⟨?_,hx.2⟩)
 rcases hx.1 with (h1 | h1) | h1
 ·exact Or.inl h1.1
 ·exact absurd h1 hx.2
 ·exact Or.inr h1
theorem tZ {B n:Nat} (hok:aO d) {m:cZ} (hm:fJ m=true) (h:Rm d (B+278) (n+1)) (ho:Only d K) (hk:K bG):Only (aG m d).1 K:=by
 have h1:=LY hok hm h ho
 obtain⟨a1,a2⟩:=Ie hok hm h
 unfold aG
 rw [if_neg (by simp [hm]),if_neg (by simp [a1])]
 exact (Tu h1).mono (fun x hx=>hx.1.elim id (fun e=>by rw [e];exact hk))
theorem Cc {B n s:Nat} (hok:aO d) (hs:1≤s∧s < 1000000) (h:Rm d B (n+1)) (ho:Only d K):Only (dM s d).1 (fun x=>K x∨x=ai s):=by
 obtain⟨a1,a2⟩:=sW h (ai s)
 have a3:=jo hok (ai s)
 have a5:=vR hok h.fail ho (ai s)
 have hb:dM s d=bM (bH (ai s) d) (fun d=>aI d (ai s) []):=rfl
 generalize bH (ai s) d=r1 at *
 rw [aT a1] at hb
 rw [hb]
 exact (oW a3 a5 (ai s) []).mono (fun x hx=>hx.elim (fun e=>Or.inl e.1) Or.inr)
end
theorem Pf {d:ae} {l:bI} {Fr:List cz} {s B n:Nat} (h:eZ d l.m Fr s) (hr:Rm d (B+278) (n+2)) (hs:l.m.aa.length < 64) (hn:l.m.next < 1000000) (ho:Only d (Mine l.m.aa)) :
  Only (gY (d,l)).1.1 (Mine (gM l).aa):=by
 obtain⟨_,hm1⟩:=bQ.1 h.now.1
 have hn1:=(bQ.1 h.now.1).1.2.2.2.2.1
 have hmt:fJ (gM l)=true:=by
  obtain⟨⟨v1,v2,s1,s2,n1,n2⟩,hu⟩:=bQ.1 h.now.1
  refine bQ.2 ⟨⟨v1,v2,by simp [gM],by simp [gM];omega,by simp [gM],by simp [gM];omega⟩,?_⟩
  refine EC ?_ (fun x hx=>?_)
  ·refine List.pairwise_append.2 ⟨qh h.now.1,List.pairwise_singleton _ _,fun a ha b hb=>?_⟩
   simp at hb;subst hb
   exact (dY h.now.1 ha).2.1
  ·rcases List.mem_append.1 hx with hx | hx
   ·have:=dY h.now.1 hx;exact⟨by omega,by simp [gM];omega⟩
   ·simp at hx;subst hx;exact⟨by omega,by simp [gM]⟩
 unfold gY
 simp only
 rw [if_neg (by omega)]
 have e1:gW (fun d=>aW d (bz l)) (d,l)=(((aW d (bz l)).1,l),(aW d (bz l)).2):=rfl
 rw [e1]
 obtain⟨C,L,k,g1,rfl,g3⟩:=h.now.2.2
 obtain⟨i,i1,_,_⟩:=g1.last
 rw [← jJ g1.len] at i1
 obtain⟨a1,a2,a3⟩:=mP h.ok hr i1
 have a4:=gG h.ok (bz l)
 have a5:=nR ho (bz l)
 generalize aW d (bz l)=r1 at *
 have a1':(((r1.1,l),r1.2):DL×Int).2=0:=a1
 rw [aT a1']
 have e2:gW (dM l.m.next) (r1.1,l)=(((dM l.m.next r1.1).1,l),(dM l.m.next r1.1).2):=rfl
 rw [e2]
 obtain⟨b1,b2,b3,b4⟩:=wK a4 ⟨hn1,hn⟩ (n:=n+1) a2
 have b5:=Cc a4 ⟨hn1,hn⟩ (n:=n+1) a2 a5
 generalize dM l.m.next r1.1=r2 at *
 have b1':(((r2.1,l),r2.2):DL×Int).2=0:=b1
 rw [aT b1']
 have e3:gW (fun d=>aW d (ai l.m.next)) (r2.1,l)=(((aW r2.1 (ai l.m.next)).1,l),(aW r2.1 (ai l.m.next)).2):=rfl
 rw [e3]
 obtain⟨j,j1,_,_⟩:=b4
 obtain⟨c1,c2,c3⟩:=mP b3 b2 j1
 have c4:=gG b3 (ai l.m.next)
 have c5:=nR b5 (ai l.m.next)
 generalize aW r2.1 (ai l.m.next)=r3 at *
 have c1':(((r3.1,l),r3.2):DL×Int).2=0:=c1
 rw [aT c1']
 have c6:Only r3.1 (Mine (gM l).aa):=c5.mono (fun x hx=>by
  rcases hx with (hx | ⟨s,hs,hx⟩) | hx
  ·exact Or.inl hx
  ·exact Or.inr ⟨s,by simp [gM,hs],hx⟩
  ·exact Or.inr ⟨l.m.next,by simp [gM],hx⟩)
 have d3:=tZ c4 hmt c2 c6 (Or.inl rfl)
 unfold dD
 simp only
 exact d3
theorem Jp {d:ae} {l:bI} {Fr:List cz} {s B n:Nat} (h:eZ d l.m Fr s) (hl:l.loose=false) (kind:Int) (body:List UInt8) (hr:Rm d (B+278+(16+body.length)) (n+2)) (hs:l.m.aa.length < 64) (hn:l.m.next < 1000000) (hp:gu kind l.m.ak body.length=0) (ho:Only d (Mine l.m.aa)) :
  Only (bY kind body (d,l)).1.1 (Mine (bY kind body (d,l)).1.2.m.aa):=by
 have hset:aY (d,l)=((d,l),0):=by unfold aY;simp [hl]
 unfold bY
 simp only
 rw [if_neg (by simp [hp]),hset,aT (r:=((d,l),(0:Int))) rfl]
 simp only
 have hfl:(aj ⟨kind.toNat,l.m.ak,body⟩).length=16+body.length:=dJ _
 generalize Ib:(if lI l (bytesD d (bz l)) (aj ⟨kind.toNat,l.m.ak,body⟩).length=true then ((d,l),(0:Int)) else gY (d,l))=r2
 have h5:r2.2=0∧Only r2.1.1 (Mine r2.1.2.m.aa)∧∃ zt s',eZ r2.1.1 r2.1.2.m zt s':=by
  rw [← Ib]
  split
  ·exact⟨rfl,ho,Fr,s,h⟩
  ·obtain⟨t1,t2,t3⟩:=Mw (B:=B+(16+body.length)) (n:=n) h (by rw [show B+(16+body.length)+278=B+278+(16+body.length) by omega];exact hr) hs hn
   have t4:=Pf (B:=B+(16+body.length)) (n:=n) h (by rw [show B+(16+body.length)+278=B+278+(16+body.length) by omega];exact hr) hs hn ho
   obtain⟨_,u2,u3⟩:=AY h hl
   refine⟨t1,by rw [t3];exact t4,?_⟩
   rcases u3 with ⟨_,_,u6⟩|⟨u4,_⟩
   ·exact⟨_,_,u6⟩
   ·exact absurd t1 u4
 clear Ib
 obtain⟨h6,h7,zt,s',h11⟩:=h5
 rw [aT h6]
 unfold gW
 simp only
 obtain⟨C,L,k,g1,_,g3⟩:=h11.now.2.2
 refine tY h11.ok h7 ?_ _
 rw [jJ g1.len]
 exact Or.inr ⟨_,iO (by rw [g1.len];omega),rfl⟩
/-! ### How many segments rows make -/
def vS (z:Nat) (s:Nat×Nat) (b:Nat):Nat×Nat:=if s.1=0 then (1,b) else if s.2=0∨s.2+b≤z then (s.1,s.2+b) else (s.1+1,b)
def yF (z:Nat) (l:List (List UInt8)) (s:Nat×Nat):Nat×Nat:=l.foldl (fun a b=>vS z a b.length) s
theorem VY (z:Nat) (s:Nat×Nat) (b:Nat):s.1≤(vS z s b).1:=by
 unfold vS
 split
 ·simp only;omega
 ·split <;> simp only <;> omega
theorem Gn (z:Nat):∀ (l:List (List UInt8)) (s:Nat×Nat),s.1≤(yF z l s).1
 | [],s=>Nat.le_refl _
 | b::l,s=>Nat.le_trans (VY z s b.length) (Gn z l _)
theorem Nh {d0:ae} {m:cZ} {P:List cz} {ak:Nat} {s:ae×List Nat×Nat} {B n:Nat} (h:Laid d0 m ak P true s) (b:List UInt8) (hr:Rm s.1 (B+b.length) (n+(64 - s.2.1.length))) (hn1:1≤m.next) (hn:m.next+64≤1000000) :
  ((dL m.next b s).2=0∧Rm (dL m.next b s).1.1 B (n+(64 - (dL m.next b s).1.2.1.length))∧(dL m.next b s).1.2.1.length=s.2.1.length+1∧(dL m.next b s).1.2.2=b.length∧(dL m.next b s).1.2.1=s.2.1++[m.next+s.2.1.length]∧(∀ K,Only s.1 K→Only (dL m.next b s).1.1 (fun x=>K x∨x=ai (m.next+s.2.1.length)))∧s.2.1.length < 64) ∨
  ((dL m.next b s).2=4∧64≤s.2.1.length):=by
 unfold dL
 by_cases h64:64≤s.2.1.length
 ·rw [if_pos h64];exact Or.inr ⟨rfl,h64⟩
 rw [if_neg h64]
 left
 have k0:=h.beside.ok
 obtain⟨a1,a2⟩:=sW hr (ai (m.next+s.2.1.length))
 have a3:=jo k0 (ai (m.next+s.2.1.length))
 have a4:=jh (n:=ai (m.next+s.2.1.length)) k0
 have a5:=fun K (hK:Only s.1 K)=>vR k0 hr.fail hK (ai (m.next+s.2.1.length))
 generalize bH (ai (m.next+s.2.1.length)) s.1=c1 at *
 rw [if_neg (by simp [a1])]
 obtain⟨b1,b2,_⟩:=xQ a3 a2 (uo (s:=m.next+s.2.1.length) (by omega)) (b:=b) (by omega) (fun _=>by omega)
 rw [if_pos (a4 a1)] at b2
 refine⟨b1,b2.le (by omega) ?_,by simp,rfl,rfl,fun K hK=>?_,by omega⟩
 ·simp only [List.length_append,List.length_singleton];omega
 ·exact (oW a3 (a5 K hK) (ai (m.next+s.2.1.length)) b).mono (fun x hx=>hx.elim (fun e=>Or.inl e.1) Or.inr)
theorem Laid.last_at {d0:ae} {m:cZ} {ak:Nat} {P:List cz} {b:Bool} {s:ae×List Nat×Nat} (h:Laid d0 m ak P b s) (hne:s.2.1≠[]):∃ i,bP s.1.now (newest s.2.1)=some i∧∃ x∈s.2.1,newest s.2.1=ai x∧x < 1000000∧m.next≤x:=by
 rcases h.held with ⟨e1,_⟩|⟨C,L,k,g1,_⟩
 ·exact absurd e1 hne
 obtain⟨i,i1,_,_⟩:=g1.last
 have hmem:s.2.1.getD C.length 0∈s.2.1:=iO (by rw [g1.len];omega)
 exact⟨i,by rw [mE g1.len];exact i1,_,hmem,mE g1.len,h.valid _ hmem,(h.beside.mem hmem).1⟩
def Jq (K:ByteArray→Prop) (aa:List Nat) (x:ByteArray):Prop:=K x∨∃ s∈aa,x=ai s
theorem Jq.snoc {K:ByteArray→Prop} {aa:List Nat} {s:Nat} {x:ByteArray} (h:Jq K aa x∨x=ai s):Jq K (aa++[s]) x:=by
 rcases h with (h | ⟨y,hy,e⟩) | h
 ·exact Or.inl h
 ·exact Or.inr ⟨y,List.mem_append_left _ hy,e⟩
 ·exact Or.inr ⟨s,by simp,h⟩
structure Ni (K:ByteArray→Prop) (B n:Nat) (c:Nat×Nat) (r:(ae×List Nat×Nat)×Int):Prop where
 ok:r.2=0
 rm:Rm r.1.1 B (n+(64 - r.1.2.1.length))
 cnt:(r.1.2.1.length,r.1.2.2)=c
 only:Only r.1.1 (Jq K r.1.2.1)
 few:r.1.2.1.length≤64
theorem YM {d0:ae} {l:bI} {ak:Nat} {P:List cz} {f:cz} {s:ae×List Nat×Nat} {K:ByteArray→Prop} {B n:Nat} (hv:∀ x∈l.m.aa,1≤x∧x < 1000000) (hlt:∀ x∈l.m.aa,x < l.m.next) (hn1:1≤l.m.next) (hn:l.m.next+64≤1000000) (h:Laid d0 l.m ak P false s) (hr:Rm s.1 (B+(aj f).length) (n+(64 - s.2.1.length))) (ho:Only s.1 (Jq K s.2.1)) (hs:s.2.1.length≤64) :
  Ni K B n (vS l.size (s.2.1.length,s.2.2) (aj f).length) (jk l (aj f) s)∨((jk l (aj f) s).2=4∧64 < (vS l.size (s.2.1.length,s.2.2) (aj f).length).1):=by
 unfold jk
 by_cases he:s.2.1=[]
 ·rw [if_pos he]
  have hl:Laid d0 l.m ak P true s:=by
   refine⟨h.beside,h.valid,?_⟩
   rcases h.held with h1 | ⟨C,L,k,g1,_⟩
   ·exact Or.inl h1
   ·have:=g1.len;rw [he] at this;simp at this
  have e0:s.2.1.length=0:=by rw [he];rfl
  have hc:vS l.size (s.2.1.length,s.2.2) (aj f).length=(1,(aj f).length):=by unfold vS;rw [if_pos e0]
  rw [hc]
  rcases Nh hl (aj f) hr hn1 hn with ⟨q1,q2,q3,q4,q5,q6,q7⟩|⟨q1,q2⟩
  ·refine Or.inl ⟨q1,q2,by rw [q3,q4,e0],?_,by omega⟩
   rw [q5];exact (q6 _ ho).mono (fun x hx=>Jq.snoc hx)
  ·omega
 rw [if_neg he]
 have hpos:s.2.1.length≠0:=fun e=>he (List.eq_nil_of_length_eq_zero e)
 obtain⟨i,i1,x,hx,ex,hxv,Pv⟩:=h.last_at he
 by_cases hfit:lI l s.2.2 (aj f).length=true
 ·rw [if_pos hfit]
  have hc:vS l.size (s.2.1.length,s.2.2) (aj f).length=(s.2.1.length,s.2.2+(aj f).length):=by
   unfold vS
   rw [if_neg hpos]
   exact if_pos (of_decide_eq_true hfit)
  rw [hc]
  obtain⟨b1,b2,_⟩:=xQ h.beside.ok hr (nm:=newest s.2.1) (by rw [ex];exact uo ⟨by omega,hxv⟩) (b:=aj f) (by omega) (fun e=>by rw [i1] at e;cases e)
  rw [if_neg (by rw [i1];simp)] at b2
  refine Or.inl ⟨b1,b2.le (by omega) (Nat.le_refl _),rfl,?_,hs⟩
  exact tY h.beside.ok ho (Or.inr ⟨x,hx,ex⟩) _
 ·rw [if_neg hfit]
  obtain⟨a1,a2,a3⟩:=mP h.beside.ok hr i1
  have a4:=nR ho (newest s.2.1)
  have hc:vS l.size (s.2.1.length,s.2.2) (aj f).length=(s.2.1.length+1,(aj f).length):=by
   unfold vS
   rw [if_neg hpos]
   exact if_neg (of_decide_eq_false (by unfold lI at hfit;simpa using hfit))
  rw [hc]
  rcases xP hv hlt hn1 h he with ⟨q1,q2⟩|⟨q1,q2⟩
  ·rw [aT (by exact q1)]
   rcases Nh q2 (aj f) a2 hn1 hn with ⟨q1,q2,q3,q4,q5,q6,q7⟩|⟨q1,q2⟩
   ·refine Or.inl ⟨q1,q2,by rw [q3,q4],?_,Nat.le_trans (Nat.le_of_eq q3) q7⟩
    rw [q5];exact (q6 _ a4).mono (fun x hx=>Jq.snoc hx)
   ·exact Or.inr ⟨q1,by show 64 < s.2.1.length+1;simp only at q2;omega⟩
  ·exact absurd a1 q1
theorem Nj {d0:ae} {l:bI} {ak:Nat} {K:ByteArray→Prop} {B n:Nat} (hv:∀ x∈l.m.aa,1≤x∧x < 1000000) (hlt:∀ x∈l.m.aa,x < l.m.next) (hn1:1≤l.m.next) (hn:l.m.next+64≤1000000):∀ (R P:List cz) (s:ae×List Nat×Nat),Laid d0 l.m ak P false s→(∀ f∈R,ji f∧f.ak=ak)→Rm s.1 (B+(aV R).length) (n+(64 - s.2.1.length))→Only s.1 (Jq K s.2.1)→s.2.1.length≤64 →
  (Ni K B n (yF l.size (R.map aj) (s.2.1.length,s.2.2)) (rowsD l (R.map aj) s)∧Laid d0 l.m ak (P++R) false (rowsD l (R.map aj) s).1)∨((rowsD l (R.map aj) s).2=4∧64 < (yF l.size (R.map aj) (s.2.1.length,s.2.2)).1)
 | [],P,s,h,_,hr,ho,hs=>Or.inl ⟨⟨rfl,hr.le (by omega) (Nat.le_refl _),rfl,ho,hs⟩,by rw [List.append_nil];exact h⟩
 | f::R,P,s,h,hR,hr,ho,hs=>by
  have hj:(aV (f::R)).length=(aj f).length+(aV R).length:=by simp [aV]
  rw [hj] at hr
  rw [List.map_cons]
  unfold rowsD
  show (Ni K B n (yF l.size (R.map aj) (vS l.size (s.2.1.length,s.2.2) (aj f).length)) _∧_)∨(_∧64 < (yF l.size (R.map aj) (vS l.size (s.2.1.length,s.2.2) (aj f).length)).1)
  rcases YM (f:=f) (B:=B+(aV R).length) hv hlt hn1 hn h (hr.le (by omega) (Nat.le_refl _)) ho hs with q | ⟨q1,q2⟩
  ·rcases Ic hv hlt hn1 h (hR f (by simp)) with ⟨_,p2,_⟩|⟨p1,_⟩
   ·rw [aT q.ok,← q.cnt]
    have:=Nj hv hlt hn1 hn R (P++[f]) _ p2 (fun g hg=>hR g (List.mem_cons_of_mem _ hg)) q.rm q.only q.few
    rw [List.append_assoc] at this
    exact this
   ·exact absurd q.ok p1
  ·rw [aZ (by rw [q1];decide)]
   exact Or.inr ⟨q1,Nat.lt_of_lt_of_le q2 (Gn _ _ _)⟩
theorem Tv (z:Nat) {l:List (List UInt8)} (h:l≠[]):1≤(yF z l (0,0)).1:=by
 cases l with
 | nil=>exact absurd rfl h
 | cons b l=>
  refine Nat.le_trans ?_ (Gn z l (vS z (0,0) b.length))
  unfold vS
  exact Nat.le_refl 1
theorem Tw {d:ae} {l:bI} {ak:Nat} {K:ByteArray→Prop} {B n:Nat} (hok:aO d) (hm:fJ l.m=true) (hn:l.m.next+64≤1000000) (R:List cz) (hR:∀ f∈R,ji f∧f.ak=ak) (hne:R≠[]) (hr:Rm d (B+(aV R).length) (n+64)) (ho:Only d K) :
  Ni K B n (yF l.size (R.map aj) (0,0)) (fK l (R.map aj) d)∨((fK l (R.map aj) d).2=4∧64 < (yF l.size (R.map aj) (0,0)).1):=by
 have hv:∀ x∈l.m.aa,1≤x∧x < 1000000:=fun x hx=>⟨(dY hm hx).1,(dY hm hx).2.2⟩
 have hlt:∀ x∈l.m.aa,x < l.m.next:=fun x hx=>(dY hm hx).2.1
 have hn1:1≤l.m.next:=(bQ.1 hm).1.2.2.2.2.1
 have h0:Laid d l.m ak [] false (d,[],0):=⟨⟨dG.refl _ d,hok,rfl⟩,by simp,Or.inl ⟨rfl,rfl⟩⟩
 unfold fK
 rcases Nj (K:=K) (B:=B) (n:=n) hv hlt hn1 hn R [] _ h0 hR hr (fun x hx=>Or.inl (ho x hx)) (by simp) with ⟨q,q2⟩|⟨q1,q2⟩
 case inr=>
  have q1':(rowsD l (R.map aj) (d,[],0)).2≠0:=by rw [q1];decide
  rw [aZ q1',aZ q1'];exact Or.inr ⟨q1,q2⟩
 rw [aT q.ok]
 have hpos:=Tv l.size (l:=R.map aj) (by simpa using hne)
 have hcnt:=q.cnt
 have hc:(yF l.size (R.map aj) (([]:List Nat).length,0))=yF l.size (R.map aj) (0,0):=rfl
 rw [List.nil_append] at q2
 obtain⟨abY,aa9,abu,YN,aas⟩:=q
 generalize (rowsD l (R.map aj) (d,[],0)).1=s at *
 have hsn:s.2.1≠[]:=by
  intro e
  have:=congrArg Prod.fst hcnt
  simp only [e,List.length_nil] at this
  rw [← this] at hpos;simp at hpos
 rw [if_neg hsn,aT rfl]
 obtain⟨i,i1,_⟩:=q2.last_at hsn
 obtain⟨a1,a2,a3⟩:=mP q2.beside.ok aa9 i1
 exact Or.inl ⟨a1,a2,hcnt,nR YN _,aas⟩
theorem Ce {B n:Nat}:∀ (l:List Nat) (d:ae) (K:ByteArray→Prop),aO d→Rm d B n→Only d K→Rm (iD l d) B n∧Only (iD l d) (fun x=>K x∧∀ s∈l,x≠ai s)
 | [],d,K,h,hr,ho=>⟨hr,fun x hx=>⟨ho x hx,by simp⟩⟩
 | s::r,d,K,h,hr,ho=>by
  have h1:Rm (cO d (ai s)).1 B n:=by
   cases e:bP d.now (ai s) with
   | none=>unfold cO;rw [if_neg (kW hr.fail),e];exact hr.tick
   | some i=>exact (Dl hr e).2
  obtain⟨a1,a2⟩:=Ce r _ _ (nZ h (ai s)) h1 (zi h hr.fail ho (ai s))
  refine⟨a1,a2.mono (fun x hx=>⟨hx.1.1,fun y hy=>?_⟩)⟩
  rcases List.mem_cons.1 hy with rfl | hy
  ·exact hx.1.2
  ·exact hx.2 y hy
theorem YO {l:bI} {ak:Nat} {aa:List Nat} (iK:1≤ak∧ak≤3) (hn1:1≤l.m.next) (hn:l.m.next+64≤1000000) (hs:aa=(List.range aa.length).map (fun i=>l.m.next+i)) (h1:1≤aa.length) (h2:aa.length≤64):fJ (gX ak l aa)=true:=by
 refine bQ.2 ⟨⟨iK.1,iK.2,h1,h2,by show 1≤l.m.next+aa.length;omega,by show l.m.next+aa.length≤1000000;omega⟩,?_⟩
 show upB (l.m.next+aa.length) 0 aa=true
 have hp:aa.Pairwise (· < ·):=by rw [hs];exact vD _ _
 refine EC hp (fun x hx=>?_)
 rw [hs] at hx
 simp only [List.mem_map,List.mem_range] at hx
 obtain⟨i,hi,rfl⟩:=hx
 omega
theorem vT {σ:Type} {P:σ→Prop} {r:σ×Int} {f:σ→σ×Int} (h:P r.1) (hf:∀ s,P s→P (f s).1):P (bM r f).1:=by
 unfold bM
 split
 ·exact hf _ h
 ·exact h
theorem Gp {d:ae} (h:aO d) (m:cZ):aO (aG m d).1:=by
 have h1:aO (eY m d).1:=vT (P:=aO) (vT (P:=aO) (vT (P:=aO) (jo h az) (fun s hs=>gV hs _ _)) (fun s hs=>gG hs _)) (fun s hs=>nY hs _ _)
 unfold aG
 split
 ·exact h
 ·split
  ·exact h1
  ·exact yP h1
structure aba (d:ae) (l:bI) (ak B n c:Nat) (r:DL×Int):Prop where
 ok:r.2=0
 rm:Rm r.1.1 B n
 only:Only r.1.1 (Mine r.1.2.m.aa)
 cnt:r.1.2.m.aa.length=c
 next:r.1.2.m.next=l.m.next+c
 few:c≤64
theorem Nk {d:ae} {l:bI} {Fr:List cz} {k B n:Nat} (h:eZ d l.m Fr k) (hl:l.loose=false) (ho:Only d (Mine l.m.aa)) {ak:Nat} (iK:1≤ak∧ak≤3) {R:List cz} (hR:∀ f∈R,ji f∧f.ak=ak) (hne:R≠[]) (hr:Rm d (B+278+(aV R).length) (n+65)) (hx:l.m.next+64≤1000000) :
  aba d l ak B n (yF l.size (R.map aj) (0,0)).1 (fD ak (R.map aj) (d,l))∨((fD ak (R.map aj) (d,l)).2=4∧64 < (yF l.size (R.map aj) (0,0)).1):=by
 have hset:aY (d,l)=((d,l),0):=by unfold aY;simp [hl]
 have hn1:1≤l.m.next:=(bQ.1 h.now.1).1.2.2.2.2.1
 unfold fD
 rw [hset]
 simp only
 rw [if_neg (by simp)]
 have hlaid:=Ba (l:=l) h.ok h.now.1 R hR
 rcases Tw (K:=Mine l.m.aa) (B:=B+278) (n:=n+1) h.ok h.now.1 hx R hR hne (hr.le (by omega) (by omega)) ho with q | ⟨q1,q2⟩
 case inr=>rw [if_pos (by rw [q1];decide)];exact Or.inr ⟨q1,q2⟩
 obtain⟨q1,q2,q3,q4,q5⟩:=q
 rw [if_neg (by simp [q1])]
 rcases hlaid with ⟨_,g2,g3⟩|⟨g1,_⟩
 case inr=>exact absurd q1 g1
 have hb:=g2.beside
 have hc:=congrArg Prod.fst q3
 simp only at hc
 generalize fK l (R.map aj) d=r2 at *
 have h1:1≤r2.1.2.1.length:=List.length_pos_iff.2 g3
 have hm:=YO iK hn1 hx hb.aa h1 q5
 obtain⟨c1,c2,c3⟩:=xR hb.ok hm (q2.le (Nat.le_refl _) (by omega):Rm r2.1.1 (B+278) (n+1))
 have c4:=tZ hb.ok hm (q2.le (Nat.le_refl _) (by omega):Rm r2.1.1 (B+278) (n+1)) q4 (Or.inl (Or.inl rfl))
 have c5:=Gp hb.ok (gX ak l r2.1.2.1)
 unfold dD
 simp only
 rw [if_pos c2,if_pos c1]
 obtain⟨e1,e2⟩:=Ce l.m.aa _ _ c5 c3 c4
 refine Or.inl ⟨rfl,e1,e2.mono (fun x hx=>?_),hc,by show l.m.next+r2.1.2.1.length=_;rw [hc],by rw [← hc];exact q5⟩
 rcases hx.1 with (h | ⟨s,hs,e⟩) | ⟨s,hs,e⟩
 ·exact Or.inl h
 ·exact absurd e (hx.2 s hs)
 ·exact Or.inr ⟨s,hs,e⟩
theorem head_ne {s:Nat} (h:1≤s∧s < 1000000):bG≠ai s:=fun e=>lL (aa:=[]) (by simp) (x:=s) (by simp) (Or.inl e.symm)
theorem Tx {d:ae} {m:cZ} {Fr:List cz} {k:Nat} (h:eZ d m Fr k) (ho:Only d (Mine m.aa)):(d.now.map (·.1)).Perm (bG::m.aa.map ai):=by
 have hv:=h.valid
 refine (List.perm_ext_iff_of_nodup (jB.keys h.ok.now.row) ?_).2 (fun x=>?_)
 ·refine List.nodup_cons.2 ⟨fun hm=>?_,?_⟩
  ·obtain⟨s,hs,e⟩:=List.mem_map.1 hm
   exact head_ne (hv s hs) e.symm
  ·refine List.pairwise_map.2 (List.Pairwise.imp_of_mem (fun {a b} ha hb hab e=>?_) (qh h.now.1))
   have:=mX (hv a ha) (hv b hb) e
   omega
 ·have h1:x∈d.now.map (·.1)↔bP d.now x≠Option.none:=by
   rw [Ne,jT,List.mem_map]
   constructor
   ·rintro ⟨y,hy,rfl⟩ hh;exact hh y hy rfl
   ·intro hh
    refine Classical.byContradiction fun hc=>hh (fun y hy e=>hc ⟨y,hy,e⟩)
  rw [h1]
  constructor
  ·intro hx
   rcases ho x hx with rfl | ⟨s,hs,rfl⟩
   ·simp
   ·exact List.mem_cons_of_mem _ (List.mem_map_of_mem hs)
  ·intro hx
   rcases List.mem_cons.1 hx with rfl | hx
   ·obtain⟨i,hi,_⟩:=h.now.2.1
    rw [hi];simp
   ·obtain⟨s,hs,rfl⟩:=List.mem_map.1 hx
    obtain⟨C,L,k,g1,_⟩:=h.now.2.2
    obtain⟨i,hi,e⟩:=List.getElem_of_mem hs
    have e1:m.aa.getD i 0=s:=by rw [List.getD_eq_getElem?_getD,List.getElem?_eq_getElem hi,← e];rfl
    by_cases hc:i < C.length
    ·obtain⟨j,hj,_⟩:=g1.closed i hc
     rw [e1] at hj;rw [hj];simp
    ·have:=g1.len
     have e3:i=C.length:=by omega
     subst e3
     obtain⟨j,hj,_⟩:=g1.last
     rw [e1] at hj;rw [hj];simp
theorem Pg {d:ae} {m:cZ} {Fr:List cz} {k:Nat} (h:eZ d m Fr k) (ho:Only d (Mine m.aa)):d.now.length=m.aa.length+1:=by
 have:=(Tx h ho).length_eq
 simpa using this
end Go.Proofs.YtanhdliaaccacaaGreat
