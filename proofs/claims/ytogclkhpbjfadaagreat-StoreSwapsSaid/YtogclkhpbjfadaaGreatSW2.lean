/- Parts of the proof that a store that is swapped for another state is that one, as the format has it, sure. -/
import Derived.Test.YtogclkhpbjfadaaGreatSW1
import Derived.Test.YtogclkhpbjfadaaGreatCK5
import Derived.Test.YtogclkhpbjfadaaGreatCK33
import Derived.Deep.DeepCutAuto
namespace Go.Proofs.YtogclkhpbjfadaaGreat
open Go.RowKit Go.WideShapes
set_option linter.unusedVariables false
set_option maxHeartbeats 64000000
set_option maxRecDepth 100000
theorem In.after {F0:List Nat} {w0 w w':World} {R:List az} (h:In F0 w0 w R) (m:Mod [] w w'):In F0 w0 w' R:=by
 obtain⟨F,hs,hF⟩:=h.star
 exact⟨h.aA,⟨F,(bC.star h.aA).keep hs (fun b hb=>m.block b ((bC.star h.aA).lt hs b hb) (by simp)),hF⟩,h.mod.trans m (fun b hb=>by simp at hb)⟩
def acb (w:World) (v:Value) (c:oL):Prop:=∃ ab cb ar cr ap cp,v=.agg (rT c ab cb ar cr ap cp).toArray∧zz w (rT c ab cb ar cr ap cp) c∧Src w ab c.r.ax.length 3 (oD c.r.ax)∧(ab=none→cb=0)∧PI c.r
theorem ach {H:Type} {enc:TypeId×Value→H} {w:World} {base b0:Nat} {r:Reach} {spare:Nat→Bool} {held:Bool} {v:Value} {d:DataW H} {p:List MemPlace}
  (hv:Value.okWide Tryz.prog w r b0 72 v) (h:DataW.Trod enc Tryz.prog w base spare held 72 v d p):∃ c,acb w v c:=by
 obtain⟨cs,rfl,hsz⟩:=okWide_struct Tryz.underlying72 hv
 obtain⟨n,h⟩:=h
 obtain⟨c,hc⟩:=Xh h (by show cs.toList.length=18;rw [Array.length_toList,hsz];kernel_rfl)
 obtain⟨ab,cb,ar,cr,ap,cp,e,h1,h2,h3,h4,-⟩:=Ug hc
 refine⟨c,ab,cb,ar,cr,ap,cp,?_,?_,h1,h2,h4⟩
 ·rw [← e];show _=Value.agg cs.toList.toArray;rw [Array.toArray_toList]
 ·rw [← e];exact hc
theorem acm {w0 w:World} {R:List az} {g:Nat} {c:oL} {ab:Option Addr} {cb:Nat} {ar:Option Addr} {cr:Nat} {ap:Option Addr} {cp:Nat} (h:Own w0 w R) (hc:zz w0 (rT c ab cb ar cr ap cp) c) (hb:w.heap[g]?=some (.cells (rT c ab cb ar cr ap cp).toArray 72 (0,0))):nM w (.slice (some ⟨g,0,none⟩) 1 1) [c]:=by
 refine⟨some ⟨g,0,none⟩,1,rfl,Nat.le_refl _,by decide,(fun e=>by cases e),fun i x hx=>?_⟩
 have hi:i=0:=by have:=(List.getElem?_eq_some_iff.1 hx).1;simp at this;omega
 subst hi
 simp at hx;subst hx
 refine⟨g,0,_,rfl,hc.old h,fun j u hu=>?_⟩
 rw [show 0+0 * 18+j=j by omega]
 exact cell_of hb (by rw [List.getElem?_toArray];exact hu)
theorem abL {P:Program} {ops:Array Oper} {rest:List Oper} {op:Oper} {a:Act} {w:World} {Q:Exit→Act→World→Prop} (hwant:Region.wanted op (yielded ops a.tmps)=true) (ty:TypeId) (x:Operand) (ho:op.op=.load ty x)
  (b o:Nat) (hx:a.eval x=.pointer (some ⟨b,o,none⟩)) (cs:List Value) (d:TypeDesc) (hc:w.rangeAt b o cs)
  (hu:P.underlying ty=some d) (hd:d.isRow=true) (hi:(P.info? ty).map (·.size)=some cs.length)
  (h:wpList P ops Q rest (a.put op.dst (.agg cs.toArray)) w):wpList P ops Q (op::rest) a w:=
 wpList_step fun K hK=>by
  rw [if_pos hwant]
  exact wp_load_mid ty x ho b o hx cs d hc hu hd hi (hK _ _ h)
theorem acd {z:Int} (h:1≤z∧z≤3):wrap64 (4 - z)=4 - z∧IntKind.u64.wrap (4 - z)=4 - z∧¬ 4 - z=0∧decide (4 - z=0)=false∧(4 - z == 0)=false:=by
 have e:IntKind.u64.wrap (4 - z)=(4 - z) % 18446744073709551616:=rfl
 have h0:¬ 4 - z=0:=by omega
 exact⟨by unfold wrap64;omega,by rw [e];omega,h0,decide_eq_false h0,beq_eq_false_iff_ne.2 h0⟩
theorem aco {z:Int} (h:1≤z∧z≤3) (n:Int):z≤wrap64 (z+wrap64 ((IntKind.u64.wrap n).tmod (4 - z)))∧wrap64 (z+wrap64 ((IntKind.u64.wrap n).tmod (4 - z)))≤3:=by
 have e:IntKind.u64.wrap n=n % 18446744073709551616:=rfl
 rw [e]
 have h1:(n % 18446744073709551616).tmod (4 - z)=(n % 18446744073709551616) % (4 - z):=Int.tmod_eq_emod_of_nonneg (by omega)
 rw [h1]
 have h2:=Int.emod_nonneg (n % 18446744073709551616) (show 4 - z≠0 by omega)
 have h3:=Int.emod_lt_of_pos (n % 18446744073709551616) (show 0 < 4 - z by omega)
 generalize (n % 18446744073709551616) % (4 - z)=r at *
 unfold wrap64;omega
theorem acp {abJ:Nat} {z:Int} {s:SD} (h:oH 0 abJ z s):s.1.ops≤99990000:=by have:=h.su.ops;omega
theorem acD {n:Nat} (h:n≤40):(n:Int)≤40:=by omega
theorem acv {n:Nat} (h:¬ n≤40):decide ((n:Int)≤40)=false:=decide_eq_false (by omega)
theorem aci {rs:List Rec} {k:Nat} (h:rs.length≤40):abK (abN (rs.take k))≤40:=by
 have h1:=ab9 (rs.take k) aJ
 have h2:(rs.take k).length≤40:=by rw [List.length_take];omega
 have h3:abK aJ=0:=rfl
 unfold abN;omega
theorem acj {k n:Nat} (h:k < n) (hn:n≤40):wrap64 ((k:Int)+1)=(k:Int)+1:=by unfold wrap64;omega
theorem abR {z:Int} (h:1≤z∧z≤3):wrap64 (z - 1)=z - 1∧IntKind.i64.wrap (z - 1)=z - 1:=⟨by unfold wrap64;omega,IntWalk.i64_in _ (by omega)⟩
section
variable {W:World}
def ace (rs:List Rec) (tb:Nat) (L:List az) (W:World) (i:Value) (wr:World):Prop:=
 ∃ k:Nat,k≤rs.length∧i=.int .i64 k∧In [] W wr (iH tb (abN (rs.take k))::L)
theorem abO (W:World) (version:Int) (wv:(Lit.int .i64 version).wf=true) (tv:Int) (wt:(Lit.int .i64 tv).wf=true) {v:Value} {rs:List Rec} (hv:Ep W v rs) {v2:Value} {c:oL} (hc:acb W v2 c) :
  Calls Tryz.prog 10 #[.int .i64 version,.int .i64 tv,v,v2] W (SL W):=by
 have Wi:=Lib.hid (fun w' (R:List az) (h':In [] W w' R)=>ab8 h')
 obtain⟨a,cap,rfl,hc1,hc2,hcn,hrs⟩:=hv.ex
 obtain⟨ab,cb,ar,cr,ap,cp,rfl,hci,hsrc,hnn,hwf⟩:=hc
 have Qp:=Lib.hid hsrc
 have HNN:=Lib.hid hnn
 have Vm:=Lib.hid hwf
 have HRS:=Lib.hid hrs
 have HCI:=Lib.hid hci
 have TC:=Lib.hid (SN version)
 unfold maxLen at hc2
 have g1:=(Own.nil W).cells (rT c ab cb ar cr ap cp).toArray 72
 obtain⟨w1,hw1⟩:∃ w1,w1=W.alloc (.cells (rT c ab cb ar cr ap cp).toArray 72):=⟨_,rfl⟩
 rw [← hw1] at g1
 obtain⟨fb,hfb⟩:∃ fb,fb=W.heap.size:=⟨_,rfl⟩
 rw [← hfb] at g1
 have HG1:=Lib.hid g1
 have HFB:=Lib.hid hfb
 have HW1:=Lib.hid hw1
 clear hv hcn hrs hci g1 hw1 hfb wv wt hsrc hnn hwf
 by_cases q:40 < rs.length
 ·have q':decide ((40:Int) < (rs.length:Int))=true:=decide_eq_true (by omega)
  have q'':(40:Int) < (rs.length:Int):=by omega
  clear q
  go_enter Tryz.func10,Tryz.ntmps10
  go_wp2_with fail
  rw [← HW1.out]
  clear HFB HW1
  have K:=Lib.hid (Wi.out _ _ HG1.out)
  clear HG1 Wi
  go_wp2_with fail
  refine K.out.mono ?_
  rintro e w2 ⟨rfl,g⟩
  have G:=Lib.hid g.mod
  clear g K
  go_wp2_with fail
  go_ret
  exact⟨rfl,G.out⟩
 have q':decide ((40:Int) < (rs.length:Int))=false:=decide_eq_false (by omega)
 have q'':¬ (40:Int) < (rs.length:Int):=by omega
 have HQ:Hid (rs.length≤40):=Lib.hid (by omega)
 obtain⟨x0,x1,x2,x3,x4,x5,x6,x7,x8,x9,x10,x11,x12,x13,x14,x15,x16,x17,hce⟩:∃ x0 x1 x2 x3 x4 x5 x6 x7 x8 x9 x10 x11 x12 x13 x14 x15 x16 x17:Value,rT c ab cb ar cr ap cp=[x0,x1,x2,x3,x4,x5,x6,x7,x8,x9,x10,x11,x12,x13,x14,x15,x16,x17]:=⟨_,_,_,_,_,_,_,_,_,_,_,_,_,_,_,_,_,_,rfl⟩
 have HRG:Hid (w1.rangeAt fb 0 [x0,x1,x2,x3,x4,x5,x6,x7,x8,x9,x10,x11,x12,x13,x14,x15,x16,x17]):=Lib.hid (by rw [← hce];exact fun j u hu=>by rw [Nat.zero_add];exact cell_of (HG1.out.block 0 rfl) (by rw [List.getElem?_toArray];exact hu))
 have hca:(rT c ab cb ar cr ap cp).toArray=#[x0,x1,x2,x3,x4,x5,x6,x7,x8,x9,x10,x11,x12,x13,x14,x15,x16,x17]:=by rw [hce]
 have g2:=HG1.out.cells (rT c ab cb ar cr ap cp).toArray 72
 obtain⟨w2,hw2⟩:∃ w2,w2=w1.alloc (.cells (rT c ab cb ar cr ap cp).toArray 72):=⟨_,rfl⟩
 rw [← hw2] at g2
 have KL:=Lib.hid (ack (Own.nil w2) (acm g2 HCI.out (g2.block 0 rfl)))
 have G2:=Lib.hid g2.drop
 have HW2:Hid (w2=w1.alloc (.cells #[x0,x1,x2,x3,x4,x5,x6,x7,x8,x9,x10,x11,x12,x13,x14,x15,x16,x17] 72)):=Lib.hid (by rw [hw2,hca])
 clear g2 hw2 q HG1 hce hca
 go_enter Tryz.func10,Tryz.ntmps10
 go_upto_region 1 with fail
 rw [← HFB.out,← HW1.out]
 go_wp2_with (refine abL (by first | rfl | (go_simp;done)) 72 (.tmp 7) rfl fb 0 rfl [x0,x1,x2,x3,x4,x5,x6,x7,x8,x9,x10,x11,x12,x13,x14,x15,x16,x17] _ HRG.out Tryz.underlying72 rfl (by kernel_rfl) ?_)
 rw [← HW2.out]
 clear HFB HW1 HW2 HRG
 refine KL.out.mono ?_
 rintro e w3 ⟨bs,rfl,hli,g3⟩
 have g4:=G2.out.after g3.mod
 generalize (Value.agg (rT c ab cb ar cr ap cp).toArray)=av
 generalize (Value.agg #[x0,x1,x2,x3,x4,x5,x6,x7,x8,x9,x10,x11,x12,x13,x14,x15,x16,x17])=av2
 cases bs with
 | false=>
  have K:=Lib.hid (Wi.out _ _ g4)
  clear g3 g4 KL Wi hli G2
  go_wp2_with fail
  refine K.out.mono ?_
  rintro e w2 ⟨rfl,g⟩
  have G:=Lib.hid g.mod
  clear g K
  go_wp2_with fail
  go_ret
  exact⟨rfl,G.out⟩
 | true=>
  have HLI:=Lib.hid ((hli rfl).each c (by simp)).b
  have WO:=Lib.hid (JH (c:=c) (ab:=ab) (cb:=cb) (ar:=ar) (cr:=cr) (ap:=ap) (cp:=cp) (g4.block 0 rfl))
  have G4:=Lib.hid g4
  have KN:=Lib.hid (QZ g4 300000 (by omega) (by omega))
  clear g3 g4 KL hli G2
  obtain⟨d1,d2,d3,d4,d5⟩:=acd (SN version)
  have HTO:=Lib.hid (aco (SN version) tv)
  clear WO G4 HCI
  go_wp2_with fail
  generalize wrap64 (1+wrap64 ((IntKind.u64.wrap version).tmod 3))=z at *
  generalize wrap64 (z+wrap64 ((IntKind.u64.wrap tv).tmod (4 - z)))=t0 at *
  clear d1 d2 d3 d4 d5
  refine KN.out.mono ?_
  rintro e w4 ⟨bd,rfl,g5⟩
  obtain⟨s0,hc0,hfi⟩:=oH.start TC.out 300
  have C1:=o_socreate g5 (by decide) z 300
  rw [hc0] at C1
  have C1':=Lib.hid C1
  have acr:=Lib.hid hfi
  clear g5 hc0 hfi KN C1
  go_wp2_with fail
  refine C1'.out.mono ?_
  intro e w5 hp
  obtain⟨sb,lb,dz,rfl,g6⟩:=hp.some rfl
  have WO:=Lib.hid (JH (c:=c) (ab:=ab) (cb:=cb) (ar:=ar) (cr:=cr) (ap:=ap) (cp:=cp) (g6.block 4 rfl))
  have KW:=Lib.hid (uq (r:=c.r) (A:=ab) (c:=cb) (s:=(s0.1,s0.2)) (acr.out.su.VI (Cf 300)) (acp acr.out) (fun w' h'=>Qp.out.old h') HNN.out (Nat.le_trans HLI.out (by decide)) Vm.out.rr g6)
  clear g6 hp C1'
  go_wp2_with (refine wpList_load_mid (by rfl) 69 (.tmp 58) rfl fb 2 rfl (Nh c.r ab cb) _ WO.out Tryz.underlying69 rfl (by kernel_rfl) ?_)
  refine KW.out.mono ?_
  rintro e w6 ⟨rfl,g7⟩
  obtain⟨s,hs⟩:∃ s,s=(bG c.r s0).1:=⟨_,rfl⟩
  have TJ:In [] W w6 (oG sb lb bd dz s (Cells fb (rT c ab cb ar cr ap cp).toArray 72::[])):=by rw [hs];exact g7
  have HFI:Hid (oH 60 (sized 300) z s):=Lib.hid (by rw [hs];exact (acr.out.write (by decide) Vm.out.rr).to (by decide))
  have KS:=Lib.hid (jT TJ)
  have KV:=Lib.hid (ig (TJ.aI (R1:=[_,_,_,_,_]) (R2:=[]) [3,0,1,2,4] (by decide) rfl))
  generalize (bG c.r (s0.1,s0.2)).2=er0 at *
  clear g7 TJ hs acr KW WO Qp HNN Vm HLI
  go_wp2_with fail
  refine KS.out.mono ?_
  rintro e w7 ⟨rfl,rfl⟩
  go_wp2_with fail
  refine KV.out.mono ?_
  rintro e w8 ⟨A1,a1,D1,d1,F1,f1,rfl,g8⟩
  obtain⟨u,hu⟩:∃ u,u=s.2.st:=⟨_,rfl⟩
  rw [← hu] at g8 ⊢
  obtain⟨ob,YO⟩:∃ ob,ob=w8.heap.size:=⟨_,rfl⟩
  obtain⟨w9,YP⟩:∃ w9,w9=w8.alloc (.cells #[.int .i64 u.gen,.slice A1 u.ax.length a1,.slice D1 u.bN.length d1,.slice F1 u.bU.length f1] 62):=⟨_,rfl⟩
  have g10:In [] W w9 (oG sb lb bd dz s [Cells ob #[.int .i64 u.gen,.slice A1 u.ax.length a1,.slice D1 u.bN.length d1,.slice F1 u.bU.length f1] 62,gG (.slice A1 u.ax.length a1) u.ax,zq (.slice D1 u.bN.length d1) u.bN,BI (.slice F1 u.bU.length f1) u.bU]):=by
   rw [YO,YP]
   unfold oG
   rw [← hu]
   exact (g8.cells #[.int .i64 u.gen,.slice A1 u.ax.length a1,.slice D1 u.bN.length d1,.slice F1 u.bU.length f1] 62).aI (R1:=[_,_,_,_,_,_,_,_,_]) (R2:=[]) [5,6,7,4,0,1,2,3] (by decide) rfl
  have KM:=Lib.hid (zO g10)
  have HU:=Lib.hid hu
  have Zd:=Lib.hid YO
  have Ze:=Lib.hid YP
  clear g8 g10 KS KV hu YO YP
  go_wp2_with fail
  rw [← Zd.out,← Ze.out]
  clear Zd Ze
  go_wp2_with fail
  refine KM.out.mono ?_
  rintro e Co ⟨tb,rfl,g11⟩
  have HR:Hid (ace rs tb (oG sb lb bd dz s [Cells ob #[.int .i64 u.gen,.slice A1 u.ax.length a1,.slice D1 u.bN.length d1,.slice F1 u.bU.length f1] 62,gG (.slice A1 u.ax.length a1) u.ax,zq (.slice D1 u.bN.length d1) u.bN,BI (.slice F1 u.bU.length f1) u.bU]) W (.int .i64 0) Co):=Lib.hid ⟨0,Nat.zero_le _,rfl,g11⟩
  clear g11 KM
  go_wp2_with fail
  go_loopw [67] (ace rs tb (oG sb lb bd dz s [Cells ob #[.int .i64 u.gen,.slice A1 u.ax.length a1,.slice D1 u.bN.length d1,.slice F1 u.bU.length f1] 62,gG (.slice A1 u.ax.length a1) u.ax,zq (.slice D1 u.bN.length d1) u.bN,BI (.slice F1 u.bU.length f1) u.bU]) W) (fun i _=>rs.length - (intOf i).toNat)
  case atStart=>exact HR.out
  case round=>
   as_aux_lemma=>
    obtain⟨k,hk,rfl,ho⟩:=hrel
    clear HR
    by_cases hlt:k < rs.length
    ·obtain⟨x,hx⟩:∃ x,rs[k]?=some x:=⟨rs[k],List.getElem?_eq_getElem hlt⟩
     obtain⟨g,o,csx,rfl,hcr,hcell⟩:=HRS.out k x hx
     obtain⟨abE,cx,rfl,hsrc,hnn,hbl,hwf⟩:=Xi hcr
     have hlt':(k:Int) < (rs.length:Int):=Int.ofNat_lt.2 hlt
     have hw2:=acj hlt HQ.out
     have HRG:=Lib.hid (Nk ho hcell)
     obtain⟨hth,h4⟩:=ab4 ho x abE cx
     have HTH:=Lib.hid hth
     obtain⟨w4,hw4⟩:∃ w4,w4=(wr.alloc (.cells abb 69)).setCells wr.heap.size 0 (Nh x abE cx).toArray.toList:=⟨_,rfl⟩
     rw [← hw4] at h4
     have h5:In [] W w4 (iH tb (abN (rs.take k))::Cells wr.heap.size (Nh x abE cx).toArray 69::oG sb lb bd dz s [Cells ob #[.int .i64 u.gen,.slice A1 u.ax.length a1,.slice D1 u.bN.length d1,.slice F1 u.bU.length f1] 62,gG (.slice A1 u.ax.length a1) u.ax,zq (.slice D1 u.bN.length d1) u.bN,BI (.slice F1 u.bU.length f1) u.bU]):=h4.aI (R1:=[_,_]) (R2:=oG sb lb bd dz s [Cells ob #[.int .i64 u.gen,.slice A1 u.ax.length a1,.slice D1 u.bN.length d1,.slice F1 u.bU.length f1] 62,gG (.slice A1 u.ax.length a1) u.ax,zq (.slice D1 u.bN.length d1) u.bN,BI (.slice F1 u.bU.length f1) u.bU]) [1,0] (by decide) rfl
     have c10:w4.cell? ⟨wr.heap.size,10,none⟩=some (.slice abE x.ax.length cx):=cell_of (h4.block 0 rfl) ab3
     have WO:=Lib.hid (show w4.rangeAt wr.heap.size 0 (Nh x abE cx) from fun j u hu=>by rw [Nat.zero_add];exact cell_of (h4.block 0 rfl) (by rw [List.getElem?_toArray];exact hu))
     have acG:=Lib.hid (abP rs k x hx)
     have Yy:Hid (∀ (t:fP) (w':World),t=abM (abN (rs.take k)) x→In [] W w' (iH tb t::Cells wr.heap.size (Nh x abE cx).toArray 69::oG sb lb bd dz s [Cells ob #[.int .i64 u.gen,.slice A1 u.ax.length a1,.slice D1 u.bN.length d1,.slice F1 u.bU.length f1] 62,gG (.slice A1 u.ax.length a1) u.ax,zq (.slice D1 u.bN.length d1) u.bN,BI (.slice F1 u.bU.length f1) u.bU])→ace rs tb (oG sb lb bd dz s [Cells ob #[.int .i64 u.gen,.slice A1 u.ax.length a1,.slice D1 u.bN.length d1,.slice F1 u.bU.length f1] 62,gG (.slice A1 u.ax.length a1) u.ax,zq (.slice D1 u.bN.length d1) u.bN,BI (.slice F1 u.bU.length f1) u.bU]) W (.int .i64 ((k:Int)+1)) w'):=Lib.hid fun t w' e h'=>⟨k+1,hlt,by rw [Int.natCast_add];rfl,by
      rw [abP rs k x hx,← e]
      exact h'.aI (R1:=[_,_]) (R2:=oG sb lb bd dz s [Cells ob #[.int .i64 u.gen,.slice A1 u.ax.length a1,.slice D1 u.bN.length d1,.slice F1 u.bU.length f1] 62,gG (.slice A1 u.ax.length a1) u.ax,zq (.slice D1 u.bN.length d1) u.bN,BI (.slice F1 u.bU.length f1) u.bU]) [0] (by decide) rfl⟩
     have HM:=Lib.hid (dV hlt')
     have HW4:=Lib.hid hw4
     have H5:=Lib.hid h5
     have ZL:=Lib.hid (And.intro hsrc (And.intro hnn hwf))
     clear ho h4 h5 hx hlt hcell hcr hw4 hth hsrc hnn hwf hbl hk
     go_upto_region 14 with fail
     go_cut [15] (fun x1 wx=>x1=.pointer (some ⟨wr.heap.size,0,none⟩)∧wx=w4)
     case first=>
      go_wp2_with (first | (refine wpList_load_mid (by rfl) 69 (.tmp 69) rfl g (o+k * 14) rfl (Nh x abE cx) _ HRG.out Tryz.underlying69 rfl (by kernel_rfl) ?_) | (refine wpList_store_mid (by rfl) 69 (.tmp 15) (.tmp 70) rfl wr.heap.size 0 (Nh x abE cx).toArray (by rfl) (by rfl) HTH.out (by kernel_rfl) abV ?_))
      go_meet
      exact⟨rfl,HW4.out.symm⟩
     case rest=>
     obtain⟨rfl,rfl⟩:=hcut
     clear HRG HTH HW4
     generalize wr.heap.size=fb2 at *
     by_cases hb:x.ax.length≤40
     ·have hb':(x.ax.length:Int)≤40:=acD hb
      have KA:=Lib.hid (wX (r:=x) (A:=abE) (c:=cx) (fun w' h'=>ZL.out.1.old h') ZL.out.2.1 (Nat.le_trans hb (by decide)) ZL.out.2.2.rr H5.out)
      have HST:Hid ((aX (abN (rs.take k)) x).1=abM (abN (rs.take k)) x):=Lib.hid (by unfold abM;rw [if_pos hb])
      clear H5 hb ZL
      go_wp2_with (refine wpList_load_mid (by rfl) 69 (.tmp 15) rfl fb2 0 rfl (Nh x abE cx) _ WO.out Tryz.underlying69 rfl (by kernel_rfl) ?_)
      refine KA.out.mono ?_
      rintro e w5 ⟨rfl,g5⟩
      have HR:=Lib.hid (Yy.out _ _ HST.out g5)
      clear g5 KA Yy WO c10
      go_wp2_with fail
      go_roundw
      case rel=>(try rw [hw2]);exact HR.out
      case measure=>(try rw [hw2]);exact HM.out
     ·have hb':decide ((x.ax.length:Int)≤40)=false:=acv hb
      have HR:=Lib.hid (Yy.out _ _ (by unfold abM;rw [if_neg hb]) H5.out)
      clear H5 hb ZL Yy WO
      go_wp2_with fail
      go_roundw
      case rel=>(try rw [hw2]);exact HR.out
      case measure=>(try rw [hw2]);exact HM.out
    ·have hge:(rs.length:Int)≤(k:Int):=Int.ofNat_le.2 (Nat.le_of_not_lt hlt)
     obtain⟨t,ht⟩:∃ t,t=abN (rs.take k):=⟨_,rfl⟩
     rw [← ht] at ho
     have hok:fU t:=ho.ny.1
     have hcn:abK t≤40:=by rw [ht];exact aci HQ.out
     obtain⟨fe1,fe2,r0,hx⟩:=abU HFI.out TC.out.1 HTO.out hok hcn
     have h5:In [] W wr (oG sb lb bd dz s [iH tb t,Cells ob #[.int .i64 u.gen,.slice A1 u.ax.length a1,.slice D1 u.bN.length d1,.slice F1 u.bU.length f1] 62,gG (.slice A1 u.ax.length a1) u.ax,zq (.slice D1 u.bN.length d1) u.bN,BI (.slice F1 u.bU.length f1) u.bU]):=ho.aI (R1:=[_,_,_,_,_]) (R2:=[Cells ob #[.int .i64 u.gen,.slice A1 u.ax.length a1,.slice D1 u.bN.length d1,.slice F1 u.bU.length f1] 62,gG (.slice A1 u.ax.length a1) u.ax,zq (.slice D1 u.bN.length d1) u.bN,BI (.slice F1 u.bU.length f1) u.bU]) [1,2,3,4,0] (by decide) rfl
     have KQ:=Lib.hid (fun (v:Int) (dz:Nat) (w':World) (h':In [] W w' (oG sb lb bd dz s [iH tb t,Cells ob #[.int .i64 u.gen,.slice A1 u.ax.length a1,.slice D1 u.bN.length d1,.slice F1 u.bU.length f1] 62,gG (.slice A1 u.ax.length a1) u.ax,zq (.slice D1 u.bN.length d1) u.bN,BI (.slice F1 u.bU.length f1) u.bU]))=>Tp (aj:=v) r0.lg (Classical.choose_spec (Classical.choose_spec r0.inv)) (Nat.le_trans r0.ops (by decide)) 4 rfl h')
     have K1:=KQ.out (z - 1) dz _ (h5.drewN 1)
     rw [fe1] at K1
     have K1':=Lib.hid K1
     have hz0:=fJ ((h5.drewN 1).block 5 rfl)
     have K2C:Hid (∀ (dz:Nat) (w':World),In [] W w' (oG sb lb bd dz s [iH tb t,Cells ob #[.int .i64 u.gen,.slice A1 u.ax.length a1,.slice D1 u.bN.length d1,.slice F1 u.bU.length f1] 62,gG (.slice A1 u.ax.length a1) u.ax,zq (.slice D1 u.bN.length d1) u.bN,BI (.slice F1 u.bU.length f1) u.bU])→Calls Tryz.prog 50 #[pR sb,.int .i64 4,pR tb] w' (Jf sb lb bd (s,10) [] W [iH tb t,Cells ob #[.int .i64 u.gen,.slice A1 u.ax.length a1,.slice D1 u.bN.length d1,.slice F1 u.bU.length f1] 62,gG (.slice A1 u.ax.length a1) u.ax,zq (.slice D1 u.bN.length d1) u.bN,BI (.slice F1 u.bU.length f1) u.bU])):=Lib.hid fun dz w' h'=>by
      have:=KQ.out 4 dz w' h'
      rw [fe2] at this
      exact this
     have KVC:Hid (∀ (dz:Nat) (w':World),In [] W w' (oG sb lb bd dz s [iH tb t,Cells ob #[.int .i64 u.gen,.slice A1 u.ax.length a1,.slice D1 u.bN.length d1,.slice F1 u.bU.length f1] 62,gG (.slice A1 u.ax.length a1) u.ax,zq (.slice D1 u.bN.length d1) u.bN,BI (.slice F1 u.bU.length f1) u.bU])→Calls Tryz.prog 34 #[pR dz] w' (BV s.2.st [] W [iH dz s.2.st,Sk sb lb dz s.2.sure,eB lb bd s.2.l,bJ bd s.1,iH tb t,Cells ob #[.int .i64 u.gen,.slice A1 u.ax.length a1,.slice D1 u.bN.length d1,.slice F1 u.bU.length f1] 62,gG (.slice A1 u.ax.length a1) u.ax,zq (.slice D1 u.bN.length d1) u.bN,BI (.slice F1 u.bU.length f1) u.bU])):=Lib.hid fun dz w' h'=>ig (h'.aI (R1:=[_,_,_,_,_,_,_,_,_]) (R2:=[]) [3,0,1,2,4,5,6,7,8] (by decide) rfl)
     have KSC:Hid (∀ (dz:Nat) (w':World) (A8:Option Addr) (a8:Nat) (D8:Option Addr) (d8:Nat) (F8:Option Addr) (f8:Nat),In [] W w' [gG (.slice A8 s.2.st.ax.length a8) s.2.st.ax,zq (.slice D8 s.2.st.bN.length d8) s.2.st.bN,BI (.slice F8 s.2.st.bU.length f8) s.2.st.bU,iH dz s.2.st,Sk sb lb dz s.2.sure,eB lb bd s.2.l,bJ bd s.1,iH tb t,Cells ob #[.int .i64 u.gen,.slice A1 u.ax.length a1,.slice D1 u.bN.length d1,.slice F1 u.bU.length f1] 62,gG (.slice A1 u.ax.length a1) u.ax,zq (.slice D1 u.bN.length d1) u.bN,BI (.slice F1 u.bU.length f1) u.bU]→Calls Tryz.prog 35 #[Ct s.2.st A8 a8 D8 d8 F8 f8,Ct u A1 a1 D1 d1 F1 f1] w' fun e w''=>e=.returned (.bool true)∧In [] W w'' [gG (.slice A8 s.2.st.ax.length a8) s.2.st.ax,zq (.slice D8 s.2.st.bN.length d8) s.2.st.bN,BI (.slice F8 s.2.st.bU.length f8) s.2.st.bU,iH dz s.2.st,Sk sb lb dz s.2.sure,eB lb bd s.2.l,bJ bd s.1,iH tb t,Cells ob #[.int .i64 u.gen,.slice A1 u.ax.length a1,.slice D1 u.bN.length d1,.slice F1 u.bU.length f1] 62,gG (.slice A1 u.ax.length a1) u.ax,zq (.slice D1 u.bN.length d1) u.bN,BI (.slice F1 u.bU.length f1) u.bU]):=Lib.hid fun dz w' A8 a8 D8 d8 F8 f8 h'=>by
      have:=mX (s1:=s.2.st) (s2:=u) (a1:=a8) (e1:=d8) (h1:=f8) (a2:=a1) (e2:=d1) (h2:=f1) (jA 0 1 2 rfl rfl rfl) (jA 9 10 11 rfl rfl rfl) (iD r0.ok).1 (iD r0.ok).2.1 (iD r0.ok).2.2 h'
      rw [show decide (s.2.st=u)=true from decide_eq_true HU.out.symm] at this
      exact this
     have F2:=Lib.hid fe2
     have HX:=Lib.hid hx
     have mD:=Lib.hid hok
     have acE:=Lib.hid r0.ok
     have abI:=(abR TC.out).1
     have zw2:=(abR TC.out).2
     clear ho h5 K1 fe1 fe2 hx r0 hok hcn ht hk hlt HFI HRS
     as_aux_lemma=>
      go_wp2_with fail
      go_region_held3 (fun w'=>w'.cell? ⟨ob,0,none⟩=some (.int .i64 u.gen)∧w'.cell? ⟨ob,1,none⟩=some (.slice A1 u.ax.length a1)∧w'.cell? ⟨ob,2,none⟩=some (.slice D1 u.bN.length d1)∧w'.cell? ⟨ob,3,none⟩=some (.slice F1 u.bU.length f1)) (first | exact VH | exact hz3 | exact hz2 | exact hz1 | exact hz0) (first
       | (go_at_call 50;refine (K2C.out _ _ G4.out).mono ?_;rintro e w5 ⟨Tq,rfl,g5⟩;have hz2:=fJ (g5.block 5 rfl);have G5:=Lib.hid g5;clear g5 G4)
       | (go_at_call 50;refine K1'.out.mono ?_;rintro e w4 ⟨acH,rfl,g4⟩;have hz1:=fJ (g4.block 5 rfl);have G4:=Lib.hid g4;clear g4 K1')
       | (go_at_call 33;refine (jT G5.out).mono ?_;rintro e w6 ⟨rfl,rfl⟩)
       | (go_at_call 34;refine (KVC.out _ _ G5.out).mono ?_;rintro e w7 ⟨A8,a8,D8,d8,F8,f8,rfl,g7⟩;have hz3:=fJ (g7.block 8 rfl);have G7:=Lib.hid g7;clear g7 G5)
       | (go_at_call 35;refine (KSC.out _ _ _ _ _ _ _ _ G7.out).mono ?_;rintro e w8 ⟨rfl,g8⟩;have VH:=fJ (g8.block 8 rfl);have G8:=Lib.hid g8;clear g8 G7))
      clear hz0 hz1 hz2 hz3 VH K2C KVC KSC F2 abI zw2
      obtain⟨r,hr⟩:∃ r,r=dx t0 t s:=⟨_,rfl⟩
      obtain⟨y,hy⟩:∃ y,y=eP t0 t:=⟨_,rfl⟩
      have hx:=HX.out r.1 (by rw [hr])
      rw [← hr,← hy] at hx
      have K5:=KQ.out t0 Tq _ (G8.out.aI (R1:=[_,_,_,_,_,_,_,_,_,_,_,_]) (R2:=[]) [4,5,6,3,7,8,9,10,11] (by decide) rfl)
      rw [← hr] at K5
      have HY:Hid ((y.gen=t.gen∧y.bU.length=t.bU.length)∧(t0=3→y=t)∧fU y):=Lib.hid (by
       rw [hy]
       exact⟨⟨rfl,by simp [eP]⟩,(fun e=>by rw [e];exact ab0 t),mD.out.eP t0⟩)
      obtain⟨s1,er⟩:=r
      obtain⟨rfl,x2,x3,x4,x5,x6⟩:=hx
      simp only at x2 x3 x4 x5 x6
      have X2:=Lib.hid x2
      have X3:=Lib.hid x3
      have X4:=Lib.hid x4
      have X5:=Lib.hid x5
      have X6:=Lib.hid (x6 [])
      have K5':=Lib.hid K5
      have qt:(t0 != t0)=false:=bne_self_eq_false t0
      have qt2:(t0 == t0)=true:=beq_self_eq_true t0
      clear x2 x3 x4 x5 x6 K5 KQ HX hr hy G8 HU acE
      as_aux_lemma=>
       go_wp2_with fail
       refine K5'.out.mono ?_
       rintro e w9 ⟨aaS,rfl,g10⟩
       have KV:=Lib.hid (sZ g10)
       have KS:=Lib.hid (Sy (by rw [X3.out];exact HY.out.2.2) g10)
       clear g10 K5'
       go_wp2_with fail
       refine KV.out.mono ?_
       rintro e Co ⟨rfl,rfl⟩
       rw [X2.out]
       go_wp2_with fail
       refine KS.out.mono ?_
       rintro e Zq ⟨A7,a7,D7,d7,F7,f7,rfl,g11⟩
       have K6:=Lib.hid (jT (g11.aI (R1:=[_,_,_,_,_,_,_,_,_,_,_,_]) (R2:=[]) [3,4,5,6,7,0,1,2] (by decide) rfl))
       have K7:=Lib.hid (ig (g11.aI (R1:=[_,_,_,_,_,_,_,_,_,_,_,_]) (R2:=[]) [6,0,1,2,3,4,5,7] (by decide) rfl))
       clear g11 KV KS
       go_wp2_with fail
       refine K6.out.mono ?_
       rintro e Wj ⟨rfl,rfl⟩
       go_wp2_with fail
       refine K7.out.mono ?_
       rintro e w13 ⟨A8,a8,D8,d8,F8,f8,rfl,g12⟩
       have hly:=iD HY.out.2.2
       have K9:=Lib.hid (mX (a1:=a7) (e1:=d7) (h1:=f7) (a2:=a8) (e2:=d8) (h2:=f8) (jA 4 5 6 rfl rfl rfl) (jA 0 1 2 rfl rfl rfl) (by rw [X3.out];exact hly.1) (by rw [X3.out];exact hly.2.1) (by rw [X3.out];exact hly.2.2) g12)
       clear g12 K6 K7 hly
       go_wp2_with fail
       refine K9.out.mono ?_
       rintro e w14 ⟨rfl,g13⟩
       rw [show decide (s1.2.sure=s1.2.st)=true from decide_eq_true (by rw [X3.out,X4.out])]
       have g14:=g13.aI (R1:=[_,_,_,_,_,_,_,_,_,_,_]) (R2:=[]) [7,3,8,9,10] (by decide) rfl
       have K6:=Lib.hid (jT g14)
       have K7:=ig (g14.aI (R1:=[_,_,_,_,_]) (R2:=[]) [1,3,4] (by decide) rfl)
       rw [X4.out] at K7
       have K7':=Lib.hid K7
       clear g13 g14 K9 K7
       go_wp2_with fail
       refine K6.out.mono ?_
       rintro e w15 ⟨rfl,rfl⟩
       go_wp2_with fail
       refine K7'.out.mono ?_
       rintro e w16 ⟨A4,a4,D4,d4,F4,f4,rfl,g15⟩
       have g16:=g15.cells #[.int .i64 y.gen,.slice A4 y.ax.length a4,.slice D4 y.bN.length d4,.slice F4 y.bU.length f4] 62
       obtain⟨yb,hyb⟩:∃ yb,yb=w16.heap.size:=⟨_,rfl⟩
       obtain⟨w17,acw⟩:∃ w17,w17=w16.alloc (.cells #[.int .i64 y.gen,.slice A4 y.ax.length a4,.slice D4 y.bN.length d4,.slice F4 y.bU.length f4] 62):=⟨_,rfl⟩
       rw [← hyb,← acw] at g16
       have K8:=Lib.hid (ig (g16.aI (R1:=[_,_,_,_,_,_,_]) (R2:=[]) [6,5,0,1,2,3] (by decide) rfl))
       have HYB:=Lib.hid hyb
       have acz:=Lib.hid acw
       clear g15 g16 K6 K7' hyb acw
       go_wp2_with fail
       rw [← HYB.out,← acz.out]
       clear HYB acz
       go_wp2_with fail
       refine K8.out.mono ?_
       rintro e w18 ⟨A5,a5,D5,d5,F5,f5,rfl,g17⟩
       have g18:=g17.cells #[.int .i64 t.gen,.slice A5 t.ax.length a5,.slice D5 t.bN.length d5,.slice F5 t.bU.length f5] 62
       obtain⟨qb,hqb⟩:∃ qb,qb=w18.heap.size:=⟨_,rfl⟩
       obtain⟨w19,acx⟩:∃ w19,w19=w18.alloc (.cells #[.int .i64 t.gen,.slice A5 t.ax.length a5,.slice D5 t.bN.length d5,.slice F5 t.bU.length f5] 62):=⟨_,rfl⟩
       rw [← hqb,← acx] at g18
       have yc:=fJ (g18.block 6 rfl)
       have tc:=fJ (g18.block 0 rfl)
       have G18:=Lib.hid g18
       have HQB:=Lib.hid hqb
       have acA:=Lib.hid acx
       clear g17 g18 K8 hqb acx
       go_upto_region 24 with fail
       rw [← HQB.out,← acA.out]
       clear HQB acA
       go_cut [147] (fun x wx=>x=.bool false∧In [] W wx [Cells qb #[.int .i64 t.gen,.slice A5 t.ax.length a5,.slice D5 t.bN.length d5,.slice F5 t.bU.length f5] 62,gG (.slice A5 t.ax.length a5) t.ax,zq (.slice D5 t.bN.length d5) t.bN,BI (.slice F5 t.bU.length f5) t.bU,iH tb t,bJ bd s1.1,Cells yb #[.int .i64 y.gen,.slice A4 y.ax.length a4,.slice D4 y.bN.length d4,.slice F4 y.bU.length f4] 62,gG (.slice A4 y.ax.length a4) y.ax,zq (.slice D4 y.bN.length d4) y.bN,BI (.slice F4 y.bU.length f4) y.bU])
       case first=>
        obtain⟨⟨hg,hf⟩,he,-⟩:=HY.out
        have qn:((y.bU.length:Int) != (t.bU.length:Int))=false:=by rw [hf];exact bne_self_eq_false _
        have qg:(y.gen != t.gen)=false:=by rw [hg];exact bne_self_eq_false _
        clear X6 HY
        by_cases q3:t0=3
        ·have hey:=he q3
         have q3':(t0 == 3)=true:=beq_iff_eq.2 q3
         have K9:=Lib.hid (mX (s1:=y) (s2:=t) (a1:=a4) (e1:=d4) (h1:=f4) (a2:=a5) (e2:=d5) (h2:=f5) (jA 7 8 9 rfl rfl rfl) (jA 1 2 3 rfl rfl rfl) (by rw [hey];exact (iD mD.out).1) (by rw [hey];exact (iD mD.out).2.1) (by rw [hey];exact (iD mD.out).2.2) G18.out)
         have HE:=Lib.hid hey
         clear hey q3 he hg hf G18
         go_wp2_with fail
         refine K9.out.mono ?_
         rintro e w20 ⟨rfl,g19⟩
         rw [show decide (y=t)=true from decide_eq_true HE.out]
         have G19:=Lib.hid g19
         clear g19 K9
         go_wp2_with fail
         go_meet
         exact⟨rfl,G19.out⟩
        ·have q3':(t0 == 3)=false:=beq_eq_false_iff_ne.2 q3
         clear q3 he hg hf
         go_wp2_with fail
         go_meet
         exact⟨rfl,G18.out⟩
       case rest=>
       obtain⟨rfl,g19⟩:=hcut
       have K19:=Lib.hid (Fq (A:=none) (c:=0) (p:=[]) (g19.aI (R1:=[_,_,_,_,_,_,_,_,_,_]) (R2:=[]) [5,6,7,8,9] (by decide) rfl) 0 rfl (Nat.le_trans X5.out (by decide)) (Src.nil _ _ _) (Nat.zero_le _) (by decide))
       clear g19 yc tc G18
       go_wp2_with fail
       refine K19.out.mono ?_
       rintro e w20 ⟨rfl,g20⟩
       have g21:In [] W w20 [bJ bd (iw s1.1 []),Cells yb #[.int .i64 y.gen,.slice A4 y.ax.length a4,.slice D4 y.bN.length d4,.slice F4 y.bU.length f4] 62,gG (.slice A4 y.ax.length a4) y.ax,zq (.slice D4 y.bN.length d4) y.bN,BI (.slice F4 y.bU.length f4) y.bU]:=g20
       obtain⟨d',l',abH,hvl⟩:=X6.out
       have KO:=o_soopen g21 (Nat.le_trans X5.out (by decide)) 3 300
       rw [abH] at KO
       have WV:=Lib.hid KO
       have HVL:=Lib.hid hvl
       clear g20 g21 K19 KO X5 X6 abH hvl
       go_wp2_with fail
       refine WV.out.mono ?_
       intro e w21 hp
       obtain⟨sb5,lb5,aah,rfl,g22⟩:=hp.some rfl
       have hz0:=fJ ((g22.drewN 1).block 4 rfl)
       have K5:=Lib.hid (sZ (g22.drewN 1))
       have K6:=Lib.hid (jT (g22.drewN 1))
       have K7:=Lib.hid (ig ((g22.drewN 1).aI (R1:=[_,_,_,_,_,_,_,_]) (R2:=[]) [3,0,1,2,4,5,6,7] (by decide) rfl))
       clear g22 hp WV
       go_wp2_with fail
       go_region_held3 (fun w'=>w'.cell? ⟨yb,0,none⟩=some (.int .i64 y.gen)∧w'.cell? ⟨yb,1,none⟩=some (.slice A4 y.ax.length a4)∧w'.cell? ⟨yb,2,none⟩=some (.slice D4 y.bN.length d4)∧w'.cell? ⟨yb,3,none⟩=some (.slice F4 y.bU.length f4)) (first | exact hz3 | exact hz2 | exact hz1 | exact hz0) (first
        | (go_at_call 42;refine K5.out.mono ?_;rintro e w6 ⟨rfl,rfl⟩;rw [HVL.out])
        | (go_at_call 33;refine K6.out.mono ?_;rintro e w7 ⟨rfl,rfl⟩)
        | (go_at_call 34;refine K7.out.mono ?_;rintro e w8 ⟨A8,a8,D8,d8,F8,f8,rfl,g8⟩;have hz1:=fJ (g8.block 7 rfl);have K9:=Lib.hid (mX (s1:=y) (s2:=y) (a1:=a8) (e1:=d8) (h1:=f8) (a2:=a4) (e2:=d4) (h2:=f4) (jA 0 1 2 rfl rfl rfl) (jA 8 9 10 rfl rfl rfl) (iD HY.out.2.2).1 (iD HY.out.2.2).2.1 (iD HY.out.2.2).2.2 g8);clear g8)
        | (go_at_call 35;refine K9.out.mono ?_;rintro e w9 ⟨rfl,g9⟩;simp only [decide_true];have hz2:=fJ (g9.block 7 rfl);have TD:=Lib.hid (Wi.out w9 _ g9);clear g9)
        | (go_at_call 29;refine TD.out.mono ?_;rintro e Wj ⟨rfl,g15⟩;have hz3:=fJ (g15.block 7 rfl);have G:=Lib.hid g15.mod;clear g15))
       clear hz0 hz1 hz2 hz3 K5 K6 K7 K9 TD
       go_wp2_with fail
       go_ret
       exact⟨rfl,G.out⟩
end
end Go.Proofs.YtogclkhpbjfadaaGreat
