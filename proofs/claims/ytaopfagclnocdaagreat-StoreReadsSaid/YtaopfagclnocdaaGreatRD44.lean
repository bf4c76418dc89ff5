/- Rows.StoreReadsSaid -/
import Derived.Test.YtaopfagclnocdaaGreatRD37
import Derived.Test.YtaopfagclnocdaaGreatRD13
import Derived.Test.YtaopfagclnocdaaGreatRD33
import Derived.Test.YtaopfagclnocdaaGreatRD29
import Derived.Test.YtaopfagclnocdaaGreatRD4
import Derived.StillTailTactics
import Derived.Deep.RegionHeld3
import Derived.Deep.DeepCutAuto
import Derived.Deep.AppendLies
import Derived.Laws.EntriesVeiled
import Derived.Test.YtaopfagclnocdaaGreatRD18
import Derived.Test.YtaopfagclnocdaaGreatRD32
import Derived.Test.YtaopfagclnocdaaGreatRD30
import Derived.Test.YtaopfagclnocdaaGreatRD34
import Derived.Test.YtaopfagclnocdaaGreatRD12
namespace Go.Proofs.YtaopfagclnocdaaGreat
open Go.RowKit
set_option linter.unusedVariables false
set_option maxHeartbeats 64000000
set_option maxRecDepth 100000
section
variable {F0:List Nat} {w0 w:World} {R:List Asrt}
def qInR (q:Rec) (v:Int):Rec:=⟨q.kind,inFl v q.fl,q.gen,q.bks.map (inBk v),q.bk,q.till,q.count⟩
theorem qInR_eq {r:Rec} {v:Int} (hv:verOk v=true):qInR (plainRec r) v=inRec r v:=by
 have e:inRec r v=⟨(plainRec r).kind,if r.kind=1 then inFl v (plainRec r).fl else (plainRec r).fl,(plainRec r).gen,(plainRec r).bks.map (inBk v),(plainRec r).bk,(plainRec r).till,(plainRec r).count⟩:=by unfold inRec;rw [if_neg (by simp [hv])]
 rw [e]
 unfold qInR
 congr 1
 by_cases k1:r.kind=1
 ·rw [if_pos k1]
 ·rw [if_neg k1]
  have hg:(plainRec r).fl.gen=0∧(plainRec r).fl.seen=0:=by
   unfold plainRec
   rw [if_neg k1]
   repeat' split
   all_goals exact⟨rfl,rfl⟩
  generalize (plainRec r).fl=f at *
  obtain⟨t,bk,gen,seen⟩:=f
  obtain⟨rfl,rfl⟩:=hg
  unfold inFl
  simp
def QInRel (q:Rec) (pv:Value) (l:List Bk) (rb b1:Nat) (F0:List Nat) (w0:World) (R:List Asrt) (i:Value) (wr:World):Prop:=
 ∃ k:Nat,k≤l.length∧i=.int .i64 k∧In F0 w0 wr (RowA 108 3 pv l.length (bkV (mixL 1 l k))::Cells b1 (encRL zeroRec (.slice none 0 0)).toArray 45::Cells rb (encRL q pv).toArray 45::R)
theorem qin_end {y:Rec} {pv:Value} {l:List Bk} {rb b1:Nat} (h:In F0 w0 w (BkR pv l::Cells b1 (encRL zeroRec (.slice none 0 0)).toArray 45::Cells rb (encRL y pv).toArray 45::R)) :
  (w.heap[rb]?=some (.cells (encRL y pv).toArray 45 (0,0))∧w.there b1 0 14)∧((w.setCells b1 0 (encRL y pv)).heap[b1]?=some (.cells (encRL y pv).toArray 45 (0,0))∧In F0 w0 (w.setCells b1 0 (encRL y pv)) (BkR pv l::R)):=by
 have h2:=h.setFull 1 rfl (xs:=encRL y pv) (b:=b1) (C:=(encRL zeroRec (.slice none 0 0)).toArray) (T:=45) (by rfl)
 exact⟨⟨h.block 2 rfl,there_of (h.block 1 rfl)⟩,h2.block 1 rfl,h2.sel2 (R1:=[_,_,_]) [0] (by decide) rfl⟩
theorem o_qin {r:Rec} {A:Option Addr} {c:Nat} {v:Int} (hv:verOk v=true) (hs:BksAt F0 w0 R A r.bks) (hl:r.bks.length≤1000000) (h:In F0 w0 w R):Calls Tryz.prog 12 #[agR r A c,.int .i64 v] w (RecPost (inRec r v) F0 w0 R):=by
 have KV:=Lib.hid (q_version v)
 rw [hv] at KV
 rw [← qInR_eq hv]
 have hv13:v=1∨v=2∨v=3:=by have:1≤v∧v≤3:=of_decide_eq_true hv;omega
 obtain⟨C0,hC0⟩:∃ C,C=(encRL r (.slice A r.bks.length c)).toArray:=⟨_,rfl⟩
 have hC0l:C0.size=14:=by rw [hC0];rfl
 have h2:In F0 w0 ((w.alloc (.cells C0 45)).alloc (.cells (encRL zeroRec (.slice none 0 0)).toArray 45)) (Cells (w.heap.size+1) (encRL zeroRec (.slice none 0 0)).toArray 45::Cells w.heap.size C0 45::R):=by
  have h2:=(h.cells C0 45).cells (encRL zeroRec (.slice none 0 0)).toArray 45
  simp only [World.size_alloc] at h2
  exact h2
 have KP:=Lib.hid (o_qplain (c:=c) (fun w' h'=>hs w' h'.drop.drop) hl h2)
 unfold RecPost at KP
 have hbl:(plainRec r).bks.length≤1000000:=by
  unfold plainRec
  repeat' split
  all_goals first | exact hl | exact Nat.zero_le _
 have HST:Hid (∀ w' rb b1 pv (q:Rec),In F0 w0 w' (BkR pv q.bks::Cells b1 (encRL zeroRec (.slice none 0 0)).toArray 45::Cells rb C0 45::R)→w'.there rb 0 14∧In F0 w0 (w'.setCells rb 0 (encRL q pv)) (BkR pv q.bks::Cells b1 (encRL zeroRec (.slice none 0 0)).toArray 45::Cells rb (encRL q pv).toArray 45::R)):=Lib.hid fun w' rb b1 pv q h'=>by
  have ht:=there_of (h'.block 2 rfl)
  rw [hC0l] at ht
  exact⟨ht,h'.setFull 2 rfl (xs:=encRL q pv) (b:=rb) (C:=C0) (T:=45) (by rw [hC0l];rfl)⟩
 generalize plainRec r=q at *
 clear h h2 hs hl hv hC0l
 obtain⟨kind0,⟨⟨src0,dst0,proto0,sport0,dport0⟩,fbk0,fgen0,fseen0⟩,gen0,bks0,bk0,till0,count0⟩:=r
 obtain⟨kind,⟨⟨src,dst,proto,sport,dport⟩,fbk,fgen,fseen⟩,gen,ql,bk,till,count⟩:=q
 simp only at hbl KP hC0
 have HBL:=Lib.hid hbl
 clear hbl
 subst hC0
 rcases hv13 with rfl | rfl | rfl
 case inr.inr=>
  have e2:qInR ⟨kind,⟨⟨src,dst,proto,sport,dport⟩,fbk,fgen,fseen⟩,gen,ql,bk,till,count⟩ 3=⟨kind,⟨⟨src,dst,proto,sport,dport⟩,fbk,fgen,fseen⟩,gen,ql,bk,till,count⟩:=by
   unfold qInR inFl
   rw [← mixL_all 3 ql,mixL_wide (by decide)];rfl
  rw [e2];clear e2
  go_enter Tryz.func12,Tryz.ntmps12
  go_wp2_with fail
  refine (KV.out _).mono ?_
  rintro e w1 ⟨rfl,rfl⟩
  clear KV
  go_wp2_with fail
  refine KP.out.mono ?_
  rintro e w2 ⟨pv,rfl,g2⟩
  obtain⟨F2,r2⟩:=g2.get 0 rfl
  obtain⟨pa,pc,rfl,-,-,-⟩:=RowA.shape r2
  obtain⟨ht,g3⟩:=HST.out _ _ _ _ ⟨kind,⟨⟨src,dst,proto,sport,dport⟩,fbk,fgen,fseen⟩,gen,ql,bk,till,count⟩ g2
  obtain⟨⟨q1,q2⟩,q3,q4⟩:=qin_end g3
  have HT:=Lib.hid ht
  have Q1:=Lib.hid q1
  have Q2:=Lib.hid q2
  have Q3:=Lib.hid (And.intro q3 q4)
  clear KP HST g2 g3 r2 ht q1 q2 q3 q4
  go_wp2_with (first | (refine wpList_store_mid (op:=⟨none,Op.store 45 (.tmp 2) (.tmp 11),_,_,_,_⟩) (by rfl) 45 (.tmp 2) (.tmp 11) rfl w.heap.size 0 (encRL ⟨kind,⟨⟨src,dst,proto,sport,dport⟩,fbk,fgen,fseen⟩,gen,ql,bk,till,count⟩ (.slice pa ql.length pc)).toArray (by rfl) (by rfl) HT.out (by kernel_rfl) (encRL_all _ _ _ _) ?_) | (refine wpList_load_row rfl 45 (.tmp 2) rfl w.heap.size rfl 45 _ (0,0) _ Q1.out Tryz.underlying45 rfl (by kernel_rfl) ?_) | (refine wpList_store_mid (op:=⟨none,Op.store 45 (.tmp 4) (.tmp 32),_,_,_,_⟩) (by rfl) 45 (.tmp 4) (.tmp 32) rfl (w.heap.size+1) 0 (encRL ⟨kind,⟨⟨src,dst,proto,sport,dport⟩,fbk,fgen,fseen⟩,gen,ql,bk,till,count⟩ (.slice pa ql.length pc)).toArray (by rfl) (by rfl) Q2.out (by kernel_rfl) (encRL_all _ _ _ _) ?_))
  exact bodyPost_ret (results_cell_row Tryz.results12 _ _ (w.heap.size+1) 45 _ (0,0) _ rfl Q3.out.1 Tryz.underlying45 rfl (by kernel_rfl)) rfl ⟨_,rfl,Q3.out.2⟩
 case inr.inl=>
  have e2:qInR ⟨kind,⟨⟨src,dst,proto,sport,dport⟩,fbk,fgen,fseen⟩,gen,ql,bk,till,count⟩ 2=⟨kind,⟨⟨src,dst,proto,sport,dport⟩,fbk,fgen,0⟩,gen,ql,bk,till,count⟩:=by
   unfold qInR inFl
   rw [← mixL_all 2 ql,mixL_wide (by decide)];rfl
  rw [e2];clear e2
  go_enter Tryz.func12,Tryz.ntmps12
  go_wp2_with fail
  refine (KV.out _).mono ?_
  rintro e w1 ⟨rfl,rfl⟩
  clear KV
  go_wp2_with fail
  refine KP.out.mono ?_
  rintro e w2 ⟨pv,rfl,g2⟩
  obtain⟨F2,r2⟩:=g2.get 0 rfl
  obtain⟨pa,pc,rfl,-,-,-⟩:=RowA.shape r2
  obtain⟨ht,g3⟩:=HST.out _ _ _ _ ⟨kind,⟨⟨src,dst,proto,sport,dport⟩,fbk,fgen,fseen⟩,gen,ql,bk,till,count⟩ g2
  have HT:=Lib.hid ht
  have G3:=Lib.hid g3
  clear KP HST g2 g3 r2 ht
  go_upto_region 4 with (refine wpList_store_mid (op:=⟨none,Op.store 45 (.tmp 2) (.tmp 11),_,_,_,_⟩) (by rfl) 45 (.tmp 2) (.tmp 11) rfl w.heap.size 0 (encRL ⟨kind,⟨⟨src,dst,proto,sport,dport⟩,fbk,fgen,fseen⟩,gen,ql,bk,till,count⟩ (.slice pa ql.length pc)).toArray (by rfl) (by rfl) HT.out (by kernel_rfl) (encRL_all _ _ _ _) ?_)
  try simp only [Act.put]
  have g3:=G3.out
  clear G3 HT
  generalize w2.setCells w.heap.size 0 (encRL ⟨kind,⟨⟨src,dst,proto,sport,dport⟩,fbk,fgen,fseen⟩,gen,ql,bk,till,count⟩ (.slice pa ql.length pc))=w3 at *
  have f8:=free_of (o:=8) (g3.block 2 rfl)
  have c8:w3.cell? ⟨w.heap.size,8,none⟩=some (.int .i64 fseen):=cell_of (g3.block 2 rfl) rfl
  have g4:In F0 w0 (w3.setCell ⟨w.heap.size,8,none⟩ (.int .i64 0)) (BkR (.slice pa ql.length pc) ql::Cells (w.heap.size+1) (encRL zeroRec (.slice none 0 0)).toArray 45::Cells w.heap.size (encRL ⟨kind,⟨⟨src,dst,proto,sport,dport⟩,fbk,fgen,0⟩,gen,ql,bk,till,count⟩ (.slice pa ql.length pc)).toArray 45::R):=g3.put 2 rfl 8 (.int .i64 0)
  obtain⟨⟨q1,q2⟩,q3,q4⟩:=qin_end g4
  have Q1:=Lib.hid q1
  have Q2:=Lib.hid q2
  have Q3:=Lib.hid (And.intro q3 q4)
  clear g3 g4 q1 q2 q3 q4
  go_wp2_with (first | (refine wpList_load_row rfl 45 (.tmp 2) rfl w.heap.size rfl 45 _ (0,0) _ Q1.out Tryz.underlying45 rfl (by kernel_rfl) ?_) | (refine wpList_store_mid (op:=⟨none,Op.store 45 (.tmp 4) (.tmp 32),_,_,_,_⟩) (by rfl) 45 (.tmp 4) (.tmp 32) rfl (w.heap.size+1) 0 (encRL ⟨kind,⟨⟨src,dst,proto,sport,dport⟩,fbk,fgen,0⟩,gen,ql,bk,till,count⟩ (.slice pa ql.length pc)).toArray (by rfl) (by rfl) Q2.out (by kernel_rfl) (encRL_all _ _ _ _) ?_))
  exact bodyPost_ret (results_cell_row Tryz.results12 _ _ (w.heap.size+1) 45 _ (0,0) _ rfl Q3.out.1 Tryz.underlying45 rfl (by kernel_rfl)) rfl ⟨_,rfl,Q3.out.2⟩
 case inl=>
  have e2:qInR ⟨kind,⟨⟨src,dst,proto,sport,dport⟩,fbk,fgen,fseen⟩,gen,ql,bk,till,count⟩ 1=⟨kind,⟨⟨src,dst,proto,sport,dport⟩,fbk,0,0⟩,gen,ql.map (inBk 1),bk,till,count⟩:=rfl
  rw [e2];clear e2
  go_enter Tryz.func12,Tryz.ntmps12
  go_wp2_with fail
  refine (KV.out _).mono ?_
  rintro e w1 ⟨rfl,rfl⟩
  clear KV
  go_wp2_with fail
  refine KP.out.mono ?_
  rintro e w2 ⟨pv,rfl,g2⟩
  obtain⟨F2,r2⟩:=g2.get 0 rfl
  obtain⟨pa,pc,rfl,-,-,-⟩:=RowA.shape r2
  obtain⟨ht,g3⟩:=HST.out _ _ _ _ ⟨kind,⟨⟨src,dst,proto,sport,dport⟩,fbk,fgen,fseen⟩,gen,ql,bk,till,count⟩ g2
  have HT:=Lib.hid ht
  have G3:=Lib.hid g3
  clear KP HST g2 g3 r2 ht
  go_upto_region 4 with (refine wpList_store_mid (op:=⟨none,Op.store 45 (.tmp 2) (.tmp 11),_,_,_,_⟩) (by rfl) 45 (.tmp 2) (.tmp 11) rfl w.heap.size 0 (encRL ⟨kind,⟨⟨src,dst,proto,sport,dport⟩,fbk,fgen,fseen⟩,gen,ql,bk,till,count⟩ (.slice pa ql.length pc)).toArray (by rfl) (by rfl) HT.out (by kernel_rfl) (encRL_all _ _ _ _) ?_)
  try simp only [Act.put]
  have g3:=G3.out
  clear G3 HT
  generalize w2.setCells w.heap.size 0 (encRL ⟨kind,⟨⟨src,dst,proto,sport,dport⟩,fbk,fgen,fseen⟩,gen,ql,bk,till,count⟩ (.slice pa ql.length pc))=w3 at *
  have f7:=free_of (o:=7) (g3.block 2 rfl)
  have c7:w3.cell? ⟨w.heap.size,7,none⟩=some (.int .i64 fgen):=cell_of (g3.block 2 rfl) rfl
  have g4:In F0 w0 (w3.setCell ⟨w.heap.size,7,none⟩ (.int .i64 0)) (BkR (.slice pa ql.length pc) ql::Cells (w.heap.size+1) (encRL zeroRec (.slice none 0 0)).toArray 45::Cells w.heap.size (encRL ⟨kind,⟨⟨src,dst,proto,sport,dport⟩,fbk,0,fseen⟩,gen,ql,bk,till,count⟩ (.slice pa ql.length pc)).toArray 45::R):=g3.put 2 rfl 7 (.int .i64 0)
  have c10:(w3.setCell ⟨w.heap.size,7,none⟩ (.int .i64 0)).cell? ⟨w.heap.size,10,none⟩=some (.slice pa ql.length pc):=cell_of (g4.block 2 rfl) rfl
  have HR:Hid (QInRel ⟨kind,⟨⟨src,dst,proto,sport,dport⟩,fbk,0,fseen⟩,gen,ql,bk,till,count⟩ (.slice pa ql.length pc) ql w.heap.size (w.heap.size+1) F0 w0 R (.int .i64 0) (w3.setCell ⟨w.heap.size,7,none⟩ (.int .i64 0))):=Lib.hid ⟨0,Nat.zero_le _,rfl,by rw [mixL_zero];exact g4⟩
  clear g3 g4
  go_wp2_with fail
  clear c7 f7 c10
  go_loopw [5,19] (fun _ k wr=>QInRel ⟨kind,⟨⟨src,dst,proto,sport,dport⟩,fbk,0,fseen⟩,gen,ql,bk,till,count⟩ (.slice pa ql.length pc) ql w.heap.size (w.heap.size+1) F0 w0 R k wr) (fun _ k _=>ql.length - (intOf k).toNat)
  case atStart=>exact HR.out
  case round=>
   obtain⟨k,hk,rfl,hio⟩:=hrel
   clear HR
   by_cases hlt:k < ql.length
   ·obtain⟨b,hb⟩:∃ b,ql[k]?=some b:=⟨ql[k],List.getElem?_eq_getElem hlt⟩
    obtain⟨F3,r3⟩:=hio.get 0 rfl
    have hlt':(k:Int) < (ql.length:Int):=Int.ofNat_lt.2 hlt
    have hw2:wrap64 ((k:Int)+1)=(k:Int)+1:=by have:=HBL.out;unfold wrap64;omega
    have y0:wr.cell? ⟨w.heap.size,10,none⟩=some (.slice pa ql.length pc):=cell_of (hio.block 2 rfl) rfl
    have hlen:(bkV (mixL 1 ql k)).length=ql.length * 3:=by rw [bkV_length,mixL_length]
    have hj:k * 3+2 < (bkV (mixL 1 ql k)).length:=by omega
    obtain⟨u0,hu0⟩:∃ u,(bkV (mixL 1 ql k))[k * 3+2]?=some u:=⟨_,List.getElem?_eq_getElem hj⟩
    obtain⟨g,rfl,c0⟩:=r3.at.2 (k * 3+2) _ hu0
    have hf:wr.frozen? ⟨g,k * 3+2,none⟩=false:=by
     have:=(r3.there (o:=k * 3+2) (m:=1) (by omega) 0 (by omega)).2
     simpa using this
    have HN:=Lib.hid (row_put hio 0 rfl (o:=k * 3+2) (us:=[.int .i64 1]) (by simp;omega))
    have HP:=Lib.hid (mixL_put (v:=1) (by decide) hb)
    have HN2:Hid (QInRel ⟨kind,⟨⟨src,dst,proto,sport,dport⟩,fbk,0,fseen⟩,gen,ql,bk,till,count⟩ (.slice (some ⟨g,0,none⟩) ql.length pc) ql w.heap.size (w.heap.size+1) F0 w0 R (.int .i64 ((k:Int)+1)) (wr.setCell ⟨g,k * 3+2,none⟩ (.int .i64 1))):=Lib.hid ⟨k+1,hlt,by rw [Int.natCast_add];rfl,by rw [← HP.out];exact HN.out⟩
    clear hio r3 hb hlen hj hk hlt HN HP hu0
    go_wp2_with fail
    go_roundw
    case rel=>(try rw [hw2]);exact HN2.out
    case measure=>(try rw [hw2]);exact meas_lt hlt'
   ·have hge:(ql.length:Int)≤(k:Int):=Int.ofNat_le.2 (Nat.le_of_not_lt hlt)
    obtain rfl:k=ql.length:=by omega
    rw [mixL_all,bkR_map] at hio
    have f8:=free_of (o:=8) (hio.block 2 rfl)
    have c8:wr.cell? ⟨w.heap.size,8,none⟩=some (.int .i64 fseen):=cell_of (hio.block 2 rfl) rfl
    have g4:In F0 w0 (wr.setCell ⟨w.heap.size,8,none⟩ (.int .i64 0)) (BkR (.slice pa ql.length pc) (ql.map (inBk 1))::Cells (w.heap.size+1) (encRL zeroRec (.slice none 0 0)).toArray 45::Cells w.heap.size (encRL ⟨kind,⟨⟨src,dst,proto,sport,dport⟩,fbk,0,0⟩,gen,ql.map (inBk 1),bk,till,count⟩ (.slice pa ql.length pc)).toArray 45::R):=hio.put 2 rfl 8 (.int .i64 0)
    obtain⟨⟨q1,q2⟩,q3,q4⟩:=qin_end g4
    have Q1:=Lib.hid q1
    have Q2:=Lib.hid q2
    have Q3:=Lib.hid (And.intro q3 q4)
    clear hio g4 q1 q2 q3 q4 hk hlt
    go_wp2_with (first | (refine wpList_load_row rfl 45 (.tmp 2) rfl w.heap.size rfl 45 _ (0,0) _ Q1.out Tryz.underlying45 rfl (by kernel_rfl) ?_) | (refine wpList_store_mid (op:=⟨none,Op.store 45 (.tmp 4) (.tmp 32),_,_,_,_⟩) (by rfl) 45 (.tmp 4) (.tmp 32) rfl (w.heap.size+1) 0 (encRL ⟨kind,⟨⟨src,dst,proto,sport,dport⟩,fbk,0,0⟩,gen,ql.map (inBk 1),bk,till,count⟩ (.slice pa ql.length pc)).toArray (by rfl) (by rfl) Q2.out (by kernel_rfl) (encRL_all _ _ _ _) ?_))
    exact bodyPost_ret (results_cell_row Tryz.results12 _ _ (w.heap.size+1) 45 _ (0,0) _ rfl Q3.out.1 Tryz.underlying45 rfl (by kernel_rfl)) rfl ⟨_,rfl,Q3.out.2⟩
end
theorem SoRm.reads {s:SD} {Fr:List FrD} {k n:Nat} (h:SoRm s Fr k (n+1)) {r:Rec} (wr:WfR r) :
  (writeS r s).2=(applySt s.2.st r).2∧((writeS r s).2=0→(writeS r s).1.2.st=(applySt s.2.st (inRec r s.2.l.m.ver)).1)∧((writeS r s).2≠0→(writeS r s).1.2.st=s.2.st):=by
 have hv:=h.inv.ver
 by_cases c1:mayRec r=false∨r.kind=6
 ·rw [writeS_bad c1]
  have hb:badSt r=true:=by
   unfold badSt
   rcases c1 with e | e
   ·rw [e];rfl
   ·rw [decide_eq_true e];simp
  have e:applySt s.2.st r=(s.2.st,1):=by unfold applySt;rw [if_pos hb]
  rw [e]
  exact⟨rfl,fun h=>absurd h (by simp),fun _=>rfl⟩
 have hm:mayRec r=true:=by cases e:mayRec r <;> simp_all
 have h6:r.kind≠6:=fun e=>c1 (Or.inr e)
 by_cases c2:(applySt s.2.st r).2=0
 case neg=>
  rw [writeS_no hm h6 c2]
  exact⟨rfl,fun h=>absurd h c2,fun _=>rfl⟩
 have c3:(writeE r s).2=0:=(dec_enc wr hv hm).1
 have c4:=(h.app wr hm).1
 have hver:(writeA r s).1.2.m.ver=s.2.l.m.ver:=(append_inv h.inv.log ((writeE r s).1.kind:Int) (writeE r s).1.body).2.1
 have hai:=apply_in (s:=s.2.st) hv c2
 rw [writeS_done hm h6 c2 c3 c4,hver]
 exact⟨by rw [hai,c2],fun _=>rfl,fun h=>absurd hai h⟩
def LgP (pn:Value) (lb bd:Nat) (l:LogD):Asrt:=Star [Cells lb (lgC bd l pn) 167,RowA 3 1 pn l.m.segs.length (segV l.m.segs)]
section
variable {F0:List Nat} {w0 w:World} {R:List Asrt} {bd lb:Nat} {d:DiskD} {l:LogD}
def DropRel (lb bd:Nat) (l:LogD) (d:DiskD) (segs:List Nat) (v:Value) (F0:List Nat) (w0:World) (R:List Asrt) (i:Value) (wr:World):Prop:=
 ∃ k:Nat,k≤segs.length∧i=.int .i64 k∧In F0 w0 wr (LgA lb bd l::DkA bd (dropD (segs.take k) d)::RowA 3 1 v segs.length (segV segs)::R)
end
section
variable {F0:List Nat} {w0 w:World} {R:List Asrt} {pn:Value} {bd lb:Nat} {d:DiskD} {l:LogD}
def AdoptPostP (pn:Value) (lb bd:Nat) (m:ManD) (A:Option Addr) (c:Nat) (s:DL) (F0:List Nat) (w0:World) (R:List Asrt) (e:Ending) (w':World):Prop:=
 e=.returned (.tuple #[.bool (adoptL m s).2.1,.int .i64 (adoptL m s).2.2])∧((adoptL m s).2.1=true→In F0 w0 w' (LgA lb bd (adoptL m s).1.2::DkA bd (adoptL m s).1.1::RowA 3 1 pn s.2.m.segs.length (segV s.2.m.segs)::R)) ∧
  ((adoptL m s).2.1=false→In F0 w0 w' (LgP pn lb bd s.2::DkA bd (adoptL m s).1.1::SegR A c m.segs::R))
end
def SegA (sb:Nat) (segs:List Nat):Asrt:=fun w F=>∃ v,Star [Cells sb #[v] 105,RowA 3 1 v segs.length (segV segs)] w F
section
variable {F0:List Nat} {w0 w:World} {R:List Asrt} {pn:Value} {bd lb sb:Nat} {d:DiskD} {l:LogD} {segs:List Nat}
def RowsR (pn:Value) (lb bd sb hb:Nat) (l:LogD) (s:DiskD×List Nat×Nat) (R:List Asrt):List Asrt:=LgP pn lb bd l::DkA bd s.1::SegA sb s.2.1::Cells hb #[.int .i64 s.2.2] 3::R
end
section
variable {F0:List Nat} {w0 w:World} {R:List Asrt} {pn:Value} {bd lb sb:Nat} {d:DiskD} {l:LogD} {segs:List Nat}
end
section
variable {F0:List Nat} {w0 w:World} {R:List Asrt} {pn:Value} {bd lb sb:Nat} {d:DiskD} {l:LogD} {segs:List Nat}
end
def bodB:List Value→List (List UInt8)→List Asrt
 | v::vs,b::bs=>RowA 5 1 v b.length (u8s b)::bodB vs bs
 | _,_=>[]
abbrev SLN:=DiskD×List Nat×Nat
structure RwI (l:LogD) (d0:DiskD) (k:Nat) (s:SLN):Prop where
 ops:s.1.ops≤d0.ops+3 * k
 len:s.2.1.length≤64
 lt:∀ x∈s.2.1,x < l.m.next+64
 have':s.2.2≤5000 * k
def syncNew (s:SLN):SLN×Int:=(((dSync s.1 (newest s.2.1)).1,s.2),(dSync s.1 (newest s.2.1)).2)
section
variable {F0:List Nat} {w0 w:World} {R:List Asrt} {pn:Value} {bd lb sb:Nat} {d:DiskD} {l:LogD}
def f1V (gb lx hb:Nat):Value:=.func (.func 245) #[] #[.pointer (some ⟨gb,0,none⟩),.pointer (some ⟨lx,0,none⟩),.pointer (some ⟨hb,0,none⟩)]
def f2V (gb:Nat):Value:=.func (.func 246) #[] #[.pointer (some ⟨gb,0,none⟩)]
end
section
variable {F0:List Nat} {w0 w:World} {R:List Asrt} {pn:Value} {bd lb sb:Nat} {d:DiskD} {l:LogD}
def RwQ (lb sb lx gb hb nx nm:Nat) (RB:List Asrt):List Asrt:=
 Cells nm #[f2V gb] 182::Cells nx #[f1V gb lx hb] 280::Cells gb #[.pointer (some ⟨sb,0,none⟩)] 252::Cells lx #[dptr lb] 78::RowA 5 1 (.slice none 0 0) 0 []::RB
def RwRel (pn:Value) (lb bd sb hb:Nat) (l:LogD) (d:DiskD) (bs:List (List UInt8)) (Q:List Asrt) (F0:List Nat) (w0:World) (i:Value) (wr:World):Prop:=
 ∃ (k:Nat) (s:SLN),k≤bs.length∧i=.int .i64 k∧rowsD l (bs.take k) (d,[],0)=(s,0)∧RwI l d k s∧In F0 w0 wr (RowsR pn lb bd sb hb l s Q)
def RwPost (pn:Value) (lb bd sb:Nat) (l:LogD) (bs:List (List UInt8)) (d:DiskD) (F0:List Nat) (w0:World) (RB:List Asrt) (e:Ending) (w':World):Prop:=
 e=.returned (.int .i64 (layD l bs d).2)∧In F0 w0 w' (LgP pn lb bd l::DkA bd (layD l bs d).1.1::SegA sb (layD l bs d).1.2.1::RB)
end
structure LayOk (l:LogD) (d0:DiskD) (n:Nat) (s:SLN):Prop where
 ops:s.1.ops≤d0.ops+3 * n+3
 len:s.2.1.length≤64
 lt:∀ x∈s.2.1,x < l.m.next+64
structure SwT where
 d:DiskD
 segs:List Nat
 on:Bool
 l:LogD
def swLay (bs:List (List UInt8)) (l:LogD) (t:SwT):SwT×Int:=(⟨(layD l bs t.d).1.1,(layD l bs t.d).1.2.1,t.on,t.l⟩,(layD l bs t.d).2)
def swSet (ver:Nat) (l:LogD) (t:SwT):SwT×Int:=(⟨(adoptL (swapIn ver l t.segs) (t.d,l)).1.1,t.segs,(adoptL (swapIn ver l t.segs) (t.d,l)).2.1,(adoptL (swapIn ver l t.segs) (t.d,l)).1.2⟩,(adoptL (swapIn ver l t.segs) (t.d,l)).2.2)
def swapT (ver:Nat) (bs:List (List UInt8)) (l:LogD) (d:DiskD):SwT×Int:=foldD [swLay bs l,swSet ver l] ⟨d,[],false,l⟩
def swapEnd (l:LogD) (r:SwT×Int):DL×Int:=
 if r.2=0 then ((removeD l.m.segs r.1.d,r.1.l),0) else if r.1.on then ((r.1.d,r.1.l),r.2) else ((dropD r.1.segs r.1.d,r.1.l),r.2)
section
variable {F0:List Nat} {w0 w:World} {R:List Asrt} {pn:Value} {bd lb sb:Nat} {d:DiskD} {l:LogD}
def SwX (pn:Value) (lb bd sb cb:Nat) (l:LogD) (Q:List Asrt) (t:SwT):List Asrt:=
 if t.on then LgA lb bd t.l::DkA bd t.d::RowA 3 1 pn l.m.segs.length (segV l.m.segs)::Cells cb #[.bool true] 4::Q
 else LgP pn lb bd l::DkA bd t.d::SegA sb t.segs::Cells cb #[.bool false] 4::Q
end
section
variable {F0:List Nat} {w0 w:World} {R:List Asrt} {pn:Value} {bd lb sb:Nat} {d:DiskD} {l:LogD}
end
section
variable {F0:List Nat} {w0 w:World} {R:List Asrt} {pn:Value} {bd lb sb:Nat} {d:DiskD} {l:LogD}
abbrev SwL (bx vx lx lb bd ver:Nat) (l:LogD) (d:DiskD) (v:Value) (vs:List Value) (bss:List (List UInt8)) (R:List Asrt):List Asrt:=
 Cells bx #[v] 250::RowA 61 1 v vs.length vs::(bodB vs bss++([Cells vx #[.int .i64 ver] 3,Cells lx #[dptr lb] 78,LgA lb bd l,DkA bd d]++R))
def SwRel (bx vx lx lb bd ver:Nat) (l:LogD) (d:DiskD) (fs:List FrD) (F0:List Nat) (w0:World) (R:List Asrt) (i:Value) (wr:World):Prop:=
 ∃ (k:Nat) (v:Value) (vs:List Value),k≤fs.length∧i=.int .i64 k∧vs.length=k∧In F0 w0 wr (SwL bx vx lx lb bd ver l d v vs ((fs.take k).map frBytes) R)
def RmRel (lb bd:Nat) (l:LogD) (d:DiskD) (segs:List Nat) (Q:List Asrt) (F0:List Nat) (w0:World) (i:Value) (wr:World):Prop:=
 ∃ k:Nat,k≤segs.length∧i=.int .i64 k∧In F0 w0 wr (LgA lb bd l::DkA bd (removeD (segs.take k) d)::Q)
def FrU (F0:List Nat) (w0:World) (R:List Asrt) (a:Option Addr) (fs:List FrD):Prop:=∀ k f,fs[k]?=some f→∃ g o A c,a=some ⟨g,o,none⟩∧∀ w',In F0 w0 w' R→FrCell w' g (o+k * 3) f A c
def SwapPost (lb bd:Nat) (r:DL×Int) (F0:List Nat) (w0:World) (R:List Asrt) (e:Ending) (w':World):Prop:=
 e=.returned (.int .i64 r.2)∧In F0 w0 w' (LgA lb bd r.1.2::DkA bd r.1.1::R)
end
section
variable {F0:List Nat} {w0 w:World} {R:List Asrt} {tb:Nat} {st:StD}
def RowsRel (st:StD) (ver:Int) (mb:Nat) (rv pv:Value) (F0:List Nat) (w0:World) (R:List Asrt) (v i:Value) (wr:World):Prop:=
 ∃ (k:Nat) (va:Option Addr) (vc:Nat),k≤(recsSt st).length∧i=.int .i64 k∧v=.slice va k vc∧In F0 w0 wr (FrsA (.slice va k vc) ((rowsS ver st).take k)::StA mb (applyAll (((recsSt st).map (fun r=>inRec r ver)).take k) zeroSt).1::RowA 45 14 rv (recsSt st).length (recsV pv (recsSt st))::BkR pv st.bks::R)
end
section
variable {F0:List Nat} {w0 w:World} {R:List Asrt}
variable {sb lb bd stb tb:Nat} {st:StD}
def SoSwPost (sb lb bd:Nat) (r:SD×Int) (F0:List Nat) (w0:World) (R:List Asrt) (e:Ending) (w':World):Prop:=∃ stb,e=.returned (.int .i64 r.2)∧In F0 w0 w' (SoL sb lb bd stb r.1 R)
end
def FmtSt (v:Int) (s:StD):Prop:=(∀ f∈s.fls,inFl v f=f)∧∀ b∈s.bks,inBk v b=b
structure FiSt (k z:Nat) (v:Int) (s:SD):Prop where
 su:SuSt 61 k z s
 ver:(s.2.l.m.ver:Int)=v
 fmt:FmtSt v s.2.st
section
variable {F0:List Nat} {w0 w:World} {R:List Asrt} {sb lb bd stb:Nat}
end
section
variable {W w:World} {R:List Asrt}
def FiRel (sb lb bd stb n z:Nat) (v:Int) (W:World) (R:List Asrt) (i:Value) (wr:World):Prop:=
 ∃ (k:Nat) (s:SD),k≤n∧i=.int .i64 k∧FiSt (min k 60) z v s∧In [] W wr (SoL sb lb bd stb s R)
def FiPost (z:Nat) (v:Int) (W:World) (R:List Asrt) (e:Ending) (w':World):Prop:=
 ∃ sb lb bd stb s,e=.returned (.tuple #[dptr bd,pR sb])∧FiSt 60 z v s∧In [] W w' (SoL sb lb bd stb s R)
end
def Only (d:DiskD) (K:ByteArray→Prop):Prop:=∀ n,nmAt d.now n≠Option.none→K n
section
variable {d:DiskD} {K K':ByteArray→Prop}
end
/-! ### How many segments rows make -/
def cntR (z:Nat) (s:Nat×Nat) (b:Nat):Nat×Nat:=if s.1=0 then (1,b) else if s.2=0∨s.2+b≤z then (s.1,s.2+b) else (s.1+1,b)
def cntL (z:Nat) (l:List (List UInt8)) (s:Nat×Nat):Nat×Nat:=l.foldl (fun a b=>cntR z a b.length) s
def KNew (K:ByteArray→Prop) (segs:List Nat) (x:ByteArray):Prop:=K x∨∃ s∈segs,x=segName s
structure RmRow (K:ByteArray→Prop) (B n:Nat) (c:Nat×Nat) (r:(DiskD×List Nat×Nat)×Int):Prop where
 ok:r.2=0
 rm:Rm r.1.1 B (n+(64 - r.1.2.1.length))
 cnt:(r.1.2.1.length,r.1.2.2)=c
 only:Only r.1.1 (KNew K r.1.2.1)
 few:r.1.2.1.length≤64
structure SwRm (d:DiskD) (l:LogD) (ver B n c:Nat) (r:DL×Int):Prop where
 ok:r.2=0
 rm:Rm r.1.1 B n
 only:Only r.1.1 (Mine r.1.2.m.segs)
 cnt:r.1.2.m.segs.length=c
 next:r.1.2.m.next=l.m.next+c
 few:c≤64
structure SoNt (s:SD) (Fr:List FrD) (k n:Nat):Prop where
 so:SoRm s Fr k n
 rm:Rm s.1 (200000+600 * n) (2 * n)
 segs:s.2.l.m.segs.length+n≤62
 next:s.2.l.m.next+n≤63
 only:Only s.1 (Mine s.2.l.m.segs)
structure FiNt (k z:Nat) (v:Int) (s:SD):Prop where
 su:SuSt 61 k z s
 ver:(s.2.l.m.ver:Int)=v
 fmt:FmtSt v s.2.st
 nt:∃ Fr kk,SoNt s Fr kk (61 - k)
section
variable {W w:World} {R:List Asrt}
def NtRel (sb lb bd stb n z:Nat) (v:Int) (W:World) (R:List Asrt) (i:Value) (wr:World):Prop:=
 ∃ (k:Nat) (s:SD),k≤n∧i=.int .i64 k∧FiNt (min k 60) z v s∧In [] W wr (SoL sb lb bd stb s R)
def NtPost (z:Nat) (v:Int) (W:World) (R:List Asrt) (e:Ending) (w':World):Prop:=
 ∃ sb lb bd stb s,e=.returned (.tuple #[dptr bd,pR sb])∧FiNt 60 z v s∧In [] W w' (SoL sb lb bd stb s R)
end
def cs0:DiskD×Option StoreD×Int:=createS 1 200 (dNew 5000)
def csS:SD:=(cs0.1,cs0.2.1.getD default)
def rA:Rec:=⟨1,⟨⟨0,0,6,0,0⟩,3,0,0⟩,0,[],0,0,0⟩
def rB:Rec:=⟨2,⟨⟨0,0,6,0,0⟩,3,0,0⟩,0,[],0,0,0⟩
def cs1:SD×Int:=writeS rA csS
def cs2:SD×Int:=writeS rB cs1.1
def cs3:SD×Int:=swapS cs2.1.2.l.m.ver cs2.1.2.st cs2.1
section
variable {F0:List Nat} {w0 w:World} {R:List Asrt} {sb lb bd stb:Nat}
end
theorem open_now {s:SD} {Fr:List FrD} {k:Nat} {Fr0:List FrD} {k0:Nat} (h:SoInv s Fr k Fr0 k0) (hf:s.1.fail=0) (size:Int):∃ d' l,openS 3 size s.1=(d',some ⟨l,s.2.st,s.2.st⟩,0):=by
 have hn:Holds s.1.now s.1.files s.2.l.m Fr k:=by
  rcases h.log with ⟨_,g⟩|⟨_,g⟩ <;> exact g.now
 have hv:=(mayM_iff.1 hn.1).1
 obtain⟨d',e,_⟩:=open_so (hn.on h.log.ok) hf h.st h.ok size (ver:=3) ⟨by omega,by omega⟩
 exact⟨d',_,e⟩
structure CpSt (z:Nat) (v:Int) (B n x:Nat) (s:SD):Prop where
 inv:∃ Fr k,SoInv s Fr k Fr k
 loose:s.2.l.loose=false
 rm:Rm s.1 B n
 only:Only s.1 (Mine s.2.l.m.segs)
 size:s.2.l.size=z
 ver:(s.2.l.m.ver:Int)=v
 fmt:FmtSt v s.2.st
 next:s.2.l.m.next≤x
def rowsC (z:Nat) (v:Int) (st:StD):Nat:=(cntL z ((rowsS v st).map frBytes) (0,0)).1
end Go.Proofs.YtaopfagclnocdaaGreat
