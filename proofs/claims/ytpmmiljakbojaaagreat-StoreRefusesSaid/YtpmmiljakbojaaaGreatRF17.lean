/- Rows.StoreRefusesSaid -/
import Derived.Test.YtpmmiljakbojaaaGreatRF16
import Derived.Test.YtpmmiljakbojaaaGreatRF14
namespace Go.Proofs.YtpmmiljakbojaaaGreat
open Go.RowKit
set_option linter.unusedVariables false
set_option maxHeartbeats 64000000
set_option maxRecDepth 100000
section
variable {P:Program} {ops:Array Oper} {Q:Exit→Act→World→Prop} {md:Region.Mode} {S:World→Prop} {N:Nat}
def chainW (md:Region.Mode) (ops:Array Oper) (n:Nat):Bool:=
 (List.range ops.size).all fun t=>decide (t≤n) || (List.range t).any fun s=>decide (n≤s) && Region.waitsFor md ops t s
def wpAnyN (P:Program) (md:Region.Mode) (ops:Array Oper) (Q:Exit→Act→World→Prop) (S:World→Prop) (N:Nat):Nat→Array Bool→Act→World→Prop
 | 0,listed,a,w=>Region.ready md ops listed=[]∧Q .normal a w
 | fuel+1,listed,a,w=>
  (Region.ready md ops listed=[]→Q .normal a w) ∧
  ∀ i∈Region.ready md ops listed,wpOp P ops Q i (fun a' w'=>(i < N→S w')∧wpAnyN P md ops Q S N fuel (listed.setIfInBounds i true) a' w') a w
variable {l:List Oper}
def NAt (P:Program) (l:List Oper) (Q:Exit→Act→World→Prop) (S:World→Prop) (N:Nat) (fuel:Nat) (listed:Array Bool) (a:Act) (w:World):Prop:=
 HeadInv .any l.toArray N listed→wpAnyN P .any l.toArray Q S N fuel listed a w
def takeN (l:List Oper) (N i:Nat) (listed:Array Bool):Bool:=
 Region.noSelect l.toArray && Region.sinkB .any l.toArray N && chainW .any l.toArray N && decide (N < l.toArray.size) && decide (i < N) && Region.free .any l.toArray listed i && (Region.ready .any l.toArray listed).contains i
def headB (N n:Nat) (listed:Array Bool):Bool:=decide (N+1≤n) && (List.range N).all fun j=>listed.getD j false
end
section
variable {P:Program} {Q:Exit→Act→World→Prop} {S:World→Prop} {l:List Oper}
def twoB (l:List Oper) (i j:Nat) (listed:Array Bool):Bool:=decide (Region.ready .any l.toArray listed=[i,j]) && decide (i+1 < l.toArray.size) && decide (j+1 < l.toArray.size)
theorem e_two {i j:Nat} {oi oj:Oper} {fuel:Nat} {listed:Array Bool} {a:Act} {w:World} (hi:l[i]?=some oi) (hj:l[j]?=some oj) (hc:twoB l i j listed=true)
  (h1:∀ K':Act→World→Prop,Shut (∀ a w,S w→(S w→EAt P l Q S fuel (listed.setIfInBounds i true) a w)→K' a w)→if Region.wanted oi (yielded l.toArray a.tmps)=true then Oper.wp P oi a w K' Q else K' (a.put oi.dst undef) w)
  (h2:∀ K':Act→World→Prop,Shut (∀ a w,S w→(S w→EAt P l Q S fuel (listed.setIfInBounds j true) a w)→K' a w)→if Region.wanted oj (yielded l.toArray a.tmps)=true then Oper.wp P oj a w K' Q else K' (a.put oj.dst undef) w):EAt P l Q S (fuel+1) listed a w:=by
 simp only [twoB,Bool.and_eq_true,decide_eq_true_eq] at hc
 obtain⟨⟨hc1,hc2⟩,hc3⟩:=hc
 have hi':l.toArray[i]?=some oi:=by simpa using hi
 have hj':l.toArray[j]?=some oj:=by simpa using hj
 intro inv
 refine⟨fun h0=>(by rw [h0] at hc1;cases hc1),fun k hk=>?_⟩
 have hr:=hk
 rw [hc1] at hk
 simp only [List.mem_cons,List.not_mem_nil,or_false] at hk
 rcases hk with rfl | rfl
 ·have:=h1 (fun a' w'=>(k+1 < l.toArray.size→S w')∧wpAnyE P .any l.toArray Q S fuel (listed.setIfInBounds k true) a' w') (fun a w hS hn=>⟨fun _=>hS,hn hS (inv.set hr (by omega))⟩)
  unfold wpOp
  simp only [hi']
  by_cases hwd:Region.wanted oi (yielded l.toArray a.tmps)=true
  ·rw [if_pos hwd] at this ⊢;exact Or.inl this
  ·rw [if_neg hwd] at this ⊢;exact this
 ·have:=h2 (fun a' w'=>(k+1 < l.toArray.size→S w')∧wpAnyE P .any l.toArray Q S fuel (listed.setIfInBounds k true) a' w') (fun a w hS hn=>⟨fun _=>hS,hn hS (inv.set hr (by omega))⟩)
  unfold wpOp
  simp only [hj']
  by_cases hwd:Region.wanted oj (yielded l.toArray a.tmps)=true
  ·rw [if_pos hwd] at this ⊢;exact Or.inl this
  ·rw [if_neg hwd] at this ⊢;exact this
end
section
variable {F0:List Nat} {w0 w:World} {R:List Asrt} {br:Nat} {s:RdS}
def FlPost (r:Fl×Bool×RdS) (br:Nat) (F0:List Nat) (w0:World) (R:List Asrt) (e:Ending) (w':World):Prop:=e=.returned (.tuple #[.agg (encF r.1),.bool r.2.1])∧In F0 w0 w' (RdB br r.2.2::R)
theorem fl_end {y:Fl} {b0 b8:Nat} {C:Array Value} {Q:List Asrt} (h:In F0 w0 w (RdB br s::Cells b8 (encF y) 36::Cells b0 C 36::Q)) (hC:C.size=8) :
  (w.heap[b8]?=some (.cells (encF y) 36 (0,0))∧w.there b0 0 8)∧((w.setCells b0 0 (encF y).toList).heap[b0]?=some (.cells (encF y) 36 (0,0))∧In F0 w0 (w.setCells b0 0 (encF y).toList) (RdB br s::Q)):=by
 have h2:=h.setFull 2 rfl (xs:=(encF y).toList) (b:=b0) (C:=C) (T:=36) (by rw [hC];rfl)
 have ht:=there_of (h.block 2 rfl)
 rw [hC] at ht
 exact⟨⟨h.block 1 rfl,ht⟩,h2.block 2 rfl,h2.sel2 (R1:=[_,_,_]) [0] (by decide) rfl⟩
structure FlFacts (w:World) (b8 b0:Nat) (y:Fl):Prop where
 y0:w.cell? ⟨b8,0,none⟩=some (.int .u32 y.t.src)
 y1:w.cell? ⟨b8,1,none⟩=some (.int .u32 y.t.dst)
 y2:w.cell? ⟨b8,2,none⟩=some (.int .i64 y.t.proto)
 y3:w.cell? ⟨b8,3,none⟩=some (.int .i64 y.t.sport)
 y4:w.cell? ⟨b8,4,none⟩=some (.int .i64 y.t.dport)
 y5:w.cell? ⟨b8,5,none⟩=some (.int .i64 y.bk)
 y6:w.cell? ⟨b8,6,none⟩=some (.int .i64 y.gen)
 y7:w.cell? ⟨b8,7,none⟩=some (.int .i64 y.seen)
 z0:w.cell? ⟨b0,0,none⟩=some (.int .u32 0)
 z1:w.cell? ⟨b0,1,none⟩=some (.int .u32 0)
 z2:w.cell? ⟨b0,2,none⟩=some (.int .i64 0)
 z3:w.cell? ⟨b0,3,none⟩=some (.int .i64 0)
 z4:w.cell? ⟨b0,4,none⟩=some (.int .i64 0)
 z5:w.cell? ⟨b0,5,none⟩=some (.int .i64 0)
 z6:w.cell? ⟨b0,6,none⟩=some (.int .i64 0)
 z7:w.cell? ⟨b0,7,none⟩=some (.int .i64 0)
 fz:∀ j,w.frozen? ⟨b0,j,none⟩=false
theorem fl_facts {y:Fl} {b0 b8:Nat} {Q:List Asrt} (h:In F0 w0 w (RdB br s::Cells b8 (encF y) 36::Cells b0 (encF zeroF) 36::Q)):FlFacts w b8 b0 y:=
 ⟨cell_of (h.block 1 rfl) rfl,cell_of (h.block 1 rfl) rfl,cell_of (h.block 1 rfl) rfl,cell_of (h.block 1 rfl) rfl,cell_of (h.block 1 rfl) rfl,cell_of (h.block 1 rfl) rfl,cell_of (h.block 1 rfl) rfl,cell_of (h.block 1 rfl) rfl,cell_of (h.block 2 rfl) rfl,cell_of (h.block 2 rfl) rfl,cell_of (h.block 2 rfl) rfl,cell_of (h.block 2 rfl) rfl,cell_of (h.block 2 rfl) rfl,cell_of (h.block 2 rfl) rfl,cell_of (h.block 2 rfl) rfl,cell_of (h.block 2 rfl) rfl,fun j=>free_of (h.block 2 rfl)⟩
theorem o_rdfl (v:Int) (h:In F0 w0 w (RdB br s::R)):Calls Tryz.prog 163 #[pR br,.int .i64 v] w (FlPost (rdFl v s) br F0 w0 R):=by
 have h1:In F0 w0 (w.alloc (.cells (encF zeroF) 36)) (RdB br s::Cells w.heap.size (encF zeroF) 36::R):=(h.cells (encF zeroF) 36).sel2 (R1:=[_,_]) [1,0] (by decide) rfl
 have KT:=Lib.hid (o_tread h1)
 obtain⟨⟨t,ok,s1⟩,ht⟩:∃ x,x=rdTup s:=⟨_,rfl⟩
 rw [← ht] at KT
 obtain⟨s2,hs2⟩:∃ x,x=rdS 2 s1:=⟨_,rfl⟩
 obtain⟨s3,hs3⟩:∃ x,x=rdS 4 s2:=⟨_,rfl⟩
 obtain⟨a1,ha1⟩:∃ x:Int,x=rdN 2 s1:=⟨_,rfl⟩
 obtain⟨a2,ha2⟩:∃ x:Int,x=rdN 4 s2:=⟨_,rfl⟩
 have ha2w:IntKind.i64.wrap a2=a2:=by
  have:rdN 4 s2 < 4294967296:=num_lt_of (k:=4) (rdTake_len _ _ _)
  rw [IntWalk.i64_in _ (by omega)]
 have HK1:Hid (∀ w' R',In F0 w0 w' (RdB br s1::R')→Calls Tryz.prog 139 #[pR br] w' (RNPost (.int .i64 a1) br s2 F0 w0 R')):=Lib.hid fun w' R' h'=>by rw [ha1,hs2];exact k_r16 h'
 have HK2:Hid (∀ w' R',In F0 w0 w' (RdB br s2::R')→Calls Tryz.prog 138 #[pR br] w' (RNPost (.int .u32 a2) br s3 F0 w0 R')):=Lib.hid fun w' R' h'=>by rw [ha2,hs3];exact k_r32 h'
 obtain⟨s4,hs4⟩:∃ x,x=(if 2≤v then s3 else s2):=⟨_,rfl⟩
 obtain⟨a3,ha3⟩:∃ x:Int,x=sig64 (rdN 8 s4):=⟨_,rfl⟩
 obtain⟨s5,hs5⟩:∃ x,x=rdS 8 s4:=⟨_,rfl⟩
 have HK3:Hid (∀ w' R',In F0 w0 w' (RdB br s4::R')→Calls Tryz.prog 166 #[pR br] w' (RNPost (.int .i64 a3) br s5 F0 w0 R')):=Lib.hid fun w' R' h'=>by rw [ha3,hs5];exact k_r64 h'
 obtain⟨gN,hgN⟩:∃ x:Int,x=if 2≤v then a2 else 0:=⟨_,rfl⟩
 obtain⟨sN,hsN⟩:∃ x:Int,x=if 3≤v then a3 else 0:=⟨_,rfl⟩
 obtain⟨sE,hsE⟩:∃ x,x=if 3≤v then s5 else s4:=⟨_,rfl⟩
 have e:rdFl v s=(⟨t,a1,gN,sN⟩,ok,sE):=by
  rw [hgN,hsN,hsE]
  unfold rdFl
  simp only [← ht,← hs2,← hs3,← hs4,← ha1,← ha2,← ha3,← hs5]
 rw [e]
 have HGN:=Lib.hid hgN
 have HSN:=Lib.hid hsN
 have HSE:=Lib.hid hsE
 have HS4:=Lib.hid hs4
 clear e h h1 ht hs2 hs3 ha1 ha2 ha3 hs5 hgN hsN hsE hs4
 obtain⟨src,dst,proto,sport,dport⟩:=t
 go_enter Tryz.func163,Tryz.ntmps163
 go_wp2_with fail
 refine KT.out.mono ?_
 rintro e w1 ⟨rfl,g1⟩
 simp only at g1
 have g2:=(g1.cells (encT ⟨src,dst,proto,sport,dport⟩) 34).sel2 (R1:=[_,_,_]) [1,2,0] (by decide) rfl
 have g2a:=(g2.cells (encF zeroF) 36).sel2 (R1:=[_,_,_,_]) [1,0,2,3] (by decide) rfl
 simp only [World.size_alloc] at g2a
 have G2:Hid (Calls Tryz.prog 139 #[pR br] (w1.alloc (.cells #[.int .u32 src,.int .u32 dst,.int .i64 proto,.int .i64 sport,.int .i64 dport] 34)).drew (RNPost (.int .i64 a1) br s2 F0 w0 (Cells w.heap.size (encF zeroF) 36::Cells w1.heap.size (encT ⟨src,dst,proto,sport,dport⟩) 34::R))):=Lib.hid (HK1.out _ _ (g2.drewN 1))
 have G2A:Hid (Calls Tryz.prog 139 #[pR br] ((w1.alloc (.cells #[.int .u32 src,.int .u32 dst,.int .i64 proto,.int .i64 sport,.int .i64 dport] 34)).alloc (.cells #[.int .u32 0,.int .u32 0,.int .i64 0,.int .i64 0,.int .i64 0,.int .i64 0,.int .i64 0,.int .i64 0] 36)).drew (RNPost (.int .i64 a1) br s2 F0 w0 (Cells (w1.heap.size+1) (encF zeroF) 36::Cells w.heap.size (encF zeroF) 36::Cells w1.heap.size (encT ⟨src,dst,proto,sport,dport⟩) 34::R))):=Lib.hid (HK1.out _ _ (g2a.drewN 1))
 have HY:=Lib.hid (fun w' (h':In F0 w0 w' (RdB br s2::Cells w.heap.size (encF zeroF) 36::Cells w1.heap.size (encT ⟨src,dst,proto,sport,dport⟩) 34::R))=>(show w'.cell? ⟨w1.heap.size,0,none⟩=some (.int .u32 src)∧w'.cell? ⟨w1.heap.size,1,none⟩=some (.int .u32 dst)∧w'.cell? ⟨w1.heap.size,2,none⟩=some (.int .i64 proto)∧w'.cell? ⟨w1.heap.size,3,none⟩=some (.int .i64 sport)∧w'.cell? ⟨w1.heap.size,4,none⟩=some (.int .i64 dport) from ⟨cell_of (h'.block 2 rfl) rfl,cell_of (h'.block 2 rfl) rfl,cell_of (h'.block 2 rfl) rfl,cell_of (h'.block 2 rfl) rfl,cell_of (h'.block 2 rfl) rfl⟩))
 have HYA:=Lib.hid (fun w' (h':In F0 w0 w' (RdB br s2::Cells (w1.heap.size+1) (encF zeroF) 36::Cells w.heap.size (encF zeroF) 36::Cells w1.heap.size (encT ⟨src,dst,proto,sport,dport⟩) 34::R))=>And.intro (show w'.cell? ⟨w1.heap.size,0,none⟩=some (.int .u32 src)∧w'.cell? ⟨w1.heap.size,1,none⟩=some (.int .u32 dst)∧w'.cell? ⟨w1.heap.size,2,none⟩=some (.int .i64 proto)∧w'.cell? ⟨w1.heap.size,3,none⟩=some (.int .i64 sport)∧w'.cell? ⟨w1.heap.size,4,none⟩=some (.int .i64 dport) from ⟨cell_of (h'.block 3 rfl) rfl,cell_of (h'.block 3 rfl) rfl,cell_of (h'.block 3 rfl) rfl,cell_of (h'.block 3 rfl) rfl,cell_of (h'.block 3 rfl) rfl⟩) (fl_facts (y:=zeroF) (b0:=w1.heap.size+1) (b8:=w.heap.size) (h'.sel2 (R1:=[_,_,_]) [0,2,1] (by decide) rfl)))
 have HY0:Hid ((w1.alloc (.cells (encT ⟨src,dst,proto,sport,dport⟩) 34)).cell? ⟨w1.heap.size,0,none⟩=some (.int .u32 src)∧(w1.alloc (.cells (encT ⟨src,dst,proto,sport,dport⟩) 34)).cell? ⟨w1.heap.size,1,none⟩=some (.int .u32 dst)∧(w1.alloc (.cells (encT ⟨src,dst,proto,sport,dport⟩) 34)).cell? ⟨w1.heap.size,2,none⟩=some (.int .i64 proto)∧(w1.alloc (.cells (encT ⟨src,dst,proto,sport,dport⟩) 34)).cell? ⟨w1.heap.size,3,none⟩=some (.int .i64 sport)∧(w1.alloc (.cells (encT ⟨src,dst,proto,sport,dport⟩) 34)).cell? ⟨w1.heap.size,4,none⟩=some (.int .i64 dport)):=Lib.hid ⟨cell_of (g2.block 2 rfl) rfl,cell_of (g2.block 2 rfl) rfl,cell_of (g2.block 2 rfl) rfl,cell_of (g2.block 2 rfl) rfl,cell_of (g2.block 2 rfl) rfl⟩
 have HY0A:Hid (((w1.alloc (.cells (encT ⟨src,dst,proto,sport,dport⟩) 34)).alloc (.cells (encF zeroF) 36)).cell? ⟨w1.heap.size,0,none⟩=some (.int .u32 src)∧((w1.alloc (.cells (encT ⟨src,dst,proto,sport,dport⟩) 34)).alloc (.cells (encF zeroF) 36)).cell? ⟨w1.heap.size,1,none⟩=some (.int .u32 dst)∧((w1.alloc (.cells (encT ⟨src,dst,proto,sport,dport⟩) 34)).alloc (.cells (encF zeroF) 36)).cell? ⟨w1.heap.size,2,none⟩=some (.int .i64 proto)∧((w1.alloc (.cells (encT ⟨src,dst,proto,sport,dport⟩) 34)).alloc (.cells (encF zeroF) 36)).cell? ⟨w1.heap.size,3,none⟩=some (.int .i64 sport)∧((w1.alloc (.cells (encT ⟨src,dst,proto,sport,dport⟩) 34)).alloc (.cells (encF zeroF) 36)).cell? ⟨w1.heap.size,4,none⟩=some (.int .i64 dport)):=Lib.hid ⟨cell_of (g2a.block 3 rfl) rfl,cell_of (g2a.block 3 rfl) rfl,cell_of (g2a.block 3 rfl) rfl,cell_of (g2a.block 3 rfl) rfl,cell_of (g2a.block 3 rfl) rfl⟩
 clear g1 g2 g2a KT
 have hne1:¬ w1.heap.size+1=w1.heap.size:=by omega
 have hne2:¬ w1.heap.size=w1.heap.size+1:=by omega
 go_upto_region 2 with fail
 go_cut [8] (fun x8 wx=>∃ b8,x8=.pointer (some ⟨b8,0,none⟩)∧In F0 w0 wx (RdB br s2::Cells b8 (encF ⟨⟨src,dst,proto,sport,dport⟩,a1,0,0⟩) 36::Cells w.heap.size (encF zeroF) 36::R))
 case first=>
  refine e_start (fun w'=>w'.cell? ⟨w1.heap.size,0,none⟩=some (.int .u32 src)∧w'.cell? ⟨w1.heap.size,1,none⟩=some (.int .u32 dst)∧w'.cell? ⟨w1.heap.size,2,none⟩=some (.int .i64 proto)∧w'.cell? ⟨w1.heap.size,3,none⟩=some (.int .i64 sport)∧w'.cell? ⟨w1.heap.size,4,none⟩=some (.int .i64 dport)) (by kernel_rfl) HY0.out (fun hS=>?_)
  refine e_take (i:=0) (v:=?_) rfl (by kernel_rfl) (fun _ _ _ h=>h) (by rfl) ?_ hS ?_
  rotate_left
  ·(intro w hSw;(try dsimp only at hSw);go_simp;try with_reducible rfl)
  try simp only [Act.put,List.setIfInBounds_toArray,List.set_cons_zero,List.set_cons_succ]
  refine e_take (i:=1) (v:=?_) rfl (by kernel_rfl) (fun _ _ _ h=>h) (by rfl) ?_ hS ?_
  rotate_left
  ·(intro w hSw;(try dsimp only at hSw);go_simp;try with_reducible rfl)
  try simp only [Act.put,List.setIfInBounds_toArray,List.set_cons_zero,List.set_cons_succ]
  refine e_two (i:=2) (j:=4) rfl rfl (by kernel_rfl) (fun K' hK=>?_) (fun K' hK=>?_)
  ·go_simp
   go_at_call 139
   refine G2.out.mono ?_
   rintro e w2 ⟨rfl,g3⟩
   have hz:=HY.out w2 g3
   have G3:=Lib.hid g3
   clear g3 hS
   refine hK.out _ _ hz (fun hS=>?_)
   clear hK K'
   try simp only [Act.put,List.setIfInBounds_toArray,List.set_cons_zero,List.set_cons_succ]
   refine e_take (i:=3) (v:=?_) rfl (by kernel_rfl) (fun _ _ _ h=>h) (by rfl) ?_ hS ?_
   rotate_left
   ·(intro w hSw;(try dsimp only at hSw);go_simp;try with_reducible rfl)
   try simp only [Act.put,List.setIfInBounds_toArray,List.set_cons_zero,List.set_cons_succ]
   have g8:=(G3.out.cells (encF ⟨⟨src,dst,proto,sport,dport⟩,a1,0,0⟩) 36).sel2 (R1:=[_,_,_,_]) [1,0,2,3] (by decide) rfl
   have G8:=Lib.hid g8
   refine e_pin (i:=4) rfl (by kernel_rfl) (fun K' hK=>?_)
   go_simp
   refine hK.out _ _ (by have h9:=(G3.out.cells #[.int .u32 0,.int .u32 0,.int .i64 0,.int .i64 0,.int .i64 0,.int .i64 0,.int .i64 0,.int .i64 0] 36);exact⟨cell_of (h9.block 3 rfl) rfl,cell_of (h9.block 3 rfl) rfl,cell_of (h9.block 3 rfl) rfl,cell_of (h9.block 3 rfl) rfl,cell_of (h9.block 3 rfl) rfl⟩) (fun hS=>?_)
   clear hK K'
   try simp only [Act.put,List.setIfInBounds_toArray,List.set_cons_zero,List.set_cons_succ]
   refine e_last (i:=5) rfl (by kernel_rfl) (fun K' hK=>?_)
   go_simp
   refine hK.out _ _ ?_
   clear hK K'
   go_wp2_with fail
   go_meet
   exact⟨_,rfl,G8.out.sel2 (R1:=[_,_,_,_]) [0,1,2] (by decide) rfl⟩
  ·go_simp
   clear hS
   refine hK.out _ _ HY0A.out (fun hS=>?_)
   clear hK K'
   try simp only [Act.put,List.setIfInBounds_toArray,List.set_cons_zero,List.set_cons_succ]
   refine e_pin (i:=2) rfl (by kernel_rfl) (fun K' hK=>?_)
   go_simp
   go_at_call 139
   refine G2A.out.mono ?_
   rintro e w2 ⟨rfl,g3⟩
   obtain⟨hz,fc⟩:=HYA.out w2 g3
   have ht:=there_of (g3.block 1 rfl)
   have g8:=g3.setFull 1 rfl (xs:=(encF ⟨⟨src,dst,proto,sport,dport⟩,a1,0,0⟩).toList) (b:=w1.heap.size+1) (C:=encF zeroF) (T:=36) rfl
   have G8:=Lib.hid g8
   clear g3 g8 fc hS
   refine hK.out _ _ hz (fun hS=>?_)
   clear hK K'
   try simp only [Act.put,List.setIfInBounds_toArray,List.set_cons_zero,List.set_cons_succ]
   refine e_take (i:=3) (v:=?_) rfl (by kernel_rfl) (fun _ _ _ h=>h) (by rfl) ?_ hS ?_
   rotate_left
   ·(intro w hSw;(try dsimp only at hSw);go_simp;try with_reducible rfl)
   try simp only [Act.put,List.setIfInBounds_toArray,List.set_cons_zero,List.set_cons_succ]
   refine e_last (i:=5) rfl (by kernel_rfl) (fun K' hK=>?_)
   rw [if_pos (by rfl)]
   refine wp_store_mid 36 (.tmp 8) (.tmp 17) rfl (w1.heap.size+1) 0 (encF ⟨⟨src,dst,proto,sport,dport⟩,a1,0,0⟩) (by rfl) (by rfl) ht (by kernel_rfl) (encF_all _) ?_
   refine hK.out _ _ ?_
   clear hK K'
   go_wp2_with fail
   go_meet
   exact⟨_,rfl,G8.out.sel2 (R1:=[_,_,_,_]) [0,1,2] (by decide) rfl⟩
 case rest=>
  obtain⟨b8,rfl,hio⟩:=hcut
  by_cases v2:2≤v
  ·have EG:gN=a2:=by rw [HGN.out,if_pos v2]
   have E4:s4=s3:=by rw [HS4.out,if_pos v2]
   have K2:=Lib.hid (HK2.out wc _ hio)
   by_cases v3:3≤v
   ·have ES:sN=a3:=by rw [HSN.out,if_pos v3]
    have EE:sE=s5:=by rw [HSE.out,if_pos v3]
    have HF:Hid (∀ w',In F0 w0 w' (RdB br s5::R)→FlPost (⟨⟨src,dst,proto,sport,dport⟩,a1,gN,sN⟩,ok,sE) br F0 w0 R (.returned (.tuple #[.agg (encF ⟨⟨src,dst,proto,sport,dport⟩,a1,a2,a3⟩),.bool ok])) w'):=Lib.hid fun w' h'=>by
     rw [EG,ES,EE]
     exact⟨rfl,h'⟩
    have HK3':Hid (∀ w' R',In F0 w0 w' (RdB br s3::R')→Calls Tryz.prog 166 #[pR br] w' (RNPost (.int .i64 a3) br s5 F0 w0 R')):=Lib.hid fun w' R' h'=>HK3.out w' R' (by rw [E4];exact h')
    clear EG ES EE E4 HGN HSN HSE HS4 HK1 HK2 HK3 hio G2 G2A HY HYA HY0 HY0A hne1 hne2
    go_wp2_with fail
    refine K2.out.mono ?_
    rintro e w3 ⟨rfl,g3⟩
    have f6:w3.frozen? ⟨b8,6,none⟩=false:=free_of (g3.block 1 rfl)
    have d6:w3.cell? ⟨b8,6,none⟩=some (.int .i64 0):=cell_of (g3.block 1 rfl) rfl
    have g4:In F0 w0 (w3.setCell ⟨b8,6,none⟩ (.int .i64 a2)) (RdB br s3::Cells b8 (encF ⟨⟨src,dst,proto,sport,dport⟩,a1,a2,0⟩) 36::Cells w.heap.size (encF zeroF) 36::R):=by
     have h9:=In.setCs [.int .i64 a2] 6 1 g3 (b:=b8) (C:=encF ⟨⟨src,dst,proto,sport,dport⟩,a1,0,0⟩) (T:=36) rfl
     rw [setL_at (ys:=(encF ⟨⟨src,dst,proto,sport,dport⟩,a1,a2,0⟩).toList) (by simp) (by simp)] at h9
     exact h9
    have K3:=Lib.hid (HK3'.out _ _ g4)
    clear g3 g4 K2 HK3'
    go_wp2_with fail
    refine K3.out.mono ?_
    rintro e w4 ⟨rfl,g5⟩
    clear f6 d6
    have f7:w4.frozen? ⟨b8,7,none⟩=false:=free_of (g5.block 1 rfl)
    have d7:w4.cell? ⟨b8,7,none⟩=some (.int .i64 0):=cell_of (g5.block 1 rfl) rfl
    have g6:In F0 w0 (w4.setCell ⟨b8,7,none⟩ (.int .i64 a3)) (RdB br s5::Cells b8 (encF ⟨⟨src,dst,proto,sport,dport⟩,a1,a2,a3⟩) 36::Cells w.heap.size (encF zeroF) 36::R):=by
     have h9:=In.setCs [.int .i64 a3] 7 1 g5 (b:=b8) (C:=encF ⟨⟨src,dst,proto,sport,dport⟩,a1,a2,0⟩) (T:=36) rfl
     rw [setL_at (ys:=(encF ⟨⟨src,dst,proto,sport,dport⟩,a1,a2,a3⟩).toList) (by simp) (by simp)] at h9
     exact h9
    clear g5 K3
    obtain⟨y0,y1,y2,y3,y4,y5,y6,y7,z0,z1,z2,z3,z4,z5,z6,z7,kf⟩:=fl_facts g6
    simp only at y0 y1 y2 y3 y4 y5 y6 y7
    obtain⟨-,q3,q4⟩:=fl_end g6 rfl
    have Q3:=Lib.hid q3
    have Q4:=Lib.hid (HF.out _ q4)
    clear g6 q3 q4 HF
    go_wp2_with fail
    exact bodyPost_ret (results_cell_tmp_row Tryz.results163 _ _ w.heap.size 36 _ (0,0) _ rfl Q3.out Tryz.underlying36 rfl (by kernel_rfl)) rfl Q4.out
   ·have q3v:decide (3≤v)=false:=decide_eq_false v3
    have ES:sN=0:=by rw [HSN.out,if_neg v3]
    have EE:sE=s3:=by rw [HSE.out,if_neg v3,E4]
    have HF:Hid (∀ w',In F0 w0 w' (RdB br s3::R)→FlPost (⟨⟨src,dst,proto,sport,dport⟩,a1,gN,sN⟩,ok,sE) br F0 w0 R (.returned (.tuple #[.agg (encF ⟨⟨src,dst,proto,sport,dport⟩,a1,a2,0⟩),.bool ok])) w'):=Lib.hid fun w' h'=>by
     rw [EG,ES,EE]
     exact⟨rfl,h'⟩
    clear EG ES EE E4 HGN HSN HSE HS4 HK1 HK2 HK3 hio G2 G2A HY HYA HY0 HY0A hne1 hne2 v3
    go_wp2_with fail
    refine K2.out.mono ?_
    rintro e w3 ⟨rfl,g3⟩
    have f6:w3.frozen? ⟨b8,6,none⟩=false:=free_of (g3.block 1 rfl)
    have d6:w3.cell? ⟨b8,6,none⟩=some (.int .i64 0):=cell_of (g3.block 1 rfl) rfl
    have g4:In F0 w0 (w3.setCell ⟨b8,6,none⟩ (.int .i64 a2)) (RdB br s3::Cells b8 (encF ⟨⟨src,dst,proto,sport,dport⟩,a1,a2,0⟩) 36::Cells w.heap.size (encF zeroF) 36::R):=by
     have h9:=In.setCs [.int .i64 a2] 6 1 g3 (b:=b8) (C:=encF ⟨⟨src,dst,proto,sport,dport⟩,a1,0,0⟩) (T:=36) rfl
     rw [setL_at (ys:=(encF ⟨⟨src,dst,proto,sport,dport⟩,a1,a2,0⟩).toList) (by simp) (by simp)] at h9
     exact h9
    clear g3 K2
    obtain⟨y0,y1,y2,y3,y4,y5,y6,y7,z0,z1,z2,z3,z4,z5,z6,z7,kf⟩:=fl_facts g4
    simp only at y0 y1 y2 y3 y4 y5 y6 y7
    obtain⟨-,q3,q4⟩:=fl_end g4 rfl
    have Q3:=Lib.hid q3
    have Q4:=Lib.hid (HF.out _ q4)
    clear g4 q3 q4 HF
    go_wp2_with fail
    exact bodyPost_ret (results_cell_tmp_row Tryz.results163 _ _ w.heap.size 36 _ (0,0) _ rfl Q3.out Tryz.underlying36 rfl (by kernel_rfl)) rfl Q4.out
  ·have q2v:decide (2≤v)=false:=decide_eq_false v2
   have q3v:decide (3≤v)=false:=decide_eq_false (by omega)
   have EG:gN=0:=by rw [HGN.out,if_neg v2]
   have E4:s4=s2:=by rw [HS4.out,if_neg v2]
   have ES:sN=0:=by rw [HSN.out,if_neg (by omega)]
   have EE:sE=s2:=by rw [HSE.out,if_neg (by omega),E4]
   have HF:Hid (∀ w',In F0 w0 w' (RdB br s2::R)→FlPost (⟨⟨src,dst,proto,sport,dport⟩,a1,gN,sN⟩,ok,sE) br F0 w0 R (.returned (.tuple #[.agg (encF ⟨⟨src,dst,proto,sport,dport⟩,a1,0,0⟩),.bool ok])) w'):=Lib.hid fun w' h'=>by
    rw [EG,ES,EE]
    exact⟨rfl,h'⟩
   clear EG ES EE E4 HGN HSN HSE HS4 HK1 HK2 HK3 G2 G2A HY HYA HY0 HY0A hne1 hne2 v2
   obtain⟨y0,y1,y2,y3,y4,y5,y6,y7,z0,z1,z2,z3,z4,z5,z6,z7,kf⟩:=fl_facts hio
   simp only at y0 y1 y2 y3 y4 y5 y6 y7
   obtain⟨-,q3,q4⟩:=fl_end hio rfl
   have Q3:=Lib.hid q3
   have Q4:=Lib.hid (HF.out _ q4)
   clear hio q3 q4 HF
   go_wp2_with fail
   exact bodyPost_ret (results_cell_tmp_row Tryz.results163 _ _ w.heap.size 36 _ (0,0) _ rfl Q3.out Tryz.underlying36 rfl (by kernel_rfl)) rfl Q4.out
end
theorem wrap1 {k:Nat} (h:k≤1000000000):wrap64 ((k:Int)+1)=(k:Int)+1:=by unfold wrap64;omega
section
variable {F0:List Nat} {w0 w:World} {R:List Asrt} {br:Nat} {s:RdS}
def BrRel (v:Int) (n:Nat) (s:RdS) (br:Nat) (F0:List Nat) (w0:World) (R:List Asrt) (pv i:Value) (wr:World):Prop:=
 ∃ k:Nat,k≤n∧i=.int .i64 k∧In F0 w0 wr (RdB br (rdBks v k s).2::BkR pv (rdBks v k s).1::R)
def BrPost (v:Int) (n:Nat) (s:RdS) (br:Nat) (F0:List Nat) (w0:World) (R:List Asrt) (e:Ending) (w':World):Prop:=
 ∃ pv,e=.returned pv∧In F0 w0 w' (RdB br (rdBks v n s).2::BkR pv (rdBks v n s).1::R)
theorem rdBks_length (v:Int) (s:RdS):∀ k,(rdBks v k s).1.length=k
 | 0=>rfl
 | k+1=>by show ((rdBks v k s).1++[_]).length=_;rw [List.length_append,rdBks_length v s k];rfl
theorem br_step {v:Int} {n k nb mb:Nat} {pv:Value} {C C2:Array Value} {ty ty2:Nat} {s1:RdS} {l:List Bk} {b:Bk} {s2:RdS} (hk:k < n) (hl:rdBks v k s=(l,s1)) (hb:rdBk v s1=(b,s2))
  (h:In F0 w0 w (Cells nb C ty::RdB br s2::Cells mb C2 ty2::RowA 119 3 pv (l.length+1) (bkV l++encB b)::R)):BrRel v n s br F0 w0 R pv (.int .i64 ((k:Int)+1)) w:=by
 have e:rdBks v (k+1) s=(l++[b],s2):=by
  show ((rdBks v k s).1++[(rdBk v (rdBks v k s).2).1],(rdBk v (rdBks v k s).2).2)=_
  rw [hl,hb]
 refine⟨k+1,hk,by rw [Int.natCast_add];rfl,?_⟩
 rw [e]
 unfold BkR
 rw [bkV_snoc,List.length_append]
 exact h.sel2 (R1:=[_,_,_,_]) [1,3] (by decide) rfl
theorem o_rdbks (v:Int) (h:In F0 w0 w (RdB br s::R)):Calls Tryz.prog 165 #[pR br,.int .i64 v] w (BrPost v (min (rdN 1 s) 17) (rdS 1 s) br F0 w0 R):=by
 obtain⟨m,hm⟩:∃ m,m=rdN 1 s:=⟨_,rfl⟩
 obtain⟨s0,hs0⟩:∃ x,x=rdS 1 s:=⟨_,rfl⟩
 have K1:=k_r8 h
 rw [← hm,← hs0] at K1 ⊢
 have HK1:=Lib.hid K1
 obtain⟨n,hn⟩:∃ n,n=min m 17:=⟨_,rfl⟩
 have hn17:n≤17:=by omega
 have hmin:min (m:Int) 17=(n:Int):=by omega
 rw [← hn]
 clear h K1 hm hs0 hn
 have HN17:=Lib.hid hn17
 go_enter Tryz.func165,Tryz.ntmps165
 go_wp2_with fail
 refine HK1.out.mono ?_
 rintro e w1 ⟨rfl,g1⟩
 have HR:Hid (BrRel v n s0 br F0 w0 R (.slice none 0 0) (.int .i64 0) w1):=Lib.hid ⟨0,Nat.zero_le _,rfl,(g1.rownil 119 3).sel2 (R1:=[_,_]) [1,0] (by decide) rfl⟩
 clear g1 HK1
 go_wp2_with fail
 go_loopw [5,10] (BrRel v n s0 br F0 w0 R) (fun _ k _=>n - (intOf k).toNat)
 case atStart=>exact HR.out
 case round=>
  obtain⟨k,hk,rfl,hio⟩:=hrel
  clear HR
  by_cases hlt:k < n
  ·obtain⟨⟨l,s1⟩,hl⟩:∃ x,x=rdBks v k s0:=⟨_,rfl⟩
   rw [← hl] at hio
   simp only at hio
   have hll:l.length=k:=by have:=rdBks_length v s0 k;rw [← hl] at this;exact this
   obtain⟨s2,hs2⟩:∃ x,x=rdS 2 s1:=⟨_,rfl⟩
   obtain⟨s3,hs3⟩:∃ x,x=rdS 4 s2:=⟨_,rfl⟩
   obtain⟨s4,hs4⟩:∃ x,x=rdS 1 s3:=⟨_,rfl⟩
   obtain⟨a1,ha1⟩:∃ x:Int,x=rdN 2 s1:=⟨_,rfl⟩
   obtain⟨a2,ha2⟩:∃ x:Int,x=rdN 4 s2:=⟨_,rfl⟩
   obtain⟨a3,ha3⟩:∃ x:Int,x=rdN 1 s3:=⟨_,rfl⟩
   have hlt':(k:Int) < (n:Int):=Int.ofNat_lt.2 hlt
   have hw2:wrap64 ((k:Int)+1)=(k:Int)+1:=wrap1 (Nat.le_trans (Nat.le_of_lt hlt) (Nat.le_trans HN17.out (by decide)))
   obtain⟨Fv,rv⟩:=hio.get 1 rfl
   obtain⟨pa,pc,rfl,-,-,-⟩:=RowA.shape rv
   have KA:Hid (Calls Tryz.prog 139 #[pR br] wr (RNPost (.int .i64 a1) br s2 F0 w0 (BkR (.slice pa l.length pc) l::R))):=Lib.hid (by rw [ha1,hs2];exact k_r16 hio)
   have KB:Hid (∀ w',In F0 w0 w' (RdB br s2::BkR (.slice pa l.length pc) l::R)→Calls Tryz.prog 138 #[pR br] w' (RNPost (.int .u32 a2) br s3 F0 w0 (BkR (.slice pa l.length pc) l::R))):=Lib.hid fun w' h'=>by rw [ha2,hs3];exact k_r32 h'
   have KC:Hid (∀ w' R',In F0 w0 w' (RdB br s3::R')→Calls Tryz.prog 160 #[pR br] w' (RNPost (.int .i64 a3) br s4 F0 w0 R')):=Lib.hid fun w' R' h'=>by rw [ha3,hs4];exact k_r8 h'
   have HLL:Hid (l.length≤17):=Lib.hid (by rw [hll];exact Nat.le_trans (Nat.le_of_lt hlt) HN17.out)
   by_cases v2:2≤v
   ·have hb:rdBk v s1=(⟨a1,a2,a3⟩,s4):=by unfold rdBk;rw [if_pos v2,if_pos v2,← hs2,← hs3,← hs4,← ha1,← ha2,← ha3]
    have HN:=Lib.hid (fun nb mb C C2 ty ty2 pv w' h'=>br_step (F0:=F0) (w0:=w0) (w:=w') (R:=R) (br:=br) (s:=s0) (v:=v) (n:=n) (k:=k) (nb:=nb) (mb:=mb) (pv:=pv) (C:=C) (C2:=C2) (ty:=ty) (ty2:=ty2) hlt hl.symm hb h')
    clear hio hk hlt hl hll hs2 hs3 hs4 ha1 ha2 ha3 rv hb
    go_wp2_with fail
    refine KA.out.mono ?_
    rintro e w2 ⟨rfl,g2⟩
    have KB2:=Lib.hid (KB.out w2 g2)
    clear g2 KA KB
    go_wp2_with fail
    refine KB2.out.mono ?_
    rintro e w3 ⟨rfl,g3⟩
    have KC2:=Lib.hid (KC.out _ _ ((g3.cells #[.int .i64 a1,.int .u32 a2,.int .i64 1] 119).sel2 (R1:=[_,_,_]) [1,0,2] (by decide) rfl))
    clear g3 KB2 KC
    go_wp2_with fail
    refine KC2.out.mono ?_
    rintro e w4 ⟨rfl,g4⟩
    have f2:w4.frozen? ⟨w3.heap.size,2,none⟩=false:=free_of (g4.block 1 rfl)
    have d0:w4.cell? ⟨w3.heap.size,0,none⟩=some (.int .i64 a1):=cell_of (g4.block 1 rfl) rfl
    have d1:w4.cell? ⟨w3.heap.size,1,none⟩=some (.int .u32 a2):=cell_of (g4.block 1 rfl) rfl
    have d2:w4.cell? ⟨w3.heap.size,2,none⟩=some (.int .i64 1):=cell_of (g4.block 1 rfl) rfl
    have g5:In F0 w0 (w4.setCell ⟨w3.heap.size,2,none⟩ (.int .i64 a3)) (RdB br s4::Cells w3.heap.size #[.int .i64 a1,.int .u32 a2,.int .i64 a3] 119::BkR (.slice pa l.length pc) l::R):=by
     have h9:=In.setCs [.int .i64 a3] 2 1 g4 (b:=w3.heap.size) (C:=#[.int .i64 a1,.int .u32 a2,.int .i64 1]) (T:=119) rfl
     rw [setL_at (ys:=[.int .i64 a1,.int .u32 a2,.int .i64 a3]) (by simp) (by simp)] at h9
     exact h9
    have q0:(w4.setCell ⟨w3.heap.size,2,none⟩ (.int .i64 a3)).cell? ⟨w3.heap.size,0,none⟩=some (.int .i64 a1):=cell_of (g5.block 1 rfl) rfl
    have q1:(w4.setCell ⟨w3.heap.size,2,none⟩ (.int .i64 a3)).cell? ⟨w3.heap.size,1,none⟩=some (.int .u32 a2):=cell_of (g5.block 1 rfl) rfl
    have q2:(w4.setCell ⟨w3.heap.size,2,none⟩ (.int .i64 a3)).cell? ⟨w3.heap.size,2,none⟩=some (.int .i64 a3):=cell_of (g5.block 1 rfl) rfl
    have g6:=g5.cells #[.int .i64 a1,.int .u32 a2,.int .i64 a3] 119
    have hsz:(w4.setCell ⟨w3.heap.size,2,none⟩ (.int .i64 a3)).heap.size=w4.heap.size:=by simp
    rw [hsz] at g6
    clear hsz
    have G6:=Lib.hid g6
    have SB:=Lib.hid (Src.of_block (k:=3) (g6.block 0 rfl) rfl)
    clear g4 g5 g6 KC2
    go_wp2_with (at_builtin;refine app_list rfl G6.out 3 rfl (.tmp 22) (.tmp 24) 37 (by rfl) Tryz.underlying37 infoBk (by decide) (by decide) (by rfl) (by rfl) SB.out (fun u hu=>by simp at hu;rcases hu with rfl | rfl | rfl <;> rfl) (Nat.le_trans (Nat.add_le_add_right HLL.out 1) (by decide)) ?_)
    intro v' w5 ho5 hg5
    have HN2:=Lib.hid (HN.out _ _ _ _ _ _ _ _ (ho5.sel2 (R1:=[_,_,_,_]) [0,1,2,3] (by decide) rfl))
    clear ho5 hg5 G6 SB HN
    go_wp2_with fail
    go_roundw
    case rel=>(try rw [hw2]);exact HN2.out
    case measure=>(try rw [hw2]);exact meas_lt hlt'
   ·have hb:rdBk v s1=(⟨a1,a2,1⟩,s3):=by unfold rdBk;rw [if_neg v2,if_neg v2,← hs2,← hs3,← ha1,← ha2]
    have q2v:decide (2≤v)=false:=decide_eq_false v2
    have HN:=Lib.hid (fun nb mb C C2 ty ty2 pv w' h'=>br_step (F0:=F0) (w0:=w0) (w:=w') (R:=R) (br:=br) (s:=s0) (v:=v) (n:=n) (k:=k) (nb:=nb) (mb:=mb) (pv:=pv) (C:=C) (C2:=C2) (ty:=ty) (ty2:=ty2) hlt hl.symm hb h')
    clear hio hk hlt hl hll hs2 hs3 hs4 ha1 ha2 ha3 rv hb v2 KC
    go_wp2_with fail
    refine KA.out.mono ?_
    rintro e w2 ⟨rfl,g2⟩
    have KB2:=Lib.hid (KB.out w2 g2)
    clear g2 KA KB
    go_wp2_with fail
    refine KB2.out.mono ?_
    rintro e w3 ⟨rfl,g3⟩
    have g6:=((g3.cells #[.int .i64 a1,.int .u32 a2,.int .i64 1] 119).sel2 (R1:=[_,_,_]) [1,0,2] (by decide) rfl).cells #[.int .i64 a1,.int .u32 a2,.int .i64 1] 119
    simp only [World.size_alloc] at g6
    have G6:=Lib.hid g6
    have SB:=Lib.hid (Src.of_block (k:=3) (g6.block 0 rfl) rfl)
    clear g3 g6 KB2
    go_wp2_with (at_builtin;refine app_list rfl G6.out 3 rfl (.tmp 22) (.tmp 24) 37 (by rfl) Tryz.underlying37 infoBk (by decide) (by decide) (by rfl) (by rfl) SB.out (fun u hu=>by simp at hu;rcases hu with rfl | rfl | rfl <;> rfl) (Nat.le_trans (Nat.add_le_add_right HLL.out 1) (by decide)) ?_)
    intro v' w5 ho5 hg5
    have HN2:=Lib.hid (HN.out _ _ _ _ _ _ _ _ (ho5.sel2 (R1:=[_,_,_,_]) [0,1,2,3] (by decide) rfl))
    clear ho5 hg5 G6 SB HN
    go_wp2_with fail
    go_roundw
    case rel=>(try rw [hw2]);exact HN2.out
    case measure=>(try rw [hw2]);exact meas_lt hlt'
  ·have hge:(n:Int)≤(k:Int):=Int.ofNat_le.2 (Nat.le_of_not_lt hlt)
   obtain rfl:k=n:=Nat.le_antisymm hk (Nat.le_of_not_lt hlt)
   have G:=Lib.hid hio
   clear hio hk hlt
   go_wp2_with fail
   go_ret
   exact⟨_,rfl,G.out⟩
end
structure RcY (w:World) (b:Nat) (y:Rec) (pv:Value):Prop where
 y0:w.cell? ⟨b,0,none⟩=some (.int .i64 y.kind)
 y1:w.cell? ⟨b,1,none⟩=some (.int .u32 y.fl.t.src)
 y2:w.cell? ⟨b,2,none⟩=some (.int .u32 y.fl.t.dst)
 y3:w.cell? ⟨b,3,none⟩=some (.int .i64 y.fl.t.proto)
 y4:w.cell? ⟨b,4,none⟩=some (.int .i64 y.fl.t.sport)
 y5:w.cell? ⟨b,5,none⟩=some (.int .i64 y.fl.t.dport)
 y6:w.cell? ⟨b,6,none⟩=some (.int .i64 y.fl.bk)
 y7:w.cell? ⟨b,7,none⟩=some (.int .i64 y.fl.gen)
 y8:w.cell? ⟨b,8,none⟩=some (.int .i64 y.fl.seen)
 y9:w.cell? ⟨b,9,none⟩=some (.int .i64 y.gen)
 y10:w.cell? ⟨b,10,none⟩=some (pv)
 y11:w.cell? ⟨b,11,none⟩=some (.int .i64 y.bk)
 y12:w.cell? ⟨b,12,none⟩=some (.int .i64 y.till)
 y13:w.cell? ⟨b,13,none⟩=some (.int .i64 y.count)
 fz:∀ j,w.frozen? ⟨b,j,none⟩=false
section
variable {F0:List Nat} {w0 w:World} {R:List Asrt} {br:Nat} {s:RdS}
theorem rc_y {b:Nat} {y:Rec} {pv:Value} (h:w.heap[b]?=some (.cells (encRL y pv).toArray 39 (0,0))):RcY w b y pv:=
 ⟨cell_of h rfl,cell_of h rfl,cell_of h rfl,cell_of h rfl,cell_of h rfl,cell_of h rfl,cell_of h rfl,cell_of h rfl,cell_of h rfl,cell_of h rfl,cell_of h rfl,cell_of h rfl,cell_of h rfl,cell_of h rfl,fun j=>free_of h⟩
def RrPost (r:Rec×Bool×RdS) (br:Nat) (F0:List Nat) (w0:World) (R:List Asrt) (e:Ending) (w':World):Prop:=
 ∃ pv,e=.returned (.tuple #[.agg (encRL r.1 pv).toArray,.bool r.2.1])∧In F0 w0 w' (BkR pv r.1.bks::RdB br r.2.2::R)
theorem o_rdrec1 (v:Int) (h:In F0 w0 w (RdB br s::R)):Calls Tryz.prog 143 #[pR br,.int .i64 1,.int .i64 v] w (RrPost (rdRec 1 v s) br F0 w0 R):=by
 have hmf:∀ (fn:Fn) (first cap:Array Value) (w:World),(Instr.makeFunc fn first cap).run Tryz.prog w=.ok (.func fn first cap) w:=fun _ _ _ _=>rfl
 have h2:In F0 w0 ((w.alloc (.cells (encRL zeroRec (.slice none 0 0)).toArray 39)).alloc (.cells (encRL ⟨1,zeroF,0,[],0,0,0⟩ (.slice none 0 0)).toArray 39)) (RdB br s::Cells (w.heap.size+1) (encRL ⟨1,zeroF,0,[],0,0,0⟩ (.slice none 0 0)).toArray 39::Cells w.heap.size (encRL zeroRec (.slice none 0 0)).toArray 39::R):=by
  have h2:=(h.cells (encRL zeroRec (.slice none 0 0)).toArray 39).cells (encRL ⟨1,zeroF,0,[],0,0,0⟩ (.slice none 0 0)).toArray 39
  simp only [World.size_alloc] at h2
  exact h2.sel2 (R1:=[_,_,_]) [2,0,1] (by decide) rfl
 have KF:=Lib.hid (o_rdfl v h2)
 have e:rdRec 1 v s=(⟨1,(rdFl v s).1,0,[],0,0,0⟩,(rdFl v s).2.1,(rdFl v s).2.2):=rfl
 rw [e]
 generalize rdFl v s=r at *
 obtain⟨⟨⟨src,dst,proto,sport,dport⟩,fbk,fgen,fseen⟩,ok,sE⟩:=r
 simp only at *
 have HF:Hid (∀ w' pv,In F0 w0 w' (BkR pv []::RdB br sE::R)→RrPost (⟨1,⟨⟨src,dst,proto,sport,dport⟩,fbk,fgen,fseen⟩,0,[],0,0,0⟩,ok,sE) br F0 w0 R (.returned (.tuple #[.agg (encRL ⟨1,⟨⟨src,dst,proto,sport,dport⟩,fbk,fgen,fseen⟩,0,[],0,0,0⟩ pv).toArray,.bool ok])) w'):=Lib.hid fun w' pv h'=>⟨pv,rfl,h'⟩
 clear e h h2
 go_enter Tryz.func143,Tryz.ntmps143
 go_wp2_with fail
 refine KF.out.mono ?_
 rintro e w2 ⟨rfl,g2⟩
 simp only at g2
 obtain⟨e0,e1,e2,e3,e4,e5,e6,e7,e8,e9,e10,e11,e12,e13,ef⟩:=rc_y (y:=⟨1,zeroF,0,[],0,0,0⟩) (pv:=.slice none 0 0) (g2.block 1 rfl)
 simp only [zeroF,zeroT] at e0 e1 e2 e3 e4 e5 e6 e7 e8 e9 e10 e11 e12 e13
 have g3:In F0 w0 (((((((((w2.setCell ⟨w.heap.size+1,1,none⟩ (.int .u32 src)).setCell ⟨w.heap.size+1,2,none⟩ (.int .u32 dst)).setCell ⟨w.heap.size+1,3,none⟩ (.int .i64 proto)).setCell ⟨w.heap.size+1,4,none⟩ (.int .i64 sport)).setCell ⟨w.heap.size+1,5,none⟩ (.int .i64 dport)).setCell ⟨w.heap.size+1,6,none⟩ (.int .i64 fbk)).setCell ⟨w.heap.size+1,7,none⟩ (.int .i64 fgen)).setCell ⟨w.heap.size+1,8,none⟩ (.int .i64 fseen))) (BkR (.slice none 0 0) []::Cells (w.heap.size+1) (encRL ⟨1,⟨⟨src,dst,proto,sport,dport⟩,fbk,fgen,fseen⟩,0,[],0,0,0⟩ (.slice none 0 0)).toArray 39::Cells w.heap.size (encRL zeroRec (.slice none 0 0)).toArray 39::RdB br sE::R):=by
  have h9:=In.setCs [.int .u32 src,.int .u32 dst,.int .i64 proto,.int .i64 sport,.int .i64 dport,.int .i64 fbk,.int .i64 fgen,.int .i64 fseen] 1 1 g2 (b:=w.heap.size+1) (C:=(encRL ⟨1,zeroF,0,[],0,0,0⟩ (.slice none 0 0)).toArray) (T:=39) rfl
  rw [setL_at (ys:=encRL ⟨1,⟨⟨src,dst,proto,sport,dport⟩,fbk,fgen,fseen⟩,0,[],0,0,0⟩ (.slice none 0 0)) (by simp) (by simp [zeroF,zeroT])] at h9
  exact (h9.rownil 119 3).sel2 (R1:=[_,_,_,_]) [0,2,3,1] (by decide) rfl
 clear g2 KF
 obtain⟨p0,p1,p2,p3,p4,p5,p6,p7,p8,p9,p10,p11,p12,p13,-⟩:=rc_y (g3.block 1 rfl)
 obtain⟨z0,z1,z2,z3,z4,z5,z6,z7,z8,z9,z10,z11,z12,z13,zf⟩:=rc_y (g3.block 2 rfl)
 simp only at p0 p1 p2 p3 p4 p5 p6 p7 p8 p9 p10 p11 p12 p13
 simp only [zeroRec,zeroF,zeroT] at z0 z1 z2 z3 z4 z5 z6 z7 z8 z9 z10 z11 z12 z13
 obtain⟨-,q3,q4⟩:=rec_end g3 rfl
 have Q3:=Lib.hid q3
 have Q4:=Lib.hid (HF.out _ _ q4)
 clear g3 q3 q4 HF
 go_wp2_with fail
 exact bodyPost_ret (results_cell_tmp_row Tryz.results143 _ _ w.heap.size 39 _ (0,0) _ rfl Q3.out Tryz.underlying39 rfl (by kernel_rfl)) rfl Q4.out
theorem o_rdrec2 (v:Int) (h:In F0 w0 w (RdB br s::R)):Calls Tryz.prog 143 #[pR br,.int .i64 2,.int .i64 v] w (RrPost (rdRec 2 v s) br F0 w0 R):=by
 have hmf:∀ (fn:Fn) (first cap:Array Value) (w:World),(Instr.makeFunc fn first cap).run Tryz.prog w=.ok (.func fn first cap) w:=fun _ _ _ _=>rfl
 have h2:In F0 w0 ((w.alloc (.cells (encRL zeroRec (.slice none 0 0)).toArray 39)).alloc (.cells (encRL ⟨2,zeroF,0,[],0,0,0⟩ (.slice none 0 0)).toArray 39)) (RdB br s::Cells (w.heap.size+1) (encRL ⟨2,zeroF,0,[],0,0,0⟩ (.slice none 0 0)).toArray 39::Cells w.heap.size (encRL zeroRec (.slice none 0 0)).toArray 39::R):=by
  have h2:=(h.cells (encRL zeroRec (.slice none 0 0)).toArray 39).cells (encRL ⟨2,zeroF,0,[],0,0,0⟩ (.slice none 0 0)).toArray 39
  simp only [World.size_alloc] at h2
  exact h2.sel2 (R1:=[_,_,_]) [2,0,1] (by decide) rfl
 have KF:=Lib.hid (o_tread h2)
 have e:rdRec 2 v s=(⟨2,⟨(rdTup s).1,0,0,0⟩,0,[],0,0,0⟩,(rdTup s).2.1,(rdTup s).2.2):=rfl
 rw [e]
 generalize rdTup s=r at *
 obtain⟨⟨src,dst,proto,sport,dport⟩,ok,sE⟩:=r
 simp only at *
 have HF:Hid (∀ w' pv,In F0 w0 w' (BkR pv []::RdB br sE::R)→RrPost (⟨2,⟨⟨src,dst,proto,sport,dport⟩,0,0,0⟩,0,[],0,0,0⟩,ok,sE) br F0 w0 R (.returned (.tuple #[.agg (encRL ⟨2,⟨⟨src,dst,proto,sport,dport⟩,0,0,0⟩,0,[],0,0,0⟩ pv).toArray,.bool ok])) w'):=Lib.hid fun w' pv h'=>⟨pv,rfl,h'⟩
 clear e h h2
 go_enter Tryz.func143,Tryz.ntmps143
 go_wp2_with fail
 refine KF.out.mono ?_
 rintro e w2 ⟨rfl,g2⟩
 simp only at g2
 obtain⟨e0,e1,e2,e3,e4,e5,e6,e7,e8,e9,e10,e11,e12,e13,ef⟩:=rc_y (y:=⟨2,zeroF,0,[],0,0,0⟩) (pv:=.slice none 0 0) (g2.block 1 rfl)
 simp only [zeroF,zeroT] at e0 e1 e2 e3 e4 e5 e6 e7 e8 e9 e10 e11 e12 e13
 have g3:In F0 w0 ((((((w2.setCell ⟨w.heap.size+1,1,none⟩ (.int .u32 src)).setCell ⟨w.heap.size+1,2,none⟩ (.int .u32 dst)).setCell ⟨w.heap.size+1,3,none⟩ (.int .i64 proto)).setCell ⟨w.heap.size+1,4,none⟩ (.int .i64 sport)).setCell ⟨w.heap.size+1,5,none⟩ (.int .i64 dport))) (BkR (.slice none 0 0) []::Cells (w.heap.size+1) (encRL ⟨2,⟨⟨src,dst,proto,sport,dport⟩,0,0,0⟩,0,[],0,0,0⟩ (.slice none 0 0)).toArray 39::Cells w.heap.size (encRL zeroRec (.slice none 0 0)).toArray 39::RdB br sE::R):=by
  have h9:=In.setCs [.int .u32 src,.int .u32 dst,.int .i64 proto,.int .i64 sport,.int .i64 dport] 1 1 g2 (b:=w.heap.size+1) (C:=(encRL ⟨2,zeroF,0,[],0,0,0⟩ (.slice none 0 0)).toArray) (T:=39) rfl
  rw [setL_at (ys:=encRL ⟨2,⟨⟨src,dst,proto,sport,dport⟩,0,0,0⟩,0,[],0,0,0⟩ (.slice none 0 0)) (by simp) (by simp [zeroF,zeroT])] at h9
  exact (h9.rownil 119 3).sel2 (R1:=[_,_,_,_]) [0,2,3,1] (by decide) rfl
 clear g2 KF
 obtain⟨p0,p1,p2,p3,p4,p5,p6,p7,p8,p9,p10,p11,p12,p13,-⟩:=rc_y (g3.block 1 rfl)
 obtain⟨z0,z1,z2,z3,z4,z5,z6,z7,z8,z9,z10,z11,z12,z13,zf⟩:=rc_y (g3.block 2 rfl)
 simp only at p0 p1 p2 p3 p4 p5 p6 p7 p8 p9 p10 p11 p12 p13
 simp only [zeroRec,zeroF,zeroT] at z0 z1 z2 z3 z4 z5 z6 z7 z8 z9 z10 z11 z12 z13
 obtain⟨-,q3,q4⟩:=rec_end g3 rfl
 have Q3:=Lib.hid q3
 have Q4:=Lib.hid (HF.out _ _ q4)
 clear g3 q3 q4 HF
 go_wp2_with fail
 exact bodyPost_ret (results_cell_tmp_row Tryz.results143 _ _ w.heap.size 39 _ (0,0) _ rfl Q3.out Tryz.underlying39 rfl (by kernel_rfl)) rfl Q4.out
end
end Go.Proofs.YtpmmiljakbojaaaGreat
