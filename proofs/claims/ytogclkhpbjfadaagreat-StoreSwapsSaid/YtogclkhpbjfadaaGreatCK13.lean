/- Parts of the proofs that a compaction keeps what lives, and done again is as once. -/
import Derived.Test.YtogclkhpbjfadaaGreatCK12
import Derived.Deep.RegionHeld3
import Derived.Test.YtogclkhpbjfadaaGreatCK5
import Derived.StillTailTactics
import Derived.Test.YtogclkhpbjfadaaGreatCK2
import Derived.Deep.MidRow
import Derived.Lib.SliceRun
import Derived.Test.YtogclkhpbjfadaaGreatCK3
namespace Go.Proofs.YtogclkhpbjfadaaGreat
open Go.RowKit
set_option linter.unusedVariables false
set_option maxHeartbeats 64000000
set_option maxRecDepth 100000
theorem JX:(Tryz.prog.info? 160).map (fun i=>(i.zero.map (fun z=>z.cells.size),i.size,i.bytes))=some (some 3,3,24):=by kernel_rfl
theorem ay.Hy {T:TypeId} {k n n' c:Nat} {a:Option Addr} {xs:List Value} {w:World} {F:List Nat} (h:ay T k (.slice a n c) n' xs w F) (ha:a=none):c=0:=by
 obtain⟨h0,h1,h2⟩:=h
 rcases h2 with ⟨e,_⟩|⟨g,cap,cur,e,_⟩
 ·cases e;rfl
 ·cases e;cases ha
theorem jS (r:Rec) (a:Option Addr) (n c:Nat):(aF r (.slice a n c)).toArray.all (·.oneCell')=true:=by simp [Value.oneCell']
theorem Bf (t:rU):(dH t).all (·.oneCell')=true:=by simp [Value.oneCell']
theorem QF (f:Fl):(eG f).all (·.oneCell')=true:=by simp [Value.oneCell']
abbrev gG (v:Value) (l:List Bk):az:=ay 160 3 v l.length (oD l)
section
variable {F0:List Nat} {w0 w:World} {R:List az}
theorem EP (h:In F0 w0 w R) {ad:Addr} {l:List Bk} {c:Nat} (hs:Src w (some ad) l.length 3 (oD l)) (hn:l.length≤1000000) :
  Calls Tryz.prog 103 #[.slice (some ad) l.length c] w fun e w'=>∃ v,e=.returned v∧In F0 w0 w' (gG v l::R):=by
 have HH:=Lib.hid h
 have HS:=Lib.hid hs
 clear h hs
 have hq:∀ (w:World) (a:Option Addr) (n c n' c':Nat),(binOp .eql 58 (.slice a n c) (.slice none n' c')).run Tryz.prog w=.ok (.bool a.isNone) w:=fun w a n c n' c'=>Lib.run_eql_slice_nil w _ _ a n c n' c' Tryz.underlying58
 go_enter Tryz.func103,Tryz.ntmps103
 go_wp2_with (at_builtin;refine iP rfl ((HH.out.cells #[] 160).row0 (k:=3) 0 rfl) 0 rfl (.tmp 5) (.tmp 6) 58 (by rfl) Tryz.underlying58 JX (by decide) (by decide) (by rfl) (by rfl) (tN HS.out _) (Ud _) (by omega) ?_)
 intro v' w3 ho hg
 have HO:Hid (In F0 w0 w3 (gG v' l::R)):=Lib.hid (by simpa using ho)
 clear ho hg
 go_wp2_with fail
 go_ret
 exact⟨_,rfl,HO.out⟩
theorem ER (h:In F0 w0 w R):Calls Tryz.prog 103 #[.slice none 0 0] w fun e w'=>∃ v,e=.returned v∧In F0 w0 w' (gG v []::R):=by
 have HH:=Lib.hid (h.dG 160 3)
 clear h
 have hq:∀ (w:World) (a:Option Addr) (n c n' c':Nat),(binOp .eql 58 (.slice a n c) (.slice none n' c')).run Tryz.prog w=.ok (.bool a.isNone) w:=fun w a n c n' c'=>Lib.run_eql_slice_nil w _ _ a n c n' c' Tryz.underlying58
 go_enter Tryz.func103,Tryz.ntmps103
 go_wp2_with fail
 go_ret
 exact⟨_,rfl,HH.out⟩
theorem nK (h:In F0 w0 w R) {A:Option Addr} {c:Nat} {l:List Bk} (hn:A=none→c=0) (hs:Src w A l.length 3 (oD l)) (hl:l.length≤1000000) :
  Calls Tryz.prog 103 #[.slice A l.length c] w fun e w'=>∃ v,e=.returned v∧In F0 w0 w' (gG v l::R):=by
 cases A with
 | none=>
  obtain rfl:=hn rfl
  have:l=[]:=by
   cases l with
   | nil=>rfl
   | cons b l=>obtain⟨ad,e,_⟩:=hs.at' (by simp);cases e
  subst this
  exact ER h
 | some ad=>exact EP h hs hl
def zI (x:Rec) (F0:List Nat) (w0:World) (R:List az) (e:Ending) (w':World):Prop:=∃ v,e=.returned (.agg (aF x v).toArray)∧In F0 w0 w' (gG v x.ax::R)
theorem mM {y:Rec} {pv:Value} {l:List Bk} {b1 b2:Nat} {C1:Array Value} {Q:List az} (h:In F0 w0 w (gG pv l::Cells b2 (aF y pv).toArray 69::Cells b1 C1 69::Q)) (hC:C1.size=14) :
  (w.heap[b2]?=some (.cells (aF y pv).toArray 69 (0,0))∧w.there b1 0 14)∧((w.setCells b1 0 (aF y pv)).heap[b1]?=some (.cells (aF y pv).toArray 69 (0,0))∧In F0 w0 (w.setCells b1 0 (aF y pv)) (gG pv l::Q)):=by
 have h2:=h.gp 2 rfl (xs:=aF y pv) (b:=b1) (C:=C1) (T:=69) (by rw [hC];rfl)
 have ht:=fG (h.block 2 rfl)
 rw [hC] at ht
 exact⟨⟨h.block 1 rfl,ht⟩,h2.block 2 rfl,h2.aI (R1:=[_,_,_]) [0] (by decide) rfl⟩
end
section
variable {F0:List Nat} {w0 w:World} {R:List az}
theorem JY {src dst proto ag ah bI aG au gen bk till count:Int} {ax:List Bk} {A:Option Addr} {c:Nat} (hs:gZ F0 w0 R A ax) (hn:A=none→c=0) (hl:ax.length≤1000000) (h:In F0 w0 w R):Calls Tryz.prog 193 #[uy ⟨3,⟨⟨src,dst,proto,ag,ah⟩,bI,aG,au⟩,gen,ax,bk,till,count⟩ A c] w (zI ⟨3,aQ,gen,ax,0,0,0⟩ F0 w0 R):=by
 obtain⟨C0,hC0⟩:∃ C,C=(aF ⟨3,⟨⟨src,dst,proto,ag,ah⟩,bI,aG,au⟩,gen,ax,bk,till,count⟩ (.slice A ax.length c)).toArray:=⟨_,rfl⟩
 obtain⟨C1,Zy⟩:∃ C,C=(aF aT (.slice none 0 0)).toArray:=⟨_,rfl⟩
 obtain⟨C2,hC2⟩:∃ C,C=(aF ⟨3,aQ,0,[],0,0,0⟩ (.slice none 0 0)).toArray:=⟨_,rfl⟩
 have h3:In F0 w0 (((w.alloc (.cells C0 69)).alloc (.cells C1 69)).alloc (.cells C2 69)) (Cells (w.heap.size+1+1) C2 69::Cells (w.heap.size+1) C1 69::Cells w.heap.size C0 69::R):=by
  have h3:=((h.cells C0 69).cells C1 69).cells C2 69
  simp only [World.size_alloc] at h3
  exact h3
 have HH3:=Lib.hid (fun n=>h3.drewN n)
 have y0:=cell_of (o:=9) (h3.block 2 rfl) (show C0[9]?=some (.int .i64 gen) by rw [hC0];rfl)
 have y1:=cell_of (o:=10) (h3.block 2 rfl) (show C0[10]?=some (.slice A ax.length c) by rw [hC0];rfl)
 have K:=Lib.hid (fun w' (h':In F0 w0 w' (Cells (w.heap.size+1+1) C2 69::Cells (w.heap.size+1) C1 69::Cells w.heap.size C0 69::R))=>nK (c:=c) h' hn (hs _ h'.drop.drop.drop) hl)
 have HA:Hid (∀ w' v,In F0 w0 w' (gG v ax::Cells (w.heap.size+1+1) C2 69::Cells (w.heap.size+1) C1 69::Cells w.heap.size C0 69::R) →
   (w'.cell? ⟨w.heap.size,9,none⟩=some (.int .i64 gen)∧w'.cell? ⟨w.heap.size,10,none⟩=some (.slice A ax.length c))∧(w'.frozen? ⟨w.heap.size+1+1,9,none⟩=false∧w'.frozen? ⟨w.heap.size+1+1,10,none⟩=false)∧(w'.cell? ⟨w.heap.size+1+1,9,none⟩=some (.int .i64 0)∧w'.cell? ⟨w.heap.size+1+1,10,none⟩=some (.slice none 0 0)) ∧
   ∃ a cc,v=.slice a ax.length cc):=Lib.hid fun w' v h'=>by
  obtain⟨F,hr⟩:=h'.get 0 rfl
  obtain⟨a,cc,e,-,-,-⟩:=ay.shape hr
  exact⟨⟨cell_of (h'.block 3 rfl) (by rw [hC0];rfl),cell_of (h'.block 3 rfl) (by rw [hC0];rfl)⟩,⟨aL (h'.block 1 rfl),aL (h'.block 1 rfl)⟩,⟨cell_of (h'.block 1 rfl) (by rw [hC2];rfl),cell_of (h'.block 1 rfl) (by rw [hC2];rfl)⟩,a,cc,e⟩
 have HB:Hid (∀ w' v,In F0 w0 w' (gG v ax::Cells (w.heap.size+1+1) C2 69::Cells (w.heap.size+1) C1 69::Cells w.heap.size C0 69::R) →
   In F0 w0 ((w'.setCell ⟨w.heap.size+1+1,9,none⟩ (.int .i64 gen)).setCell ⟨w.heap.size+1+1,10,none⟩ v) (gG v ax::Cells (w.heap.size+1+1) (aF ⟨3,aQ,gen,ax,0,0,0⟩ v).toArray 69::Cells (w.heap.size+1) C1 69::Cells w.heap.size C0 69::R)):=Lib.hid fun w' v h'=>by
  have h2:=In.ku [.int .i64 gen,v] 9 1 h' (b:=w.heap.size+1+1) (C:=C2) (T:=69) rfl
  rw [jd (ys:=(aF ⟨3,aQ,gen,ax,0,0,0⟩ v)) (by rw [hC2];simp) (by rw [hC2];simp [aQ,eH])] at h2
  exact h2
 have HC:Hid (∀ w' v,In F0 w0 w' (gG v ax::Cells (w.heap.size+1+1) (aF ⟨3,aQ,gen,ax,0,0,0⟩ v).toArray 69::Cells (w.heap.size+1) C1 69::Cells w.heap.size C0 69::R) →
   (w'.heap[w.heap.size+1+1]?=some (.cells (aF ⟨3,aQ,gen,ax,0,0,0⟩ v).toArray 69 (0,0))∧w'.there (w.heap.size+1) 0 14) ∧
   ((w'.setCells (w.heap.size+1) 0 (aF ⟨3,aQ,gen,ax,0,0,0⟩ v)).heap[w.heap.size+1]?=some (.cells (aF ⟨3,aQ,gen,ax,0,0,0⟩ v).toArray 69 (0,0))∧In F0 w0 (w'.setCells (w.heap.size+1) 0 (aF ⟨3,aQ,gen,ax,0,0,0⟩ v)) (gG v ax::R))):=Lib.hid fun w' v h'=>by
  have h2:=h'.gp 2 rfl (xs:=(aF ⟨3,aQ,gen,ax,0,0,0⟩ v)) (b:=w.heap.size+1) (C:=C1) (T:=69) (by rw [Zy];rfl)
  have ht:=fG (h'.block 2 rfl)
  rw [Zy] at ht
  exact⟨⟨h'.block 1 rfl,ht⟩,h2.block 2 rfl,h2.aI (R1:=[_,_,_,_]) [0] (by decide) rfl⟩
 have hne1:¬ w.heap.size+1+1=w.heap.size:=by omega
 have hne2:¬ w.heap.size=w.heap.size+1+1:=by omega
 clear h h3 hs hn hl
 subst hC0 Zy hC2
 go_enter Tryz.func193,Tryz.ntmps193
 go_wp2_with fail
 go_region_held3 (fun w'=>w'.cell? ⟨w.heap.size,9,none⟩=some (.int .i64 gen)∧w'.cell? ⟨w.heap.size,10,none⟩=some (.slice A ax.length c)) (first | exact hz | exact⟨y0,y1⟩ | go_keep)
  (first | (go_at_call 103;refine (K.out _ (HH3.out _)).mono ?_;rintro e w1 ⟨v,rfl,g1⟩;obtain⟨hz,⟨f1,f2⟩,⟨d1,d2⟩,av,cv,rfl⟩:=HA.out w1 v g1;have G2:=Lib.hid (HB.out w1 _ g1);clear g1))
 clear y0 y1 K HA HB hz HH3 f1 f2 d1 d2
 obtain⟨⟨q1,q2⟩,q3,q4⟩:=HC.out _ _ G2.out
 have Q2:=Lib.hid q2
 have Q3:=Lib.hid (And.intro q3 q4)
 clear HC G2 q2 q3 q4
 go_wp2_with (refine wpList_load_row rfl 69 (.tmp 3) rfl (w.heap.size+1+1) rfl 69 _ (0,0) _ q1 Tryz.underlying69 rfl (by kernel_rfl) ?_;refine wpList_store_mid (op:=⟨none,Op.store 69 (.tmp 2) (.tmp 48),_,_,_,_⟩) (by rfl) 69 (.tmp 2) (.tmp 48) rfl (w.heap.size+1) 0 (aF ⟨3,aQ,gen,ax,0,0,0⟩ (.slice av ax.length cv)).toArray (by rfl) (by rfl) Q2.out (by kernel_rfl) (jS _ _ _ _) ?_)
 exact bodyPost_ret (results_cell_row Tryz.results193 _ _ (w.heap.size+1) 69 _ (0,0) _ rfl Q3.out.1 Tryz.underlying69 rfl (by kernel_rfl)) rfl ⟨_,rfl,Q3.out.2⟩
end
section
variable {F0:List Nat} {w0 w:World} {R:List az}
theorem NA {r:Rec} {A:Option Addr} {c:Nat} (hs:gZ F0 w0 R A r.ax) (hn:A=none→c=0) (hl:r.ax.length≤1000000) (h:In F0 w0 w R):Calls Tryz.prog 193 #[uy r A c] w (zI (aO r) F0 w0 R):=by
 have H:Hid (∀ w' ,In F0 w0 w' R→In F0 w0 w' (gG (.slice none 0 0) []::R)):=Lib.hid fun w' h'=>h'.dG _ _
 have HH:=Lib.hid h
 obtain⟨kind,fl,gen,ax,bk,till,count⟩:=r
 by_cases k1:kind=1
 ·subst k1
  have e:aO ⟨1,fl,gen,ax,bk,till,count⟩=⟨1,fl,0,[],0,0,0⟩:=rfl
  rw [e];clear e h hs hn hl
  obtain⟨⟨src,dst,proto,ag,ah⟩,bI,aG,au⟩:=fl
  go_enter Tryz.func193,Tryz.ntmps193
  go_wp2_with fail
  exact bodyPost_ret (results_cell_row Tryz.results193 _ _ (w.heap.size+1) 69 _ (0,0) _ rfl (nI w _ _ _) Tryz.underlying69 rfl (by kernel_rfl)) rfl ⟨.slice none 0 0,rfl,H.out _ (((HH.out.alloc _).alloc _).alloc _)⟩
 by_cases k2:kind=2
 ·subst k2
  have e:aO ⟨2,fl,gen,ax,bk,till,count⟩=⟨2,⟨fl.t,0,0,0⟩,0,[],0,0,0⟩:=rfl
  rw [e];clear e h hs hn hl k1
  obtain⟨⟨src,dst,proto,ag,ah⟩,bI,aG,au⟩:=fl
  go_enter Tryz.func193,Tryz.ntmps193
  go_wp2_with fail
  exact bodyPost_ret (results_cell_row Tryz.results193 _ _ (w.heap.size+1) 69 _ (0,0) _ rfl (nI w _ _ _) Tryz.underlying69 rfl (by kernel_rfl)) rfl ⟨.slice none 0 0,rfl,H.out _ (((HH.out.alloc _).alloc _).alloc _)⟩
 by_cases k3:kind=3
 ·subst k3
  have e:aO ⟨3,fl,gen,ax,bk,till,count⟩=⟨3,aQ,gen,ax,0,0,0⟩:=rfl
  rw [e];clear e k1 k2
  obtain⟨⟨src,dst,proto,ag,ah⟩,bI,aG,au⟩:=fl
  exact JY hs hn hl h
 by_cases k4:kind=4
 ·subst k4
  have e:aO ⟨4,fl,gen,ax,bk,till,count⟩=⟨4,aQ,0,[],bk,till,0⟩:=rfl
  rw [e];clear e h hs hn hl k1 k2 k3
  go_enter Tryz.func193,Tryz.ntmps193
  go_wp2_with fail
  have hne1:¬ w.heap.size+1+1=w.heap.size:=by omega
  have hne2:¬ w.heap.size=w.heap.size+1+1:=by omega
  go_region_held3 (fun w'=>w'.cell? ⟨w.heap.size,11,none⟩=some (.int .i64 bk)∧w'.cell? ⟨w.heap.size,12,none⟩=some (.int .i64 till)) (first | exact⟨rfl,rfl⟩ | (refine⟨?_,?_⟩ <;> go_simp;done) | go_keep) (fail)
  go_wp2_with fail
  exact bodyPost_ret (results_cell_row Tryz.results193 _ _ (w.heap.size+1) 69 _ (0,0) _ rfl (nI w _ _ _) Tryz.underlying69 rfl (by kernel_rfl)) rfl ⟨.slice none 0 0,rfl,H.out _ ((((HH.out.alloc _).alloc _).alloc _).drewN 1)⟩
 by_cases k5:kind=5
 ·subst k5
  have e:aO ⟨5,fl,gen,ax,bk,till,count⟩=⟨5,aQ,0,[],bk,0,0⟩:=rfl
  rw [e];clear e h hs hn hl k1 k2 k3 k4
  go_enter Tryz.func193,Tryz.ntmps193
  go_wp2_with fail
  exact bodyPost_ret (results_cell_row Tryz.results193 _ _ (w.heap.size+1) 69 _ (0,0) _ rfl (nI w _ _ _) Tryz.underlying69 rfl (by kernel_rfl)) rfl ⟨.slice none 0 0,rfl,H.out _ (((HH.out.alloc _).alloc _).alloc _)⟩
 by_cases k6:kind=6
 ·subst k6
  have e:aO ⟨6,fl,gen,ax,bk,till,count⟩=⟨6,aQ,0,[],0,0,count⟩:=rfl
  rw [e];clear e h hs hn hl k1 k2 k3 k4 k5
  go_enter Tryz.func193,Tryz.ntmps193
  go_wp2_with fail
  exact bodyPost_ret (results_cell_row Tryz.results193 _ _ (w.heap.size+1) 69 _ (0,0) _ rfl (nI w _ _ _) Tryz.underlying69 rfl (by kernel_rfl)) rfl ⟨.slice none 0 0,rfl,H.out _ (((HH.out.alloc _).alloc _).alloc _)⟩
 ·have e:aO ⟨kind,fl,gen,ax,bk,till,count⟩=⟨kind,aQ,0,[],0,0,0⟩:=by unfold aO;simp only;rw [if_neg k1,if_neg k2,if_neg k3,if_neg k4,if_neg k5,if_neg k6]
  have q1:(kind == 1)=false:=beq_eq_false_iff_ne.2 k1
  have q2:(kind == 2)=false:=beq_eq_false_iff_ne.2 k2
  have q3:(kind == 3)=false:=beq_eq_false_iff_ne.2 k3
  have q4:(kind == 4)=false:=beq_eq_false_iff_ne.2 k4
  have q5:(kind == 5)=false:=beq_eq_false_iff_ne.2 k5
  have q6:(kind == 6)=false:=beq_eq_false_iff_ne.2 k6
  rw [e];clear e h hs hn hl k1 k2 k3 k4 k5 k6
  go_enter Tryz.func193,Tryz.ntmps193
  go_wp2_with fail
  exact bodyPost_ret (results_cell_row Tryz.results193 _ _ (w.heap.size+1) 69 _ (0,0) _ rfl (nI w _ _ _) Tryz.underlying69 rfl (by kernel_rfl)) rfl ⟨.slice none 0 0,rfl,H.out _ (((HH.out.alloc _).alloc _).alloc _)⟩
end
theorem uD:∀ (us:List Value) (w:World) (g o:Nat) (C:Array Value) (T:TypeId) (fz:Nat×Nat),w.heap[g]?=some (.cells C T fz)→o+us.length≤C.size →
  ∃ C',(w.setCells g o us).heap[g]?=some (.cells C' T fz)∧C'.toList=C.toList.take o++us++C.toList.drop (o+us.length)∧Mod [g] w (w.setCells g o us)
 | [],w,g,o,C,T,fz,h,_=>⟨C,h,by simp,Mod.refl _ _⟩
 | v::r,w,g,o,C,T,fz,h,hl=>by
  have hl':o+1+r.length≤C.size:=by simp at hl;omega
  have h1:=aR (o:=o) (v:=v) h
  obtain⟨C',e1,e2,e3⟩:=uD r (w.setCell ⟨g,o,none⟩ v) g (o+1) _ T fz h1 (by simpa using hl')
  refine⟨C',e1,?_,((Mod.refl [g] w).setCell (p:=⟨g,o,none⟩) (Or.inl (by simp)) v).trans' e3⟩
  rw [e2]
  have ho:o < C.toList.length:=by rw [Array.length_toList];omega
  rw [Array.toList_setIfInBounds,List.take_set,List.drop_set,if_pos (by omega),List.take_add_one]
  rw [show (C.toList[o]?).toList=[C.toList[o]] by rw [List.getElem?_eq_getElem ho];rfl]
  rw [List.set_append_right _ _ (by simp;omega)]
  rw [show o - (C.toList.take o).length=0 by simp;omega]
  simp only [List.set_cons_zero,List.append_assoc,List.cons_append,List.nil_append,List.length_cons]
  rw [show o+1+r.length=o+(r.length+1) by omega]
def putAt (xs:List Value) (o:Nat) (us:List Value):List Value:=xs.take o++us++xs.drop (o+us.length)
theorem ET {xs us:List Value} {o:Nat} (h:o+us.length≤xs.length):(putAt xs o us).length=xs.length:=by unfold putAt;simp;omega
theorem ay.put {T:TypeId} {k:Nat} {g n' n cap:Nat} {xs:List Value} {w:World} {F:List Nat} (h:ay T k (.slice (some ⟨g,0,none⟩) n' cap) n xs w F) {o:Nat} {us:List Value} (ho:o+us.length≤xs.length) :
  ay T k (.slice (some ⟨g,0,none⟩) n' cap) n (putAt xs o us) (w.setCells g o us) F∧Mod F w (w.setCells g o us):=by
 obtain⟨h0,h1,h2⟩:=h
 rcases h2 with ⟨e,h3⟩|⟨g',cap',cur,e,h3,h4,h5,h6,h7,h8⟩
 ·cases e
 ·cases e
  have hlen:xs.length≤cur.size:=by
   have:=congrArg List.length h8
   simp at this;omega
  obtain⟨C',e1,e2,e3⟩:=uD us w g o cur T (0,0) h4 (by omega)
  refine⟨⟨h0,by rw [ET ho,h1],Or.inr ⟨g,cap,C',rfl,h3,e1,h5,h6,?_,?_⟩⟩,e3.mono (fun b hb=>by rw [h0];simpa [Value.ownBlock] using hb)⟩
  ·rw [← Array.length_toList,e2];simp;omega
  ·rw [e2]
   obtain⟨D,e4⟩:∃ D,cur.toList=xs++D:=⟨cur.toList.drop (n' * k),by rw [← h8,List.take_append_drop]⟩
   have hx:xs.length=n' * k:=h1
   rw [e4]
   unfold putAt
   have a1:(xs++D).take o=xs.take o:=List.take_append_of_le_length (by omega)
   have a2:(xs++D).drop (o+us.length)=xs.drop (o+us.length)++D:=List.drop_append_of_le_length (by omega)
   rw [a1,a2,← List.append_assoc,List.take_append_of_le_length (by simp;omega),List.take_of_length_le (by simp;omega)]
theorem ay.there {T:TypeId} {k:Nat} {g n' n cap:Nat} {xs:List Value} {w:World} {F:List Nat} (h:ay T k (.slice (some ⟨g,0,none⟩) n' cap) n xs w F) {o m:Nat} (ho:o+m≤xs.length):w.there g o m:=by
 obtain⟨h0,h1,h2⟩:=h
 rcases h2 with ⟨e,h3⟩|⟨g',cap',cur,e,h3,h4,h5,h6,h7,h8⟩
 ·cases e
 ·cases e
  have hlen:xs.length≤cur.size:=by
   have:=congrArg List.length h8
   simp at this;omega
  intro j hj
  refine⟨?_,aL h4⟩
  rw [cell_of h4 (v:=cur[o+j]'(by omega)) (Array.getElem?_eq_getElem _)];rfl
theorem Ut {F0:List Nat} {w0 w:World} {R:List az} {T:TypeId} {k g n' n cap:Nat} {xs:List Value} (h:In F0 w0 w R) (i:Nat) (hA:R[i]?=some (ay T k (.slice (some ⟨g,0,none⟩) n' cap) n xs)) {o:Nat} {us:List Value} (ho:o+us.length≤xs.length) :
  In F0 w0 (w.setCells g o us) (R.set i (ay T k (.slice (some ⟨g,0,none⟩) n' cap) n (putAt xs o us))):=
 h.step i hA (ay.aA _ _ _ _ _) fun F hF=>⟨F,(hF.put ho).1,uG.refl _ _,(hF.put ho).2⟩
theorem Bg (a b:List Bk):oD (a++b)=oD a++oD b:=by simp [oD]
theorem Hz (b:Bk) (l:List Bk):oD (b::l)=lF b++oD l:=by simp [oD]
def sS (v:Int) (l:List Bk) (k:Nat):List Bk:=(l.take k).map (fF v)++l.drop k
theorem ug (v:Int) (l:List Bk):sS v l 0=l:=rfl
theorem wG (v:Int) (l:List Bk):sS v l l.length=l.map (fF v):=by unfold sS;simp
theorem Ia (v:Int) (l:List Bk) (k:Nat):(sS v l k).length=l.length:=by unfold sS;simp;omega
theorem Uu {v:Int} {l:List Bk} {k:Nat} {b:Bk} (h:l[k]?=some b):sS v l k=(l.take k).map (fF v)++b::l.drop (k+1)∧sS v l (k+1)=(l.take k).map (fF v)++fF v b::l.drop (k+1):=by
 obtain⟨hk,rfl⟩:=List.getElem?_eq_some_iff.1 h
 unfold sS
 refine⟨by rw [List.drop_eq_getElem_cons hk],?_⟩
 rw [List.take_add_one,h,Option.toList_some,List.map_append,List.append_assoc];rfl
theorem NB {v:Int} (hv:¬ v < 2) (l:List Bk) (k:Nat):sS v l k=l:=by
 have e:fF v=id:=by funext b;unfold fF;rw [if_neg hv];rfl
 unfold sS;rw [e];simp
theorem QG {v:Int} {l:List Bk} {k:Nat} {b:Bk} (hv:v < 2) (h:l[k]?=some b):putAt (oD (sS v l k)) (k * 3+2) [.int .i64 1]=oD (sS v l (k+1)):=by
 have hk:=(List.getElem?_eq_some_iff.1 h).1
 obtain⟨e1,e2⟩:=Uu (v:=v) h
 rw [e1,e2,Bg,Bg,Hz,Hz]
 have hl:(oD ((l.take k).map (fF v))).length=k * 3:=by rw [qV];simp;omega
 generalize oD ((l.take k).map (fF v))=X at *
 generalize oD (l.drop (k+1))=Y at *
 have e3:lF (fF v b)=[.int .i64 b.id,.int .u32 b.addr,.int .i64 1]:=by unfold fF;rw [if_pos hv]
 rw [e3]
 unfold putAt
 rw [← hl]
 have e4:(X++(lF b++Y)).take (X.length+2)=X++[.int .i64 b.id,.int .u32 b.addr]:=by
  rw [List.take_append,List.take_of_length_le (by omega)]
  simp
 have e5:(X++(lF b++Y)).drop (X.length+2+[Value.int .i64 1].length)=Y:=by
  have e6:X.length+2+[Value.int .i64 1].length - X.length=3:=by simp;omega
  rw [List.drop_append,List.drop_of_length_le (by simp;omega),e6]
  rfl
 rw [e4,e5]
 simp
theorem zJ {pv:Value} {l:List Bk} {f:Bk→Bk}:ay 160 3 pv l.length (oD (l.map f))=gG pv (l.map f):=by unfold gG;rw [List.length_map]
section
variable {F0:List Nat} {w0 w:World} {R:List az}
def nX (v:Int) (y:Rec) (pv:Value) (l:List Bk) (b2 b1:Nat) (C1:Array Value) (F0:List Nat) (w0:World) (Q:List az) (i:Value) (wr:World):Prop:=
 ∃ k:Nat,k≤l.length∧i=.int .i64 k∧In F0 w0 wr (ay 160 3 pv l.length (oD (sS v l k))::Cells b2 (aF y pv).toArray 69::Cells b1 C1 69::Q)
theorem Ib {v:Int} {y:Rec} {pv:Value} {l:List Bk} {b2 b1:Nat} {C1:Array Value} {Q:List az} {k:Nat} {b:Bk} (hb:l[k]?=some b) (h:In F0 w0 w (ay 160 3 pv l.length (oD (sS v l (k+1)))::Cells b2 (aF y pv).toArray 69::Cells b1 C1 69::Q)):nX v y pv l b2 b1 C1 F0 w0 Q (.int .i64 ((k:Int)+1)) w:=
 ⟨k+1,(List.getElem?_eq_some_iff.1 hb).1,by rw [Int.natCast_add];rfl,h⟩
theorem QH {r:Rec} {A:Option Addr} {c:Nat} (v:Int) (hs:gZ F0 w0 R A r.ax) (hn:A=none→c=0) (hl:r.ax.length≤1000000) (h:In F0 w0 w R):Calls Tryz.prog 102 #[uy r A c,.int .i64 v] w (zI (dM r v) F0 w0 R):=by
 have KV:=Lib.hid (vz v)
 cases hv:dQ v with
 | false=>
  have e:dM r v=aT:=by unfold dM;rw [if_pos hv]
  have HH:=Lib.hid (fun o o2=>((h.alloc o).alloc o2).dG 160 3)
  rw [e];rw [hv] at KV
  clear e h hs hn hl hv
  obtain⟨kind,⟨⟨src,dst,proto,ag,ah⟩,bI,aG,au⟩,gen,ax,bk,till,count⟩:=r
  go_enter Tryz.func102,Tryz.ntmps102
  go_wp2_with fail
  refine (KV.out _).mono ?_
  rintro e w1 ⟨rfl,rfl⟩
  clear KV
  go_wp2_with fail
  exact bodyPost_ret (results_cell_row Tryz.results102 _ _ (w.heap.size+1) 69 _ (0,0) _ rfl (heap_alloc2_new _ _ _) Tryz.underlying69 rfl (by kernel_rfl)) rfl ⟨.slice none 0 0,rfl,HH.out _ _⟩
 | true=>
  rw [hv] at KV
  have NC:v=1∨v=2∨v=3:=by have:1≤v∧v≤3:=of_decide_eq_true hv;omega
  have e:dM r v=⟨(aO r).kind,if r.kind=1 then oC v (aO r).fl else (aO r).fl,(aO r).gen,(aO r).ax.map (fF v),(aO r).bk,(aO r).till,(aO r).count⟩:=by unfold dM;rw [if_neg (by simp [hv])]
  have hpk:(aO r).kind=r.kind:=JB r
  obtain⟨C0,hC0⟩:∃ C,C=(aF r (.slice A r.ax.length c)).toArray:=⟨_,rfl⟩
  have h2:In F0 w0 ((w.alloc (.cells C0 69)).alloc (.cells (aF aT (.slice none 0 0)).toArray 69)) (Cells (w.heap.size+1) (aF aT (.slice none 0 0)).toArray 69::Cells w.heap.size C0 69::R):=by
   have h2:=(h.cells C0 69).cells (aF aT (.slice none 0 0)).toArray 69
   simp only [World.size_alloc] at h2
   exact h2
  have KP:=Lib.hid (NA (c:=c) (fun w' h'=>hs w' h'.drop.drop) hn hl h2)
  unfold zI at KP
  obtain⟨QQ,hQQ⟩:∃ QQ,QQ=Cells w.heap.size C0 69::R:=⟨_,rfl⟩
  rw [← hQQ] at KP
  have HD:Hid (∀ w' X,In F0 w0 w' (X::QQ)→In F0 w0 w' (X::R)):=Lib.hid fun w' X h'=>by rw [hQQ] at h';exact h'.aI (R1:=[_,_]) [0] (by decide) rfl
  clear hQQ
  have hkk:r.kind=1→(aO r).ax=[]:=fun e=>by unfold aO;rw [if_pos e]
  have hbl:(aO r).ax.length≤1000000:=by
   unfold aO
   repeat' split
   all_goals first | exact hl | exact Nat.zero_le _
  generalize aO r=q at *
  clear h h2 hs hn hl hv
  obtain⟨Zz,⟨⟨abj,abk,aaw,aax,aay⟩,abl,aaY,aaz⟩,abm,abn,bk0,aaZ,aaA⟩:=r
  obtain⟨kind,⟨⟨src,dst,proto,ag,ah⟩,bI,aG,au⟩,gen,ql,bk,till,count⟩:=q
  simp only at hpk hkk hbl e KP hC0
  have Gr:=Lib.hid hbl
  subst hC0
  by_cases k1:Zz=1
  ·subst hpk
   subst k1
   have hq:=hkk rfl
   have XB:Hid (ql.length=0):=Lib.hid (by rw [hq];rfl)
   rw [if_pos rfl] at e
   clear hkk hbl hq
   rcases NC with rfl | rfl | rfl
   ·have e2:oC 1 ⟨⟨src,dst,proto,ag,ah⟩,bI,aG,au⟩=⟨⟨src,dst,proto,ag,ah⟩,bI,0,0⟩:=rfl
    rw [e,e2]
    clear e e2
    go_enter Tryz.func102,Tryz.ntmps102
    go_wp2_with fail
    refine (KV.out _).mono ?_
    rintro e w1 ⟨rfl,rfl⟩
    clear KV
    go_wp2_with fail
    refine KP.out.mono ?_
    rintro e w1 ⟨pv,rfl,g1⟩
    obtain⟨F2,r2⟩:=g1.get 0 rfl
    obtain⟨pa,pc,rfl,-,-,-⟩:=ay.shape r2
    obtain⟨b2,hb2⟩:∃ b2,b2=w1.heap.size:=⟨_,rfl⟩
    have HR:Hid (nX 1 ⟨1,⟨⟨src,dst,proto,ag,ah⟩,bI,0,0⟩,gen,ql.map (fF 1),bk,till,count⟩ (.slice pa ql.length pc) ql b2 (w.heap.size+1) (aF aT (.slice none 0 0)).toArray F0 w0 QQ (.int .i64 0) (w1.alloc (.cells (aF ⟨1,⟨⟨src,dst,proto,ag,ah⟩,bI,0,0⟩,gen,ql.map (fF 1),bk,till,count⟩ (.slice pa ql.length pc)).toArray 69))):=Lib.hid ⟨0,Nat.zero_le _,rfl,by
     rw [ug,hb2]
     exact (g1.cells (aF ⟨1,⟨⟨src,dst,proto,ag,ah⟩,bI,0,0⟩,gen,ql.map (fF 1),bk,till,count⟩ (.slice pa ql.length pc)).toArray 69).aI (R1:=[_,_]) [1,0] (by decide) rfl⟩
    clear KP g1 r2
    go_wp2_with fail
    rw [← hb2]
    clear hb2
    go_loopw [34] (nX 1 ⟨1,⟨⟨src,dst,proto,ag,ah⟩,bI,0,0⟩,gen,ql.map (fF 1),bk,till,count⟩ (.slice pa ql.length pc) ql b2 (w.heap.size+1) (aF aT (.slice none 0 0)).toArray F0 w0 QQ) (fun k _=>ql.length - (intOf k).toNat)
    case atStart=>exact HR.out
    case round=>
     obtain⟨k,hk,rfl,dC⟩:=hrel
     clear HR
     by_cases hlt:k < ql.length
     ·exact absurd hlt (by rw [XB.out];omega)
     ·have hge:(ql.length:Int)≤(k:Int):=Int.ofNat_le.2 (Nat.le_of_not_lt hlt)
      obtain rfl:k=ql.length:=by omega
      rw [wG,zJ] at dC
      obtain⟨⟨q1,q2⟩,q3,q4⟩:=mM dC rfl
      have Q2:=Lib.hid q2
      have Q3:=Lib.hid (And.intro q3 q4)
      clear dC q2 q3 q4 hk hlt
      go_wp2_with (refine wpList_load_row rfl 69 (.tmp 5) rfl b2 rfl 69 _ (0,0) _ q1 Tryz.underlying69 rfl (by kernel_rfl) ?_;refine wpList_store_mid (op:=⟨none,Op.store 69 (.tmp 4) (.tmp 45),_,_,_,_⟩) (by rfl) 69 (.tmp 4) (.tmp 45) rfl (w.heap.size+1) 0 (aF ⟨1,⟨⟨src,dst,proto,ag,ah⟩,bI,0,0⟩,gen,ql.map (fF 1),bk,till,count⟩ (.slice pa ql.length pc)).toArray (by rfl) (by rfl) Q2.out (by kernel_rfl) (jS _ _ _ _) ?_)
      exact bodyPost_ret (results_cell_row Tryz.results102 _ _ (w.heap.size+1) 69 _ (0,0) _ rfl Q3.out.1 Tryz.underlying69 rfl (by kernel_rfl)) rfl ⟨_,rfl,HD.out _ _ Q3.out.2⟩
   ·have e2:oC 2 ⟨⟨src,dst,proto,ag,ah⟩,bI,aG,au⟩=⟨⟨src,dst,proto,ag,ah⟩,bI,aG,0⟩:=rfl
    rw [e,e2]
    clear e e2
    go_enter Tryz.func102,Tryz.ntmps102
    go_wp2_with fail
    refine (KV.out _).mono ?_
    rintro e w1 ⟨rfl,rfl⟩
    clear KV
    go_wp2_with fail
    refine KP.out.mono ?_
    rintro e w1 ⟨pv,rfl,g1⟩
    obtain⟨F2,r2⟩:=g1.get 0 rfl
    obtain⟨pa,pc,rfl,-,-,-⟩:=ay.shape r2
    obtain⟨b2,hb2⟩:∃ b2,b2=w1.heap.size:=⟨_,rfl⟩
    have HR:Hid (nX 2 ⟨1,⟨⟨src,dst,proto,ag,ah⟩,bI,aG,0⟩,gen,ql.map (fF 2),bk,till,count⟩ (.slice pa ql.length pc) ql b2 (w.heap.size+1) (aF aT (.slice none 0 0)).toArray F0 w0 QQ (.int .i64 0) (w1.alloc (.cells (aF ⟨1,⟨⟨src,dst,proto,ag,ah⟩,bI,aG,0⟩,gen,ql.map (fF 2),bk,till,count⟩ (.slice pa ql.length pc)).toArray 69))):=Lib.hid ⟨0,Nat.zero_le _,rfl,by
     rw [ug,hb2]
     exact (g1.cells (aF ⟨1,⟨⟨src,dst,proto,ag,ah⟩,bI,aG,0⟩,gen,ql.map (fF 2),bk,till,count⟩ (.slice pa ql.length pc)).toArray 69).aI (R1:=[_,_]) [1,0] (by decide) rfl⟩
    clear KP g1 r2
    go_wp2_with fail
    rw [← hb2]
    clear hb2
    go_loopw [34] (nX 2 ⟨1,⟨⟨src,dst,proto,ag,ah⟩,bI,aG,0⟩,gen,ql.map (fF 2),bk,till,count⟩ (.slice pa ql.length pc) ql b2 (w.heap.size+1) (aF aT (.slice none 0 0)).toArray F0 w0 QQ) (fun k _=>ql.length - (intOf k).toNat)
    case atStart=>exact HR.out
    case round=>
     obtain⟨k,hk,rfl,dC⟩:=hrel
     clear HR
     by_cases hlt:k < ql.length
     ·exact absurd hlt (by rw [XB.out];omega)
     ·have hge:(ql.length:Int)≤(k:Int):=Int.ofNat_le.2 (Nat.le_of_not_lt hlt)
      obtain rfl:k=ql.length:=by omega
      rw [wG,zJ] at dC
      obtain⟨⟨q1,q2⟩,q3,q4⟩:=mM dC rfl
      have Q2:=Lib.hid q2
      have Q3:=Lib.hid (And.intro q3 q4)
      clear dC q2 q3 q4 hk hlt
      go_wp2_with (refine wpList_load_row rfl 69 (.tmp 5) rfl b2 rfl 69 _ (0,0) _ q1 Tryz.underlying69 rfl (by kernel_rfl) ?_;refine wpList_store_mid (op:=⟨none,Op.store 69 (.tmp 4) (.tmp 45),_,_,_,_⟩) (by rfl) 69 (.tmp 4) (.tmp 45) rfl (w.heap.size+1) 0 (aF ⟨1,⟨⟨src,dst,proto,ag,ah⟩,bI,aG,0⟩,gen,ql.map (fF 2),bk,till,count⟩ (.slice pa ql.length pc)).toArray (by rfl) (by rfl) Q2.out (by kernel_rfl) (jS _ _ _ _) ?_)
      exact bodyPost_ret (results_cell_row Tryz.results102 _ _ (w.heap.size+1) 69 _ (0,0) _ rfl Q3.out.1 Tryz.underlying69 rfl (by kernel_rfl)) rfl ⟨_,rfl,HD.out _ _ Q3.out.2⟩
   ·have e2:oC 3 ⟨⟨src,dst,proto,ag,ah⟩,bI,aG,au⟩=⟨⟨src,dst,proto,ag,ah⟩,bI,aG,au⟩:=rfl
    rw [e,e2]
    clear e e2
    go_enter Tryz.func102,Tryz.ntmps102
    go_wp2_with fail
    refine (KV.out _).mono ?_
    rintro e w1 ⟨rfl,rfl⟩
    clear KV
    go_wp2_with fail
    refine KP.out.mono ?_
    rintro e w1 ⟨pv,rfl,g1⟩
    obtain⟨F2,r2⟩:=g1.get 0 rfl
    obtain⟨pa,pc,rfl,-,-,-⟩:=ay.shape r2
    obtain⟨b2,hb2⟩:∃ b2,b2=w1.heap.size:=⟨_,rfl⟩
    have HR:Hid (nX 3 ⟨1,⟨⟨src,dst,proto,ag,ah⟩,bI,aG,au⟩,gen,ql.map (fF 3),bk,till,count⟩ (.slice pa ql.length pc) ql b2 (w.heap.size+1) (aF aT (.slice none 0 0)).toArray F0 w0 QQ (.int .i64 0) (w1.alloc (.cells (aF ⟨1,⟨⟨src,dst,proto,ag,ah⟩,bI,aG,au⟩,gen,ql.map (fF 3),bk,till,count⟩ (.slice pa ql.length pc)).toArray 69))):=Lib.hid ⟨0,Nat.zero_le _,rfl,by
     rw [ug,hb2]
     exact (g1.cells (aF ⟨1,⟨⟨src,dst,proto,ag,ah⟩,bI,aG,au⟩,gen,ql.map (fF 3),bk,till,count⟩ (.slice pa ql.length pc)).toArray 69).aI (R1:=[_,_]) [1,0] (by decide) rfl⟩
    clear KP g1 r2
    go_wp2_with fail
    rw [← hb2]
    clear hb2
    go_loopw [34] (nX 3 ⟨1,⟨⟨src,dst,proto,ag,ah⟩,bI,aG,au⟩,gen,ql.map (fF 3),bk,till,count⟩ (.slice pa ql.length pc) ql b2 (w.heap.size+1) (aF aT (.slice none 0 0)).toArray F0 w0 QQ) (fun k _=>ql.length - (intOf k).toNat)
    case atStart=>exact HR.out
    case round=>
     obtain⟨k,hk,rfl,dC⟩:=hrel
     clear HR
     by_cases hlt:k < ql.length
     ·exact absurd hlt (by rw [XB.out];omega)
     ·have hge:(ql.length:Int)≤(k:Int):=Int.ofNat_le.2 (Nat.le_of_not_lt hlt)
      obtain rfl:k=ql.length:=by omega
      rw [wG,zJ] at dC
      obtain⟨⟨q1,q2⟩,q3,q4⟩:=mM dC rfl
      have Q2:=Lib.hid q2
      have Q3:=Lib.hid (And.intro q3 q4)
      clear dC q2 q3 q4 hk hlt
      go_wp2_with (refine wpList_load_row rfl 69 (.tmp 5) rfl b2 rfl 69 _ (0,0) _ q1 Tryz.underlying69 rfl (by kernel_rfl) ?_;refine wpList_store_mid (op:=⟨none,Op.store 69 (.tmp 4) (.tmp 45),_,_,_,_⟩) (by rfl) 69 (.tmp 4) (.tmp 45) rfl (w.heap.size+1) 0 (aF ⟨1,⟨⟨src,dst,proto,ag,ah⟩,bI,aG,au⟩,gen,ql.map (fF 3),bk,till,count⟩ (.slice pa ql.length pc)).toArray (by rfl) (by rfl) Q2.out (by kernel_rfl) (jS _ _ _ _) ?_)
      exact bodyPost_ret (results_cell_row Tryz.results102 _ _ (w.heap.size+1) 69 _ (0,0) _ rfl Q3.out.1 Tryz.underlying69 rfl (by kernel_rfl)) rfl ⟨_,rfl,HD.out _ _ Q3.out.2⟩
  ·have q0:(kind == 1)=false:=by rw [hpk];exact beq_eq_false_iff_ne.2 k1
   rw [if_neg k1] at e
   rw [e]
   clear e hkk hbl k1 hpk
   have abo:=Lib.hid NC
   clear NC
   go_enter Tryz.func102,Tryz.ntmps102
   go_wp2_with fail
   refine (KV.out _).mono ?_
   rintro e w1 ⟨rfl,rfl⟩
   clear KV
   go_wp2_with fail
   refine KP.out.mono ?_
   rintro e w1 ⟨pv,rfl,g1⟩
   obtain⟨F2,r2⟩:=g1.get 0 rfl
   obtain⟨pa,pc,rfl,-,-,-⟩:=ay.shape r2
   obtain⟨b2,hb2⟩:∃ b2,b2=w1.heap.size:=⟨_,rfl⟩
   have HR:Hid (nX v ⟨kind,⟨⟨src,dst,proto,ag,ah⟩,bI,aG,au⟩,gen,ql.map (fF v),bk,till,count⟩ (.slice pa ql.length pc) ql b2 (w.heap.size+1) (aF aT (.slice none 0 0)).toArray F0 w0 QQ (.int .i64 0) (w1.alloc (.cells (aF ⟨kind,⟨⟨src,dst,proto,ag,ah⟩,bI,aG,au⟩,gen,ql.map (fF v),bk,till,count⟩ (.slice pa ql.length pc)).toArray 69))):=Lib.hid ⟨0,Nat.zero_le _,rfl,by
    rw [ug,hb2]
    exact (g1.cells (aF ⟨kind,⟨⟨src,dst,proto,ag,ah⟩,bI,aG,au⟩,gen,ql.map (fF v),bk,till,count⟩ (.slice pa ql.length pc)).toArray 69).aI (R1:=[_,_]) [1,0] (by decide) rfl⟩
   clear KP g1 r2
   go_wp2_with fail
   rw [← hb2]
   clear hb2
   go_loopw [34] (nX v ⟨kind,⟨⟨src,dst,proto,ag,ah⟩,bI,aG,au⟩,gen,ql.map (fF v),bk,till,count⟩ (.slice pa ql.length pc) ql b2 (w.heap.size+1) (aF aT (.slice none 0 0)).toArray F0 w0 QQ) (fun k _=>ql.length - (intOf k).toNat)
   case atStart=>exact HR.out
   case round=>
    obtain⟨k,hk,rfl,dC⟩:=hrel
    clear HR
    by_cases hlt:k < ql.length
    ·obtain⟨b,hb⟩:∃ b,ql[k]?=some b:=⟨ql[k],List.getElem?_eq_getElem hlt⟩
     obtain⟨F3,r3⟩:=dC.get 0 rfl
     have hlt':(k:Int) < (ql.length:Int):=Int.ofNat_lt.2 hlt
     have hw2:wrap64 ((k:Int)+1)=(k:Int)+1:=by have:=Gr.out;unfold wrap64;omega
     have y0:wr.cell? ⟨b2,10,none⟩=some (.slice pa ql.length pc):=cell_of (dC.block 1 rfl) rfl
     have hlen:(oD (sS v ql k)).length=ql.length * 3:=by rw [qV,Ia]
     have hj:k * 3+2 < (oD (sS v ql k)).length:=by omega
     obtain⟨u0,hu0⟩:∃ u,(oD (sS v ql k))[k * 3+2]?=some u:=⟨_,List.getElem?_eq_getElem hj⟩
     obtain⟨g,rfl,c0⟩:=r3.at.2 (k * 3+2) _ hu0
     have hf:wr.frozen? ⟨g,k * 3+2,none⟩=false:=by
      have:=(r3.there (o:=k * 3+2) (m:=1) (by omega) 0 (by omega)).2
      simpa using this
     by_cases hv2:v < 2
     ·have HN:=Lib.hid (Ut dC 0 rfl (o:=k * 3+2) (us:=[.int .i64 1]) (by simp;omega))
      have HP:=Lib.hid (QG hv2 hb)
      have uf:Hid (nX v ⟨kind,⟨⟨src,dst,proto,ag,ah⟩,bI,aG,au⟩,gen,ql.map (fF v),bk,till,count⟩ (.slice (some ⟨g,0,none⟩) ql.length pc) ql b2 (w.heap.size+1) (aF aT (.slice none 0 0)).toArray F0 w0 QQ (.int .i64 ((k:Int)+1)) (wr.setCell ⟨g,k * 3+2,none⟩ (.int .i64 1))):=Lib.hid (Ib hb (by rw [← HP.out];exact HN.out))
      clear dC r3 hb hlen hj hk hlt HN HP hu0
      go_wp2_with fail
      go_roundw
      case rel=>(try rw [hw2]);exact uf.out
      case measure=>(try rw [hw2]);exact dV hlt'
     ·have q:decide (v < 2)=false:=decide_eq_false hv2
      have uf:Hid (nX v ⟨kind,⟨⟨src,dst,proto,ag,ah⟩,bI,aG,au⟩,gen,ql.map (fF v),bk,till,count⟩ (.slice (some ⟨g,0,none⟩) ql.length pc) ql b2 (w.heap.size+1) (aF aT (.slice none 0 0)).toArray F0 w0 QQ (.int .i64 ((k:Int)+1)) wr):=Lib.hid (Ib hb (by rw [NB hv2] at dC ⊢;exact dC))
      clear dC r3 hb hlen hj hk hlt hv2 hu0
      go_wp2_with fail
      go_roundw
      case rel=>(try rw [hw2]);exact uf.out
      case measure=>(try rw [hw2]);exact dV hlt'
    ·have hge:(ql.length:Int)≤(k:Int):=Int.ofNat_le.2 (Nat.le_of_not_lt hlt)
     obtain rfl:k=ql.length:=by omega
     rw [wG,zJ] at dC
     obtain⟨⟨q1,q2⟩,q3,q4⟩:=mM dC rfl
     have Q2:=Lib.hid q2
     have Q3:=Lib.hid (And.intro q3 q4)
     clear dC q2 q3 q4 hk hlt
     go_wp2_with (refine wpList_load_row rfl 69 (.tmp 5) rfl b2 rfl 69 _ (0,0) _ q1 Tryz.underlying69 rfl (by kernel_rfl) ?_;refine wpList_store_mid (op:=⟨none,Op.store 69 (.tmp 4) (.tmp 45),_,_,_,_⟩) (by rfl) 69 (.tmp 4) (.tmp 45) rfl (w.heap.size+1) 0 (aF ⟨kind,⟨⟨src,dst,proto,ag,ah⟩,bI,aG,au⟩,gen,ql.map (fF v),bk,till,count⟩ (.slice pa ql.length pc)).toArray (by rfl) (by rfl) Q2.out (by kernel_rfl) (jS _ _ _ _) ?_)
     exact bodyPost_ret (results_cell_row Tryz.results102 _ _ (w.heap.size+1) 69 _ (0,0) _ rfl Q3.out.1 Tryz.underlying69 rfl (by kernel_rfl)) rfl ⟨_,rfl,HD.out _ _ Q3.out.2⟩
end
section
variable {F0:List Nat} {w0 w:World} {R:List az} {bw:Nat} {l:List UInt8}
theorem XC (h:In F0 w0 w R) (i:Nat) (hA:R[i]?=some (WA bw l)) (hl:l.length≤1000000) (n:Int) :
  Calls Tryz.prog 234 #[.pointer (some ⟨bw,0,none⟩),.int .i64 n] w fun e w'=>e=.returned (.tuple #[])∧In F0 w0 w' (R.set i (WA bw (l++be (u64 n) 8))):=by
 have c:=Lib.hid (Ei h i hA hl (u64 n) 8 (Eg n) (by omega))
 rw [← Jt] at c
 clear h hA hl
 go_enter Tryz.func234,Tryz.ntmps234
 go_wp2_with fail
 refine c.out.mono ?_
 rintro e w1 ⟨rfl,ho⟩
 have HO:=Lib.hid ho
 clear ho c
 go_wp2_with fail
 go_end0
 exact⟨rfl,HO.out⟩
end
end Go.Proofs.YtogclkhpbjfadaaGreat
