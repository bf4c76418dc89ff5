/- .. -/
import Derived.Test.YtanhdliaaccacaaGreatUB12
import Derived.Deep.RegionHeld3
import Derived.Test.YtanhdliaaccacaaGreatUB5
import Derived.StillTailTactics
import Derived.Test.YtanhdliaaccacaaGreatUB2
import Derived.Deep.MidRow
import Derived.Lib.SliceRun
import Derived.Test.YtanhdliaaccacaaGreatUB3
namespace Go.Proofs.YtanhdliaaccacaaGreat
open Go.RowKit
set_option linter.unusedVariables false
set_option maxHeartbeats 64000000
set_option maxRecDepth 100000
theorem Kj:(Tryz.prog.info? 103).map (fun i=>(i.zero.map (fun z=>z.cells.size),i.size,i.bytes))=some (some 3,3,24):=by kernel_rfl
theorem ay.Jz {T:TypeId} {k n n' c:Nat} {a:Option Addr} {xs:List Value} {w:World} {F:List Nat} (h:ay T k (.slice a n c) n' xs w F) (ha:a=none):c=0:=by
 obtain⟨h0,h1,h2⟩:=h
 rcases h2 with ⟨e,_⟩|⟨g,cap,cur,e,_⟩
 ·cases e;rfl
 ·cases e;cases ha
theorem ig (r:Rec) (a:Option Addr) (n c:Nat):(aC r (.slice a n c)).toArray.all (·.oneCell')=true:=by simp [Value.oneCell']
theorem Bf (t:rX):(dE t).all (·.oneCell')=true:=by simp [Value.oneCell']
theorem QR (f:Fl):(dQ f).all (·.oneCell')=true:=by simp [Value.oneCell']
abbrev gq (v:Value) (l:List Bk):ax:=ay 103 3 v l.length (pQ l)
section
variable {F0:List Nat} {w0 w:World} {R:List ax}
theorem EM (h:In F0 w0 w R) {ad:Addr} {l:List Bk} {c:Nat} (hs:Src w (some ad) l.length 3 (pQ l)) (hn:l.length≤1000000) :
  Calls Tryz.prog 49 #[.slice (some ad) l.length c] w fun e w'=>∃ v,e=.returned v∧In F0 w0 w' (gq v l::R):=by
 have HH:=Lib.hid h
 have HS:=Lib.hid hs
 clear h hs
 have hq:∀ (w:World) (a:Option Addr) (n c n' c':Nat),(binOp .eql 22 (.slice a n c) (.slice none n' c')).run Tryz.prog w=.ok (.bool a.isNone) w:=fun w a n c n' c'=>Lib.run_eql_slice_nil w _ _ a n c n' c' Tryz.underlying22
 go_enter Tryz.func49,Tryz.ntmps49
 go_wp2_with (at_builtin;refine iG rfl ((HH.out.cells #[] 103).row0 (k:=3) 0 rfl) 0 rfl (.tmp 5) (.tmp 6) 22 (by rfl) Tryz.underlying22 Kj (by decide) (by decide) (by rfl) (by rfl) (pV HS.out _) (Uf _) (by omega) ?_)
 intro v' w3 ho hg
 have HO:Hid (In F0 w0 w3 (gq v' l::R)):=Lib.hid (by simpa using ho)
 clear ho hg
 go_wp2_with fail
 go_ret
 exact⟨_,rfl,HO.out⟩
theorem EN (h:In F0 w0 w R):Calls Tryz.prog 49 #[.slice none 0 0] w fun e w'=>∃ v,e=.returned v∧In F0 w0 w' (gq v []::R):=by
 have HH:=Lib.hid (h.dz 103 3)
 clear h
 have hq:∀ (w:World) (a:Option Addr) (n c n' c':Nat),(binOp .eql 22 (.slice a n c) (.slice none n' c')).run Tryz.prog w=.ok (.bool a.isNone) w:=fun w a n c n' c'=>Lib.run_eql_slice_nil w _ _ a n c n' c' Tryz.underlying22
 go_enter Tryz.func49,Tryz.ntmps49
 go_wp2_with fail
 go_ret
 exact⟨_,rfl,HH.out⟩
theorem nQ (h:In F0 w0 w R) {A:Option Addr} {c:Nat} {l:List Bk} (hn:A=none→c=0) (hs:Src w A l.length 3 (pQ l)) (hl:l.length≤1000000) :
  Calls Tryz.prog 49 #[.slice A l.length c] w fun e w'=>∃ v,e=.returned v∧In F0 w0 w' (gq v l::R):=by
 cases A with
 | none=>
  obtain rfl:=hn rfl
  have:l=[]:=by
   cases l with
   | nil=>rfl
   | cons b l=>obtain⟨ad,e,_⟩:=hs.at' (by simp);cases e
  subst this
  exact EN h
 | some ad=>exact EM h hs hl
def nJ (x:Rec) (F0:List Nat) (w0:World) (R:List ax) (e:Ending) (w':World):Prop:=∃ v,e=.returned (.agg (aC x v).toArray)∧In F0 w0 w' (gq v x.au::R)
theorem mQ {y:Rec} {pv:Value} {l:List Bk} {b1 b2:Nat} {C1:Array Value} {Q:List ax} (h:In F0 w0 w (gq pv l::Cells b2 (aC y pv).toArray 59::Cells b1 C1 59::Q)) (hC:C1.size=14) :
  (w.heap[b2]?=some (.cells (aC y pv).toArray 59 (0,0))∧w.there b1 0 14)∧((w.setCells b1 0 (aC y pv)).heap[b1]?=some (.cells (aC y pv).toArray 59 (0,0))∧In F0 w0 (w.setCells b1 0 (aC y pv)) (gq pv l::Q)):=by
 have h2:=h.eX 2 rfl (xs:=aC y pv) (b:=b1) (C:=C1) (T:=59) (by rw [hC];rfl)
 have ht:=dX (h.block 2 rfl)
 rw [hC] at ht
 exact⟨⟨h.block 1 rfl,ht⟩,h2.block 2 rfl,h2.aL (R1:=[_,_,_]) [0] (by decide) rfl⟩
end
section
variable {F0:List Nat} {w0 w:World} {R:List ax}
theorem Kk {src dst proto ag ah bN aJ aA gen bk till count:Int} {au:List Bk} {A:Option Addr} {c:Nat} (hs:gZ F0 w0 R A au) (hn:A=none→c=0) (hl:au.length≤1000000) (h:In F0 w0 w R):Calls Tryz.prog 146 #[tq ⟨3,⟨⟨src,dst,proto,ag,ah⟩,bN,aJ,aA⟩,gen,au,bk,till,count⟩ A c] w (nJ ⟨3,aQ,gen,au,0,0,0⟩ F0 w0 R):=by
 obtain⟨C0,hC0⟩:∃ C,C=(aC ⟨3,⟨⟨src,dst,proto,ag,ah⟩,bN,aJ,aA⟩,gen,au,bk,till,count⟩ (.slice A au.length c)).toArray:=⟨_,rfl⟩
 obtain⟨C1,ZN⟩:∃ C,C=(aC aM (.slice none 0 0)).toArray:=⟨_,rfl⟩
 obtain⟨C2,hC2⟩:∃ C,C=(aC ⟨3,aQ,0,[],0,0,0⟩ (.slice none 0 0)).toArray:=⟨_,rfl⟩
 have h3:In F0 w0 (((w.alloc (.cells C0 59)).alloc (.cells C1 59)).alloc (.cells C2 59)) (Cells (w.heap.size+1+1) C2 59::Cells (w.heap.size+1) C1 59::Cells w.heap.size C0 59::R):=by
  have h3:=((h.cells C0 59).cells C1 59).cells C2 59
  simp only [World.size_alloc] at h3
  exact h3
 have HH3:=Lib.hid (fun n=>h3.drewN n)
 have y0:=cell_of (o:=9) (h3.block 2 rfl) (show C0[9]?=some (.int .i64 gen) by rw [hC0];rfl)
 have y1:=cell_of (o:=10) (h3.block 2 rfl) (show C0[10]?=some (.slice A au.length c) by rw [hC0];rfl)
 have K:=Lib.hid (fun w' (h':In F0 w0 w' (Cells (w.heap.size+1+1) C2 59::Cells (w.heap.size+1) C1 59::Cells w.heap.size C0 59::R))=>nQ (c:=c) h' hn (hs _ h'.drop.drop.drop) hl)
 have HA:Hid (∀ w' v,In F0 w0 w' (gq v au::Cells (w.heap.size+1+1) C2 59::Cells (w.heap.size+1) C1 59::Cells w.heap.size C0 59::R) →
   (w'.cell? ⟨w.heap.size,9,none⟩=some (.int .i64 gen)∧w'.cell? ⟨w.heap.size,10,none⟩=some (.slice A au.length c))∧(w'.frozen? ⟨w.heap.size+1+1,9,none⟩=false∧w'.frozen? ⟨w.heap.size+1+1,10,none⟩=false)∧(w'.cell? ⟨w.heap.size+1+1,9,none⟩=some (.int .i64 0)∧w'.cell? ⟨w.heap.size+1+1,10,none⟩=some (.slice none 0 0)) ∧
   ∃ a cc,v=.slice a au.length cc):=Lib.hid fun w' v h'=>by
  obtain⟨F,hr⟩:=h'.get 0 rfl
  obtain⟨a,cc,e,-,-,-⟩:=ay.shape hr
  exact⟨⟨cell_of (h'.block 3 rfl) (by rw [hC0];rfl),cell_of (h'.block 3 rfl) (by rw [hC0];rfl)⟩,⟨aK (h'.block 1 rfl),aK (h'.block 1 rfl)⟩,⟨cell_of (h'.block 1 rfl) (by rw [hC2];rfl),cell_of (h'.block 1 rfl) (by rw [hC2];rfl)⟩,a,cc,e⟩
 have HB:Hid (∀ w' v,In F0 w0 w' (gq v au::Cells (w.heap.size+1+1) C2 59::Cells (w.heap.size+1) C1 59::Cells w.heap.size C0 59::R) →
   In F0 w0 ((w'.setCell ⟨w.heap.size+1+1,9,none⟩ (.int .i64 gen)).setCell ⟨w.heap.size+1+1,10,none⟩ v) (gq v au::Cells (w.heap.size+1+1) (aC ⟨3,aQ,gen,au,0,0,0⟩ v).toArray 59::Cells (w.heap.size+1) C1 59::Cells w.heap.size C0 59::R)):=Lib.hid fun w' v h'=>by
  have h2:=In.ku [.int .i64 gen,v] 9 1 h' (b:=w.heap.size+1+1) (C:=C2) (T:=59) rfl
  rw [jc (ys:=(aC ⟨3,aQ,gen,au,0,0,0⟩ v)) (by rw [hC2];simp) (by rw [hC2];simp [aQ,eO])] at h2
  exact h2
 have HC:Hid (∀ w' v,In F0 w0 w' (gq v au::Cells (w.heap.size+1+1) (aC ⟨3,aQ,gen,au,0,0,0⟩ v).toArray 59::Cells (w.heap.size+1) C1 59::Cells w.heap.size C0 59::R) →
   (w'.heap[w.heap.size+1+1]?=some (.cells (aC ⟨3,aQ,gen,au,0,0,0⟩ v).toArray 59 (0,0))∧w'.there (w.heap.size+1) 0 14) ∧
   ((w'.setCells (w.heap.size+1) 0 (aC ⟨3,aQ,gen,au,0,0,0⟩ v)).heap[w.heap.size+1]?=some (.cells (aC ⟨3,aQ,gen,au,0,0,0⟩ v).toArray 59 (0,0))∧In F0 w0 (w'.setCells (w.heap.size+1) 0 (aC ⟨3,aQ,gen,au,0,0,0⟩ v)) (gq v au::R))):=Lib.hid fun w' v h'=>by
  have h2:=h'.eX 2 rfl (xs:=(aC ⟨3,aQ,gen,au,0,0,0⟩ v)) (b:=w.heap.size+1) (C:=C1) (T:=59) (by rw [ZN];rfl)
  have ht:=dX (h'.block 2 rfl)
  rw [ZN] at ht
  exact⟨⟨h'.block 1 rfl,ht⟩,h2.block 2 rfl,h2.aL (R1:=[_,_,_,_]) [0] (by decide) rfl⟩
 have hne1:¬ w.heap.size+1+1=w.heap.size:=by omega
 have hne2:¬ w.heap.size=w.heap.size+1+1:=by omega
 clear h h3 hs hn hl
 subst hC0 ZN hC2
 go_enter Tryz.func146,Tryz.ntmps146
 go_wp2_with fail
 go_region_held3 (fun w'=>w'.cell? ⟨w.heap.size,9,none⟩=some (.int .i64 gen)∧w'.cell? ⟨w.heap.size,10,none⟩=some (.slice A au.length c)) (first | exact hz | exact⟨y0,y1⟩ | go_keep)
  (first | (go_at_call 49;refine (K.out _ (HH3.out _)).mono ?_;rintro e w1 ⟨v,rfl,g1⟩;obtain⟨hz,⟨f1,f2⟩,⟨d1,d2⟩,av,cv,rfl⟩:=HA.out w1 v g1;have G2:=Lib.hid (HB.out w1 _ g1);clear g1))
 clear y0 y1 K HA HB hz HH3 f1 f2 d1 d2
 obtain⟨⟨q1,q2⟩,q3,q4⟩:=HC.out _ _ G2.out
 have Q2:=Lib.hid q2
 have Q3:=Lib.hid (And.intro q3 q4)
 clear HC G2 q2 q3 q4
 go_wp2_with (refine wpList_load_row rfl 59 (.tmp 3) rfl (w.heap.size+1+1) rfl 59 _ (0,0) _ q1 Tryz.underlying59 rfl (by kernel_rfl) ?_;refine wpList_store_mid (op:=⟨none,Op.store 59 (.tmp 2) (.tmp 48),_,_,_,_⟩) (by rfl) 59 (.tmp 2) (.tmp 48) rfl (w.heap.size+1) 0 (aC ⟨3,aQ,gen,au,0,0,0⟩ (.slice av au.length cv)).toArray (by rfl) (by rfl) Q2.out (by kernel_rfl) (ig _ _ _ _) ?_)
 exact bodyPost_ret (results_cell_row Tryz.results146 _ _ (w.heap.size+1) 59 _ (0,0) _ rfl Q3.out.1 Tryz.underlying59 rfl (by kernel_rfl)) rfl ⟨_,rfl,Q3.out.2⟩
end
section
variable {F0:List Nat} {w0 w:World} {R:List ax}
theorem NN {r:Rec} {A:Option Addr} {c:Nat} (hs:gZ F0 w0 R A r.au) (hn:A=none→c=0) (hl:r.au.length≤1000000) (h:In F0 w0 w R):Calls Tryz.prog 146 #[tq r A c] w (nJ (aN r) F0 w0 R):=by
 have H:Hid (∀ w' ,In F0 w0 w' R→In F0 w0 w' (gq (.slice none 0 0) []::R)):=Lib.hid fun w' h'=>h'.dz _ _
 have HH:=Lib.hid h
 obtain⟨kind,fl,gen,au,bk,till,count⟩:=r
 by_cases k1:kind=1
 ·subst k1
  have e:aN ⟨1,fl,gen,au,bk,till,count⟩=⟨1,fl,0,[],0,0,0⟩:=rfl
  rw [e];clear e h hs hn hl
  obtain⟨⟨src,dst,proto,ag,ah⟩,bN,aJ,aA⟩:=fl
  go_enter Tryz.func146,Tryz.ntmps146
  go_wp2_with fail
  exact bodyPost_ret (results_cell_row Tryz.results146 _ _ (w.heap.size+1) 59 _ (0,0) _ rfl (nO w _ _ _) Tryz.underlying59 rfl (by kernel_rfl)) rfl ⟨.slice none 0 0,rfl,H.out _ (((HH.out.alloc _).alloc _).alloc _)⟩
 by_cases k2:kind=2
 ·subst k2
  have e:aN ⟨2,fl,gen,au,bk,till,count⟩=⟨2,⟨fl.t,0,0,0⟩,0,[],0,0,0⟩:=rfl
  rw [e];clear e h hs hn hl k1
  obtain⟨⟨src,dst,proto,ag,ah⟩,bN,aJ,aA⟩:=fl
  go_enter Tryz.func146,Tryz.ntmps146
  go_wp2_with fail
  exact bodyPost_ret (results_cell_row Tryz.results146 _ _ (w.heap.size+1) 59 _ (0,0) _ rfl (nO w _ _ _) Tryz.underlying59 rfl (by kernel_rfl)) rfl ⟨.slice none 0 0,rfl,H.out _ (((HH.out.alloc _).alloc _).alloc _)⟩
 by_cases k3:kind=3
 ·subst k3
  have e:aN ⟨3,fl,gen,au,bk,till,count⟩=⟨3,aQ,gen,au,0,0,0⟩:=rfl
  rw [e];clear e k1 k2
  obtain⟨⟨src,dst,proto,ag,ah⟩,bN,aJ,aA⟩:=fl
  exact Kk hs hn hl h
 by_cases k4:kind=4
 ·subst k4
  have e:aN ⟨4,fl,gen,au,bk,till,count⟩=⟨4,aQ,0,[],bk,till,0⟩:=rfl
  rw [e];clear e h hs hn hl k1 k2 k3
  go_enter Tryz.func146,Tryz.ntmps146
  go_wp2_with fail
  have hne1:¬ w.heap.size+1+1=w.heap.size:=by omega
  have hne2:¬ w.heap.size=w.heap.size+1+1:=by omega
  go_region_held3 (fun w'=>w'.cell? ⟨w.heap.size,11,none⟩=some (.int .i64 bk)∧w'.cell? ⟨w.heap.size,12,none⟩=some (.int .i64 till)) (first | exact⟨rfl,rfl⟩ | (refine⟨?_,?_⟩ <;> go_simp;done) | go_keep) (fail)
  go_wp2_with fail
  exact bodyPost_ret (results_cell_row Tryz.results146 _ _ (w.heap.size+1) 59 _ (0,0) _ rfl (nO w _ _ _) Tryz.underlying59 rfl (by kernel_rfl)) rfl ⟨.slice none 0 0,rfl,H.out _ ((((HH.out.alloc _).alloc _).alloc _).drewN 1)⟩
 by_cases k5:kind=5
 ·subst k5
  have e:aN ⟨5,fl,gen,au,bk,till,count⟩=⟨5,aQ,0,[],bk,0,0⟩:=rfl
  rw [e];clear e h hs hn hl k1 k2 k3 k4
  go_enter Tryz.func146,Tryz.ntmps146
  go_wp2_with fail
  exact bodyPost_ret (results_cell_row Tryz.results146 _ _ (w.heap.size+1) 59 _ (0,0) _ rfl (nO w _ _ _) Tryz.underlying59 rfl (by kernel_rfl)) rfl ⟨.slice none 0 0,rfl,H.out _ (((HH.out.alloc _).alloc _).alloc _)⟩
 by_cases k6:kind=6
 ·subst k6
  have e:aN ⟨6,fl,gen,au,bk,till,count⟩=⟨6,aQ,0,[],0,0,count⟩:=rfl
  rw [e];clear e h hs hn hl k1 k2 k3 k4 k5
  go_enter Tryz.func146,Tryz.ntmps146
  go_wp2_with fail
  exact bodyPost_ret (results_cell_row Tryz.results146 _ _ (w.heap.size+1) 59 _ (0,0) _ rfl (nO w _ _ _) Tryz.underlying59 rfl (by kernel_rfl)) rfl ⟨.slice none 0 0,rfl,H.out _ (((HH.out.alloc _).alloc _).alloc _)⟩
 ·have e:aN ⟨kind,fl,gen,au,bk,till,count⟩=⟨kind,aQ,0,[],0,0,0⟩:=by unfold aN;simp only;rw [if_neg k1,if_neg k2,if_neg k3,if_neg k4,if_neg k5,if_neg k6]
  have q1:(kind == 1)=false:=beq_eq_false_iff_ne.2 k1
  have q2:(kind == 2)=false:=beq_eq_false_iff_ne.2 k2
  have q3:(kind == 3)=false:=beq_eq_false_iff_ne.2 k3
  have q4:(kind == 4)=false:=beq_eq_false_iff_ne.2 k4
  have q5:(kind == 5)=false:=beq_eq_false_iff_ne.2 k5
  have q6:(kind == 6)=false:=beq_eq_false_iff_ne.2 k6
  rw [e];clear e h hs hn hl k1 k2 k3 k4 k5 k6
  go_enter Tryz.func146,Tryz.ntmps146
  go_wp2_with fail
  exact bodyPost_ret (results_cell_row Tryz.results146 _ _ (w.heap.size+1) 59 _ (0,0) _ rfl (nO w _ _ _) Tryz.underlying59 rfl (by kernel_rfl)) rfl ⟨.slice none 0 0,rfl,H.out _ (((HH.out.alloc _).alloc _).alloc _)⟩
end
theorem uI:∀ (us:List Value) (w:World) (g o:Nat) (C:Array Value) (T:TypeId) (fz:Nat×Nat),w.heap[g]?=some (.cells C T fz)→o+us.length≤C.size →
  ∃ C',(w.setCells g o us).heap[g]?=some (.cells C' T fz)∧C'.toList=C.toList.take o++us++C.toList.drop (o+us.length)∧Mod [g] w (w.setCells g o us)
 | [],w,g,o,C,T,fz,h,_=>⟨C,h,by simp,Mod.refl _ _⟩
 | v::r,w,g,o,C,T,fz,h,hl=>by
  have hl':o+1+r.length≤C.size:=by simp at hl;omega
  have h1:=aR (o:=o) (v:=v) h
  obtain⟨C',e1,e2,e3⟩:=uI r (w.setCell ⟨g,o,none⟩ v) g (o+1) _ T fz h1 (by simpa using hl')
  refine⟨C',e1,?_,((Mod.refl [g] w).setCell (p:=⟨g,o,none⟩) (Or.inl (by simp)) v).trans' e3⟩
  rw [e2]
  have ho:o < C.toList.length:=by rw [Array.length_toList];omega
  rw [Array.toList_setIfInBounds,List.take_set,List.drop_set,if_pos (by omega),List.take_add_one]
  rw [show (C.toList[o]?).toList=[C.toList[o]] by rw [List.getElem?_eq_getElem ho];rfl]
  rw [List.set_append_right _ _ (by simp;omega)]
  rw [show o - (C.toList.take o).length=0 by simp;omega]
  simp only [List.set_cons_zero,List.append_assoc,List.cons_append,List.nil_append,List.length_cons]
  rw [show o+1+r.length=o+(r.length+1) by omega]
def putAt (xs:List Value) (o:Nat) (us:List Value):List Value:=xs.take o++us++xs.drop (o+us.length)
theorem EO {xs us:List Value} {o:Nat} (h:o+us.length≤xs.length):(putAt xs o us).length=xs.length:=by unfold putAt;simp;omega
theorem ay.put {T:TypeId} {k:Nat} {g n' n cap:Nat} {xs:List Value} {w:World} {F:List Nat} (h:ay T k (.slice (some ⟨g,0,none⟩) n' cap) n xs w F) {o:Nat} {us:List Value} (ho:o+us.length≤xs.length) :
  ay T k (.slice (some ⟨g,0,none⟩) n' cap) n (putAt xs o us) (w.setCells g o us) F∧Mod F w (w.setCells g o us):=by
 obtain⟨h0,h1,h2⟩:=h
 rcases h2 with ⟨e,h3⟩|⟨g',cap',cur,e,h3,h4,h5,h6,h7,h8⟩
 ·cases e
 ·cases e
  have hlen:xs.length≤cur.size:=by
   have:=congrArg List.length h8
   simp at this;omega
  obtain⟨C',e1,e2,e3⟩:=uI us w g o cur T (0,0) h4 (by omega)
  refine⟨⟨h0,by rw [EO ho,h1],Or.inr ⟨g,cap,C',rfl,h3,e1,h5,h6,?_,?_⟩⟩,e3.mono (fun b hb=>by rw [h0];simpa [Value.ownBlock] using hb)⟩
  ·rw [← Array.length_toList,e2];simp;omega
  ·rw [e2]
   obtain⟨D,e4⟩:∃ D,cur.toList=xs++D:=⟨cur.toList.drop (n' * k),by rw [← h8,List.take_append_drop]⟩
   have hx:xs.length=n' * k:=h1
   rw [e4]
   unfold putAt
   have a1:(xs++D).take o=xs.take o:=List.take_append_of_le_length (by omega)
   have a2:(xs++D).drop (o+us.length)=xs.drop (o+us.length)++D:=List.drop_append_of_le_length (by omega)
   rw [a1,a2,← List.append_assoc,List.take_append_of_le_length (by simp;omega),List.take_of_length_le (by simp;omega)]
theorem ay.there {T:TypeId} {k:Nat} {g n' n cap:Nat} {xs:List Value} {w:World} {F:List Nat} (h:ay T k (.slice (some ⟨g,0,none⟩) n' cap) n xs w F) {o m:Nat} (ho:o+m≤xs.length):w.there g o m:=by
 obtain⟨h0,h1,h2⟩:=h
 rcases h2 with ⟨e,h3⟩|⟨g',cap',cur,e,h3,h4,h5,h6,h7,h8⟩
 ·cases e
 ·cases e
  have hlen:xs.length≤cur.size:=by
   have:=congrArg List.length h8
   simp at this;omega
  intro j hj
  refine⟨?_,aK h4⟩
  rw [cell_of h4 (v:=cur[o+j]'(by omega)) (Array.getElem?_eq_getElem _)];rfl
theorem Uw {F0:List Nat} {w0 w:World} {R:List ax} {T:TypeId} {k g n' n cap:Nat} {xs:List Value} (h:In F0 w0 w R) (i:Nat) (hA:R[i]?=some (ay T k (.slice (some ⟨g,0,none⟩) n' cap) n xs)) {o:Nat} {us:List Value} (ho:o+us.length≤xs.length) :
  In F0 w0 (w.setCells g o us) (R.set i (ay T k (.slice (some ⟨g,0,none⟩) n' cap) n (putAt xs o us))):=
 h.step i hA (ay.aB _ _ _ _ _) fun F hF=>⟨F,(hF.put ho).1,uL.refl _ _,(hF.put ho).2⟩
theorem Bg (a b:List Bk):pQ (a++b)=pQ a++pQ b:=by simp [pQ]
theorem Ih (b:Bk) (l:List Bk):pQ (b::l)=lD b++pQ l:=by simp [pQ]
def tC (v:Int) (l:List Bk) (k:Nat):List Bk:=(l.take k).map (eU v)++l.drop k
theorem uq (v:Int) (l:List Bk):tC v l 0=l:=rfl
theorem wN (v:Int) (l:List Bk):tC v l l.length=l.map (eU v):=by unfold tC;simp
theorem Ii (v:Int) (l:List Bk) (k:Nat):(tC v l k).length=l.length:=by unfold tC;simp;omega
theorem Ux {v:Int} {l:List Bk} {k:Nat} {b:Bk} (h:l[k]?=some b):tC v l k=(l.take k).map (eU v)++b::l.drop (k+1)∧tC v l (k+1)=(l.take k).map (eU v)++eU v b::l.drop (k+1):=by
 obtain⟨hk,rfl⟩:=List.getElem?_eq_some_iff.1 h
 unfold tC
 refine⟨by rw [List.drop_eq_getElem_cons hk],?_⟩
 rw [List.take_add_one,h,Option.toList_some,List.map_append,List.append_assoc];rfl
theorem NP {v:Int} (hv:¬ v < 2) (l:List Bk) (k:Nat):tC v l k=l:=by
 have e:eU v=id:=by funext b;unfold eU;rw [if_neg hv];rfl
 unfold tC;rw [e];simp
theorem QS {v:Int} {l:List Bk} {k:Nat} {b:Bk} (hv:v < 2) (h:l[k]?=some b):putAt (pQ (tC v l k)) (k * 3+2) [.int .i64 1]=pQ (tC v l (k+1)):=by
 have hk:=(List.getElem?_eq_some_iff.1 h).1
 obtain⟨e1,e2⟩:=Ux (v:=v) h
 rw [e1,e2,Bg,Bg,Ih,Ih]
 have hl:(pQ ((l.take k).map (eU v))).length=k * 3:=by rw [qV];simp;omega
 generalize pQ ((l.take k).map (eU v))=X at *
 generalize pQ (l.drop (k+1))=Y at *
 have e3:lD (eU v b)=[.int .i64 b.id,.int .u32 b.addr,.int .i64 1]:=by unfold eU;rw [if_pos hv]
 rw [e3]
 unfold putAt
 rw [← hl]
 have e4:(X++(lD b++Y)).take (X.length+2)=X++[.int .i64 b.id,.int .u32 b.addr]:=by
  rw [List.take_append,List.take_of_length_le (by omega)]
  simp
 have e5:(X++(lD b++Y)).drop (X.length+2+[Value.int .i64 1].length)=Y:=by
  have e6:X.length+2+[Value.int .i64 1].length - X.length=3:=by simp;omega
  rw [List.drop_append,List.drop_of_length_le (by simp;omega),e6]
  rfl
 rw [e4,e5]
 simp
theorem uu {pv:Value} {l:List Bk} {f:Bk→Bk}:ay 103 3 pv l.length (pQ (l.map f))=gq pv (l.map f):=by unfold gq;rw [List.length_map]
section
variable {F0:List Nat} {w0 w:World} {R:List ax}
def oh (v:Int) (y:Rec) (pv:Value) (l:List Bk) (b2 b1:Nat) (C1:Array Value) (F0:List Nat) (w0:World) (Q:List ax) (i:Value) (wr:World):Prop:=
 ∃ k:Nat,k≤l.length∧i=.int .i64 k∧In F0 w0 wr (ay 103 3 pv l.length (pQ (tC v l k))::Cells b2 (aC y pv).toArray 59::Cells b1 C1 59::Q)
theorem Ij {v:Int} {y:Rec} {pv:Value} {l:List Bk} {b2 b1:Nat} {C1:Array Value} {Q:List ax} {k:Nat} {b:Bk} (hb:l[k]?=some b) (h:In F0 w0 w (ay 103 3 pv l.length (pQ (tC v l (k+1)))::Cells b2 (aC y pv).toArray 59::Cells b1 C1 59::Q)):oh v y pv l b2 b1 C1 F0 w0 Q (.int .i64 ((k:Int)+1)) w:=
 ⟨k+1,(List.getElem?_eq_some_iff.1 hb).1,by rw [Int.natCast_add];rfl,h⟩
theorem Kl {r:Rec} {A:Option Addr} {c:Nat} (v:Int) (hs:gZ F0 w0 R A r.au) (hn:A=none→c=0) (hl:r.au.length≤1000000) (h:In F0 w0 w R):Calls Tryz.prog 68 #[tq r A c,.int .i64 v] w (nJ (dB r v) F0 w0 R):=by
 have KV:=Lib.hid (vG v)
 cases hv:di v with
 | false=>
  have e:dB r v=aM:=by unfold dB;rw [if_pos hv]
  have HH:=Lib.hid (fun o o2=>((h.alloc o).alloc o2).dz 103 3)
  rw [e];rw [hv] at KV
  clear e h hs hn hl hv
  obtain⟨kind,⟨⟨src,dst,proto,ag,ah⟩,bN,aJ,aA⟩,gen,au,bk,till,count⟩:=r
  go_enter Tryz.func68,Tryz.ntmps68
  go_wp2_with fail
  refine (KV.out _).mono ?_
  rintro e w1 ⟨rfl,rfl⟩
  clear KV
  go_wp2_with fail
  exact bodyPost_ret (results_cell_row Tryz.results68 _ _ (w.heap.size+1) 59 _ (0,0) _ rfl (heap_alloc2_new _ _ _) Tryz.underlying59 rfl (by kernel_rfl)) rfl ⟨.slice none 0 0,rfl,HH.out _ _⟩
 | true=>
  rw [hv] at KV
  have NQ:v=1∨v=2∨v=3:=by have:1≤v∧v≤3:=of_decide_eq_true hv;omega
  have e:dB r v=⟨(aN r).kind,if r.kind=1 then nG v (aN r).fl else (aN r).fl,(aN r).gen,(aN r).au.map (eU v),(aN r).bk,(aN r).till,(aN r).count⟩:=by unfold dB;rw [if_neg (by simp [hv])]
  have hpk:(aN r).kind=r.kind:=JK r
  obtain⟨C0,hC0⟩:∃ C,C=(aC r (.slice A r.au.length c)).toArray:=⟨_,rfl⟩
  have h2:In F0 w0 ((w.alloc (.cells C0 59)).alloc (.cells (aC aM (.slice none 0 0)).toArray 59)) (Cells (w.heap.size+1) (aC aM (.slice none 0 0)).toArray 59::Cells w.heap.size C0 59::R):=by
   have h2:=(h.cells C0 59).cells (aC aM (.slice none 0 0)).toArray 59
   simp only [World.size_alloc] at h2
   exact h2
  have KP:=Lib.hid (NN (c:=c) (fun w' h'=>hs w' h'.drop.drop) hn hl h2)
  unfold nJ at KP
  obtain⟨QQ,hQQ⟩:∃ QQ,QQ=Cells w.heap.size C0 59::R:=⟨_,rfl⟩
  rw [← hQQ] at KP
  have HD:Hid (∀ w' X,In F0 w0 w' (X::QQ)→In F0 w0 w' (X::R)):=Lib.hid fun w' X h'=>by rw [hQQ] at h';exact h'.aL (R1:=[_,_]) [0] (by decide) rfl
  clear hQQ
  have hkk:r.kind=1→(aN r).au=[]:=fun e=>by unfold aN;rw [if_pos e]
  have hbl:(aN r).au.length≤1000000:=by
   unfold aN
   repeat' split
   all_goals first | exact hl | exact Nat.zero_le _
  generalize aN r=q at *
  clear h h2 hs hn hl hv
  obtain⟨ZO,⟨⟨abH,abI,aaO,aaP,aaQ⟩,abJ,abj,aaR⟩,abK,abL,bk0,abk,aaS⟩:=r
  obtain⟨kind,⟨⟨src,dst,proto,ag,ah⟩,bN,aJ,aA⟩,gen,ql,bk,till,count⟩:=q
  simp only at hpk hkk hbl e KP hC0
  have Gx:=Lib.hid hbl
  subst hC0
  by_cases k1:ZO=1
  ·subst hpk
   subst k1
   have hq:=hkk rfl
   have XD:Hid (ql.length=0):=Lib.hid (by rw [hq];rfl)
   rw [if_pos rfl] at e
   clear hkk hbl hq
   rcases NQ with rfl | rfl | rfl
   ·have e2:nG 1 ⟨⟨src,dst,proto,ag,ah⟩,bN,aJ,aA⟩=⟨⟨src,dst,proto,ag,ah⟩,bN,0,0⟩:=rfl
    rw [e,e2]
    clear e e2
    go_enter Tryz.func68,Tryz.ntmps68
    go_wp2_with fail
    refine (KV.out _).mono ?_
    rintro e w1 ⟨rfl,rfl⟩
    clear KV
    go_wp2_with fail
    refine KP.out.mono ?_
    rintro e w1 ⟨pv,rfl,g1⟩
    obtain⟨F2,r2⟩:=g1.get 0 rfl
    obtain⟨pa,pc,rfl,-,-,-⟩:=ay.shape r2
    obtain⟨b2,hb2⟩:∃ b2,b2=w1.heap.size:=⟨_,rfl⟩
    have HR:Hid (oh 1 ⟨1,⟨⟨src,dst,proto,ag,ah⟩,bN,0,0⟩,gen,ql.map (eU 1),bk,till,count⟩ (.slice pa ql.length pc) ql b2 (w.heap.size+1) (aC aM (.slice none 0 0)).toArray F0 w0 QQ (.int .i64 0) (w1.alloc (.cells (aC ⟨1,⟨⟨src,dst,proto,ag,ah⟩,bN,0,0⟩,gen,ql.map (eU 1),bk,till,count⟩ (.slice pa ql.length pc)).toArray 59))):=Lib.hid ⟨0,Nat.zero_le _,rfl,by
     rw [uq,hb2]
     exact (g1.cells (aC ⟨1,⟨⟨src,dst,proto,ag,ah⟩,bN,0,0⟩,gen,ql.map (eU 1),bk,till,count⟩ (.slice pa ql.length pc)).toArray 59).aL (R1:=[_,_]) [1,0] (by decide) rfl⟩
    clear KP g1 r2
    go_wp2_with fail
    rw [← hb2]
    clear hb2
    go_loopw [34] (oh 1 ⟨1,⟨⟨src,dst,proto,ag,ah⟩,bN,0,0⟩,gen,ql.map (eU 1),bk,till,count⟩ (.slice pa ql.length pc) ql b2 (w.heap.size+1) (aC aM (.slice none 0 0)).toArray F0 w0 QQ) (fun k _=>ql.length - (intOf k).toNat)
    case atStart=>exact HR.out
    case round=>
     obtain⟨k,hk,rfl,dh⟩:=hrel
     clear HR
     by_cases hlt:k < ql.length
     ·exact absurd hlt (by rw [XD.out];omega)
     ·have hge:(ql.length:Int)≤(k:Int):=Int.ofNat_le.2 (Nat.le_of_not_lt hlt)
      obtain rfl:k=ql.length:=by omega
      rw [wN,uu] at dh
      obtain⟨⟨q1,q2⟩,q3,q4⟩:=mQ dh rfl
      have Q2:=Lib.hid q2
      have Q3:=Lib.hid (And.intro q3 q4)
      clear dh q2 q3 q4 hk hlt
      go_wp2_with (refine wpList_load_row rfl 59 (.tmp 5) rfl b2 rfl 59 _ (0,0) _ q1 Tryz.underlying59 rfl (by kernel_rfl) ?_;refine wpList_store_mid (op:=⟨none,Op.store 59 (.tmp 4) (.tmp 45),_,_,_,_⟩) (by rfl) 59 (.tmp 4) (.tmp 45) rfl (w.heap.size+1) 0 (aC ⟨1,⟨⟨src,dst,proto,ag,ah⟩,bN,0,0⟩,gen,ql.map (eU 1),bk,till,count⟩ (.slice pa ql.length pc)).toArray (by rfl) (by rfl) Q2.out (by kernel_rfl) (ig _ _ _ _) ?_)
      exact bodyPost_ret (results_cell_row Tryz.results68 _ _ (w.heap.size+1) 59 _ (0,0) _ rfl Q3.out.1 Tryz.underlying59 rfl (by kernel_rfl)) rfl ⟨_,rfl,HD.out _ _ Q3.out.2⟩
   ·have e2:nG 2 ⟨⟨src,dst,proto,ag,ah⟩,bN,aJ,aA⟩=⟨⟨src,dst,proto,ag,ah⟩,bN,aJ,0⟩:=rfl
    rw [e,e2]
    clear e e2
    go_enter Tryz.func68,Tryz.ntmps68
    go_wp2_with fail
    refine (KV.out _).mono ?_
    rintro e w1 ⟨rfl,rfl⟩
    clear KV
    go_wp2_with fail
    refine KP.out.mono ?_
    rintro e w1 ⟨pv,rfl,g1⟩
    obtain⟨F2,r2⟩:=g1.get 0 rfl
    obtain⟨pa,pc,rfl,-,-,-⟩:=ay.shape r2
    obtain⟨b2,hb2⟩:∃ b2,b2=w1.heap.size:=⟨_,rfl⟩
    have HR:Hid (oh 2 ⟨1,⟨⟨src,dst,proto,ag,ah⟩,bN,aJ,0⟩,gen,ql.map (eU 2),bk,till,count⟩ (.slice pa ql.length pc) ql b2 (w.heap.size+1) (aC aM (.slice none 0 0)).toArray F0 w0 QQ (.int .i64 0) (w1.alloc (.cells (aC ⟨1,⟨⟨src,dst,proto,ag,ah⟩,bN,aJ,0⟩,gen,ql.map (eU 2),bk,till,count⟩ (.slice pa ql.length pc)).toArray 59))):=Lib.hid ⟨0,Nat.zero_le _,rfl,by
     rw [uq,hb2]
     exact (g1.cells (aC ⟨1,⟨⟨src,dst,proto,ag,ah⟩,bN,aJ,0⟩,gen,ql.map (eU 2),bk,till,count⟩ (.slice pa ql.length pc)).toArray 59).aL (R1:=[_,_]) [1,0] (by decide) rfl⟩
    clear KP g1 r2
    go_wp2_with fail
    rw [← hb2]
    clear hb2
    go_loopw [34] (oh 2 ⟨1,⟨⟨src,dst,proto,ag,ah⟩,bN,aJ,0⟩,gen,ql.map (eU 2),bk,till,count⟩ (.slice pa ql.length pc) ql b2 (w.heap.size+1) (aC aM (.slice none 0 0)).toArray F0 w0 QQ) (fun k _=>ql.length - (intOf k).toNat)
    case atStart=>exact HR.out
    case round=>
     obtain⟨k,hk,rfl,dh⟩:=hrel
     clear HR
     by_cases hlt:k < ql.length
     ·exact absurd hlt (by rw [XD.out];omega)
     ·have hge:(ql.length:Int)≤(k:Int):=Int.ofNat_le.2 (Nat.le_of_not_lt hlt)
      obtain rfl:k=ql.length:=by omega
      rw [wN,uu] at dh
      obtain⟨⟨q1,q2⟩,q3,q4⟩:=mQ dh rfl
      have Q2:=Lib.hid q2
      have Q3:=Lib.hid (And.intro q3 q4)
      clear dh q2 q3 q4 hk hlt
      go_wp2_with (refine wpList_load_row rfl 59 (.tmp 5) rfl b2 rfl 59 _ (0,0) _ q1 Tryz.underlying59 rfl (by kernel_rfl) ?_;refine wpList_store_mid (op:=⟨none,Op.store 59 (.tmp 4) (.tmp 45),_,_,_,_⟩) (by rfl) 59 (.tmp 4) (.tmp 45) rfl (w.heap.size+1) 0 (aC ⟨1,⟨⟨src,dst,proto,ag,ah⟩,bN,aJ,0⟩,gen,ql.map (eU 2),bk,till,count⟩ (.slice pa ql.length pc)).toArray (by rfl) (by rfl) Q2.out (by kernel_rfl) (ig _ _ _ _) ?_)
      exact bodyPost_ret (results_cell_row Tryz.results68 _ _ (w.heap.size+1) 59 _ (0,0) _ rfl Q3.out.1 Tryz.underlying59 rfl (by kernel_rfl)) rfl ⟨_,rfl,HD.out _ _ Q3.out.2⟩
   ·have e2:nG 3 ⟨⟨src,dst,proto,ag,ah⟩,bN,aJ,aA⟩=⟨⟨src,dst,proto,ag,ah⟩,bN,aJ,aA⟩:=rfl
    rw [e,e2]
    clear e e2
    go_enter Tryz.func68,Tryz.ntmps68
    go_wp2_with fail
    refine (KV.out _).mono ?_
    rintro e w1 ⟨rfl,rfl⟩
    clear KV
    go_wp2_with fail
    refine KP.out.mono ?_
    rintro e w1 ⟨pv,rfl,g1⟩
    obtain⟨F2,r2⟩:=g1.get 0 rfl
    obtain⟨pa,pc,rfl,-,-,-⟩:=ay.shape r2
    obtain⟨b2,hb2⟩:∃ b2,b2=w1.heap.size:=⟨_,rfl⟩
    have HR:Hid (oh 3 ⟨1,⟨⟨src,dst,proto,ag,ah⟩,bN,aJ,aA⟩,gen,ql.map (eU 3),bk,till,count⟩ (.slice pa ql.length pc) ql b2 (w.heap.size+1) (aC aM (.slice none 0 0)).toArray F0 w0 QQ (.int .i64 0) (w1.alloc (.cells (aC ⟨1,⟨⟨src,dst,proto,ag,ah⟩,bN,aJ,aA⟩,gen,ql.map (eU 3),bk,till,count⟩ (.slice pa ql.length pc)).toArray 59))):=Lib.hid ⟨0,Nat.zero_le _,rfl,by
     rw [uq,hb2]
     exact (g1.cells (aC ⟨1,⟨⟨src,dst,proto,ag,ah⟩,bN,aJ,aA⟩,gen,ql.map (eU 3),bk,till,count⟩ (.slice pa ql.length pc)).toArray 59).aL (R1:=[_,_]) [1,0] (by decide) rfl⟩
    clear KP g1 r2
    go_wp2_with fail
    rw [← hb2]
    clear hb2
    go_loopw [34] (oh 3 ⟨1,⟨⟨src,dst,proto,ag,ah⟩,bN,aJ,aA⟩,gen,ql.map (eU 3),bk,till,count⟩ (.slice pa ql.length pc) ql b2 (w.heap.size+1) (aC aM (.slice none 0 0)).toArray F0 w0 QQ) (fun k _=>ql.length - (intOf k).toNat)
    case atStart=>exact HR.out
    case round=>
     obtain⟨k,hk,rfl,dh⟩:=hrel
     clear HR
     by_cases hlt:k < ql.length
     ·exact absurd hlt (by rw [XD.out];omega)
     ·have hge:(ql.length:Int)≤(k:Int):=Int.ofNat_le.2 (Nat.le_of_not_lt hlt)
      obtain rfl:k=ql.length:=by omega
      rw [wN,uu] at dh
      obtain⟨⟨q1,q2⟩,q3,q4⟩:=mQ dh rfl
      have Q2:=Lib.hid q2
      have Q3:=Lib.hid (And.intro q3 q4)
      clear dh q2 q3 q4 hk hlt
      go_wp2_with (refine wpList_load_row rfl 59 (.tmp 5) rfl b2 rfl 59 _ (0,0) _ q1 Tryz.underlying59 rfl (by kernel_rfl) ?_;refine wpList_store_mid (op:=⟨none,Op.store 59 (.tmp 4) (.tmp 45),_,_,_,_⟩) (by rfl) 59 (.tmp 4) (.tmp 45) rfl (w.heap.size+1) 0 (aC ⟨1,⟨⟨src,dst,proto,ag,ah⟩,bN,aJ,aA⟩,gen,ql.map (eU 3),bk,till,count⟩ (.slice pa ql.length pc)).toArray (by rfl) (by rfl) Q2.out (by kernel_rfl) (ig _ _ _ _) ?_)
      exact bodyPost_ret (results_cell_row Tryz.results68 _ _ (w.heap.size+1) 59 _ (0,0) _ rfl Q3.out.1 Tryz.underlying59 rfl (by kernel_rfl)) rfl ⟨_,rfl,HD.out _ _ Q3.out.2⟩
  ·have q0:(kind == 1)=false:=by rw [hpk];exact beq_eq_false_iff_ne.2 k1
   rw [if_neg k1] at e
   rw [e]
   clear e hkk hbl k1 hpk
   have abM:=Lib.hid NQ
   clear NQ
   go_enter Tryz.func68,Tryz.ntmps68
   go_wp2_with fail
   refine (KV.out _).mono ?_
   rintro e w1 ⟨rfl,rfl⟩
   clear KV
   go_wp2_with fail
   refine KP.out.mono ?_
   rintro e w1 ⟨pv,rfl,g1⟩
   obtain⟨F2,r2⟩:=g1.get 0 rfl
   obtain⟨pa,pc,rfl,-,-,-⟩:=ay.shape r2
   obtain⟨b2,hb2⟩:∃ b2,b2=w1.heap.size:=⟨_,rfl⟩
   have HR:Hid (oh v ⟨kind,⟨⟨src,dst,proto,ag,ah⟩,bN,aJ,aA⟩,gen,ql.map (eU v),bk,till,count⟩ (.slice pa ql.length pc) ql b2 (w.heap.size+1) (aC aM (.slice none 0 0)).toArray F0 w0 QQ (.int .i64 0) (w1.alloc (.cells (aC ⟨kind,⟨⟨src,dst,proto,ag,ah⟩,bN,aJ,aA⟩,gen,ql.map (eU v),bk,till,count⟩ (.slice pa ql.length pc)).toArray 59))):=Lib.hid ⟨0,Nat.zero_le _,rfl,by
    rw [uq,hb2]
    exact (g1.cells (aC ⟨kind,⟨⟨src,dst,proto,ag,ah⟩,bN,aJ,aA⟩,gen,ql.map (eU v),bk,till,count⟩ (.slice pa ql.length pc)).toArray 59).aL (R1:=[_,_]) [1,0] (by decide) rfl⟩
   clear KP g1 r2
   go_wp2_with fail
   rw [← hb2]
   clear hb2
   go_loopw [34] (oh v ⟨kind,⟨⟨src,dst,proto,ag,ah⟩,bN,aJ,aA⟩,gen,ql.map (eU v),bk,till,count⟩ (.slice pa ql.length pc) ql b2 (w.heap.size+1) (aC aM (.slice none 0 0)).toArray F0 w0 QQ) (fun k _=>ql.length - (intOf k).toNat)
   case atStart=>exact HR.out
   case round=>
    obtain⟨k,hk,rfl,dh⟩:=hrel
    clear HR
    by_cases hlt:k < ql.length
    ·obtain⟨b,hb⟩:∃ b,ql[k]?=some b:=⟨ql[k],List.getElem?_eq_getElem hlt⟩
     obtain⟨F3,r3⟩:=dh.get 0 rfl
     have hlt':(k:Int) < (ql.length:Int):=Int.ofNat_lt.2 hlt
     have hw2:wrap64 ((k:Int)+1)=(k:Int)+1:=by have:=Gx.out;unfold wrap64;omega
     have y0:wr.cell? ⟨b2,10,none⟩=some (.slice pa ql.length pc):=cell_of (dh.block 1 rfl) rfl
     have hlen:(pQ (tC v ql k)).length=ql.length * 3:=by rw [qV,Ii]
     have hj:k * 3+2 < (pQ (tC v ql k)).length:=by omega
     obtain⟨u0,hu0⟩:∃ u,(pQ (tC v ql k))[k * 3+2]?=some u:=⟨_,List.getElem?_eq_getElem hj⟩
     obtain⟨g,rfl,c0⟩:=r3.at.2 (k * 3+2) _ hu0
     have hf:wr.frozen? ⟨g,k * 3+2,none⟩=false:=by
      have:=(r3.there (o:=k * 3+2) (m:=1) (by omega) 0 (by omega)).2
      simpa using this
     by_cases hv2:v < 2
     ·have HN:=Lib.hid (Uw dh 0 rfl (o:=k * 3+2) (us:=[.int .i64 1]) (by simp;omega))
      have HP:=Lib.hid (QS hv2 hb)
      have vH:Hid (oh v ⟨kind,⟨⟨src,dst,proto,ag,ah⟩,bN,aJ,aA⟩,gen,ql.map (eU v),bk,till,count⟩ (.slice (some ⟨g,0,none⟩) ql.length pc) ql b2 (w.heap.size+1) (aC aM (.slice none 0 0)).toArray F0 w0 QQ (.int .i64 ((k:Int)+1)) (wr.setCell ⟨g,k * 3+2,none⟩ (.int .i64 1))):=Lib.hid (Ij hb (by rw [← HP.out];exact HN.out))
      clear dh r3 hb hlen hj hk hlt HN HP hu0
      go_wp2_with fail
      go_roundw
      case rel=>(try rw [hw2]);exact vH.out
      case measure=>(try rw [hw2]);exact dS hlt'
     ·have q:decide (v < 2)=false:=decide_eq_false hv2
      have vH:Hid (oh v ⟨kind,⟨⟨src,dst,proto,ag,ah⟩,bN,aJ,aA⟩,gen,ql.map (eU v),bk,till,count⟩ (.slice (some ⟨g,0,none⟩) ql.length pc) ql b2 (w.heap.size+1) (aC aM (.slice none 0 0)).toArray F0 w0 QQ (.int .i64 ((k:Int)+1)) wr):=Lib.hid (Ij hb (by rw [NP hv2] at dh ⊢;exact dh))
      clear dh r3 hb hlen hj hk hlt hv2 hu0
      go_wp2_with fail
      go_roundw
      case rel=>(try rw [hw2]);exact vH.out
      case measure=>(try rw [hw2]);exact dS hlt'
    ·have hge:(ql.length:Int)≤(k:Int):=Int.ofNat_le.2 (Nat.le_of_not_lt hlt)
     obtain rfl:k=ql.length:=by omega
     rw [wN,uu] at dh
     obtain⟨⟨q1,q2⟩,q3,q4⟩:=mQ dh rfl
     have Q2:=Lib.hid q2
     have Q3:=Lib.hid (And.intro q3 q4)
     clear dh q2 q3 q4 hk hlt
     go_wp2_with (refine wpList_load_row rfl 59 (.tmp 5) rfl b2 rfl 59 _ (0,0) _ q1 Tryz.underlying59 rfl (by kernel_rfl) ?_;refine wpList_store_mid (op:=⟨none,Op.store 59 (.tmp 4) (.tmp 45),_,_,_,_⟩) (by rfl) 59 (.tmp 4) (.tmp 45) rfl (w.heap.size+1) 0 (aC ⟨kind,⟨⟨src,dst,proto,ag,ah⟩,bN,aJ,aA⟩,gen,ql.map (eU v),bk,till,count⟩ (.slice pa ql.length pc)).toArray (by rfl) (by rfl) Q2.out (by kernel_rfl) (ig _ _ _ _) ?_)
     exact bodyPost_ret (results_cell_row Tryz.results68 _ _ (w.heap.size+1) 59 _ (0,0) _ rfl Q3.out.1 Tryz.underlying59 rfl (by kernel_rfl)) rfl ⟨_,rfl,HD.out _ _ Q3.out.2⟩
end
section
variable {F0:List Nat} {w0 w:World} {R:List ax} {bw:Nat} {l:List UInt8}
theorem XE (h:In F0 w0 w R) (i:Nat) (hA:R[i]?=some (WA bw l)) (hl:l.length≤1000000) (n:Int) :
  Calls Tryz.prog 178 #[.pointer (some ⟨bw,0,none⟩),.int .i64 n] w fun e w'=>e=.returned (.tuple #[])∧In F0 w0 w' (R.set i (WA bw (l++be (u64 n) 8))):=by
 have c:=Lib.hid (Eg h i hA hl (u64 n) 8 (Ee n) (by omega))
 rw [← JD] at c
 clear h hA hl
 go_enter Tryz.func178,Tryz.ntmps178
 go_wp2_with fail
 refine c.out.mono ?_
 rintro e w1 ⟨rfl,ho⟩
 have HO:=Lib.hid ho
 clear ho c
 go_wp2_with fail
 go_end0
 exact⟨rfl,HO.out⟩
end
end Go.Proofs.YtanhdliaaccacaaGreat
