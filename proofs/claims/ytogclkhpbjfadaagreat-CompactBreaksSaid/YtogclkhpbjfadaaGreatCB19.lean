/- What is proved here: contracts of the program's functions, and plain laws, on which the proofs of StoreSure and CompactBreaks rest; without conditions. -/
import Derived.Test.YtogclkhpbjfadaaGreatCB18
import Derived.Test.YtogclkhpbjfadaaGreatCB3
import Derived.Test.YtogclkhpbjfadaaGreatCB1
import Derived.DeepKeys4
namespace Go.Proofs.YtogclkhpbjfadaaGreat
open Go.RowKit
open Go.Maps (Keyed)
set_option linter.unusedVariables false
set_option maxHeartbeats 64000000
set_option maxRecDepth 100000
structure RcY (w:World) (b:Nat) (y:Rec) (pv:Value):Prop where
 y0:w.cell? ⟨b,0,none⟩=some (.int .i64 y.kind)
 y1:w.cell? ⟨b,1,none⟩=some (.int .u32 y.fl.t.src)
 y2:w.cell? ⟨b,2,none⟩=some (.int .u32 y.fl.t.dst)
 y3:w.cell? ⟨b,3,none⟩=some (.int .i64 y.fl.t.proto)
 y4:w.cell? ⟨b,4,none⟩=some (.int .i64 y.fl.t.sport)
 y5:w.cell? ⟨b,5,none⟩=some (.int .i64 y.fl.t.dport)
 y6:w.cell? ⟨b,6,none⟩=some (.int .i64 y.fl.bk)
 y7:w.cell? ⟨b,7,none⟩=some (.int .i64 y.fl.gen)
 y8:w.cell? ⟨b,8,none⟩=some (.int .i64 y.fl.seen)
 y9:w.cell? ⟨b,9,none⟩=some (.int .i64 y.gen)
 y10:w.cell? ⟨b,10,none⟩=some (pv)
 y11:w.cell? ⟨b,11,none⟩=some (.int .i64 y.bk)
 y12:w.cell? ⟨b,12,none⟩=some (.int .i64 y.till)
 y13:w.cell? ⟨b,13,none⟩=some (.int .i64 y.count)
 fz:∀ j,w.frozen? ⟨b,j,none⟩=false
section
variable {F0:List Nat} {w0 w:World} {R:List Asrt} {br:Nat} {s:RdS}
theorem rc_y {b:Nat} {y:Rec} {pv:Value} (h:w.heap[b]?=some (.cells (encRL y pv).toArray 69 (0,0))):RcY w b y pv:=
 ⟨cell_of h rfl,cell_of h rfl,cell_of h rfl,cell_of h rfl,cell_of h rfl,cell_of h rfl,cell_of h rfl,cell_of h rfl,cell_of h rfl,cell_of h rfl,cell_of h rfl,cell_of h rfl,cell_of h rfl,cell_of h rfl,fun j=>free_of h⟩
def RrPost (r:Rec×Bool×RdS) (br:Nat) (F0:List Nat) (w0:World) (R:List Asrt) (e:Ending) (w':World):Prop:=
 ∃ pv,e=.returned (.tuple #[.agg (encRL r.1 pv).toArray,.bool r.2.1])∧In F0 w0 w' (BkR pv r.1.bks::RdB br r.2.2::R)
theorem o_rdrec1 (v:Int) (h:In F0 w0 w (RdB br s::R)):Calls Tryz.prog 242 #[pR br,.int .i64 1,.int .i64 v] w (RrPost (rdRec 1 v s) br F0 w0 R):=by
 have hmf:∀ (fn:Fn) (first cap:Array Value) (w:World),(Instr.makeFunc fn first cap).run Tryz.prog w=.ok (.func fn first cap) w:=fun _ _ _ _=>rfl
 have h2:In F0 w0 ((w.alloc (.cells (encRL zeroRec (.slice none 0 0)).toArray 69)).alloc (.cells (encRL ⟨1,zeroF,0,[],0,0,0⟩ (.slice none 0 0)).toArray 69)) (RdB br s::Cells (w.heap.size+1) (encRL ⟨1,zeroF,0,[],0,0,0⟩ (.slice none 0 0)).toArray 69::Cells w.heap.size (encRL zeroRec (.slice none 0 0)).toArray 69::R):=by
  have h2:=(h.cells (encRL zeroRec (.slice none 0 0)).toArray 69).cells (encRL ⟨1,zeroF,0,[],0,0,0⟩ (.slice none 0 0)).toArray 69
  simp only [World.size_alloc] at h2
  exact h2.sel2 (R1:=[_,_,_]) [2,0,1] (by decide) rfl
 have KF:=Lib.hid (o_rdfl v h2)
 have e:rdRec 1 v s=(⟨1,(rdFl v s).1,0,[],0,0,0⟩,(rdFl v s).2.1,(rdFl v s).2.2):=rfl
 rw [e]
 generalize rdFl v s=r at *
 obtain⟨⟨⟨src,dst,proto,sport,dport⟩,fbk,fgen,fseen⟩,ok,sE⟩:=r
 simp only at *
 have HF:Hid (∀ w' pv,In F0 w0 w' (BkR pv []::RdB br sE::R)→RrPost (⟨1,⟨⟨src,dst,proto,sport,dport⟩,fbk,fgen,fseen⟩,0,[],0,0,0⟩,ok,sE) br F0 w0 R (.returned (.tuple #[.agg (encRL ⟨1,⟨⟨src,dst,proto,sport,dport⟩,fbk,fgen,fseen⟩,0,[],0,0,0⟩ pv).toArray,.bool ok])) w'):=Lib.hid fun w' pv h'=>⟨pv,rfl,h'⟩
 clear e h h2
 go_enter Tryz.func242,Tryz.ntmps242
 go_wp2_with fail
 refine KF.out.mono ?_
 rintro e w2 ⟨rfl,g2⟩
 simp only at g2
 obtain⟨e0,e1,e2,e3,e4,e5,e6,e7,e8,e9,e10,e11,e12,e13,ef⟩:=rc_y (y:=⟨1,zeroF,0,[],0,0,0⟩) (pv:=.slice none 0 0) (g2.block 1 rfl)
 simp only [zeroF,zeroT] at e0 e1 e2 e3 e4 e5 e6 e7 e8 e9 e10 e11 e12 e13
 have g3:In F0 w0 (((((((((w2.setCell ⟨w.heap.size+1,1,none⟩ (.int .u32 src)).setCell ⟨w.heap.size+1,2,none⟩ (.int .u32 dst)).setCell ⟨w.heap.size+1,3,none⟩ (.int .i64 proto)).setCell ⟨w.heap.size+1,4,none⟩ (.int .i64 sport)).setCell ⟨w.heap.size+1,5,none⟩ (.int .i64 dport)).setCell ⟨w.heap.size+1,6,none⟩ (.int .i64 fbk)).setCell ⟨w.heap.size+1,7,none⟩ (.int .i64 fgen)).setCell ⟨w.heap.size+1,8,none⟩ (.int .i64 fseen))) (BkR (.slice none 0 0) []::Cells (w.heap.size+1) (encRL ⟨1,⟨⟨src,dst,proto,sport,dport⟩,fbk,fgen,fseen⟩,0,[],0,0,0⟩ (.slice none 0 0)).toArray 69::Cells w.heap.size (encRL zeroRec (.slice none 0 0)).toArray 69::RdB br sE::R):=by
  have h9:=In.setCs [.int .u32 src,.int .u32 dst,.int .i64 proto,.int .i64 sport,.int .i64 dport,.int .i64 fbk,.int .i64 fgen,.int .i64 fseen] 1 1 g2 (b:=w.heap.size+1) (C:=(encRL ⟨1,zeroF,0,[],0,0,0⟩ (.slice none 0 0)).toArray) (T:=69) rfl
  rw [setL_at (ys:=encRL ⟨1,⟨⟨src,dst,proto,sport,dport⟩,fbk,fgen,fseen⟩,0,[],0,0,0⟩ (.slice none 0 0)) (by simp) (by simp [zeroF,zeroT])] at h9
  exact (h9.rownil 160 3).sel2 (R1:=[_,_,_,_]) [0,2,3,1] (by decide) rfl
 clear g2 KF
 obtain⟨p0,p1,p2,p3,p4,p5,p6,p7,p8,p9,p10,p11,p12,p13,-⟩:=rc_y (g3.block 1 rfl)
 obtain⟨z0,z1,z2,z3,z4,z5,z6,z7,z8,z9,z10,z11,z12,z13,zf⟩:=rc_y (g3.block 2 rfl)
 simp only at p0 p1 p2 p3 p4 p5 p6 p7 p8 p9 p10 p11 p12 p13
 simp only [zeroRec,zeroF,zeroT] at z0 z1 z2 z3 z4 z5 z6 z7 z8 z9 z10 z11 z12 z13
 obtain⟨-,q3,q4⟩:=rec_end g3 rfl
 have Q3:=Lib.hid q3
 have Q4:=Lib.hid (HF.out _ _ q4)
 clear g3 q3 q4 HF
 go_wp2_with fail
 exact bodyPost_ret (results_cell_tmp_row Tryz.results242 _ _ w.heap.size 69 _ (0,0) _ rfl Q3.out Tryz.underlying69 rfl (by kernel_rfl)) rfl Q4.out
theorem o_rdrec2 (v:Int) (h:In F0 w0 w (RdB br s::R)):Calls Tryz.prog 242 #[pR br,.int .i64 2,.int .i64 v] w (RrPost (rdRec 2 v s) br F0 w0 R):=by
 have hmf:∀ (fn:Fn) (first cap:Array Value) (w:World),(Instr.makeFunc fn first cap).run Tryz.prog w=.ok (.func fn first cap) w:=fun _ _ _ _=>rfl
 have h2:In F0 w0 ((w.alloc (.cells (encRL zeroRec (.slice none 0 0)).toArray 69)).alloc (.cells (encRL ⟨2,zeroF,0,[],0,0,0⟩ (.slice none 0 0)).toArray 69)) (RdB br s::Cells (w.heap.size+1) (encRL ⟨2,zeroF,0,[],0,0,0⟩ (.slice none 0 0)).toArray 69::Cells w.heap.size (encRL zeroRec (.slice none 0 0)).toArray 69::R):=by
  have h2:=(h.cells (encRL zeroRec (.slice none 0 0)).toArray 69).cells (encRL ⟨2,zeroF,0,[],0,0,0⟩ (.slice none 0 0)).toArray 69
  simp only [World.size_alloc] at h2
  exact h2.sel2 (R1:=[_,_,_]) [2,0,1] (by decide) rfl
 have KF:=Lib.hid (o_tread h2)
 have e:rdRec 2 v s=(⟨2,⟨(rdTup s).1,0,0,0⟩,0,[],0,0,0⟩,(rdTup s).2.1,(rdTup s).2.2):=rfl
 rw [e]
 generalize rdTup s=r at *
 obtain⟨⟨src,dst,proto,sport,dport⟩,ok,sE⟩:=r
 simp only at *
 have HF:Hid (∀ w' pv,In F0 w0 w' (BkR pv []::RdB br sE::R)→RrPost (⟨2,⟨⟨src,dst,proto,sport,dport⟩,0,0,0⟩,0,[],0,0,0⟩,ok,sE) br F0 w0 R (.returned (.tuple #[.agg (encRL ⟨2,⟨⟨src,dst,proto,sport,dport⟩,0,0,0⟩,0,[],0,0,0⟩ pv).toArray,.bool ok])) w'):=Lib.hid fun w' pv h'=>⟨pv,rfl,h'⟩
 clear e h h2
 go_enter Tryz.func242,Tryz.ntmps242
 go_wp2_with fail
 refine KF.out.mono ?_
 rintro e w2 ⟨rfl,g2⟩
 simp only at g2
 obtain⟨e0,e1,e2,e3,e4,e5,e6,e7,e8,e9,e10,e11,e12,e13,ef⟩:=rc_y (y:=⟨2,zeroF,0,[],0,0,0⟩) (pv:=.slice none 0 0) (g2.block 1 rfl)
 simp only [zeroF,zeroT] at e0 e1 e2 e3 e4 e5 e6 e7 e8 e9 e10 e11 e12 e13
 have g3:In F0 w0 ((((((w2.setCell ⟨w.heap.size+1,1,none⟩ (.int .u32 src)).setCell ⟨w.heap.size+1,2,none⟩ (.int .u32 dst)).setCell ⟨w.heap.size+1,3,none⟩ (.int .i64 proto)).setCell ⟨w.heap.size+1,4,none⟩ (.int .i64 sport)).setCell ⟨w.heap.size+1,5,none⟩ (.int .i64 dport))) (BkR (.slice none 0 0) []::Cells (w.heap.size+1) (encRL ⟨2,⟨⟨src,dst,proto,sport,dport⟩,0,0,0⟩,0,[],0,0,0⟩ (.slice none 0 0)).toArray 69::Cells w.heap.size (encRL zeroRec (.slice none 0 0)).toArray 69::RdB br sE::R):=by
  have h9:=In.setCs [.int .u32 src,.int .u32 dst,.int .i64 proto,.int .i64 sport,.int .i64 dport] 1 1 g2 (b:=w.heap.size+1) (C:=(encRL ⟨2,zeroF,0,[],0,0,0⟩ (.slice none 0 0)).toArray) (T:=69) rfl
  rw [setL_at (ys:=encRL ⟨2,⟨⟨src,dst,proto,sport,dport⟩,0,0,0⟩,0,[],0,0,0⟩ (.slice none 0 0)) (by simp) (by simp [zeroF,zeroT])] at h9
  exact (h9.rownil 160 3).sel2 (R1:=[_,_,_,_]) [0,2,3,1] (by decide) rfl
 clear g2 KF
 obtain⟨p0,p1,p2,p3,p4,p5,p6,p7,p8,p9,p10,p11,p12,p13,-⟩:=rc_y (g3.block 1 rfl)
 obtain⟨z0,z1,z2,z3,z4,z5,z6,z7,z8,z9,z10,z11,z12,z13,zf⟩:=rc_y (g3.block 2 rfl)
 simp only at p0 p1 p2 p3 p4 p5 p6 p7 p8 p9 p10 p11 p12 p13
 simp only [zeroRec,zeroF,zeroT] at z0 z1 z2 z3 z4 z5 z6 z7 z8 z9 z10 z11 z12 z13
 obtain⟨-,q3,q4⟩:=rec_end g3 rfl
 have Q3:=Lib.hid q3
 have Q4:=Lib.hid (HF.out _ _ q4)
 clear g3 q3 q4 HF
 go_wp2_with fail
 exact bodyPost_ret (results_cell_tmp_row Tryz.results242 _ _ w.heap.size 69 _ (0,0) _ rfl Q3.out Tryz.underlying69 rfl (by kernel_rfl)) rfl Q4.out
end
section
variable {F0:List Nat} {w0 w:World} {R:List Asrt} {br:Nat} {s:RdS}
theorem num_i64 (k:Nat) (s:RdS) (hk:k≤4):IntKind.i64.wrap ((rdN k s:Nat):Int)=((rdN k s:Nat):Int):=by
 have:rdN k s < 256 ^ k:=num_lt_of (k:=k) (rdTake_len _ _ _)
 have h2:256 ^ k≤256 ^ 4:=Nat.pow_le_pow_right (by decide) hk
 have h3:(256:Nat) ^ 4=4294967296:=rfl
 exact IntWalk.i64_in _ (by omega)
theorem o_rdrec5 (v:Int) (h:In F0 w0 w (RdB br s::R)):Calls Tryz.prog 242 #[pR br,.int .i64 5,.int .i64 v] w (RrPost (rdRec 5 v s) br F0 w0 R):=by
 have hmf:∀ (fn:Fn) (first cap:Array Value) (w:World),(Instr.makeFunc fn first cap).run Tryz.prog w=.ok (.func fn first cap) w:=fun _ _ _ _=>rfl
 have h2:In F0 w0 ((w.alloc (.cells (encRL zeroRec (.slice none 0 0)).toArray 69)).alloc (.cells (encRL ⟨5,zeroF,0,[],0,0,0⟩ (.slice none 0 0)).toArray 69)) (RdB br s::Cells (w.heap.size+1) (encRL ⟨5,zeroF,0,[],0,0,0⟩ (.slice none 0 0)).toArray 69::Cells w.heap.size (encRL zeroRec (.slice none 0 0)).toArray 69::R):=by
  have h2:=(h.cells (encRL zeroRec (.slice none 0 0)).toArray 69).cells (encRL ⟨5,zeroF,0,[],0,0,0⟩ (.slice none 0 0)).toArray 69
  simp only [World.size_alloc] at h2
  exact h2.sel2 (R1:=[_,_,_]) [2,0,1] (by decide) rfl
 have KA:=k_r16 h2
 have e:rdRec 5 v s=(⟨5,zeroF,0,[],rdN 2 s,0,0⟩,true,rdS 2 s):=rfl
 rw [e]
 generalize ((rdN 2 s:Nat):Int)=a1 at *
 generalize rdS 2 s=s1 at *
 have KF:=Lib.hid KA
 have HF:Hid (∀ w' pv,In F0 w0 w' (BkR pv []::RdB br s1::R)→RrPost (⟨5,zeroF,0,[],a1,0,0⟩,true,s1) br F0 w0 R (.returned (.tuple #[.agg (encRL ⟨5,zeroF,0,[],a1,0,0⟩ pv).toArray,.bool true])) w'):=Lib.hid fun w' pv h'=>⟨pv,rfl,h'⟩
 clear e h h2 KA
 go_enter Tryz.func242,Tryz.ntmps242
 go_wp2_with fail
 refine KF.out.mono ?_
 rintro e w2 ⟨rfl,g2⟩
 obtain⟨e0,e1,e2,e3,e4,e5,e6,e7,e8,e9,e10,e11,e12,e13,ef⟩:=rc_y (y:=⟨5,zeroF,0,[],0,0,0⟩) (pv:=.slice none 0 0) (g2.block 1 rfl)
 have g3:In F0 w0 (w2.setCell ⟨w.heap.size+1,11,none⟩ (.int .i64 a1)) (RdB br s1::Cells (w.heap.size+1) (encRL ⟨5,zeroF,0,[],a1,0,0⟩ (.slice none 0 0)).toArray 69::Cells w.heap.size (encRL zeroRec (.slice none 0 0)).toArray 69::R):=by
  have h9:=In.setCs [.int .i64 a1] 11 1 g2 (b:=w.heap.size+1) (C:=(encRL ⟨5,zeroF,0,[],0,0,0⟩ (.slice none 0 0)).toArray) (T:=69) rfl
  rw [setL_at (ys:=encRL ⟨5,zeroF,0,[],a1,0,0⟩ (.slice none 0 0)) (by simp) (by simp [zeroF,zeroT])] at h9
  exact h9
 have g4:In F0 w0 (w2.setCell ⟨w.heap.size+1,11,none⟩ (.int .i64 a1)) (BkR (.slice none 0 0) []::Cells (w.heap.size+1) (encRL ⟨5,zeroF,0,[],a1,0,0⟩ (.slice none 0 0)).toArray 69::Cells w.heap.size (encRL zeroRec (.slice none 0 0)).toArray 69::RdB br s1::R):=(g3.rownil 160 3).sel2 (R1:=[_,_,_,_]) [0,2,3,1] (by decide) rfl
 clear g2 g3 KF
 obtain⟨p0,p1,p2,p3,p4,p5,p6,p7,p8,p9,p10,p11,p12,p13,-⟩:=rc_y (g4.block 1 rfl)
 obtain⟨z0,z1,z2,z3,z4,z5,z6,z7,z8,z9,z10,z11,z12,z13,zf⟩:=rc_y (g4.block 2 rfl)
 simp only at p0 p1 p2 p3 p4 p5 p6 p7 p8 p9 p10 p11 p12 p13
 simp only [zeroF,zeroT] at p1 p2 p3 p4 p5 p6 p7 p8
 simp only [zeroRec,zeroF,zeroT] at z0 z1 z2 z3 z4 z5 z6 z7 z8 z9 z10 z11 z12 z13
 obtain⟨-,q3,q4⟩:=rec_end g4 rfl
 have Q3:=Lib.hid q3
 have Q4:=Lib.hid (HF.out _ _ q4)
 clear g4 q3 q4 HF
 go_wp2_with fail
 exact bodyPost_ret (results_cell_tmp_row Tryz.results242 _ _ w.heap.size 69 _ (0,0) _ rfl Q3.out Tryz.underlying69 rfl (by kernel_rfl)) rfl Q4.out
theorem o_rdrec6 (v:Int) (h:In F0 w0 w (RdB br s::R)):Calls Tryz.prog 242 #[pR br,.int .i64 6,.int .i64 v] w (RrPost (rdRec 6 v s) br F0 w0 R):=by
 have hmf:∀ (fn:Fn) (first cap:Array Value) (w:World),(Instr.makeFunc fn first cap).run Tryz.prog w=.ok (.func fn first cap) w:=fun _ _ _ _=>rfl
 have h2:In F0 w0 ((w.alloc (.cells (encRL zeroRec (.slice none 0 0)).toArray 69)).alloc (.cells (encRL ⟨6,zeroF,0,[],0,0,0⟩ (.slice none 0 0)).toArray 69)) (RdB br s::Cells (w.heap.size+1) (encRL ⟨6,zeroF,0,[],0,0,0⟩ (.slice none 0 0)).toArray 69::Cells w.heap.size (encRL zeroRec (.slice none 0 0)).toArray 69::R):=by
  have h2:=(h.cells (encRL zeroRec (.slice none 0 0)).toArray 69).cells (encRL ⟨6,zeroF,0,[],0,0,0⟩ (.slice none 0 0)).toArray 69
  simp only [World.size_alloc] at h2
  exact h2.sel2 (R1:=[_,_,_]) [2,0,1] (by decide) rfl
 have KA:=k_r32 h2
 have hw:=num_i64 4 s (by decide)
 have e:rdRec 6 v s=(⟨6,zeroF,0,[],0,0,rdN 4 s⟩,true,rdS 4 s):=rfl
 rw [e]
 generalize ((rdN 4 s:Nat):Int)=a1 at *
 generalize rdS 4 s=s1 at *
 have KF:=Lib.hid KA
 have HF:Hid (∀ w' pv,In F0 w0 w' (BkR pv []::RdB br s1::R)→RrPost (⟨6,zeroF,0,[],0,0,a1⟩,true,s1) br F0 w0 R (.returned (.tuple #[.agg (encRL ⟨6,zeroF,0,[],0,0,a1⟩ pv).toArray,.bool true])) w'):=Lib.hid fun w' pv h'=>⟨pv,rfl,h'⟩
 clear e h h2 KA
 go_enter Tryz.func242,Tryz.ntmps242
 go_wp2_with fail
 refine KF.out.mono ?_
 rintro e w2 ⟨rfl,g2⟩
 obtain⟨e0,e1,e2,e3,e4,e5,e6,e7,e8,e9,e10,e11,e12,e13,ef⟩:=rc_y (y:=⟨6,zeroF,0,[],0,0,0⟩) (pv:=.slice none 0 0) (g2.block 1 rfl)
 have g3:In F0 w0 (w2.setCell ⟨w.heap.size+1,13,none⟩ (.int .i64 a1)) (RdB br s1::Cells (w.heap.size+1) (encRL ⟨6,zeroF,0,[],0,0,a1⟩ (.slice none 0 0)).toArray 69::Cells w.heap.size (encRL zeroRec (.slice none 0 0)).toArray 69::R):=by
  have h9:=In.setCs [.int .i64 a1] 13 1 g2 (b:=w.heap.size+1) (C:=(encRL ⟨6,zeroF,0,[],0,0,0⟩ (.slice none 0 0)).toArray) (T:=69) rfl
  rw [setL_at (ys:=encRL ⟨6,zeroF,0,[],0,0,a1⟩ (.slice none 0 0)) (by simp) (by simp [zeroF,zeroT])] at h9
  exact h9
 have g4:In F0 w0 (w2.setCell ⟨w.heap.size+1,13,none⟩ (.int .i64 a1)) (BkR (.slice none 0 0) []::Cells (w.heap.size+1) (encRL ⟨6,zeroF,0,[],0,0,a1⟩ (.slice none 0 0)).toArray 69::Cells w.heap.size (encRL zeroRec (.slice none 0 0)).toArray 69::RdB br s1::R):=(g3.rownil 160 3).sel2 (R1:=[_,_,_,_]) [0,2,3,1] (by decide) rfl
 clear g2 g3 KF
 obtain⟨p0,p1,p2,p3,p4,p5,p6,p7,p8,p9,p10,p11,p12,p13,-⟩:=rc_y (g4.block 1 rfl)
 obtain⟨z0,z1,z2,z3,z4,z5,z6,z7,z8,z9,z10,z11,z12,z13,zf⟩:=rc_y (g4.block 2 rfl)
 simp only at p0 p1 p2 p3 p4 p5 p6 p7 p8 p9 p10 p11 p12 p13
 simp only [zeroF,zeroT] at p1 p2 p3 p4 p5 p6 p7 p8
 simp only [zeroRec,zeroF,zeroT] at z0 z1 z2 z3 z4 z5 z6 z7 z8 z9 z10 z11 z12 z13
 obtain⟨-,q3,q4⟩:=rec_end g4 rfl
 have Q3:=Lib.hid q3
 have Q4:=Lib.hid (HF.out _ _ q4)
 clear g4 q3 q4 HF
 go_wp2_with fail
 exact bodyPost_ret (results_cell_tmp_row Tryz.results242 _ _ w.heap.size 69 _ (0,0) _ rfl Q3.out Tryz.underlying69 rfl (by kernel_rfl)) rfl Q4.out
theorem o_rdrec4 (v:Int) (h:In F0 w0 w (RdB br s::R)):Calls Tryz.prog 242 #[pR br,.int .i64 4,.int .i64 v] w (RrPost (rdRec 4 v s) br F0 w0 R):=by
 have hmf:∀ (fn:Fn) (first cap:Array Value) (w:World),(Instr.makeFunc fn first cap).run Tryz.prog w=.ok (.func fn first cap) w:=fun _ _ _ _=>rfl
 have h2:In F0 w0 ((w.alloc (.cells (encRL zeroRec (.slice none 0 0)).toArray 69)).alloc (.cells (encRL ⟨4,zeroF,0,[],0,0,0⟩ (.slice none 0 0)).toArray 69)) (RdB br s::Cells (w.heap.size+1) (encRL ⟨4,zeroF,0,[],0,0,0⟩ (.slice none 0 0)).toArray 69::Cells w.heap.size (encRL zeroRec (.slice none 0 0)).toArray 69::R):=by
  have h2:=(h.cells (encRL zeroRec (.slice none 0 0)).toArray 69).cells (encRL ⟨4,zeroF,0,[],0,0,0⟩ (.slice none 0 0)).toArray 69
  simp only [World.size_alloc] at h2
  exact h2.sel2 (R1:=[_,_,_]) [2,0,1] (by decide) rfl
 have KA:=k_r16 h2
 have e:rdRec 4 v s=(⟨4,zeroF,0,[],rdN 2 s,sig64 (rdN 8 (rdS 2 s)),0⟩,true,rdS 8 (rdS 2 s)):=rfl
 rw [e]
 generalize ((rdN 2 s:Nat):Int)=a1 at *
 generalize rdS 2 s=s1 at *
 obtain⟨a2,ha2⟩:∃ x:Int,x=sig64 (rdN 8 s1):=⟨_,rfl⟩
 obtain⟨s2,hs2⟩:∃ x,x=rdS 8 s1:=⟨_,rfl⟩
 have KB:Hid (∀ w' R',In F0 w0 w' (RdB br s1::R')→Calls Tryz.prog 276 #[pR br] w' (RNPost (.int .i64 a2) br s2 F0 w0 R')):=Lib.hid fun w' R' h'=>by rw [ha2,hs2];exact k_r64 h'
 rw [← ha2,← hs2]
 have KF:=Lib.hid KA
 have HF:Hid (∀ w' pv,In F0 w0 w' (BkR pv []::RdB br s2::R)→RrPost (⟨4,zeroF,0,[],a1,a2,0⟩,true,s2) br F0 w0 R (.returned (.tuple #[.agg (encRL ⟨4,zeroF,0,[],a1,a2,0⟩ pv).toArray,.bool true])) w'):=Lib.hid fun w' pv h'=>⟨pv,rfl,h'⟩
 clear e h h2 KA ha2 hs2
 go_enter Tryz.func242,Tryz.ntmps242
 go_wp2_with fail
 refine KF.out.mono ?_
 rintro e w2 ⟨rfl,g2⟩
 obtain⟨e0,e1,e2,e3,e4,e5,e6,e7,e8,e9,e10,e11,e12,e13,ef⟩:=rc_y (y:=⟨4,zeroF,0,[],0,0,0⟩) (pv:=.slice none 0 0) (g2.block 1 rfl)
 have g3:In F0 w0 (w2.setCell ⟨w.heap.size+1,11,none⟩ (.int .i64 a1)) (RdB br s1::Cells (w.heap.size+1) (encRL ⟨4,zeroF,0,[],a1,0,0⟩ (.slice none 0 0)).toArray 69::Cells w.heap.size (encRL zeroRec (.slice none 0 0)).toArray 69::R):=by
  have h9:=In.setCs [.int .i64 a1] 11 1 g2 (b:=w.heap.size+1) (C:=(encRL ⟨4,zeroF,0,[],0,0,0⟩ (.slice none 0 0)).toArray) (T:=69) rfl
  rw [setL_at (ys:=encRL ⟨4,zeroF,0,[],a1,0,0⟩ (.slice none 0 0)) (by simp) (by simp [zeroF,zeroT])] at h9
  exact h9
 have KC:=Lib.hid (KB.out _ _ g3)
 clear g2 g3 KF KB
 go_wp2_with fail
 refine KC.out.mono ?_
 rintro e w3 ⟨rfl,g4⟩
 clear e0 e1 e2 e3 e4 e5 e6 e7 e8 e9 e10 e11 e12 e13 ef
 obtain⟨e0,e1,e2,e3,e4,e5,e6,e7,e8,e9,e10,e11,e12,e13,ef⟩:=rc_y (y:=⟨4,zeroF,0,[],a1,0,0⟩) (pv:=.slice none 0 0) (g4.block 1 rfl)
 have g5:In F0 w0 (w3.setCell ⟨w.heap.size+1,12,none⟩ (.int .i64 a2)) (RdB br s2::Cells (w.heap.size+1) (encRL ⟨4,zeroF,0,[],a1,a2,0⟩ (.slice none 0 0)).toArray 69::Cells w.heap.size (encRL zeroRec (.slice none 0 0)).toArray 69::R):=by
  have h9:=In.setCs [.int .i64 a2] 12 1 g4 (b:=w.heap.size+1) (C:=(encRL ⟨4,zeroF,0,[],a1,0,0⟩ (.slice none 0 0)).toArray) (T:=69) rfl
  rw [setL_at (ys:=encRL ⟨4,zeroF,0,[],a1,a2,0⟩ (.slice none 0 0)) (by simp) (by simp [zeroF,zeroT])] at h9
  exact h9
 have g6:In F0 w0 (w3.setCell ⟨w.heap.size+1,12,none⟩ (.int .i64 a2)) (BkR (.slice none 0 0) []::Cells (w.heap.size+1) (encRL ⟨4,zeroF,0,[],a1,a2,0⟩ (.slice none 0 0)).toArray 69::Cells w.heap.size (encRL zeroRec (.slice none 0 0)).toArray 69::RdB br s2::R):=(g5.rownil 160 3).sel2 (R1:=[_,_,_,_]) [0,2,3,1] (by decide) rfl
 clear g4 g5 KC
 obtain⟨p0,p1,p2,p3,p4,p5,p6,p7,p8,p9,p10,p11,p12,p13,-⟩:=rc_y (g6.block 1 rfl)
 obtain⟨z0,z1,z2,z3,z4,z5,z6,z7,z8,z9,z10,z11,z12,z13,zf⟩:=rc_y (g6.block 2 rfl)
 simp only at p0 p1 p2 p3 p4 p5 p6 p7 p8 p9 p10 p11 p12 p13
 simp only [zeroF,zeroT] at p1 p2 p3 p4 p5 p6 p7 p8
 simp only [zeroRec,zeroF,zeroT] at z0 z1 z2 z3 z4 z5 z6 z7 z8 z9 z10 z11 z12 z13
 obtain⟨-,q3,q4⟩:=rec_end g6 rfl
 have Q3:=Lib.hid q3
 have Q4:=Lib.hid (HF.out _ _ q4)
 clear g6 q3 q4 HF
 go_wp2_with fail
 exact bodyPost_ret (results_cell_tmp_row Tryz.results242 _ _ w.heap.size 69 _ (0,0) _ rfl Q3.out Tryz.underlying69 rfl (by kernel_rfl)) rfl Q4.out
theorem o_rdrec3 (v:Int) (h:In F0 w0 w (RdB br s::R)):Calls Tryz.prog 242 #[pR br,.int .i64 3,.int .i64 v] w (RrPost (rdRec 3 v s) br F0 w0 R):=by
 have hmf:∀ (fn:Fn) (first cap:Array Value) (w:World),(Instr.makeFunc fn first cap).run Tryz.prog w=.ok (.func fn first cap) w:=fun _ _ _ _=>rfl
 have h2:In F0 w0 ((w.alloc (.cells (encRL zeroRec (.slice none 0 0)).toArray 69)).alloc (.cells (encRL ⟨3,zeroF,0,[],0,0,0⟩ (.slice none 0 0)).toArray 69)) (RdB br s::Cells (w.heap.size+1) (encRL ⟨3,zeroF,0,[],0,0,0⟩ (.slice none 0 0)).toArray 69::Cells w.heap.size (encRL zeroRec (.slice none 0 0)).toArray 69::R):=by
  have h2:=(h.cells (encRL zeroRec (.slice none 0 0)).toArray 69).cells (encRL ⟨3,zeroF,0,[],0,0,0⟩ (.slice none 0 0)).toArray 69
  simp only [World.size_alloc] at h2
  exact h2.sel2 (R1:=[_,_,_]) [2,0,1] (by decide) rfl
 have KA:=k_r32 h2
 have hw:=num_i64 4 s (by decide)
 have e:rdRec 3 v s=(⟨3,zeroF,rdN 4 s,(rdBks v (min (rdN 1 (rdS 4 s)) 17) (rdS 1 (rdS 4 s))).1,0,0,0⟩,true,(rdBks v (min (rdN 1 (rdS 4 s)) 17) (rdS 1 (rdS 4 s))).2):=rfl
 rw [e]
 generalize ((rdN 4 s:Nat):Int)=a1 at *
 generalize rdS 4 s=s1 at *
 have KB0:∀ w' R',In F0 w0 w' (RdB br s1::R')→Calls Tryz.prog 275 #[pR br,.int .i64 v] w' (BrPost v (min (rdN 1 s1) 17) (rdS 1 s1) br F0 w0 R'):=fun w' R' h'=>o_rdbks v h'
 unfold BrPost at KB0
 generalize rdBks v (min (rdN 1 s1) 17) (rdS 1 s1)=r at *
 obtain⟨l,s2⟩:=r
 simp only at *
 have KB:=Lib.hid KB0
 have KF:=Lib.hid KA
 have HF:Hid (∀ w' pv,In F0 w0 w' (BkR pv l::RdB br s2::R)→RrPost (⟨3,zeroF,a1,l,0,0,0⟩,true,s2) br F0 w0 R (.returned (.tuple #[.agg (encRL ⟨3,zeroF,a1,l,0,0,0⟩ pv).toArray,.bool true])) w'):=Lib.hid fun w' pv h'=>⟨pv,rfl,h'⟩
 clear e h h2 KA KB0
 go_enter Tryz.func242,Tryz.ntmps242
 go_wp2_with fail
 refine KF.out.mono ?_
 rintro e w2 ⟨rfl,g2⟩
 obtain⟨e0,e1,e2,e3,e4,e5,e6,e7,e8,e9,e10,e11,e12,e13,ef⟩:=rc_y (y:=⟨3,zeroF,0,[],0,0,0⟩) (pv:=.slice none 0 0) (g2.block 1 rfl)
 have g3:In F0 w0 (w2.setCell ⟨w.heap.size+1,9,none⟩ (.int .i64 a1)) (RdB br s1::Cells (w.heap.size+1) (encRL ⟨3,zeroF,a1,[],0,0,0⟩ (.slice none 0 0)).toArray 69::Cells w.heap.size (encRL zeroRec (.slice none 0 0)).toArray 69::R):=by
  have h9:=In.setCs [.int .i64 a1] 9 1 g2 (b:=w.heap.size+1) (C:=(encRL ⟨3,zeroF,0,[],0,0,0⟩ (.slice none 0 0)).toArray) (T:=69) rfl
  rw [setL_at (ys:=encRL ⟨3,zeroF,a1,[],0,0,0⟩ (.slice none 0 0)) (by simp) (by simp [zeroF,zeroT])] at h9
  exact h9
 have KC:=Lib.hid (KB.out _ _ g3)
 clear g2 g3 KF KB
 go_wp2_with fail
 refine KC.out.mono ?_
 rintro e w3 ⟨pv,rfl,g4⟩
 obtain⟨Fv,rv⟩:=g4.get 1 rfl
 obtain⟨pa,pc,rfl,-,-,-⟩:=RowA.shape rv
 clear rv e0 e1 e2 e3 e4 e5 e6 e7 e8 e9 e10 e11 e12 e13 ef
 obtain⟨e0,e1,e2,e3,e4,e5,e6,e7,e8,e9,e10,e11,e12,e13,ef⟩:=rc_y (y:=⟨3,zeroF,a1,[],0,0,0⟩) (pv:=.slice none 0 0) (g4.block 2 rfl)
 have g5:In F0 w0 (w3.setCell ⟨w.heap.size+1,10,none⟩ (.slice pa l.length pc)) (BkR (.slice pa l.length pc) l::Cells (w.heap.size+1) (encRL ⟨3,zeroF,a1,l,0,0,0⟩ (.slice pa l.length pc)).toArray 69::Cells w.heap.size (encRL zeroRec (.slice none 0 0)).toArray 69::RdB br s2::R):=by
  have h9:=In.setCs [.slice pa l.length pc] 10 2 g4 (b:=w.heap.size+1) (C:=(encRL ⟨3,zeroF,a1,[],0,0,0⟩ (.slice none 0 0)).toArray) (T:=69) rfl
  rw [setL_at (ys:=encRL ⟨3,zeroF,a1,l,0,0,0⟩ (.slice pa l.length pc)) (by simp) (by simp [zeroF,zeroT])] at h9
  exact h9.sel2 (R1:=[_,_,_,_]) [1,2,3,0] (by decide) rfl
 clear g4 KC
 obtain⟨p0,p1,p2,p3,p4,p5,p6,p7,p8,p9,p10,p11,p12,p13,-⟩:=rc_y (g5.block 1 rfl)
 obtain⟨z0,z1,z2,z3,z4,z5,z6,z7,z8,z9,z10,z11,z12,z13,zf⟩:=rc_y (g5.block 2 rfl)
 simp only at p0 p1 p2 p3 p4 p5 p6 p7 p8 p9 p10 p11 p12 p13
 simp only [zeroF,zeroT] at p1 p2 p3 p4 p5 p6 p7 p8
 simp only [zeroRec,zeroF,zeroT] at z0 z1 z2 z3 z4 z5 z6 z7 z8 z9 z10 z11 z12 z13
 obtain⟨-,q3,q4⟩:=rec_end g5 rfl
 have Q3:=Lib.hid q3
 have Q4:=Lib.hid (HF.out _ _ q4)
 clear g5 q3 q4 HF
 go_wp2_with fail
 exact bodyPost_ret (results_cell_tmp_row Tryz.results242 _ _ w.heap.size 69 _ (0,0) _ rfl Q3.out Tryz.underlying69 rfl (by kernel_rfl)) rfl Q4.out
theorem o_rdrec0 {k:Int} (n1:k≠1) (n2:k≠2) (n3:k≠3) (n4:k≠4) (n5:k≠5) (n6:k≠6) (v:Int) (h:In F0 w0 w (RdB br s::R)):Calls Tryz.prog 242 #[pR br,.int .i64 k,.int .i64 v] w (RrPost (rdRec k v s) br F0 w0 R):=by
 have hmf:∀ (fn:Fn) (first cap:Array Value) (w:World),(Instr.makeFunc fn first cap).run Tryz.prog w=.ok (.func fn first cap) w:=fun _ _ _ _=>rfl
 have h2:In F0 w0 ((w.alloc (.cells (encRL zeroRec (.slice none 0 0)).toArray 69)).alloc (.cells (encRL ⟨k,zeroF,0,[],0,0,0⟩ (.slice none 0 0)).toArray 69)) (RdB br s::Cells (w.heap.size+1) (encRL ⟨k,zeroF,0,[],0,0,0⟩ (.slice none 0 0)).toArray 69::Cells w.heap.size (encRL zeroRec (.slice none 0 0)).toArray 69::R):=by
  have h2:=(h.cells (encRL zeroRec (.slice none 0 0)).toArray 69).cells (encRL ⟨k,zeroF,0,[],0,0,0⟩ (.slice none 0 0)).toArray 69
  simp only [World.size_alloc] at h2
  exact h2.sel2 (R1:=[_,_,_]) [2,0,1] (by decide) rfl
 have e:rdRec k v s=(⟨k,zeroF,0,[],0,0,0⟩,true,s):=by unfold rdRec;rw [if_neg n1,if_neg n2,if_neg n3,if_neg n4,if_neg n5,if_neg n6]
 rw [e]
 have q1:(k == 1)=false:=beq_eq_false_iff_ne.2 n1
 have q2:(k == 2)=false:=beq_eq_false_iff_ne.2 n2
 have q3:(k == 3)=false:=beq_eq_false_iff_ne.2 n3
 have q4:(k == 4)=false:=beq_eq_false_iff_ne.2 n4
 have q5:(k == 5)=false:=beq_eq_false_iff_ne.2 n5
 have q6:(k == 6)=false:=beq_eq_false_iff_ne.2 n6
 have HH:Hid (∀ o o2,In F0 w0 ((w.alloc o).alloc o2) (BkR (.slice none 0 0) []::RdB br s::R)):=Lib.hid fun o o2=>((h.alloc o).alloc o2).rownil _ _
 clear e h h2 n1 n2 n3 n4 n5 n6
 go_enter Tryz.func242,Tryz.ntmps242
 go_wp2_with fail
 exact bodyPost_ret (results_cell_tmp_row Tryz.results242 _ _ w.heap.size 69 _ (0,0) _ rfl (heap_alloc2_old _ _ _) Tryz.underlying69 rfl (by kernel_rfl)) rfl ⟨.slice none 0 0,rfl,HH.out _ _⟩
theorem o_rdrec (k v:Int) (h:In F0 w0 w (RdB br s::R)):Calls Tryz.prog 242 #[pR br,.int .i64 k,.int .i64 v] w (RrPost (rdRec k v s) br F0 w0 R):=by
 by_cases n1:k=1
 ·subst n1;exact o_rdrec1 v h
 by_cases n2:k=2
 ·subst n2;exact o_rdrec2 v h
 by_cases n3:k=3
 ·subst n3;exact o_rdrec3 v h
 by_cases n4:k=4
 ·subst n4;exact o_rdrec4 v h
 by_cases n5:k=5
 ·subst n5;exact o_rdrec5 v h
 by_cases n6:k=6
 ·subst n6;exact o_rdrec6 v h
 ·exact o_rdrec0 n1 n2 n3 n4 n5 n6 v h
end
theorem rdS_le (n:Nat) (s:RdS):(rdS n s).1.length≤s.1.length:=by
 unfold rdS rdTake
 split
 ·exact Nat.le_refl _
 ·split
  ·simp
  ·simp only [List.length_drop];omega
theorem rdTup_le (s:RdS):(rdTup s).2.2.1.length≤s.1.length:=by
 have h:(rdS 2 (rdS 2 (rdS 1 (rdS 4 (rdS 4 s))))).1.length≤s.1.length:=Nat.le_trans (rdS_le _ _) (Nat.le_trans (rdS_le _ _) (Nat.le_trans (rdS_le _ _) (Nat.le_trans (rdS_le _ _) (rdS_le _ _))))
 unfold rdTup
 split
 ·exact rdS_le _ _
 ·split <;> exact h
theorem rdFl_le (v:Int) (s:RdS):(rdFl v s).2.2.1.length≤s.1.length:=by
 have h1:=rdTup_le s
 have h2:=rdS_le 2 (rdTup s).2.2
 unfold rdFl;simp only
 split <;> split
 ·exact Nat.le_trans (rdS_le _ _) (Nat.le_trans (rdS_le _ _) (Nat.le_trans h2 h1))
 ·exact Nat.le_trans (rdS_le _ _) (Nat.le_trans h2 h1)
 ·exact Nat.le_trans (rdS_le _ _) (Nat.le_trans h2 h1)
 ·exact Nat.le_trans h2 h1
theorem rdBk_le (v:Int) (s:RdS):(rdBk v s).2.1.length≤s.1.length:=by
 have h2:=Nat.le_trans (rdS_le 4 (rdS 2 s)) (rdS_le 2 s)
 unfold rdBk;simp only
 split
 ·exact Nat.le_trans (rdS_le _ _) h2
 ·exact h2
theorem rdBks_le (v:Int):∀ (n:Nat) (s:RdS),(rdBks v n s).2.1.length≤s.1.length∧(rdBks v n s).1.length=n
 | 0,s=>⟨Nat.le_refl _,rfl⟩
 | n+1,s=>by
  obtain⟨h1,h2⟩:=rdBks_le v n s
  refine⟨Nat.le_trans (rdBk_le _ _) h1,?_⟩
  show ((rdBks v n s).1++[_]).length=n+1
  rw [List.length_append,h2];rfl
theorem rdRec_le (k v:Int) (s:RdS):(rdRec k v s).2.2.1.length≤s.1.length∧(rdRec k v s).1.bks.length≤17:=by
 unfold rdRec
 split
 ·exact⟨rdFl_le _ _,Nat.zero_le _⟩
 split
 ·exact⟨rdTup_le _,Nat.zero_le _⟩
 split
 ·obtain⟨h1,h2⟩:=rdBks_le v (min (rdN 1 (rdS 4 s)) 17) (rdS 1 (rdS 4 s))
  simp only
  exact⟨Nat.le_trans h1 (Nat.le_trans (rdS_le _ _) (rdS_le _ _)),by rw [h2];omega⟩
 split
 ·exact⟨Nat.le_trans (rdS_le _ _) (rdS_le _ _),Nat.zero_le _⟩
 split
 ·exact⟨rdS_le _ _,Nat.zero_le _⟩
 split
 ·exact⟨rdS_le _ _,Nat.zero_le _⟩
 ·exact⟨Nat.le_refl _,Nat.zero_le _⟩
section
variable {F0:List Nat} {w0 w:World} {R:List Asrt}
def RDecPost (r:Rec×Int) (F0:List Nat) (w0:World) (R:List Asrt) (e:Ending) (w':World):Prop:=
 ∃ pv,e=.returned (.tuple #[.agg (encRL r.1 pv).toArray,.int .i64 r.2])∧In F0 w0 w' (BkR pv r.1.bks::R)
theorem bks_row {v:Value} {l:List Bk} {a:Option Addr} {n c:Nat} (hv:v=.slice a n c) (i:Nat) (hA:R[i]?=some (BkR v l)):BksAt F0 w0 R a l:=by
 intro w' h'
 obtain⟨F,r⟩:=h'.get i hA
 subst hv
 exact r.all
theorem o_rcdec {kind ver:Nat} {body:List UInt8} {A:Option Addr} {c:Nat} (hn:A=none→c=0∧body=[]) (hs:∀ w',In F0 w0 w' R→Src w' A body.length 1 (u8s body)) (hl:body.length≤100000000) (h:In F0 w0 w R):Calls Tryz.prog 213 #[.agg #[.int .i64 kind,.int .i64 ver,.slice A body.length c]] w (RDecPost (decRec ⟨kind,ver,body⟩) F0 w0 R):=by
 have KV:=Lib.hid (rc_version ver)
 cases hv:verOk ver with
 | false=>
  have e:decRec ⟨kind,ver,body⟩=(zeroRec,10):=by unfold decRec;rw [if_pos hv]
  have HH:Hid (∀ o o2,In F0 w0 ((w.alloc o).alloc o2) (BkR (.slice none 0 0) []::R)):=Lib.hid (fun o o2=>((h.alloc o).alloc o2).rownil _ _)
  rw [e];rw [hv] at KV
  clear e h hs hl hn hv
  go_enter Tryz.func213,Tryz.ntmps213
  go_wp2_with fail
  refine (KV.out _).mono ?_
  rintro e w1 ⟨rfl,rfl⟩
  clear KV
  go_wp2_with fail
  exact bodyPost_ret (results_cell_tmp_row Tryz.results213 _ _ (w.heap.size+1) 69 _ (0,0) _ rfl (heap_alloc2_new _ _ _) Tryz.underlying69 rfl (by kernel_rfl)) rfl ⟨.slice none 0 0,rfl,HH.out _ _⟩
 | true=>
  rw [hv] at KV
  have h2:In F0 w0 ((w.alloc (.cells #[.int .i64 kind,.int .i64 ver,.slice A body.length c] 40)).alloc (.cells (encRL zeroRec (.slice none 0 0)).toArray 69)) (Cells (w.heap.size+1) (encRL zeroRec (.slice none 0 0)).toArray 69::Cells w.heap.size #[.int .i64 kind,.int .i64 ver,.slice A body.length c] 40::R):=by
   have h2:=(h.cells #[.int .i64 kind,.int .i64 ver,.slice A body.length c] 40).cells (encRL zeroRec (.slice none 0 0)).toArray 69
   simp only [World.size_alloc] at h2
   exact h2
  have KN:=Lib.hid (o_rnew (c:=c) h2 hn (hs _ h2.drop.drop) hl)
  have KR:Hid (∀ w' br,In F0 w0 w' (RdB br (body,0)::Cells (w.heap.size+1) (encRL zeroRec (.slice none 0 0)).toArray 69::Cells w.heap.size #[.int .i64 kind,.int .i64 ver,.slice A body.length c] 40::R)→Calls Tryz.prog 242 #[pR br,.int .i64 kind,.int .i64 ver] w' (RrPost (rdRec kind ver (body,0)) br F0 w0 (Cells (w.heap.size+1) (encRL zeroRec (.slice none 0 0)).toArray 69::Cells w.heap.size #[.int .i64 kind,.int .i64 ver,.slice A body.length c] 40::R))):=Lib.hid fun w' br h'=>o_rdrec kind ver h'
  obtain⟨hrl,hbl⟩:=rdRec_le kind ver (body,0)
  have e:decRec ⟨kind,ver,body⟩=if (rdRec kind ver (body,0)).2.1=true∧endE (rdRec kind ver (body,0)).2.2.1 (rdRec kind ver (body,0)).2.2.2=0∧mayRec (rdRec kind ver (body,0)).1=true then ((rdRec kind ver (body,0)).1,0) else (zeroRec,3):=by unfold decRec;rw [if_neg (by simp [hv])]
  rw [e];clear e hv hs hn
  generalize rdRec kind ver (body,0)=r at *
  obtain⟨y,ok,l,er⟩:=r
  simp only at hrl hbl KR ⊢
  have HL:l.length≤100000000:=Nat.le_trans hrl hl
  clear hrl hl h h2
  cases ok with
  | false=>
   simp only [Bool.false_eq_true,false_and,if_false]
   go_enter Tryz.func213,Tryz.ntmps213
   go_wp2_with fail
   refine (KV.out _).mono ?_
   rintro e w1 ⟨rfl,rfl⟩
   clear KV
   go_wp2_with fail
   refine KN.out.mono ?_
   rintro e w1 ⟨br,rfl,g1⟩
   have c0:w1.cell? ⟨w.heap.size,0,none⟩=some (.int .i64 kind):=cell_of (g1.block 2 rfl) rfl
   have c1:w1.cell? ⟨w.heap.size,1,none⟩=some (.int .i64 ver):=cell_of (g1.block 2 rfl) rfl
   have K1:=Lib.hid (KR.out _ _ g1)
   clear g1 KN KR
   go_wp2_with fail
   refine K1.out.mono ?_
   rintro e w2 ⟨pv,rfl,g2⟩
   simp only at g2
   obtain⟨Fv,rv⟩:=g2.get 0 rfl
   obtain⟨pa,pc,rfl,-,-,-⟩:=RowA.shape rv
   have g3:=g2.cells (encRL y (.slice pa y.bks.length pc)).toArray 69
   clear K1 rv
   have q1:=there_of (g3.block 3 rfl)
   have G:=Lib.hid (g3.setFull 3 rfl (xs:=encRL zeroRec (.slice none 0 0)) (b:=w.heap.size+1) (C:=(encRL zeroRec (.slice none 0 0)).toArray) (T:=69) rfl)
   have Q1:=Lib.hid q1
   clear g2 g3 q1
   go_wp2_with (refine wpList_store_mid (op:=⟨none,Op.store 69 (.tmp 2) (.tmp 36),_,_,_,_⟩) (by rfl) 69 (.tmp 2) (.tmp 36) rfl (w.heap.size+1) 0 (encRL zeroRec (.slice none 0 0)).toArray (by rfl) (by rfl) Q1.out (by kernel_rfl) (encRL_all _ _ _ _) ?_)
   exact bodyPost_ret (results_cell_tmp_row Tryz.results213 _ _ (w.heap.size+1) 69 _ (0,0) _ rfl (G.out.block 3 rfl) Tryz.underlying69 rfl (by kernel_rfl)) rfl ⟨.slice none 0 0,rfl,(G.out.sel2 (R1:=[_,_,_,_,_]) [] (by decide) rfl).rownil _ _⟩
  | true=>
   by_cases he:endE l er=0
   ·by_cases hm:mayRec y=true
    ·simp only [he,hm,and_self,if_true]
     go_enter Tryz.func213,Tryz.ntmps213
     go_wp2_with fail
     refine (KV.out _).mono ?_
     rintro e w1 ⟨rfl,rfl⟩
     clear KV
     go_wp2_with fail
     refine KN.out.mono ?_
     rintro e w1 ⟨br,rfl,g1⟩
     have c0:w1.cell? ⟨w.heap.size,0,none⟩=some (.int .i64 kind):=cell_of (g1.block 2 rfl) rfl
     have c1:w1.cell? ⟨w.heap.size,1,none⟩=some (.int .i64 ver):=cell_of (g1.block 2 rfl) rfl
     have K1:=Lib.hid (KR.out _ _ g1)
     clear g1 KN KR
     go_wp2_with fail
     refine K1.out.mono ?_
     rintro e w2 ⟨pv,rfl,g2⟩
     simp only at g2
     obtain⟨Fv,rv⟩:=g2.get 0 rfl
     obtain⟨pa,pc,rfl,-,-,-⟩:=RowA.shape rv
     have g3:=g2.cells (encRL y (.slice pa y.bks.length pc)).toArray 69
     clear K1 rv
     have KE:=o_rend g3 2 rfl HL
     rw [he] at KE
     have KM:=o_rcmay (c:=pc) (bks_row rfl 1 rfl) (Nat.le_trans hbl (by decide)) g3
     rw [hm] at KM
     clear he hm HL hbl
     have KE2:=Lib.hid KE
     clear KE
     have KM2:=Lib.hid KM
     clear KM g2 g3
     go_wp2_with fail
     refine KE2.out.mono ?_
     rintro e w3 ⟨rfl,rfl⟩
     clear KE2
     go_wp2_with fail
     refine KM2.out.mono ?_
     rintro e w4 ⟨rfl,g3⟩
     clear KM2
     have q0:w4.heap[w2.heap.size]?=some (.cells (encRL y (.slice pa y.bks.length pc)).toArray 69 (0,0)):=g3.block 0 rfl
     have q1:=there_of (g3.block 3 rfl)
     have G:=Lib.hid (g3.setFull 3 rfl (xs:=encRL y (.slice pa y.bks.length pc)) (b:=w.heap.size+1) (C:=(encRL zeroRec (.slice none 0 0)).toArray) (T:=69) rfl)
     have Q0:=Lib.hid q0
     have Q1:=Lib.hid q1
     clear g3 q0 q1
     go_wp2_with (first | (refine wpList_load_row rfl 69 (.tmp 5) rfl w2.heap.size rfl 69 _ (0,0) _ Q0.out Tryz.underlying69 rfl (by kernel_rfl) ?_) | (refine wpList_store_mid (op:=⟨none,Op.store 69 (.tmp 2) (.tmp 37),_,_,_,_⟩) (by rfl) 69 (.tmp 2) (.tmp 37) rfl (w.heap.size+1) 0 (encRL y (.slice pa y.bks.length pc)).toArray (by rfl) (by rfl) Q1.out (by kernel_rfl) (encRL_all _ _ _ _) ?_))
     exact bodyPost_ret (results_cell_tmp_row Tryz.results213 _ _ (w.heap.size+1) 69 _ (0,0) _ rfl (G.out.block 3 rfl) Tryz.underlying69 rfl (by kernel_rfl)) rfl ⟨.slice pa y.bks.length pc,rfl,G.out.sel2 (R1:=[_,_,_,_,_]) [1] (by decide) rfl⟩
    ·have hm2:mayRec y=false:=by simpa using hm
     simp only [he,hm2,Bool.false_eq_true,and_false,if_false]
     go_enter Tryz.func213,Tryz.ntmps213
     go_wp2_with fail
     refine (KV.out _).mono ?_
     rintro e w1 ⟨rfl,rfl⟩
     clear KV
     go_wp2_with fail
     refine KN.out.mono ?_
     rintro e w1 ⟨br,rfl,g1⟩
     have c0:w1.cell? ⟨w.heap.size,0,none⟩=some (.int .i64 kind):=cell_of (g1.block 2 rfl) rfl
     have c1:w1.cell? ⟨w.heap.size,1,none⟩=some (.int .i64 ver):=cell_of (g1.block 2 rfl) rfl
     have K1:=Lib.hid (KR.out _ _ g1)
     clear g1 KN KR
     go_wp2_with fail
     refine K1.out.mono ?_
     rintro e w2 ⟨pv,rfl,g2⟩
     simp only at g2
     obtain⟨Fv,rv⟩:=g2.get 0 rfl
     obtain⟨pa,pc,rfl,-,-,-⟩:=RowA.shape rv
     have g3:=g2.cells (encRL y (.slice pa y.bks.length pc)).toArray 69
     clear K1 rv
     have KE:=o_rend g3 2 rfl HL
     rw [he] at KE
     have KM:=o_rcmay (c:=pc) (bks_row rfl 1 rfl) (Nat.le_trans hbl (by decide)) g3
     rw [hm2] at KM
     clear he hm hm2 HL hbl
     have KE2:=Lib.hid KE
     clear KE
     have KM2:=Lib.hid KM
     clear KM g2 g3
     go_wp2_with fail
     refine KE2.out.mono ?_
     rintro e w3 ⟨rfl,rfl⟩
     clear KE2
     go_wp2_with fail
     refine KM2.out.mono ?_
     rintro e w4 ⟨rfl,g3⟩
     clear KM2
     have g2:True:=trivial
     have q1:=there_of (g3.block 3 rfl)
     have G:=Lib.hid (g3.setFull 3 rfl (xs:=encRL zeroRec (.slice none 0 0)) (b:=w.heap.size+1) (C:=(encRL zeroRec (.slice none 0 0)).toArray) (T:=69) rfl)
     have Q1:=Lib.hid q1
     clear g2 g3 q1
     go_wp2_with (refine wpList_store_mid (op:=⟨none,Op.store 69 (.tmp 2) (.tmp 36),_,_,_,_⟩) (by rfl) 69 (.tmp 2) (.tmp 36) rfl (w.heap.size+1) 0 (encRL zeroRec (.slice none 0 0)).toArray (by rfl) (by rfl) Q1.out (by kernel_rfl) (encRL_all _ _ _ _) ?_)
     exact bodyPost_ret (results_cell_tmp_row Tryz.results213 _ _ (w.heap.size+1) 69 _ (0,0) _ rfl (G.out.block 3 rfl) Tryz.underlying69 rfl (by kernel_rfl)) rfl ⟨.slice none 0 0,rfl,(G.out.sel2 (R1:=[_,_,_,_,_]) [] (by decide) rfl).rownil _ _⟩
   ·simp only [he,false_and,and_false,if_false]
    go_enter Tryz.func213,Tryz.ntmps213
    go_wp2_with fail
    refine (KV.out _).mono ?_
    rintro e w1 ⟨rfl,rfl⟩
    clear KV
    go_wp2_with fail
    refine KN.out.mono ?_
    rintro e w1 ⟨br,rfl,g1⟩
    have c0:w1.cell? ⟨w.heap.size,0,none⟩=some (.int .i64 kind):=cell_of (g1.block 2 rfl) rfl
    have c1:w1.cell? ⟨w.heap.size,1,none⟩=some (.int .i64 ver):=cell_of (g1.block 2 rfl) rfl
    have K1:=Lib.hid (KR.out _ _ g1)
    clear g1 KN KR
    go_wp2_with fail
    refine K1.out.mono ?_
    rintro e w2 ⟨pv,rfl,g2⟩
    simp only at g2
    obtain⟨Fv,rv⟩:=g2.get 0 rfl
    obtain⟨pa,pc,rfl,-,-,-⟩:=RowA.shape rv
    have g3:=g2.cells (encRL y (.slice pa y.bks.length pc)).toArray 69
    clear K1 rv
    have KE:=o_rend g3 2 rfl HL
    have qe:(endE l er == 0)=false:=beq_eq_false_iff_ne.2 he
    have KE2:=Lib.hid KE
    clear KE
    have q1:=there_of (g3.block 3 rfl)
    have G:=Lib.hid (g3.setFull 3 rfl (xs:=encRL zeroRec (.slice none 0 0)) (b:=w.heap.size+1) (C:=(encRL zeroRec (.slice none 0 0)).toArray) (T:=69) rfl)
    have Q1:=Lib.hid q1
    clear g2 g3 q1
    go_wp2_with fail
    refine KE2.out.mono ?_
    rintro e w3 ⟨rfl,rfl⟩
    clear KE2
    go_wp2_with (refine wpList_store_mid (op:=⟨none,Op.store 69 (.tmp 2) (.tmp 36),_,_,_,_⟩) (by rfl) 69 (.tmp 2) (.tmp 36) rfl (w.heap.size+1) 0 (encRL zeroRec (.slice none 0 0)).toArray (by rfl) (by rfl) Q1.out (by kernel_rfl) (encRL_all _ _ _ _) ?_)
    exact bodyPost_ret (results_cell_tmp_row Tryz.results213 _ _ (w.heap.size+1) 69 _ (0,0) _ rfl (G.out.block 3 rfl) Tryz.underlying69 rfl (by kernel_rfl)) rfl ⟨.slice none 0 0,rfl,(G.out.sel2 (R1:=[_,_,_,_,_]) [] (by decide) rfl).rownil _ _⟩
end
theorem laidOutT:laidOutB Tryz.prog=true:=by kernel_rfl
theorem tupLaw:Keyed Tryz.prog 65:=Keyed.of_law (deep_law_laid laidOutT (m:=3) (by omega) (of_decide_eq_true (by kernel_rfl)) (by kernel_rfl) (by kernel_rfl))
theorem wf_u32 {n:Int} (h0:0≤n) (h1:n < 4294967296):(Lit.int .u32 n).wf=true:=by
 simp [Lit.wf,IntKind.min,IntKind.max,IntKind.signed,IntKind.bits];omega
theorem wf_i64 {n:Int} (h0:-9223372036854775808≤n) (h1:n≤9223372036854775807):(Lit.int .i64 n).wf=true:=by
 simp [Lit.wf,IntKind.min,IntKind.max,IntKind.signed,IntKind.bits];omega
theorem keyOf_five {P:Program} {T tu ti:TypeId} {f0 f1 f2 f3 f4:Field} (hu:P.underlying T=some (.struct #[f0,f1,f2,f3,f4])) (u1:P.underlying tu=some (.int .u32)) (u2:P.underlying ti=some (.int .i64))
  (e0:f0.type=tu∧f0.offset=0) (e1:f1.type=tu∧f1.offset=1) (e2:f2.type=ti∧f2.offset=2) (e3:f3.type=ti∧f3.offset=3) (e4:f4.type=ti∧f4.offset=4)
  (hn : #[f0, f1, f2, f3, f4].all (·.name != "_") = true) (c1 : P.cellsOf tu = 1) (c2 : P.cellsOf ti = 1) (c3 : P.cellsOf T = 5) (k1 : P.keyType T = true) (hs : 0 < P.types.size)
  {a b c d e:Int} (w1:(Lit.int .u32 a).wf=true) (w2:(Lit.int .u32 b).wf=true) (w3:(Lit.int .i64 c).wf=true) (w4:(Lit.int .i64 d).wf=true) (w5:(Lit.int .i64 e).wf=true) :
  ∃ l,keyOf P T (.agg #[.int .u32 a,.int .u32 b,.int .i64 c,.int .i64 d,.int .i64 e])=some l:=by
 obtain⟨m,hm⟩:∃ m,P.types.size=m+1:=⟨P.types.size - 1,by omega⟩
 unfold keyOf
 rw [hu]
 simp only [k1,Value.formed,hu,c3,hm,Program.keyLits,Value.cells,List.size_toArray,List.length_cons,List.length_nil,Nat.zero_add,Nat.reduceAdd,beq_self_eq_true,Bool.and_self,if_true,and_self,
  List.mapM_cons,List.mapM_nil,e0,e1,e2,e3,e4,c1,c2,u1,u2,w1,w2,w3,w4,w5,List.drop,List.take]
 rw [if_pos ⟨trivial,hn⟩]
 exact⟨_,rfl⟩
theorem keyOf_tup {t:Tup} (h:WfT t):∃ l,keyOf Tryz.prog 65 (.agg (encT t))=some l:=
 keyOf_five Tryz.underlying65 Tryz.underlying63 Tryz.underlying3 ⟨rfl,rfl⟩ ⟨rfl,rfl⟩ ⟨rfl,rfl⟩ ⟨rfl,rfl⟩ ⟨rfl,rfl⟩ (by decide +kernel) (by kernel_rfl) (by kernel_rfl) (by kernel_rfl) (by kernel_rfl) (of_decide_eq_true (by kernel_rfl))
  (wf_u32 h.s0 h.s1) (wf_u32 h.d0 h.d1) (wf_i64 h.p0 h.p1) (wf_i64 h.sp0 h.sp1) (wf_i64 h.dp0 h.dp1)
end Go.Proofs.YtogclkhpbjfadaaGreat
