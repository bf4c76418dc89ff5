/- Parts of the proofs that a compaction keeps what lives, and done again is as once. -/
import Derived.Test.YtogclkhpbjfadaaGreatCK18
import Derived.Test.YtogclkhpbjfadaaGreatCK3
import Derived.Test.YtogclkhpbjfadaaGreatCK1
import Derived.DeepKeys4
namespace Go.Proofs.YtogclkhpbjfadaaGreat
open Go.RowKit
open Go.Maps (Keyed)
set_option linter.unusedVariables false
set_option maxHeartbeats 64000000
set_option maxRecDepth 100000
structure RcY (w:World) (b:Nat) (y:Rec) (pv:Value):Prop where
 y0:w.cell? ⟨b,0,none⟩=some (.int .i64 y.kind)
 y1:w.cell? ⟨b,1,none⟩=some (.int .u32 y.fl.t.src)
 y2:w.cell? ⟨b,2,none⟩=some (.int .u32 y.fl.t.dst)
 y3:w.cell? ⟨b,3,none⟩=some (.int .i64 y.fl.t.proto)
 y4:w.cell? ⟨b,4,none⟩=some (.int .i64 y.fl.t.ag)
 y5:w.cell? ⟨b,5,none⟩=some (.int .i64 y.fl.t.ah)
 y6:w.cell? ⟨b,6,none⟩=some (.int .i64 y.fl.bk)
 y7:w.cell? ⟨b,7,none⟩=some (.int .i64 y.fl.gen)
 y8:w.cell? ⟨b,8,none⟩=some (.int .i64 y.fl.seen)
 y9:w.cell? ⟨b,9,none⟩=some (.int .i64 y.gen)
 mf:w.cell? ⟨b,10,none⟩=some (pv)
 om:w.cell? ⟨b,11,none⟩=some (.int .i64 y.bk)
 oo:w.cell? ⟨b,12,none⟩=some (.int .i64 y.till)
 y13:w.cell? ⟨b,13,none⟩=some (.int .i64 y.count)
 fz:∀ j,w.frozen? ⟨b,j,none⟩=false
section
variable {F0:List Nat} {w0 w:World} {R:List az} {br:Nat} {s:pE}
theorem jk {b:Nat} {y:Rec} {pv:Value} (h:w.heap[b]?=some (.cells (aF y pv).toArray 69 (0,0))):RcY w b y pv:=
 ⟨cell_of h rfl,cell_of h rfl,cell_of h rfl,cell_of h rfl,cell_of h rfl,cell_of h rfl,cell_of h rfl,cell_of h rfl,cell_of h rfl,cell_of h rfl,cell_of h rfl,cell_of h rfl,cell_of h rfl,cell_of h rfl,fun j=>aL h⟩
def kN (r:Rec×Bool×pE) (br:Nat) (F0:List Nat) (w0:World) (R:List az) (e:Ending) (w':World):Prop:=
 ∃ pv,e=.returned (.tuple #[.agg (aF r.1 pv).toArray,.bool r.2.1])∧In F0 w0 w' (gG pv r.1.ax::iZ br r.2.2::R)
theorem Rh (v:Int) (h:In F0 w0 w (iZ br s::R)):Calls Tryz.prog 242 #[pR br,.int .i64 1,.int .i64 v] w (kN (fO 1 v s) br F0 w0 R):=by
 have QK:∀ (fn:Fn) (first cap:Array Value) (w:World),(Instr.makeFunc fn first cap).run Tryz.prog w=.ok (.func fn first cap) w:=fun _ _ _ _=>rfl
 have h2:In F0 w0 ((w.alloc (.cells (aF aT (.slice none 0 0)).toArray 69)).alloc (.cells (aF ⟨1,aQ,0,[],0,0,0⟩ (.slice none 0 0)).toArray 69)) (iZ br s::Cells (w.heap.size+1) (aF ⟨1,aQ,0,[],0,0,0⟩ (.slice none 0 0)).toArray 69::Cells w.heap.size (aF aT (.slice none 0 0)).toArray 69::R):=by
  have h2:=(h.cells (aF aT (.slice none 0 0)).toArray 69).cells (aF ⟨1,aQ,0,[],0,0,0⟩ (.slice none 0 0)).toArray 69
  simp only [World.size_alloc] at h2
  exact h2.aI (R1:=[_,_,_]) [2,0,1] (by decide) rfl
 have KF:=Lib.hid (XP v h2)
 have e:fO 1 v s=(⟨1,(vV v s).1,0,[],0,0,0⟩,(vV v s).2.1,(vV v s).2.2):=rfl
 rw [e]
 generalize vV v s=r at *
 obtain⟨⟨⟨src,dst,proto,ag,ah⟩,bI,aG,au⟩,ok,sE⟩:=r
 simp only at *
 have HF:Hid (∀ w' pv,In F0 w0 w' (gG pv []::iZ br sE::R)→kN (⟨1,⟨⟨src,dst,proto,ag,ah⟩,bI,aG,au⟩,0,[],0,0,0⟩,ok,sE) br F0 w0 R (.returned (.tuple #[.agg (aF ⟨1,⟨⟨src,dst,proto,ag,ah⟩,bI,aG,au⟩,0,[],0,0,0⟩ pv).toArray,.bool ok])) w'):=Lib.hid fun w' pv h'=>⟨pv,rfl,h'⟩
 clear e h h2
 go_enter Tryz.func242,Tryz.ntmps242
 go_wp2_with fail
 refine KF.out.mono ?_
 rintro e w2 ⟨rfl,g2⟩
 simp only at g2
 obtain⟨e0,e1,e2,e3,e4,e5,e6,e7,e8,e9,e10,e11,e12,e13,ef⟩:=jk (y:=⟨1,aQ,0,[],0,0,0⟩) (pv:=.slice none 0 0) (g2.block 1 rfl)
 simp only [aQ,eH] at e0 e1 e2 e3 e4 e5 e6 e7 e8 e9 e10 e11 e12 e13
 have g3:In F0 w0 (((((((((w2.setCell ⟨w.heap.size+1,1,none⟩ (.int .u32 src)).setCell ⟨w.heap.size+1,2,none⟩ (.int .u32 dst)).setCell ⟨w.heap.size+1,3,none⟩ (.int .i64 proto)).setCell ⟨w.heap.size+1,4,none⟩ (.int .i64 ag)).setCell ⟨w.heap.size+1,5,none⟩ (.int .i64 ah)).setCell ⟨w.heap.size+1,6,none⟩ (.int .i64 bI)).setCell ⟨w.heap.size+1,7,none⟩ (.int .i64 aG)).setCell ⟨w.heap.size+1,8,none⟩ (.int .i64 au))) (gG (.slice none 0 0) []::Cells (w.heap.size+1) (aF ⟨1,⟨⟨src,dst,proto,ag,ah⟩,bI,aG,au⟩,0,[],0,0,0⟩ (.slice none 0 0)).toArray 69::Cells w.heap.size (aF aT (.slice none 0 0)).toArray 69::iZ br sE::R):=by
  have h9:=In.ku [.int .u32 src,.int .u32 dst,.int .i64 proto,.int .i64 ag,.int .i64 ah,.int .i64 bI,.int .i64 aG,.int .i64 au] 1 1 g2 (b:=w.heap.size+1) (C:=(aF ⟨1,aQ,0,[],0,0,0⟩ (.slice none 0 0)).toArray) (T:=69) rfl
  rw [jd (ys:=aF ⟨1,⟨⟨src,dst,proto,ag,ah⟩,bI,aG,au⟩,0,[],0,0,0⟩ (.slice none 0 0)) (by simp) (by simp [aQ,eH])] at h9
  exact (h9.dG 160 3).aI (R1:=[_,_,_,_]) [0,2,3,1] (by decide) rfl
 clear g2 KF
 obtain⟨p0,p1,p2,p3,p4,p5,p6,p7,p8,p9,Ri,Rj,Rk,Rl,-⟩:=jk (g3.block 1 rfl)
 obtain⟨z0,z1,z2,z3,z4,z5,z6,z7,z8,z9,Rn,Ro,z12,Rp,zf⟩:=jk (g3.block 2 rfl)
 simp only at p0 p1 p2 p3 p4 p5 p6 p7 p8 p9 Ri Rj Rk Rl
 simp only [aT,aQ,eH] at z0 z1 z2 z3 z4 z5 z6 z7 z8 z9 Rn Ro z12 Rp
 obtain⟨-,q3,q4⟩:=mM g3 rfl
 have Q3:=Lib.hid q3
 have Q4:=Lib.hid (HF.out _ _ q4)
 clear g3 q3 q4 HF
 go_wp2_with fail
 exact bodyPost_ret (aU Tryz.results242 _ _ w.heap.size 69 _ (0,0) _ rfl Q3.out Tryz.underlying69 rfl (by kernel_rfl)) rfl Q4.out
theorem Rq (v:Int) (h:In F0 w0 w (iZ br s::R)):Calls Tryz.prog 242 #[pR br,.int .i64 2,.int .i64 v] w (kN (fO 2 v s) br F0 w0 R):=by
 have QK:∀ (fn:Fn) (first cap:Array Value) (w:World),(Instr.makeFunc fn first cap).run Tryz.prog w=.ok (.func fn first cap) w:=fun _ _ _ _=>rfl
 have h2:In F0 w0 ((w.alloc (.cells (aF aT (.slice none 0 0)).toArray 69)).alloc (.cells (aF ⟨2,aQ,0,[],0,0,0⟩ (.slice none 0 0)).toArray 69)) (iZ br s::Cells (w.heap.size+1) (aF ⟨2,aQ,0,[],0,0,0⟩ (.slice none 0 0)).toArray 69::Cells w.heap.size (aF aT (.slice none 0 0)).toArray 69::R):=by
  have h2:=(h.cells (aF aT (.slice none 0 0)).toArray 69).cells (aF ⟨2,aQ,0,[],0,0,0⟩ (.slice none 0 0)).toArray 69
  simp only [World.size_alloc] at h2
  exact h2.aI (R1:=[_,_,_]) [2,0,1] (by decide) rfl
 have KF:=Lib.hid (Mi h2)
 have e:fO 2 v s=(⟨2,⟨(jV s).1,0,0,0⟩,0,[],0,0,0⟩,(jV s).2.1,(jV s).2.2):=rfl
 rw [e]
 generalize jV s=r at *
 obtain⟨⟨src,dst,proto,ag,ah⟩,ok,sE⟩:=r
 simp only at *
 have HF:Hid (∀ w' pv,In F0 w0 w' (gG pv []::iZ br sE::R)→kN (⟨2,⟨⟨src,dst,proto,ag,ah⟩,0,0,0⟩,0,[],0,0,0⟩,ok,sE) br F0 w0 R (.returned (.tuple #[.agg (aF ⟨2,⟨⟨src,dst,proto,ag,ah⟩,0,0,0⟩,0,[],0,0,0⟩ pv).toArray,.bool ok])) w'):=Lib.hid fun w' pv h'=>⟨pv,rfl,h'⟩
 clear e h h2
 go_enter Tryz.func242,Tryz.ntmps242
 go_wp2_with fail
 refine KF.out.mono ?_
 rintro e w2 ⟨rfl,g2⟩
 simp only at g2
 obtain⟨e0,e1,e2,e3,e4,e5,e6,e7,e8,e9,e10,e11,e12,e13,ef⟩:=jk (y:=⟨2,aQ,0,[],0,0,0⟩) (pv:=.slice none 0 0) (g2.block 1 rfl)
 simp only [aQ,eH] at e0 e1 e2 e3 e4 e5 e6 e7 e8 e9 e10 e11 e12 e13
 have g3:In F0 w0 ((((((w2.setCell ⟨w.heap.size+1,1,none⟩ (.int .u32 src)).setCell ⟨w.heap.size+1,2,none⟩ (.int .u32 dst)).setCell ⟨w.heap.size+1,3,none⟩ (.int .i64 proto)).setCell ⟨w.heap.size+1,4,none⟩ (.int .i64 ag)).setCell ⟨w.heap.size+1,5,none⟩ (.int .i64 ah))) (gG (.slice none 0 0) []::Cells (w.heap.size+1) (aF ⟨2,⟨⟨src,dst,proto,ag,ah⟩,0,0,0⟩,0,[],0,0,0⟩ (.slice none 0 0)).toArray 69::Cells w.heap.size (aF aT (.slice none 0 0)).toArray 69::iZ br sE::R):=by
  have h9:=In.ku [.int .u32 src,.int .u32 dst,.int .i64 proto,.int .i64 ag,.int .i64 ah] 1 1 g2 (b:=w.heap.size+1) (C:=(aF ⟨2,aQ,0,[],0,0,0⟩ (.slice none 0 0)).toArray) (T:=69) rfl
  rw [jd (ys:=aF ⟨2,⟨⟨src,dst,proto,ag,ah⟩,0,0,0⟩,0,[],0,0,0⟩ (.slice none 0 0)) (by simp) (by simp [aQ,eH])] at h9
  exact (h9.dG 160 3).aI (R1:=[_,_,_,_]) [0,2,3,1] (by decide) rfl
 clear g2 KF
 obtain⟨p0,p1,p2,p3,p4,p5,p6,p7,p8,p9,Ri,Rj,Rk,Rl,-⟩:=jk (g3.block 1 rfl)
 obtain⟨z0,z1,z2,z3,z4,z5,z6,z7,z8,z9,Rn,Ro,z12,Rp,zf⟩:=jk (g3.block 2 rfl)
 simp only at p0 p1 p2 p3 p4 p5 p6 p7 p8 p9 Ri Rj Rk Rl
 simp only [aT,aQ,eH] at z0 z1 z2 z3 z4 z5 z6 z7 z8 z9 Rn Ro z12 Rp
 obtain⟨-,q3,q4⟩:=mM g3 rfl
 have Q3:=Lib.hid q3
 have Q4:=Lib.hid (HF.out _ _ q4)
 clear g3 q3 q4 HF
 go_wp2_with fail
 exact bodyPost_ret (aU Tryz.results242 _ _ w.heap.size 69 _ (0,0) _ rfl Q3.out Tryz.underlying69 rfl (by kernel_rfl)) rfl Q4.out
end
section
variable {F0:List Nat} {w0 w:World} {R:List az} {br:Nat} {s:pE}
theorem Ms (k:Nat) (s:pE) (hk:k≤4):IntKind.i64.wrap ((kS k s:Nat):Int)=((kS k s:Nat):Int):=by
 have:kS k s < 256 ^ k:=gI (k:=k) (eY _ _ _)
 have h2:256 ^ k≤256 ^ 4:=Nat.pow_le_pow_right (by decide) hk
 have h3:(256:Nat) ^ 4=4294967296:=rfl
 exact IntWalk.i64_in _ (by omega)
theorem Rs (v:Int) (h:In F0 w0 w (iZ br s::R)):Calls Tryz.prog 242 #[pR br,.int .i64 5,.int .i64 v] w (kN (fO 5 v s) br F0 w0 R):=by
 have QK:∀ (fn:Fn) (first cap:Array Value) (w:World),(Instr.makeFunc fn first cap).run Tryz.prog w=.ok (.func fn first cap) w:=fun _ _ _ _=>rfl
 have h2:In F0 w0 ((w.alloc (.cells (aF aT (.slice none 0 0)).toArray 69)).alloc (.cells (aF ⟨5,aQ,0,[],0,0,0⟩ (.slice none 0 0)).toArray 69)) (iZ br s::Cells (w.heap.size+1) (aF ⟨5,aQ,0,[],0,0,0⟩ (.slice none 0 0)).toArray 69::Cells w.heap.size (aF aT (.slice none 0 0)).toArray 69::R):=by
  have h2:=(h.cells (aF aT (.slice none 0 0)).toArray 69).cells (aF ⟨5,aQ,0,[],0,0,0⟩ (.slice none 0 0)).toArray 69
  simp only [World.size_alloc] at h2
  exact h2.aI (R1:=[_,_,_]) [2,0,1] (by decide) rfl
 have KA:=Dv h2
 have e:fO 5 v s=(⟨5,aQ,0,[],kS 2 s,0,0⟩,true,gJ 2 s):=rfl
 rw [e]
 generalize ((kS 2 s:Nat):Int)=a1 at *
 generalize gJ 2 s=s1 at *
 have KF:=Lib.hid KA
 have HF:Hid (∀ w' pv,In F0 w0 w' (gG pv []::iZ br s1::R)→kN (⟨5,aQ,0,[],a1,0,0⟩,true,s1) br F0 w0 R (.returned (.tuple #[.agg (aF ⟨5,aQ,0,[],a1,0,0⟩ pv).toArray,.bool true])) w'):=Lib.hid fun w' pv h'=>⟨pv,rfl,h'⟩
 clear e h h2 KA
 go_enter Tryz.func242,Tryz.ntmps242
 go_wp2_with fail
 refine KF.out.mono ?_
 rintro e w2 ⟨rfl,g2⟩
 obtain⟨e0,e1,e2,e3,e4,e5,e6,e7,e8,e9,e10,e11,e12,e13,ef⟩:=jk (y:=⟨5,aQ,0,[],0,0,0⟩) (pv:=.slice none 0 0) (g2.block 1 rfl)
 have g3:In F0 w0 (w2.setCell ⟨w.heap.size+1,11,none⟩ (.int .i64 a1)) (iZ br s1::Cells (w.heap.size+1) (aF ⟨5,aQ,0,[],a1,0,0⟩ (.slice none 0 0)).toArray 69::Cells w.heap.size (aF aT (.slice none 0 0)).toArray 69::R):=by
  have h9:=In.ku [.int .i64 a1] 11 1 g2 (b:=w.heap.size+1) (C:=(aF ⟨5,aQ,0,[],0,0,0⟩ (.slice none 0 0)).toArray) (T:=69) rfl
  rw [jd (ys:=aF ⟨5,aQ,0,[],a1,0,0⟩ (.slice none 0 0)) (by simp) (by simp [aQ,eH])] at h9
  exact h9
 have g4:In F0 w0 (w2.setCell ⟨w.heap.size+1,11,none⟩ (.int .i64 a1)) (gG (.slice none 0 0) []::Cells (w.heap.size+1) (aF ⟨5,aQ,0,[],a1,0,0⟩ (.slice none 0 0)).toArray 69::Cells w.heap.size (aF aT (.slice none 0 0)).toArray 69::iZ br s1::R):=(g3.dG 160 3).aI (R1:=[_,_,_,_]) [0,2,3,1] (by decide) rfl
 clear g2 g3 KF
 obtain⟨p0,p1,p2,p3,p4,p5,p6,p7,p8,p9,Ri,Rj,Rk,Rl,-⟩:=jk (g4.block 1 rfl)
 obtain⟨z0,z1,z2,z3,z4,z5,z6,z7,z8,z9,Rn,Ro,z12,Rp,zf⟩:=jk (g4.block 2 rfl)
 simp only at p0 p1 p2 p3 p4 p5 p6 p7 p8 p9 Ri Rj Rk Rl
 simp only [aQ,eH] at p1 p2 p3 p4 p5 p6 p7 p8
 simp only [aT,aQ,eH] at z0 z1 z2 z3 z4 z5 z6 z7 z8 z9 Rn Ro z12 Rp
 obtain⟨-,q3,q4⟩:=mM g4 rfl
 have Q3:=Lib.hid q3
 have Q4:=Lib.hid (HF.out _ _ q4)
 clear g4 q3 q4 HF
 go_wp2_with fail
 exact bodyPost_ret (aU Tryz.results242 _ _ w.heap.size 69 _ (0,0) _ rfl Q3.out Tryz.underlying69 rfl (by kernel_rfl)) rfl Q4.out
theorem Rt (v:Int) (h:In F0 w0 w (iZ br s::R)):Calls Tryz.prog 242 #[pR br,.int .i64 6,.int .i64 v] w (kN (fO 6 v s) br F0 w0 R):=by
 have QK:∀ (fn:Fn) (first cap:Array Value) (w:World),(Instr.makeFunc fn first cap).run Tryz.prog w=.ok (.func fn first cap) w:=fun _ _ _ _=>rfl
 have h2:In F0 w0 ((w.alloc (.cells (aF aT (.slice none 0 0)).toArray 69)).alloc (.cells (aF ⟨6,aQ,0,[],0,0,0⟩ (.slice none 0 0)).toArray 69)) (iZ br s::Cells (w.heap.size+1) (aF ⟨6,aQ,0,[],0,0,0⟩ (.slice none 0 0)).toArray 69::Cells w.heap.size (aF aT (.slice none 0 0)).toArray 69::R):=by
  have h2:=(h.cells (aF aT (.slice none 0 0)).toArray 69).cells (aF ⟨6,aQ,0,[],0,0,0⟩ (.slice none 0 0)).toArray 69
  simp only [World.size_alloc] at h2
  exact h2.aI (R1:=[_,_,_]) [2,0,1] (by decide) rfl
 have KA:=Dw h2
 have hw:=Ms 4 s (by decide)
 have e:fO 6 v s=(⟨6,aQ,0,[],0,0,kS 4 s⟩,true,gJ 4 s):=rfl
 rw [e]
 generalize ((kS 4 s:Nat):Int)=a1 at *
 generalize gJ 4 s=s1 at *
 have KF:=Lib.hid KA
 have HF:Hid (∀ w' pv,In F0 w0 w' (gG pv []::iZ br s1::R)→kN (⟨6,aQ,0,[],0,0,a1⟩,true,s1) br F0 w0 R (.returned (.tuple #[.agg (aF ⟨6,aQ,0,[],0,0,a1⟩ pv).toArray,.bool true])) w'):=Lib.hid fun w' pv h'=>⟨pv,rfl,h'⟩
 clear e h h2 KA
 go_enter Tryz.func242,Tryz.ntmps242
 go_wp2_with fail
 refine KF.out.mono ?_
 rintro e w2 ⟨rfl,g2⟩
 obtain⟨e0,e1,e2,e3,e4,e5,e6,e7,e8,e9,e10,e11,e12,e13,ef⟩:=jk (y:=⟨6,aQ,0,[],0,0,0⟩) (pv:=.slice none 0 0) (g2.block 1 rfl)
 have g3:In F0 w0 (w2.setCell ⟨w.heap.size+1,13,none⟩ (.int .i64 a1)) (iZ br s1::Cells (w.heap.size+1) (aF ⟨6,aQ,0,[],0,0,a1⟩ (.slice none 0 0)).toArray 69::Cells w.heap.size (aF aT (.slice none 0 0)).toArray 69::R):=by
  have h9:=In.ku [.int .i64 a1] 13 1 g2 (b:=w.heap.size+1) (C:=(aF ⟨6,aQ,0,[],0,0,0⟩ (.slice none 0 0)).toArray) (T:=69) rfl
  rw [jd (ys:=aF ⟨6,aQ,0,[],0,0,a1⟩ (.slice none 0 0)) (by simp) (by simp [aQ,eH])] at h9
  exact h9
 have g4:In F0 w0 (w2.setCell ⟨w.heap.size+1,13,none⟩ (.int .i64 a1)) (gG (.slice none 0 0) []::Cells (w.heap.size+1) (aF ⟨6,aQ,0,[],0,0,a1⟩ (.slice none 0 0)).toArray 69::Cells w.heap.size (aF aT (.slice none 0 0)).toArray 69::iZ br s1::R):=(g3.dG 160 3).aI (R1:=[_,_,_,_]) [0,2,3,1] (by decide) rfl
 clear g2 g3 KF
 obtain⟨p0,p1,p2,p3,p4,p5,p6,p7,p8,p9,Ri,Rj,Rk,Rl,-⟩:=jk (g4.block 1 rfl)
 obtain⟨z0,z1,z2,z3,z4,z5,z6,z7,z8,z9,Rn,Ro,z12,Rp,zf⟩:=jk (g4.block 2 rfl)
 simp only at p0 p1 p2 p3 p4 p5 p6 p7 p8 p9 Ri Rj Rk Rl
 simp only [aQ,eH] at p1 p2 p3 p4 p5 p6 p7 p8
 simp only [aT,aQ,eH] at z0 z1 z2 z3 z4 z5 z6 z7 z8 z9 Rn Ro z12 Rp
 obtain⟨-,q3,q4⟩:=mM g4 rfl
 have Q3:=Lib.hid q3
 have Q4:=Lib.hid (HF.out _ _ q4)
 clear g4 q3 q4 HF
 go_wp2_with fail
 exact bodyPost_ret (aU Tryz.results242 _ _ w.heap.size 69 _ (0,0) _ rfl Q3.out Tryz.underlying69 rfl (by kernel_rfl)) rfl Q4.out
theorem Ru (v:Int) (h:In F0 w0 w (iZ br s::R)):Calls Tryz.prog 242 #[pR br,.int .i64 4,.int .i64 v] w (kN (fO 4 v s) br F0 w0 R):=by
 have QK:∀ (fn:Fn) (first cap:Array Value) (w:World),(Instr.makeFunc fn first cap).run Tryz.prog w=.ok (.func fn first cap) w:=fun _ _ _ _=>rfl
 have h2:In F0 w0 ((w.alloc (.cells (aF aT (.slice none 0 0)).toArray 69)).alloc (.cells (aF ⟨4,aQ,0,[],0,0,0⟩ (.slice none 0 0)).toArray 69)) (iZ br s::Cells (w.heap.size+1) (aF ⟨4,aQ,0,[],0,0,0⟩ (.slice none 0 0)).toArray 69::Cells w.heap.size (aF aT (.slice none 0 0)).toArray 69::R):=by
  have h2:=(h.cells (aF aT (.slice none 0 0)).toArray 69).cells (aF ⟨4,aQ,0,[],0,0,0⟩ (.slice none 0 0)).toArray 69
  simp only [World.size_alloc] at h2
  exact h2.aI (R1:=[_,_,_]) [2,0,1] (by decide) rfl
 have KA:=Dv h2
 have e:fO 4 v s=(⟨4,aQ,0,[],kS 2 s,rR (kS 8 (gJ 2 s)),0⟩,true,gJ 8 (gJ 2 s)):=rfl
 rw [e]
 generalize ((kS 2 s:Nat):Int)=a1 at *
 generalize gJ 2 s=s1 at *
 obtain⟨a2,ha2⟩:∃ x:Int,x=rR (kS 8 s1):=⟨_,rfl⟩
 obtain⟨s2,hs2⟩:∃ x,x=gJ 8 s1:=⟨_,rfl⟩
 have KB:Hid (∀ w' R',In F0 w0 w' (iZ br s1::R')→Calls Tryz.prog 276 #[pR br] w' (jy (.int .i64 a2) br s2 F0 w0 R')):=Lib.hid fun w' R' h'=>by rw [ha2,hs2];exact Ws h'
 rw [← ha2,← hs2]
 have KF:=Lib.hid KA
 have HF:Hid (∀ w' pv,In F0 w0 w' (gG pv []::iZ br s2::R)→kN (⟨4,aQ,0,[],a1,a2,0⟩,true,s2) br F0 w0 R (.returned (.tuple #[.agg (aF ⟨4,aQ,0,[],a1,a2,0⟩ pv).toArray,.bool true])) w'):=Lib.hid fun w' pv h'=>⟨pv,rfl,h'⟩
 clear e h h2 KA ha2 hs2
 go_enter Tryz.func242,Tryz.ntmps242
 go_wp2_with fail
 refine KF.out.mono ?_
 rintro e w2 ⟨rfl,g2⟩
 obtain⟨e0,e1,e2,e3,e4,e5,e6,e7,e8,e9,e10,e11,e12,e13,ef⟩:=jk (y:=⟨4,aQ,0,[],0,0,0⟩) (pv:=.slice none 0 0) (g2.block 1 rfl)
 have g3:In F0 w0 (w2.setCell ⟨w.heap.size+1,11,none⟩ (.int .i64 a1)) (iZ br s1::Cells (w.heap.size+1) (aF ⟨4,aQ,0,[],a1,0,0⟩ (.slice none 0 0)).toArray 69::Cells w.heap.size (aF aT (.slice none 0 0)).toArray 69::R):=by
  have h9:=In.ku [.int .i64 a1] 11 1 g2 (b:=w.heap.size+1) (C:=(aF ⟨4,aQ,0,[],0,0,0⟩ (.slice none 0 0)).toArray) (T:=69) rfl
  rw [jd (ys:=aF ⟨4,aQ,0,[],a1,0,0⟩ (.slice none 0 0)) (by simp) (by simp [aQ,eH])] at h9
  exact h9
 have KC:=Lib.hid (KB.out _ _ g3)
 clear g2 g3 KF KB
 go_wp2_with fail
 refine KC.out.mono ?_
 rintro e w3 ⟨rfl,g4⟩
 clear e0 e1 e2 e3 e4 e5 e6 e7 e8 e9 e10 e11 e12 e13 ef
 obtain⟨e0,e1,e2,e3,e4,e5,e6,e7,e8,e9,e10,e11,e12,e13,ef⟩:=jk (y:=⟨4,aQ,0,[],a1,0,0⟩) (pv:=.slice none 0 0) (g4.block 1 rfl)
 have g5:In F0 w0 (w3.setCell ⟨w.heap.size+1,12,none⟩ (.int .i64 a2)) (iZ br s2::Cells (w.heap.size+1) (aF ⟨4,aQ,0,[],a1,a2,0⟩ (.slice none 0 0)).toArray 69::Cells w.heap.size (aF aT (.slice none 0 0)).toArray 69::R):=by
  have h9:=In.ku [.int .i64 a2] 12 1 g4 (b:=w.heap.size+1) (C:=(aF ⟨4,aQ,0,[],a1,0,0⟩ (.slice none 0 0)).toArray) (T:=69) rfl
  rw [jd (ys:=aF ⟨4,aQ,0,[],a1,a2,0⟩ (.slice none 0 0)) (by simp) (by simp [aQ,eH])] at h9
  exact h9
 have g6:In F0 w0 (w3.setCell ⟨w.heap.size+1,12,none⟩ (.int .i64 a2)) (gG (.slice none 0 0) []::Cells (w.heap.size+1) (aF ⟨4,aQ,0,[],a1,a2,0⟩ (.slice none 0 0)).toArray 69::Cells w.heap.size (aF aT (.slice none 0 0)).toArray 69::iZ br s2::R):=(g5.dG 160 3).aI (R1:=[_,_,_,_]) [0,2,3,1] (by decide) rfl
 clear g4 g5 KC
 obtain⟨p0,p1,p2,p3,p4,p5,p6,p7,p8,p9,Ri,Rj,Rk,Rl,-⟩:=jk (g6.block 1 rfl)
 obtain⟨z0,z1,z2,z3,z4,z5,z6,z7,z8,z9,Rn,Ro,z12,Rp,zf⟩:=jk (g6.block 2 rfl)
 simp only at p0 p1 p2 p3 p4 p5 p6 p7 p8 p9 Ri Rj Rk Rl
 simp only [aQ,eH] at p1 p2 p3 p4 p5 p6 p7 p8
 simp only [aT,aQ,eH] at z0 z1 z2 z3 z4 z5 z6 z7 z8 z9 Rn Ro z12 Rp
 obtain⟨-,q3,q4⟩:=mM g6 rfl
 have Q3:=Lib.hid q3
 have Q4:=Lib.hid (HF.out _ _ q4)
 clear g6 q3 q4 HF
 go_wp2_with fail
 exact bodyPost_ret (aU Tryz.results242 _ _ w.heap.size 69 _ (0,0) _ rfl Q3.out Tryz.underlying69 rfl (by kernel_rfl)) rfl Q4.out
theorem Rv (v:Int) (h:In F0 w0 w (iZ br s::R)):Calls Tryz.prog 242 #[pR br,.int .i64 3,.int .i64 v] w (kN (fO 3 v s) br F0 w0 R):=by
 have QK:∀ (fn:Fn) (first cap:Array Value) (w:World),(Instr.makeFunc fn first cap).run Tryz.prog w=.ok (.func fn first cap) w:=fun _ _ _ _=>rfl
 have h2:In F0 w0 ((w.alloc (.cells (aF aT (.slice none 0 0)).toArray 69)).alloc (.cells (aF ⟨3,aQ,0,[],0,0,0⟩ (.slice none 0 0)).toArray 69)) (iZ br s::Cells (w.heap.size+1) (aF ⟨3,aQ,0,[],0,0,0⟩ (.slice none 0 0)).toArray 69::Cells w.heap.size (aF aT (.slice none 0 0)).toArray 69::R):=by
  have h2:=(h.cells (aF aT (.slice none 0 0)).toArray 69).cells (aF ⟨3,aQ,0,[],0,0,0⟩ (.slice none 0 0)).toArray 69
  simp only [World.size_alloc] at h2
  exact h2.aI (R1:=[_,_,_]) [2,0,1] (by decide) rfl
 have KA:=Dw h2
 have hw:=Ms 4 s (by decide)
 have e:fO 3 v s=(⟨3,aQ,kS 4 s,(rdBks v (min (kS 1 (gJ 4 s)) 17) (gJ 1 (gJ 4 s))).1,0,0,0⟩,true,(rdBks v (min (kS 1 (gJ 4 s)) 17) (gJ 1 (gJ 4 s))).2):=rfl
 rw [e]
 generalize ((kS 4 s:Nat):Int)=a1 at *
 generalize gJ 4 s=s1 at *
 have KB0:∀ w' R',In F0 w0 w' (iZ br s1::R')→Calls Tryz.prog 275 #[pR br,.int .i64 v] w' (Kq v (min (kS 1 s1) 17) (gJ 1 s1) br F0 w0 R'):=fun w' R' h'=>UK v h'
 unfold Kq at KB0
 generalize rdBks v (min (kS 1 s1) 17) (gJ 1 s1)=r at *
 obtain⟨l,s2⟩:=r
 simp only at *
 have KB:=Lib.hid KB0
 have KF:=Lib.hid KA
 have HF:Hid (∀ w' pv,In F0 w0 w' (gG pv l::iZ br s2::R)→kN (⟨3,aQ,a1,l,0,0,0⟩,true,s2) br F0 w0 R (.returned (.tuple #[.agg (aF ⟨3,aQ,a1,l,0,0,0⟩ pv).toArray,.bool true])) w'):=Lib.hid fun w' pv h'=>⟨pv,rfl,h'⟩
 clear e h h2 KA KB0
 go_enter Tryz.func242,Tryz.ntmps242
 go_wp2_with fail
 refine KF.out.mono ?_
 rintro e w2 ⟨rfl,g2⟩
 obtain⟨e0,e1,e2,e3,e4,e5,e6,e7,e8,e9,e10,e11,e12,e13,ef⟩:=jk (y:=⟨3,aQ,0,[],0,0,0⟩) (pv:=.slice none 0 0) (g2.block 1 rfl)
 have g3:In F0 w0 (w2.setCell ⟨w.heap.size+1,9,none⟩ (.int .i64 a1)) (iZ br s1::Cells (w.heap.size+1) (aF ⟨3,aQ,a1,[],0,0,0⟩ (.slice none 0 0)).toArray 69::Cells w.heap.size (aF aT (.slice none 0 0)).toArray 69::R):=by
  have h9:=In.ku [.int .i64 a1] 9 1 g2 (b:=w.heap.size+1) (C:=(aF ⟨3,aQ,0,[],0,0,0⟩ (.slice none 0 0)).toArray) (T:=69) rfl
  rw [jd (ys:=aF ⟨3,aQ,a1,[],0,0,0⟩ (.slice none 0 0)) (by simp) (by simp [aQ,eH])] at h9
  exact h9
 have KC:=Lib.hid (KB.out _ _ g3)
 clear g2 g3 KF KB
 go_wp2_with fail
 refine KC.out.mono ?_
 rintro e w3 ⟨pv,rfl,g4⟩
 obtain⟨Fv,rv⟩:=g4.get 1 rfl
 obtain⟨pa,pc,rfl,-,-,-⟩:=ay.shape rv
 clear rv e0 e1 e2 e3 e4 e5 e6 e7 e8 e9 e10 e11 e12 e13 ef
 obtain⟨e0,e1,e2,e3,e4,e5,e6,e7,e8,e9,e10,e11,e12,e13,ef⟩:=jk (y:=⟨3,aQ,a1,[],0,0,0⟩) (pv:=.slice none 0 0) (g4.block 2 rfl)
 have g5:In F0 w0 (w3.setCell ⟨w.heap.size+1,10,none⟩ (.slice pa l.length pc)) (gG (.slice pa l.length pc) l::Cells (w.heap.size+1) (aF ⟨3,aQ,a1,l,0,0,0⟩ (.slice pa l.length pc)).toArray 69::Cells w.heap.size (aF aT (.slice none 0 0)).toArray 69::iZ br s2::R):=by
  have h9:=In.ku [.slice pa l.length pc] 10 2 g4 (b:=w.heap.size+1) (C:=(aF ⟨3,aQ,a1,[],0,0,0⟩ (.slice none 0 0)).toArray) (T:=69) rfl
  rw [jd (ys:=aF ⟨3,aQ,a1,l,0,0,0⟩ (.slice pa l.length pc)) (by simp) (by simp [aQ,eH])] at h9
  exact h9.aI (R1:=[_,_,_,_]) [1,2,3,0] (by decide) rfl
 clear g4 KC
 obtain⟨p0,p1,p2,p3,p4,p5,p6,p7,p8,p9,Ri,Rj,Rk,Rl,-⟩:=jk (g5.block 1 rfl)
 obtain⟨z0,z1,z2,z3,z4,z5,z6,z7,z8,z9,Rn,Ro,z12,Rp,zf⟩:=jk (g5.block 2 rfl)
 simp only at p0 p1 p2 p3 p4 p5 p6 p7 p8 p9 Ri Rj Rk Rl
 simp only [aQ,eH] at p1 p2 p3 p4 p5 p6 p7 p8
 simp only [aT,aQ,eH] at z0 z1 z2 z3 z4 z5 z6 z7 z8 z9 Rn Ro z12 Rp
 obtain⟨-,q3,q4⟩:=mM g5 rfl
 have Q3:=Lib.hid q3
 have Q4:=Lib.hid (HF.out _ _ q4)
 clear g5 q3 q4 HF
 go_wp2_with fail
 exact bodyPost_ret (aU Tryz.results242 _ _ w.heap.size 69 _ (0,0) _ rfl Q3.out Tryz.underlying69 rfl (by kernel_rfl)) rfl Q4.out
theorem Rw {k:Int} (n1:k≠1) (n2:k≠2) (n3:k≠3) (n4:k≠4) (n5:k≠5) (n6:k≠6) (v:Int) (h:In F0 w0 w (iZ br s::R)):Calls Tryz.prog 242 #[pR br,.int .i64 k,.int .i64 v] w (kN (fO k v s) br F0 w0 R):=by
 have QK:∀ (fn:Fn) (first cap:Array Value) (w:World),(Instr.makeFunc fn first cap).run Tryz.prog w=.ok (.func fn first cap) w:=fun _ _ _ _=>rfl
 have h2:In F0 w0 ((w.alloc (.cells (aF aT (.slice none 0 0)).toArray 69)).alloc (.cells (aF ⟨k,aQ,0,[],0,0,0⟩ (.slice none 0 0)).toArray 69)) (iZ br s::Cells (w.heap.size+1) (aF ⟨k,aQ,0,[],0,0,0⟩ (.slice none 0 0)).toArray 69::Cells w.heap.size (aF aT (.slice none 0 0)).toArray 69::R):=by
  have h2:=(h.cells (aF aT (.slice none 0 0)).toArray 69).cells (aF ⟨k,aQ,0,[],0,0,0⟩ (.slice none 0 0)).toArray 69
  simp only [World.size_alloc] at h2
  exact h2.aI (R1:=[_,_,_]) [2,0,1] (by decide) rfl
 have e:fO k v s=(⟨k,aQ,0,[],0,0,0⟩,true,s):=by unfold fO;rw [if_neg n1,if_neg n2,if_neg n3,if_neg n4,if_neg n5,if_neg n6]
 rw [e]
 have q1:(k == 1)=false:=beq_eq_false_iff_ne.2 n1
 have q2:(k == 2)=false:=beq_eq_false_iff_ne.2 n2
 have q3:(k == 3)=false:=beq_eq_false_iff_ne.2 n3
 have q4:(k == 4)=false:=beq_eq_false_iff_ne.2 n4
 have q5:(k == 5)=false:=beq_eq_false_iff_ne.2 n5
 have q6:(k == 6)=false:=beq_eq_false_iff_ne.2 n6
 have HH:Hid (∀ o o2,In F0 w0 ((w.alloc o).alloc o2) (gG (.slice none 0 0) []::iZ br s::R)):=Lib.hid fun o o2=>((h.alloc o).alloc o2).dG _ _
 clear e h h2 n1 n2 n3 n4 n5 n6
 go_enter Tryz.func242,Tryz.ntmps242
 go_wp2_with fail
 exact bodyPost_ret (aU Tryz.results242 _ _ w.heap.size 69 _ (0,0) _ rfl (heap_alloc2_old _ _ _) Tryz.underlying69 rfl (by kernel_rfl)) rfl ⟨.slice none 0 0,rfl,HH.out _ _⟩
theorem UM (k v:Int) (h:In F0 w0 w (iZ br s::R)):Calls Tryz.prog 242 #[pR br,.int .i64 k,.int .i64 v] w (kN (fO k v s) br F0 w0 R):=by
 by_cases n1:k=1
 ·subst n1;exact Rh v h
 by_cases n2:k=2
 ·subst n2;exact Rq v h
 by_cases n3:k=3
 ·subst n3;exact Rv v h
 by_cases n4:k=4
 ·subst n4;exact Ru v h
 by_cases n5:k=5
 ·subst n5;exact Rs v h
 by_cases n6:k=6
 ·subst n6;exact Rt v h
 ·exact Rw n1 n2 n3 n4 n5 n6 v h
end
theorem iW (n:Nat) (s:pE):(gJ n s).1.length≤s.1.length:=by
 unfold gJ aS
 split
 ·exact Nat.le_refl _
 ·split
  ·simp
  ·simp only [List.length_drop];omega
theorem Iy (s:pE):(jV s).2.2.1.length≤s.1.length:=by
 have h:(gJ 2 (gJ 2 (gJ 1 (gJ 4 (gJ 4 s))))).1.length≤s.1.length:=Nat.le_trans (iW _ _) (Nat.le_trans (iW _ _) (Nat.le_trans (iW _ _) (Nat.le_trans (iW _ _) (iW _ _))))
 unfold jV
 split
 ·exact iW _ _
 ·split <;> exact h
theorem UN (v:Int) (s:pE):(vV v s).2.2.1.length≤s.1.length:=by
 have h1:=Iy s
 have h2:=iW 2 (jV s).2.2
 unfold vV;simp only
 split <;> split
 ·exact Nat.le_trans (iW _ _) (Nat.le_trans (iW _ _) (Nat.le_trans h2 h1))
 ·exact Nat.le_trans (iW _ _) (Nat.le_trans h2 h1)
 ·exact Nat.le_trans (iW _ _) (Nat.le_trans h2 h1)
 ·exact Nat.le_trans h2 h1
theorem UO (v:Int) (s:pE):(vW v s).2.1.length≤s.1.length:=by
 have h2:=Nat.le_trans (iW 4 (gJ 2 s)) (iW 2 s)
 unfold vW;simp only
 split
 ·exact Nat.le_trans (iW _ _) h2
 ·exact h2
theorem Iz (v:Int):∀ (n:Nat) (s:pE),(rdBks v n s).2.1.length≤s.1.length∧(rdBks v n s).1.length=n
 | 0,s=>⟨Nat.le_refl _,rfl⟩
 | n+1,s=>by
  obtain⟨h1,h2⟩:=Iz v n s
  refine⟨Nat.le_trans (UO _ _) h1,?_⟩
  show ((rdBks v n s).1++[_]).length=n+1
  rw [List.length_append,h2];rfl
theorem Rx (k v:Int) (s:pE):(fO k v s).2.2.1.length≤s.1.length∧(fO k v s).1.ax.length≤17:=by
 unfold fO
 split
 ·exact⟨UN _ _,Nat.zero_le _⟩
 split
 ·exact⟨Iy _,Nat.zero_le _⟩
 split
 ·obtain⟨h1,h2⟩:=Iz v (min (kS 1 (gJ 4 s)) 17) (gJ 1 (gJ 4 s))
  simp only
  exact⟨Nat.le_trans h1 (Nat.le_trans (iW _ _) (iW _ _)),by rw [h2];omega⟩
 split
 ·exact⟨Nat.le_trans (iW _ _) (iW _ _),Nat.zero_le _⟩
 split
 ·exact⟨iW _ _,Nat.zero_le _⟩
 split
 ·exact⟨iW _ _,Nat.zero_le _⟩
 ·exact⟨Nat.le_refl _,Nat.zero_le _⟩
section
variable {F0:List Nat} {w0 w:World} {R:List az}
def Ry (r:Rec×Int) (F0:List Nat) (w0:World) (R:List az) (e:Ending) (w':World):Prop:=
 ∃ pv,e=.returned (.tuple #[.agg (aF r.1 pv).toArray,.int .i64 r.2])∧In F0 w0 w' (gG pv r.1.ax::R)
theorem wW {v:Value} {l:List Bk} {a:Option Addr} {n c:Nat} (hv:v=.slice a n c) (i:Nat) (hA:R[i]?=some (gG v l)):gZ F0 w0 R a l:=by
 intro w' h'
 obtain⟨F,r⟩:=h'.get i hA
 subst hv
 exact r.all
theorem UQ {kind aj:Nat} {body:List UInt8} {A:Option Addr} {c:Nat} (hn:A=none→c=0∧body=[]) (hs:∀ w',In F0 w0 w' R→Src w' A body.length 1 (eD body)) (hl:body.length≤100000000) (h:In F0 w0 w R):Calls Tryz.prog 213 #[.agg #[.int .i64 kind,.int .i64 aj,.slice A body.length c]] w (Ry (jv ⟨kind,aj,body⟩) F0 w0 R):=by
 have KV:=Lib.hid (vz aj)
 cases hv:dQ aj with
 | false=>
  have e:jv ⟨kind,aj,body⟩=(aT,10):=by unfold jv;rw [if_pos hv]
  have HH:Hid (∀ o o2,In F0 w0 ((w.alloc o).alloc o2) (gG (.slice none 0 0) []::R)):=Lib.hid (fun o o2=>((h.alloc o).alloc o2).dG _ _)
  rw [e];rw [hv] at KV
  clear e h hs hl hn hv
  go_enter Tryz.func213,Tryz.ntmps213
  go_wp2_with fail
  refine (KV.out _).mono ?_
  rintro e w1 ⟨rfl,rfl⟩
  clear KV
  go_wp2_with fail
  exact bodyPost_ret (aU Tryz.results213 _ _ (w.heap.size+1) 69 _ (0,0) _ rfl (heap_alloc2_new _ _ _) Tryz.underlying69 rfl (by kernel_rfl)) rfl ⟨.slice none 0 0,rfl,HH.out _ _⟩
 | true=>
  rw [hv] at KV
  have h2:In F0 w0 ((w.alloc (.cells #[.int .i64 kind,.int .i64 aj,.slice A body.length c] 40)).alloc (.cells (aF aT (.slice none 0 0)).toArray 69)) (Cells (w.heap.size+1) (aF aT (.slice none 0 0)).toArray 69::Cells w.heap.size #[.int .i64 kind,.int .i64 aj,.slice A body.length c] 40::R):=by
   have h2:=(h.cells #[.int .i64 kind,.int .i64 aj,.slice A body.length c] 40).cells (aF aT (.slice none 0 0)).toArray 69
   simp only [World.size_alloc] at h2
   exact h2
  have KN:=Lib.hid (JA (c:=c) h2 hn (hs _ h2.drop.drop) hl)
  have KR:Hid (∀ w' br,In F0 w0 w' (iZ br (body,0)::Cells (w.heap.size+1) (aF aT (.slice none 0 0)).toArray 69::Cells w.heap.size #[.int .i64 kind,.int .i64 aj,.slice A body.length c] 40::R)→Calls Tryz.prog 242 #[pR br,.int .i64 kind,.int .i64 aj] w' (kN (fO kind aj (body,0)) br F0 w0 (Cells (w.heap.size+1) (aF aT (.slice none 0 0)).toArray 69::Cells w.heap.size #[.int .i64 kind,.int .i64 aj,.slice A body.length c] 40::R))):=Lib.hid fun w' br h'=>UM kind aj h'
  obtain⟨hrl,hbl⟩:=Rx kind aj (body,0)
  have e:jv ⟨kind,aj,body⟩=if (fO kind aj (body,0)).2.1=true∧jQ (fO kind aj (body,0)).2.2.1 (fO kind aj (body,0)).2.2.2=0∧bT (fO kind aj (body,0)).1=true then ((fO kind aj (body,0)).1,0) else (aT,3):=by unfold jv;rw [if_neg (by simp [hv])]
  rw [e];clear e hv hs hn
  generalize fO kind aj (body,0)=r at *
  obtain⟨y,ok,l,er⟩:=r
  simp only at hrl hbl KR ⊢
  have HL:l.length≤100000000:=Nat.le_trans hrl hl
  clear hrl hl h h2
  cases ok with
  | false=>
   simp only [Bool.false_eq_true,false_and,if_false]
   go_enter Tryz.func213,Tryz.ntmps213
   go_wp2_with fail
   refine (KV.out _).mono ?_
   rintro e w1 ⟨rfl,rfl⟩
   clear KV
   go_wp2_with fail
   refine KN.out.mono ?_
   rintro e w1 ⟨br,rfl,g1⟩
   have c0:w1.cell? ⟨w.heap.size,0,none⟩=some (.int .i64 kind):=cell_of (g1.block 2 rfl) rfl
   have c1:w1.cell? ⟨w.heap.size,1,none⟩=some (.int .i64 aj):=cell_of (g1.block 2 rfl) rfl
   have K1:=Lib.hid (KR.out _ _ g1)
   clear g1 KN KR
   go_wp2_with fail
   refine K1.out.mono ?_
   rintro e w2 ⟨pv,rfl,g2⟩
   simp only at g2
   obtain⟨Fv,rv⟩:=g2.get 0 rfl
   obtain⟨pa,pc,rfl,-,-,-⟩:=ay.shape rv
   have g3:=g2.cells (aF y (.slice pa y.ax.length pc)).toArray 69
   clear K1 rv
   have q1:=fG (g3.block 3 rfl)
   have G:=Lib.hid (g3.gp 3 rfl (xs:=aF aT (.slice none 0 0)) (b:=w.heap.size+1) (C:=(aF aT (.slice none 0 0)).toArray) (T:=69) rfl)
   have Q1:=Lib.hid q1
   clear g2 g3 q1
   go_wp2_with (refine wpList_store_mid (op:=⟨none,Op.store 69 (.tmp 2) (.tmp 36),_,_,_,_⟩) (by rfl) 69 (.tmp 2) (.tmp 36) rfl (w.heap.size+1) 0 (aF aT (.slice none 0 0)).toArray (by rfl) (by rfl) Q1.out (by kernel_rfl) (jS _ _ _ _) ?_)
   exact bodyPost_ret (aU Tryz.results213 _ _ (w.heap.size+1) 69 _ (0,0) _ rfl (G.out.block 3 rfl) Tryz.underlying69 rfl (by kernel_rfl)) rfl ⟨.slice none 0 0,rfl,(G.out.aI (R1:=[_,_,_,_,_]) [] (by decide) rfl).dG _ _⟩
  | true=>
   by_cases he:jQ l er=0
   ·by_cases hm:bT y=true
    ·simp only [he,hm,and_self,if_true]
     go_enter Tryz.func213,Tryz.ntmps213
     go_wp2_with fail
     refine (KV.out _).mono ?_
     rintro e w1 ⟨rfl,rfl⟩
     clear KV
     go_wp2_with fail
     refine KN.out.mono ?_
     rintro e w1 ⟨br,rfl,g1⟩
     have c0:w1.cell? ⟨w.heap.size,0,none⟩=some (.int .i64 kind):=cell_of (g1.block 2 rfl) rfl
     have c1:w1.cell? ⟨w.heap.size,1,none⟩=some (.int .i64 aj):=cell_of (g1.block 2 rfl) rfl
     have K1:=Lib.hid (KR.out _ _ g1)
     clear g1 KN KR
     go_wp2_with fail
     refine K1.out.mono ?_
     rintro e w2 ⟨pv,rfl,g2⟩
     simp only at g2
     obtain⟨Fv,rv⟩:=g2.get 0 rfl
     obtain⟨pa,pc,rfl,-,-,-⟩:=ay.shape rv
     have g3:=g2.cells (aF y (.slice pa y.ax.length pc)).toArray 69
     clear K1 rv
     have KE:=uR g3 2 rfl HL
     rw [he] at KE
     have KM:=jE (c:=pc) (wW rfl 1 rfl) (Nat.le_trans hbl (by decide)) g3
     rw [hm] at KM
     clear he hm HL hbl
     have Rz:=Lib.hid KE
     clear KE
     have ZQ:=Lib.hid KM
     clear KM g2 g3
     go_wp2_with fail
     refine Rz.out.mono ?_
     rintro e w3 ⟨rfl,rfl⟩
     clear Rz
     go_wp2_with fail
     refine ZQ.out.mono ?_
     rintro e w4 ⟨rfl,g3⟩
     clear ZQ
     have q0:w4.heap[w2.heap.size]?=some (.cells (aF y (.slice pa y.ax.length pc)).toArray 69 (0,0)):=g3.block 0 rfl
     have q1:=fG (g3.block 3 rfl)
     have G:=Lib.hid (g3.gp 3 rfl (xs:=aF y (.slice pa y.ax.length pc)) (b:=w.heap.size+1) (C:=(aF aT (.slice none 0 0)).toArray) (T:=69) rfl)
     have Q0:=Lib.hid q0
     have Q1:=Lib.hid q1
     clear g3 q0 q1
     go_wp2_with (first | (refine wpList_load_row rfl 69 (.tmp 5) rfl w2.heap.size rfl 69 _ (0,0) _ Q0.out Tryz.underlying69 rfl (by kernel_rfl) ?_) | (refine wpList_store_mid (op:=⟨none,Op.store 69 (.tmp 2) (.tmp 37),_,_,_,_⟩) (by rfl) 69 (.tmp 2) (.tmp 37) rfl (w.heap.size+1) 0 (aF y (.slice pa y.ax.length pc)).toArray (by rfl) (by rfl) Q1.out (by kernel_rfl) (jS _ _ _ _) ?_))
     exact bodyPost_ret (aU Tryz.results213 _ _ (w.heap.size+1) 69 _ (0,0) _ rfl (G.out.block 3 rfl) Tryz.underlying69 rfl (by kernel_rfl)) rfl ⟨.slice pa y.ax.length pc,rfl,G.out.aI (R1:=[_,_,_,_,_]) [1] (by decide) rfl⟩
    ·have hm2:bT y=false:=by simpa using hm
     simp only [he,hm2,Bool.false_eq_true,and_false,if_false]
     go_enter Tryz.func213,Tryz.ntmps213
     go_wp2_with fail
     refine (KV.out _).mono ?_
     rintro e w1 ⟨rfl,rfl⟩
     clear KV
     go_wp2_with fail
     refine KN.out.mono ?_
     rintro e w1 ⟨br,rfl,g1⟩
     have c0:w1.cell? ⟨w.heap.size,0,none⟩=some (.int .i64 kind):=cell_of (g1.block 2 rfl) rfl
     have c1:w1.cell? ⟨w.heap.size,1,none⟩=some (.int .i64 aj):=cell_of (g1.block 2 rfl) rfl
     have K1:=Lib.hid (KR.out _ _ g1)
     clear g1 KN KR
     go_wp2_with fail
     refine K1.out.mono ?_
     rintro e w2 ⟨pv,rfl,g2⟩
     simp only at g2
     obtain⟨Fv,rv⟩:=g2.get 0 rfl
     obtain⟨pa,pc,rfl,-,-,-⟩:=ay.shape rv
     have g3:=g2.cells (aF y (.slice pa y.ax.length pc)).toArray 69
     clear K1 rv
     have KE:=uR g3 2 rfl HL
     rw [he] at KE
     have KM:=jE (c:=pc) (wW rfl 1 rfl) (Nat.le_trans hbl (by decide)) g3
     rw [hm2] at KM
     clear he hm hm2 HL hbl
     have Rz:=Lib.hid KE
     clear KE
     have ZQ:=Lib.hid KM
     clear KM g2 g3
     go_wp2_with fail
     refine Rz.out.mono ?_
     rintro e w3 ⟨rfl,rfl⟩
     clear Rz
     go_wp2_with fail
     refine ZQ.out.mono ?_
     rintro e w4 ⟨rfl,g3⟩
     clear ZQ
     have g2:True:=trivial
     have q1:=fG (g3.block 3 rfl)
     have G:=Lib.hid (g3.gp 3 rfl (xs:=aF aT (.slice none 0 0)) (b:=w.heap.size+1) (C:=(aF aT (.slice none 0 0)).toArray) (T:=69) rfl)
     have Q1:=Lib.hid q1
     clear g2 g3 q1
     go_wp2_with (refine wpList_store_mid (op:=⟨none,Op.store 69 (.tmp 2) (.tmp 36),_,_,_,_⟩) (by rfl) 69 (.tmp 2) (.tmp 36) rfl (w.heap.size+1) 0 (aF aT (.slice none 0 0)).toArray (by rfl) (by rfl) Q1.out (by kernel_rfl) (jS _ _ _ _) ?_)
     exact bodyPost_ret (aU Tryz.results213 _ _ (w.heap.size+1) 69 _ (0,0) _ rfl (G.out.block 3 rfl) Tryz.underlying69 rfl (by kernel_rfl)) rfl ⟨.slice none 0 0,rfl,(G.out.aI (R1:=[_,_,_,_,_]) [] (by decide) rfl).dG _ _⟩
   ·simp only [he,false_and,and_false,if_false]
    go_enter Tryz.func213,Tryz.ntmps213
    go_wp2_with fail
    refine (KV.out _).mono ?_
    rintro e w1 ⟨rfl,rfl⟩
    clear KV
    go_wp2_with fail
    refine KN.out.mono ?_
    rintro e w1 ⟨br,rfl,g1⟩
    have c0:w1.cell? ⟨w.heap.size,0,none⟩=some (.int .i64 kind):=cell_of (g1.block 2 rfl) rfl
    have c1:w1.cell? ⟨w.heap.size,1,none⟩=some (.int .i64 aj):=cell_of (g1.block 2 rfl) rfl
    have K1:=Lib.hid (KR.out _ _ g1)
    clear g1 KN KR
    go_wp2_with fail
    refine K1.out.mono ?_
    rintro e w2 ⟨pv,rfl,g2⟩
    simp only at g2
    obtain⟨Fv,rv⟩:=g2.get 0 rfl
    obtain⟨pa,pc,rfl,-,-,-⟩:=ay.shape rv
    have g3:=g2.cells (aF y (.slice pa y.ax.length pc)).toArray 69
    clear K1 rv
    have KE:=uR g3 2 rfl HL
    have qe:(jQ l er == 0)=false:=beq_eq_false_iff_ne.2 he
    have Rz:=Lib.hid KE
    clear KE
    have q1:=fG (g3.block 3 rfl)
    have G:=Lib.hid (g3.gp 3 rfl (xs:=aF aT (.slice none 0 0)) (b:=w.heap.size+1) (C:=(aF aT (.slice none 0 0)).toArray) (T:=69) rfl)
    have Q1:=Lib.hid q1
    clear g2 g3 q1
    go_wp2_with fail
    refine Rz.out.mono ?_
    rintro e w3 ⟨rfl,rfl⟩
    clear Rz
    go_wp2_with (refine wpList_store_mid (op:=⟨none,Op.store 69 (.tmp 2) (.tmp 36),_,_,_,_⟩) (by rfl) 69 (.tmp 2) (.tmp 36) rfl (w.heap.size+1) 0 (aF aT (.slice none 0 0)).toArray (by rfl) (by rfl) Q1.out (by kernel_rfl) (jS _ _ _ _) ?_)
    exact bodyPost_ret (aU Tryz.results213 _ _ (w.heap.size+1) 69 _ (0,0) _ rfl (G.out.block 3 rfl) Tryz.underlying69 rfl (by kernel_rfl)) rfl ⟨.slice none 0 0,rfl,(G.out.aI (R1:=[_,_,_,_,_]) [] (by decide) rfl).dG _ _⟩
end
theorem RA:laidOutB Tryz.prog=true:=by kernel_rfl
theorem Kr:Keyed Tryz.prog 65:=Keyed.of_law (deep_law_laid RA (m:=3) (by omega) (of_decide_eq_true (by kernel_rfl)) (by kernel_rfl) (by kernel_rfl))
theorem wf_u32 {n:Int} (h0:0≤n) (h1:n < 4294967296):(Lit.int .u32 n).wf=true:=by
 simp [Lit.wf,IntKind.min,IntKind.max,IntKind.signed,IntKind.bits];omega
theorem wf_i64 {n:Int} (h0:-9223372036854775808≤n) (h1:n≤9223372036854775807):(Lit.int .i64 n).wf=true:=by
 simp [Lit.wf,IntKind.min,IntKind.max,IntKind.signed,IntKind.bits];omega
theorem Kt {P:Program} {T tu ti:TypeId} {f0 f1 f2 f3 f4:Field} (hu:P.underlying T=some (.struct #[f0,f1,f2,f3,f4])) (u1:P.underlying tu=some (.int .u32)) (u2:P.underlying ti=some (.int .i64))
  (e0:f0.type=tu∧f0.offset=0) (e1:f1.type=tu∧f1.offset=1) (e2:f2.type=ti∧f2.offset=2) (e3:f3.type=ti∧f3.offset=3) (e4:f4.type=ti∧f4.offset=4)
  (hn : #[f0, f1, f2, f3, f4].all (·.name != "_") = true) (c1 : P.cellsOf tu = 1) (c2 : P.cellsOf ti = 1) (c3 : P.cellsOf T = 5) (k1 : P.keyType T = true) (hs : 0 < P.types.size)
  {a b c d e:Int} (w1:(Lit.int .u32 a).wf=true) (w2:(Lit.int .u32 b).wf=true) (w3:(Lit.int .i64 c).wf=true) (w4:(Lit.int .i64 d).wf=true) (w5:(Lit.int .i64 e).wf=true) :
  ∃ l,keyOf P T (.agg #[.int .u32 a,.int .u32 b,.int .i64 c,.int .i64 d,.int .i64 e])=some l:=by
 obtain⟨m,hm⟩:∃ m,P.types.size=m+1:=⟨P.types.size - 1,by omega⟩
 unfold keyOf
 rw [hu]
 simp only [k1,Value.formed,hu,c3,hm,Program.keyLits,Value.cells,List.size_toArray,List.length_cons,List.length_nil,Nat.zero_add,Nat.reduceAdd,beq_self_eq_true,Bool.and_self,if_true,and_self,
  List.mapM_cons,List.mapM_nil,e0,e1,e2,e3,e4,c1,c2,u1,u2,w1,w2,w3,w4,w5,List.drop,List.take]
 rw [if_pos ⟨trivial,hn⟩]
 exact⟨_,rfl⟩
theorem yl {t:rU} (h:Gy t):∃ l,keyOf Tryz.prog 65 (.agg (dH t))=some l:=
 Kt Tryz.underlying65 Tryz.underlying63 Tryz.underlying3 ⟨rfl,rfl⟩ ⟨rfl,rfl⟩ ⟨rfl,rfl⟩ ⟨rfl,rfl⟩ ⟨rfl,rfl⟩ (by decide +kernel) (by kernel_rfl) (by kernel_rfl) (by kernel_rfl) (by kernel_rfl) (of_decide_eq_true (by kernel_rfl))
  (wf_u32 h.s0 h.s1) (wf_u32 h.d0 h.d1) (wf_i64 h.p0 h.p1) (wf_i64 h.Zi h.sp1) (wf_i64 h.Zj h.dp1)
end Go.Proofs.YtogclkhpbjfadaaGreat
