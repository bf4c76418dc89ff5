/- .. -/
import Derived.Test.YtanhdliaaccacaaGreatUB18
import Derived.Test.YtanhdliaaccacaaGreatUB3
import Derived.Test.YtanhdliaaccacaaGreatUB1
import Derived.DeepKeys4
namespace Go.Proofs.YtanhdliaaccacaaGreat
open Go.RowKit
open Go.Maps (Keyed)
set_option linter.unusedVariables false
set_option maxHeartbeats 64000000
set_option maxRecDepth 100000
structure RcY (w:World) (b:Nat) (y:Rec) (pv:Value):Prop where
 y0:w.cell? ⟨b,0,none⟩=some (.int .i64 y.kind)
 y1:w.cell? ⟨b,1,none⟩=some (.int .u32 y.fl.t.src)
 y2:w.cell? ⟨b,2,none⟩=some (.int .u32 y.fl.t.dst)
 y3:w.cell? ⟨b,3,none⟩=some (.int .i64 y.fl.t.proto)
 y4:w.cell? ⟨b,4,none⟩=some (.int .i64 y.fl.t.ag)
 y5:w.cell? ⟨b,5,none⟩=some (.int .i64 y.fl.t.ah)
 y6:w.cell? ⟨b,6,none⟩=some (.int .i64 y.fl.bk)
 y7:w.cell? ⟨b,7,none⟩=some (.int .i64 y.fl.gen)
 y8:w.cell? ⟨b,8,none⟩=some (.int .i64 y.fl.seen)
 y9:w.cell? ⟨b,9,none⟩=some (.int .i64 y.gen)
 mh:w.cell? ⟨b,10,none⟩=some (pv)
 ow:w.cell? ⟨b,11,none⟩=some (.int .i64 y.bk)
 oz:w.cell? ⟨b,12,none⟩=some (.int .i64 y.till)
 y13:w.cell? ⟨b,13,none⟩=some (.int .i64 y.count)
 fz:∀ j,w.frozen? ⟨b,j,none⟩=false
section
variable {F0:List Nat} {w0 w:World} {R:List ax} {br:Nat} {s:pq}
theorem jr {b:Nat} {y:Rec} {pv:Value} (h:w.heap[b]?=some (.cells (aC y pv).toArray 59 (0,0))):RcY w b y pv:=
 ⟨cell_of h rfl,cell_of h rfl,cell_of h rfl,cell_of h rfl,cell_of h rfl,cell_of h rfl,cell_of h rfl,cell_of h rfl,cell_of h rfl,cell_of h rfl,cell_of h rfl,cell_of h rfl,cell_of h rfl,cell_of h rfl,fun j=>aK h⟩
def kL (r:Rec×Bool×pq) (br:Nat) (F0:List Nat) (w0:World) (R:List ax) (e:Ending) (w':World):Prop:=
 ∃ pv,e=.returned (.tuple #[.agg (aC r.1 pv).toArray,.bool r.2.1])∧In F0 w0 w' (gq pv r.1.au::iY br r.2.2::R)
theorem Rq (v:Int) (h:In F0 w0 w (iY br s::R)):Calls Tryz.prog 223 #[pR br,.int .i64 1,.int .i64 v] w (kL (fQ 1 v s) br F0 w0 R):=by
 have Pw:∀ (fn:Fn) (first cap:Array Value) (w:World),(Instr.makeFunc fn first cap).run Tryz.prog w=.ok (.func fn first cap) w:=fun _ _ _ _=>rfl
 have h2:In F0 w0 ((w.alloc (.cells (aC aM (.slice none 0 0)).toArray 59)).alloc (.cells (aC ⟨1,aQ,0,[],0,0,0⟩ (.slice none 0 0)).toArray 59)) (iY br s::Cells (w.heap.size+1) (aC ⟨1,aQ,0,[],0,0,0⟩ (.slice none 0 0)).toArray 59::Cells w.heap.size (aC aM (.slice none 0 0)).toArray 59::R):=by
  have h2:=(h.cells (aC aM (.slice none 0 0)).toArray 59).cells (aC ⟨1,aQ,0,[],0,0,0⟩ (.slice none 0 0)).toArray 59
  simp only [World.size_alloc] at h2
  exact h2.aL (R1:=[_,_,_]) [2,0,1] (by decide) rfl
 have KF:=Lib.hid (XT v h2)
 have e:fQ 1 v s=(⟨1,(wu v s).1,0,[],0,0,0⟩,(wu v s).2.1,(wu v s).2.2):=rfl
 rw [e]
 generalize wu v s=r at *
 obtain⟨⟨⟨src,dst,proto,ag,ah⟩,bN,aJ,aA⟩,ok,sE⟩:=r
 simp only at *
 have HF:Hid (∀ w' pv,In F0 w0 w' (gq pv []::iY br sE::R)→kL (⟨1,⟨⟨src,dst,proto,ag,ah⟩,bN,aJ,aA⟩,0,[],0,0,0⟩,ok,sE) br F0 w0 R (.returned (.tuple #[.agg (aC ⟨1,⟨⟨src,dst,proto,ag,ah⟩,bN,aJ,aA⟩,0,[],0,0,0⟩ pv).toArray,.bool ok])) w'):=Lib.hid fun w' pv h'=>⟨pv,rfl,h'⟩
 clear e h h2
 go_enter Tryz.func223,Tryz.ntmps223
 go_wp2_with fail
 refine KF.out.mono ?_
 rintro e w2 ⟨rfl,g2⟩
 simp only at g2
 obtain⟨e0,e1,e2,e3,e4,e5,e6,e7,e8,e9,e10,e11,e12,e13,ef⟩:=jr (y:=⟨1,aQ,0,[],0,0,0⟩) (pv:=.slice none 0 0) (g2.block 1 rfl)
 simp only [aQ,eO] at e0 e1 e2 e3 e4 e5 e6 e7 e8 e9 e10 e11 e12 e13
 have g3:In F0 w0 (((((((((w2.setCell ⟨w.heap.size+1,1,none⟩ (.int .u32 src)).setCell ⟨w.heap.size+1,2,none⟩ (.int .u32 dst)).setCell ⟨w.heap.size+1,3,none⟩ (.int .i64 proto)).setCell ⟨w.heap.size+1,4,none⟩ (.int .i64 ag)).setCell ⟨w.heap.size+1,5,none⟩ (.int .i64 ah)).setCell ⟨w.heap.size+1,6,none⟩ (.int .i64 bN)).setCell ⟨w.heap.size+1,7,none⟩ (.int .i64 aJ)).setCell ⟨w.heap.size+1,8,none⟩ (.int .i64 aA))) (gq (.slice none 0 0) []::Cells (w.heap.size+1) (aC ⟨1,⟨⟨src,dst,proto,ag,ah⟩,bN,aJ,aA⟩,0,[],0,0,0⟩ (.slice none 0 0)).toArray 59::Cells w.heap.size (aC aM (.slice none 0 0)).toArray 59::iY br sE::R):=by
  have h9:=In.ku [.int .u32 src,.int .u32 dst,.int .i64 proto,.int .i64 ag,.int .i64 ah,.int .i64 bN,.int .i64 aJ,.int .i64 aA] 1 1 g2 (b:=w.heap.size+1) (C:=(aC ⟨1,aQ,0,[],0,0,0⟩ (.slice none 0 0)).toArray) (T:=59) rfl
  rw [jc (ys:=aC ⟨1,⟨⟨src,dst,proto,ag,ah⟩,bN,aJ,aA⟩,0,[],0,0,0⟩ (.slice none 0 0)) (by simp) (by simp [aQ,eO])] at h9
  exact (h9.dz 103 3).aL (R1:=[_,_,_,_]) [0,2,3,1] (by decide) rfl
 clear g2 KF
 obtain⟨p0,p1,p2,p3,p4,p5,p6,p7,p8,p9,Rs,Rt,Ru,Rv,-⟩:=jr (g3.block 1 rfl)
 obtain⟨z0,z1,z2,z3,z4,z5,z6,z7,z8,z9,Rw,Rx,z12,Ry,zf⟩:=jr (g3.block 2 rfl)
 simp only at p0 p1 p2 p3 p4 p5 p6 p7 p8 p9 Rs Rt Ru Rv
 simp only [aM,aQ,eO] at z0 z1 z2 z3 z4 z5 z6 z7 z8 z9 Rw Rx z12 Ry
 obtain⟨-,q3,q4⟩:=mQ g3 rfl
 have Q3:=Lib.hid q3
 have Q4:=Lib.hid (HF.out _ _ q4)
 clear g3 q3 q4 HF
 go_wp2_with fail
 exact bodyPost_ret (aP Tryz.results223 _ _ w.heap.size 59 _ (0,0) _ rfl Q3.out Tryz.underlying59 rfl (by kernel_rfl)) rfl Q4.out
theorem Rz (v:Int) (h:In F0 w0 w (iY br s::R)):Calls Tryz.prog 223 #[pR br,.int .i64 2,.int .i64 v] w (kL (fQ 2 v s) br F0 w0 R):=by
 have Pw:∀ (fn:Fn) (first cap:Array Value) (w:World),(Instr.makeFunc fn first cap).run Tryz.prog w=.ok (.func fn first cap) w:=fun _ _ _ _=>rfl
 have h2:In F0 w0 ((w.alloc (.cells (aC aM (.slice none 0 0)).toArray 59)).alloc (.cells (aC ⟨2,aQ,0,[],0,0,0⟩ (.slice none 0 0)).toArray 59)) (iY br s::Cells (w.heap.size+1) (aC ⟨2,aQ,0,[],0,0,0⟩ (.slice none 0 0)).toArray 59::Cells w.heap.size (aC aM (.slice none 0 0)).toArray 59::R):=by
  have h2:=(h.cells (aC aM (.slice none 0 0)).toArray 59).cells (aC ⟨2,aQ,0,[],0,0,0⟩ (.slice none 0 0)).toArray 59
  simp only [World.size_alloc] at h2
  exact h2.aL (R1:=[_,_,_]) [2,0,1] (by decide) rfl
 have KF:=Lib.hid (ME h2)
 have e:fQ 2 v s=(⟨2,⟨(jV s).1,0,0,0⟩,0,[],0,0,0⟩,(jV s).2.1,(jV s).2.2):=rfl
 rw [e]
 generalize jV s=r at *
 obtain⟨⟨src,dst,proto,ag,ah⟩,ok,sE⟩:=r
 simp only at *
 have HF:Hid (∀ w' pv,In F0 w0 w' (gq pv []::iY br sE::R)→kL (⟨2,⟨⟨src,dst,proto,ag,ah⟩,0,0,0⟩,0,[],0,0,0⟩,ok,sE) br F0 w0 R (.returned (.tuple #[.agg (aC ⟨2,⟨⟨src,dst,proto,ag,ah⟩,0,0,0⟩,0,[],0,0,0⟩ pv).toArray,.bool ok])) w'):=Lib.hid fun w' pv h'=>⟨pv,rfl,h'⟩
 clear e h h2
 go_enter Tryz.func223,Tryz.ntmps223
 go_wp2_with fail
 refine KF.out.mono ?_
 rintro e w2 ⟨rfl,g2⟩
 simp only at g2
 obtain⟨e0,e1,e2,e3,e4,e5,e6,e7,e8,e9,e10,e11,e12,e13,ef⟩:=jr (y:=⟨2,aQ,0,[],0,0,0⟩) (pv:=.slice none 0 0) (g2.block 1 rfl)
 simp only [aQ,eO] at e0 e1 e2 e3 e4 e5 e6 e7 e8 e9 e10 e11 e12 e13
 have g3:In F0 w0 ((((((w2.setCell ⟨w.heap.size+1,1,none⟩ (.int .u32 src)).setCell ⟨w.heap.size+1,2,none⟩ (.int .u32 dst)).setCell ⟨w.heap.size+1,3,none⟩ (.int .i64 proto)).setCell ⟨w.heap.size+1,4,none⟩ (.int .i64 ag)).setCell ⟨w.heap.size+1,5,none⟩ (.int .i64 ah))) (gq (.slice none 0 0) []::Cells (w.heap.size+1) (aC ⟨2,⟨⟨src,dst,proto,ag,ah⟩,0,0,0⟩,0,[],0,0,0⟩ (.slice none 0 0)).toArray 59::Cells w.heap.size (aC aM (.slice none 0 0)).toArray 59::iY br sE::R):=by
  have h9:=In.ku [.int .u32 src,.int .u32 dst,.int .i64 proto,.int .i64 ag,.int .i64 ah] 1 1 g2 (b:=w.heap.size+1) (C:=(aC ⟨2,aQ,0,[],0,0,0⟩ (.slice none 0 0)).toArray) (T:=59) rfl
  rw [jc (ys:=aC ⟨2,⟨⟨src,dst,proto,ag,ah⟩,0,0,0⟩,0,[],0,0,0⟩ (.slice none 0 0)) (by simp) (by simp [aQ,eO])] at h9
  exact (h9.dz 103 3).aL (R1:=[_,_,_,_]) [0,2,3,1] (by decide) rfl
 clear g2 KF
 obtain⟨p0,p1,p2,p3,p4,p5,p6,p7,p8,p9,Rs,Rt,Ru,Rv,-⟩:=jr (g3.block 1 rfl)
 obtain⟨z0,z1,z2,z3,z4,z5,z6,z7,z8,z9,Rw,Rx,z12,Ry,zf⟩:=jr (g3.block 2 rfl)
 simp only at p0 p1 p2 p3 p4 p5 p6 p7 p8 p9 Rs Rt Ru Rv
 simp only [aM,aQ,eO] at z0 z1 z2 z3 z4 z5 z6 z7 z8 z9 Rw Rx z12 Ry
 obtain⟨-,q3,q4⟩:=mQ g3 rfl
 have Q3:=Lib.hid q3
 have Q4:=Lib.hid (HF.out _ _ q4)
 clear g3 q3 q4 HF
 go_wp2_with fail
 exact bodyPost_ret (aP Tryz.results223 _ _ w.heap.size 59 _ (0,0) _ rfl Q3.out Tryz.underlying59 rfl (by kernel_rfl)) rfl Q4.out
end
section
variable {F0:List Nat} {w0 w:World} {R:List ax} {br:Nat} {s:pq}
theorem MK (k:Nat) (s:pq) (hk:k≤4):IntKind.i64.wrap ((kR k s:Nat):Int)=((kR k s:Nat):Int):=by
 have:kR k s < 256 ^ k:=gJ (k:=k) (fE _ _ _)
 have h2:256 ^ k≤256 ^ 4:=Nat.pow_le_pow_right (by decide) hk
 have h3:(256:Nat) ^ 4=4294967296:=rfl
 exact IntWalk.i64_in _ (by omega)
theorem RA (v:Int) (h:In F0 w0 w (iY br s::R)):Calls Tryz.prog 223 #[pR br,.int .i64 5,.int .i64 v] w (kL (fQ 5 v s) br F0 w0 R):=by
 have Pw:∀ (fn:Fn) (first cap:Array Value) (w:World),(Instr.makeFunc fn first cap).run Tryz.prog w=.ok (.func fn first cap) w:=fun _ _ _ _=>rfl
 have h2:In F0 w0 ((w.alloc (.cells (aC aM (.slice none 0 0)).toArray 59)).alloc (.cells (aC ⟨5,aQ,0,[],0,0,0⟩ (.slice none 0 0)).toArray 59)) (iY br s::Cells (w.heap.size+1) (aC ⟨5,aQ,0,[],0,0,0⟩ (.slice none 0 0)).toArray 59::Cells w.heap.size (aC aM (.slice none 0 0)).toArray 59::R):=by
  have h2:=(h.cells (aC aM (.slice none 0 0)).toArray 59).cells (aC ⟨5,aQ,0,[],0,0,0⟩ (.slice none 0 0)).toArray 59
  simp only [World.size_alloc] at h2
  exact h2.aL (R1:=[_,_,_]) [2,0,1] (by decide) rfl
 have KA:=Dv h2
 have e:fQ 5 v s=(⟨5,aQ,0,[],kR 2 s,0,0⟩,true,gK 2 s):=rfl
 rw [e]
 generalize ((kR 2 s:Nat):Int)=a1 at *
 generalize gK 2 s=s1 at *
 have KF:=Lib.hid KA
 have HF:Hid (∀ w' pv,In F0 w0 w' (gq pv []::iY br s1::R)→kL (⟨5,aQ,0,[],a1,0,0⟩,true,s1) br F0 w0 R (.returned (.tuple #[.agg (aC ⟨5,aQ,0,[],a1,0,0⟩ pv).toArray,.bool true])) w'):=Lib.hid fun w' pv h'=>⟨pv,rfl,h'⟩
 clear e h h2 KA
 go_enter Tryz.func223,Tryz.ntmps223
 go_wp2_with fail
 refine KF.out.mono ?_
 rintro e w2 ⟨rfl,g2⟩
 obtain⟨e0,e1,e2,e3,e4,e5,e6,e7,e8,e9,e10,e11,e12,e13,ef⟩:=jr (y:=⟨5,aQ,0,[],0,0,0⟩) (pv:=.slice none 0 0) (g2.block 1 rfl)
 have g3:In F0 w0 (w2.setCell ⟨w.heap.size+1,11,none⟩ (.int .i64 a1)) (iY br s1::Cells (w.heap.size+1) (aC ⟨5,aQ,0,[],a1,0,0⟩ (.slice none 0 0)).toArray 59::Cells w.heap.size (aC aM (.slice none 0 0)).toArray 59::R):=by
  have h9:=In.ku [.int .i64 a1] 11 1 g2 (b:=w.heap.size+1) (C:=(aC ⟨5,aQ,0,[],0,0,0⟩ (.slice none 0 0)).toArray) (T:=59) rfl
  rw [jc (ys:=aC ⟨5,aQ,0,[],a1,0,0⟩ (.slice none 0 0)) (by simp) (by simp [aQ,eO])] at h9
  exact h9
 have g4:In F0 w0 (w2.setCell ⟨w.heap.size+1,11,none⟩ (.int .i64 a1)) (gq (.slice none 0 0) []::Cells (w.heap.size+1) (aC ⟨5,aQ,0,[],a1,0,0⟩ (.slice none 0 0)).toArray 59::Cells w.heap.size (aC aM (.slice none 0 0)).toArray 59::iY br s1::R):=(g3.dz 103 3).aL (R1:=[_,_,_,_]) [0,2,3,1] (by decide) rfl
 clear g2 g3 KF
 obtain⟨p0,p1,p2,p3,p4,p5,p6,p7,p8,p9,Rs,Rt,Ru,Rv,-⟩:=jr (g4.block 1 rfl)
 obtain⟨z0,z1,z2,z3,z4,z5,z6,z7,z8,z9,Rw,Rx,z12,Ry,zf⟩:=jr (g4.block 2 rfl)
 simp only at p0 p1 p2 p3 p4 p5 p6 p7 p8 p9 Rs Rt Ru Rv
 simp only [aQ,eO] at p1 p2 p3 p4 p5 p6 p7 p8
 simp only [aM,aQ,eO] at z0 z1 z2 z3 z4 z5 z6 z7 z8 z9 Rw Rx z12 Ry
 obtain⟨-,q3,q4⟩:=mQ g4 rfl
 have Q3:=Lib.hid q3
 have Q4:=Lib.hid (HF.out _ _ q4)
 clear g4 q3 q4 HF
 go_wp2_with fail
 exact bodyPost_ret (aP Tryz.results223 _ _ w.heap.size 59 _ (0,0) _ rfl Q3.out Tryz.underlying59 rfl (by kernel_rfl)) rfl Q4.out
theorem RD (v:Int) (h:In F0 w0 w (iY br s::R)):Calls Tryz.prog 223 #[pR br,.int .i64 6,.int .i64 v] w (kL (fQ 6 v s) br F0 w0 R):=by
 have Pw:∀ (fn:Fn) (first cap:Array Value) (w:World),(Instr.makeFunc fn first cap).run Tryz.prog w=.ok (.func fn first cap) w:=fun _ _ _ _=>rfl
 have h2:In F0 w0 ((w.alloc (.cells (aC aM (.slice none 0 0)).toArray 59)).alloc (.cells (aC ⟨6,aQ,0,[],0,0,0⟩ (.slice none 0 0)).toArray 59)) (iY br s::Cells (w.heap.size+1) (aC ⟨6,aQ,0,[],0,0,0⟩ (.slice none 0 0)).toArray 59::Cells w.heap.size (aC aM (.slice none 0 0)).toArray 59::R):=by
  have h2:=(h.cells (aC aM (.slice none 0 0)).toArray 59).cells (aC ⟨6,aQ,0,[],0,0,0⟩ (.slice none 0 0)).toArray 59
  simp only [World.size_alloc] at h2
  exact h2.aL (R1:=[_,_,_]) [2,0,1] (by decide) rfl
 have KA:=Dw h2
 have hw:=MK 4 s (by decide)
 have e:fQ 6 v s=(⟨6,aQ,0,[],0,0,kR 4 s⟩,true,gK 4 s):=rfl
 rw [e]
 generalize ((kR 4 s:Nat):Int)=a1 at *
 generalize gK 4 s=s1 at *
 have KF:=Lib.hid KA
 have HF:Hid (∀ w' pv,In F0 w0 w' (gq pv []::iY br s1::R)→kL (⟨6,aQ,0,[],0,0,a1⟩,true,s1) br F0 w0 R (.returned (.tuple #[.agg (aC ⟨6,aQ,0,[],0,0,a1⟩ pv).toArray,.bool true])) w'):=Lib.hid fun w' pv h'=>⟨pv,rfl,h'⟩
 clear e h h2 KA
 go_enter Tryz.func223,Tryz.ntmps223
 go_wp2_with fail
 refine KF.out.mono ?_
 rintro e w2 ⟨rfl,g2⟩
 obtain⟨e0,e1,e2,e3,e4,e5,e6,e7,e8,e9,e10,e11,e12,e13,ef⟩:=jr (y:=⟨6,aQ,0,[],0,0,0⟩) (pv:=.slice none 0 0) (g2.block 1 rfl)
 have g3:In F0 w0 (w2.setCell ⟨w.heap.size+1,13,none⟩ (.int .i64 a1)) (iY br s1::Cells (w.heap.size+1) (aC ⟨6,aQ,0,[],0,0,a1⟩ (.slice none 0 0)).toArray 59::Cells w.heap.size (aC aM (.slice none 0 0)).toArray 59::R):=by
  have h9:=In.ku [.int .i64 a1] 13 1 g2 (b:=w.heap.size+1) (C:=(aC ⟨6,aQ,0,[],0,0,0⟩ (.slice none 0 0)).toArray) (T:=59) rfl
  rw [jc (ys:=aC ⟨6,aQ,0,[],0,0,a1⟩ (.slice none 0 0)) (by simp) (by simp [aQ,eO])] at h9
  exact h9
 have g4:In F0 w0 (w2.setCell ⟨w.heap.size+1,13,none⟩ (.int .i64 a1)) (gq (.slice none 0 0) []::Cells (w.heap.size+1) (aC ⟨6,aQ,0,[],0,0,a1⟩ (.slice none 0 0)).toArray 59::Cells w.heap.size (aC aM (.slice none 0 0)).toArray 59::iY br s1::R):=(g3.dz 103 3).aL (R1:=[_,_,_,_]) [0,2,3,1] (by decide) rfl
 clear g2 g3 KF
 obtain⟨p0,p1,p2,p3,p4,p5,p6,p7,p8,p9,Rs,Rt,Ru,Rv,-⟩:=jr (g4.block 1 rfl)
 obtain⟨z0,z1,z2,z3,z4,z5,z6,z7,z8,z9,Rw,Rx,z12,Ry,zf⟩:=jr (g4.block 2 rfl)
 simp only at p0 p1 p2 p3 p4 p5 p6 p7 p8 p9 Rs Rt Ru Rv
 simp only [aQ,eO] at p1 p2 p3 p4 p5 p6 p7 p8
 simp only [aM,aQ,eO] at z0 z1 z2 z3 z4 z5 z6 z7 z8 z9 Rw Rx z12 Ry
 obtain⟨-,q3,q4⟩:=mQ g4 rfl
 have Q3:=Lib.hid q3
 have Q4:=Lib.hid (HF.out _ _ q4)
 clear g4 q3 q4 HF
 go_wp2_with fail
 exact bodyPost_ret (aP Tryz.results223 _ _ w.heap.size 59 _ (0,0) _ rfl Q3.out Tryz.underlying59 rfl (by kernel_rfl)) rfl Q4.out
theorem RF (v:Int) (h:In F0 w0 w (iY br s::R)):Calls Tryz.prog 223 #[pR br,.int .i64 4,.int .i64 v] w (kL (fQ 4 v s) br F0 w0 R):=by
 have Pw:∀ (fn:Fn) (first cap:Array Value) (w:World),(Instr.makeFunc fn first cap).run Tryz.prog w=.ok (.func fn first cap) w:=fun _ _ _ _=>rfl
 have h2:In F0 w0 ((w.alloc (.cells (aC aM (.slice none 0 0)).toArray 59)).alloc (.cells (aC ⟨4,aQ,0,[],0,0,0⟩ (.slice none 0 0)).toArray 59)) (iY br s::Cells (w.heap.size+1) (aC ⟨4,aQ,0,[],0,0,0⟩ (.slice none 0 0)).toArray 59::Cells w.heap.size (aC aM (.slice none 0 0)).toArray 59::R):=by
  have h2:=(h.cells (aC aM (.slice none 0 0)).toArray 59).cells (aC ⟨4,aQ,0,[],0,0,0⟩ (.slice none 0 0)).toArray 59
  simp only [World.size_alloc] at h2
  exact h2.aL (R1:=[_,_,_]) [2,0,1] (by decide) rfl
 have KA:=Dv h2
 have e:fQ 4 v s=(⟨4,aQ,0,[],kR 2 s,rT (kR 8 (gK 2 s)),0⟩,true,gK 8 (gK 2 s)):=rfl
 rw [e]
 generalize ((kR 2 s:Nat):Int)=a1 at *
 generalize gK 2 s=s1 at *
 obtain⟨a2,ha2⟩:∃ x:Int,x=rT (kR 8 s1):=⟨_,rfl⟩
 obtain⟨s2,hs2⟩:∃ x,x=gK 8 s1:=⟨_,rfl⟩
 have KB:Hid (∀ w' R',In F0 w0 w' (iY br s1::R')→Calls Tryz.prog 261 #[pR br] w' (jA (.int .i64 a2) br s2 F0 w0 R')):=Lib.hid fun w' R' h'=>by rw [ha2,hs2];exact Wx h'
 rw [← ha2,← hs2]
 have KF:=Lib.hid KA
 have HF:Hid (∀ w' pv,In F0 w0 w' (gq pv []::iY br s2::R)→kL (⟨4,aQ,0,[],a1,a2,0⟩,true,s2) br F0 w0 R (.returned (.tuple #[.agg (aC ⟨4,aQ,0,[],a1,a2,0⟩ pv).toArray,.bool true])) w'):=Lib.hid fun w' pv h'=>⟨pv,rfl,h'⟩
 clear e h h2 KA ha2 hs2
 go_enter Tryz.func223,Tryz.ntmps223
 go_wp2_with fail
 refine KF.out.mono ?_
 rintro e w2 ⟨rfl,g2⟩
 obtain⟨e0,e1,e2,e3,e4,e5,e6,e7,e8,e9,e10,e11,e12,e13,ef⟩:=jr (y:=⟨4,aQ,0,[],0,0,0⟩) (pv:=.slice none 0 0) (g2.block 1 rfl)
 have g3:In F0 w0 (w2.setCell ⟨w.heap.size+1,11,none⟩ (.int .i64 a1)) (iY br s1::Cells (w.heap.size+1) (aC ⟨4,aQ,0,[],a1,0,0⟩ (.slice none 0 0)).toArray 59::Cells w.heap.size (aC aM (.slice none 0 0)).toArray 59::R):=by
  have h9:=In.ku [.int .i64 a1] 11 1 g2 (b:=w.heap.size+1) (C:=(aC ⟨4,aQ,0,[],0,0,0⟩ (.slice none 0 0)).toArray) (T:=59) rfl
  rw [jc (ys:=aC ⟨4,aQ,0,[],a1,0,0⟩ (.slice none 0 0)) (by simp) (by simp [aQ,eO])] at h9
  exact h9
 have KC:=Lib.hid (KB.out _ _ g3)
 clear g2 g3 KF KB
 go_wp2_with fail
 refine KC.out.mono ?_
 rintro e w3 ⟨rfl,g4⟩
 clear e0 e1 e2 e3 e4 e5 e6 e7 e8 e9 e10 e11 e12 e13 ef
 obtain⟨e0,e1,e2,e3,e4,e5,e6,e7,e8,e9,e10,e11,e12,e13,ef⟩:=jr (y:=⟨4,aQ,0,[],a1,0,0⟩) (pv:=.slice none 0 0) (g4.block 1 rfl)
 have g5:In F0 w0 (w3.setCell ⟨w.heap.size+1,12,none⟩ (.int .i64 a2)) (iY br s2::Cells (w.heap.size+1) (aC ⟨4,aQ,0,[],a1,a2,0⟩ (.slice none 0 0)).toArray 59::Cells w.heap.size (aC aM (.slice none 0 0)).toArray 59::R):=by
  have h9:=In.ku [.int .i64 a2] 12 1 g4 (b:=w.heap.size+1) (C:=(aC ⟨4,aQ,0,[],a1,0,0⟩ (.slice none 0 0)).toArray) (T:=59) rfl
  rw [jc (ys:=aC ⟨4,aQ,0,[],a1,a2,0⟩ (.slice none 0 0)) (by simp) (by simp [aQ,eO])] at h9
  exact h9
 have g6:In F0 w0 (w3.setCell ⟨w.heap.size+1,12,none⟩ (.int .i64 a2)) (gq (.slice none 0 0) []::Cells (w.heap.size+1) (aC ⟨4,aQ,0,[],a1,a2,0⟩ (.slice none 0 0)).toArray 59::Cells w.heap.size (aC aM (.slice none 0 0)).toArray 59::iY br s2::R):=(g5.dz 103 3).aL (R1:=[_,_,_,_]) [0,2,3,1] (by decide) rfl
 clear g4 g5 KC
 obtain⟨p0,p1,p2,p3,p4,p5,p6,p7,p8,p9,Rs,Rt,Ru,Rv,-⟩:=jr (g6.block 1 rfl)
 obtain⟨z0,z1,z2,z3,z4,z5,z6,z7,z8,z9,Rw,Rx,z12,Ry,zf⟩:=jr (g6.block 2 rfl)
 simp only at p0 p1 p2 p3 p4 p5 p6 p7 p8 p9 Rs Rt Ru Rv
 simp only [aQ,eO] at p1 p2 p3 p4 p5 p6 p7 p8
 simp only [aM,aQ,eO] at z0 z1 z2 z3 z4 z5 z6 z7 z8 z9 Rw Rx z12 Ry
 obtain⟨-,q3,q4⟩:=mQ g6 rfl
 have Q3:=Lib.hid q3
 have Q4:=Lib.hid (HF.out _ _ q4)
 clear g6 q3 q4 HF
 go_wp2_with fail
 exact bodyPost_ret (aP Tryz.results223 _ _ w.heap.size 59 _ (0,0) _ rfl Q3.out Tryz.underlying59 rfl (by kernel_rfl)) rfl Q4.out
theorem RG (v:Int) (h:In F0 w0 w (iY br s::R)):Calls Tryz.prog 223 #[pR br,.int .i64 3,.int .i64 v] w (kL (fQ 3 v s) br F0 w0 R):=by
 have Pw:∀ (fn:Fn) (first cap:Array Value) (w:World),(Instr.makeFunc fn first cap).run Tryz.prog w=.ok (.func fn first cap) w:=fun _ _ _ _=>rfl
 have h2:In F0 w0 ((w.alloc (.cells (aC aM (.slice none 0 0)).toArray 59)).alloc (.cells (aC ⟨3,aQ,0,[],0,0,0⟩ (.slice none 0 0)).toArray 59)) (iY br s::Cells (w.heap.size+1) (aC ⟨3,aQ,0,[],0,0,0⟩ (.slice none 0 0)).toArray 59::Cells w.heap.size (aC aM (.slice none 0 0)).toArray 59::R):=by
  have h2:=(h.cells (aC aM (.slice none 0 0)).toArray 59).cells (aC ⟨3,aQ,0,[],0,0,0⟩ (.slice none 0 0)).toArray 59
  simp only [World.size_alloc] at h2
  exact h2.aL (R1:=[_,_,_]) [2,0,1] (by decide) rfl
 have KA:=Dw h2
 have hw:=MK 4 s (by decide)
 have e:fQ 3 v s=(⟨3,aQ,kR 4 s,(rdBks v (min (kR 1 (gK 4 s)) 17) (gK 1 (gK 4 s))).1,0,0,0⟩,true,(rdBks v (min (kR 1 (gK 4 s)) 17) (gK 1 (gK 4 s))).2):=rfl
 rw [e]
 generalize ((kR 4 s:Nat):Int)=a1 at *
 generalize gK 4 s=s1 at *
 have KB0:∀ w' R',In F0 w0 w' (iY br s1::R')→Calls Tryz.prog 260 #[pR br,.int .i64 v] w' (KZ v (min (kR 1 s1) 17) (gK 1 s1) br F0 w0 R'):=fun w' R' h'=>UO v h'
 unfold KZ at KB0
 generalize rdBks v (min (kR 1 s1) 17) (gK 1 s1)=r at *
 obtain⟨l,s2⟩:=r
 simp only at *
 have KB:=Lib.hid KB0
 have KF:=Lib.hid KA
 have HF:Hid (∀ w' pv,In F0 w0 w' (gq pv l::iY br s2::R)→kL (⟨3,aQ,a1,l,0,0,0⟩,true,s2) br F0 w0 R (.returned (.tuple #[.agg (aC ⟨3,aQ,a1,l,0,0,0⟩ pv).toArray,.bool true])) w'):=Lib.hid fun w' pv h'=>⟨pv,rfl,h'⟩
 clear e h h2 KA KB0
 go_enter Tryz.func223,Tryz.ntmps223
 go_wp2_with fail
 refine KF.out.mono ?_
 rintro e w2 ⟨rfl,g2⟩
 obtain⟨e0,e1,e2,e3,e4,e5,e6,e7,e8,e9,e10,e11,e12,e13,ef⟩:=jr (y:=⟨3,aQ,0,[],0,0,0⟩) (pv:=.slice none 0 0) (g2.block 1 rfl)
 have g3:In F0 w0 (w2.setCell ⟨w.heap.size+1,9,none⟩ (.int .i64 a1)) (iY br s1::Cells (w.heap.size+1) (aC ⟨3,aQ,a1,[],0,0,0⟩ (.slice none 0 0)).toArray 59::Cells w.heap.size (aC aM (.slice none 0 0)).toArray 59::R):=by
  have h9:=In.ku [.int .i64 a1] 9 1 g2 (b:=w.heap.size+1) (C:=(aC ⟨3,aQ,0,[],0,0,0⟩ (.slice none 0 0)).toArray) (T:=59) rfl
  rw [jc (ys:=aC ⟨3,aQ,a1,[],0,0,0⟩ (.slice none 0 0)) (by simp) (by simp [aQ,eO])] at h9
  exact h9
 have KC:=Lib.hid (KB.out _ _ g3)
 clear g2 g3 KF KB
 go_wp2_with fail
 refine KC.out.mono ?_
 rintro e w3 ⟨pv,rfl,g4⟩
 obtain⟨Fv,rv⟩:=g4.get 1 rfl
 obtain⟨pa,pc,rfl,-,-,-⟩:=ay.shape rv
 clear rv e0 e1 e2 e3 e4 e5 e6 e7 e8 e9 e10 e11 e12 e13 ef
 obtain⟨e0,e1,e2,e3,e4,e5,e6,e7,e8,e9,e10,e11,e12,e13,ef⟩:=jr (y:=⟨3,aQ,a1,[],0,0,0⟩) (pv:=.slice none 0 0) (g4.block 2 rfl)
 have g5:In F0 w0 (w3.setCell ⟨w.heap.size+1,10,none⟩ (.slice pa l.length pc)) (gq (.slice pa l.length pc) l::Cells (w.heap.size+1) (aC ⟨3,aQ,a1,l,0,0,0⟩ (.slice pa l.length pc)).toArray 59::Cells w.heap.size (aC aM (.slice none 0 0)).toArray 59::iY br s2::R):=by
  have h9:=In.ku [.slice pa l.length pc] 10 2 g4 (b:=w.heap.size+1) (C:=(aC ⟨3,aQ,a1,[],0,0,0⟩ (.slice none 0 0)).toArray) (T:=59) rfl
  rw [jc (ys:=aC ⟨3,aQ,a1,l,0,0,0⟩ (.slice pa l.length pc)) (by simp) (by simp [aQ,eO])] at h9
  exact h9.aL (R1:=[_,_,_,_]) [1,2,3,0] (by decide) rfl
 clear g4 KC
 obtain⟨p0,p1,p2,p3,p4,p5,p6,p7,p8,p9,Rs,Rt,Ru,Rv,-⟩:=jr (g5.block 1 rfl)
 obtain⟨z0,z1,z2,z3,z4,z5,z6,z7,z8,z9,Rw,Rx,z12,Ry,zf⟩:=jr (g5.block 2 rfl)
 simp only at p0 p1 p2 p3 p4 p5 p6 p7 p8 p9 Rs Rt Ru Rv
 simp only [aQ,eO] at p1 p2 p3 p4 p5 p6 p7 p8
 simp only [aM,aQ,eO] at z0 z1 z2 z3 z4 z5 z6 z7 z8 z9 Rw Rx z12 Ry
 obtain⟨-,q3,q4⟩:=mQ g5 rfl
 have Q3:=Lib.hid q3
 have Q4:=Lib.hid (HF.out _ _ q4)
 clear g5 q3 q4 HF
 go_wp2_with fail
 exact bodyPost_ret (aP Tryz.results223 _ _ w.heap.size 59 _ (0,0) _ rfl Q3.out Tryz.underlying59 rfl (by kernel_rfl)) rfl Q4.out
theorem RH {k:Int} (n1:k≠1) (n2:k≠2) (n3:k≠3) (n4:k≠4) (n5:k≠5) (n6:k≠6) (v:Int) (h:In F0 w0 w (iY br s::R)):Calls Tryz.prog 223 #[pR br,.int .i64 k,.int .i64 v] w (kL (fQ k v s) br F0 w0 R):=by
 have Pw:∀ (fn:Fn) (first cap:Array Value) (w:World),(Instr.makeFunc fn first cap).run Tryz.prog w=.ok (.func fn first cap) w:=fun _ _ _ _=>rfl
 have h2:In F0 w0 ((w.alloc (.cells (aC aM (.slice none 0 0)).toArray 59)).alloc (.cells (aC ⟨k,aQ,0,[],0,0,0⟩ (.slice none 0 0)).toArray 59)) (iY br s::Cells (w.heap.size+1) (aC ⟨k,aQ,0,[],0,0,0⟩ (.slice none 0 0)).toArray 59::Cells w.heap.size (aC aM (.slice none 0 0)).toArray 59::R):=by
  have h2:=(h.cells (aC aM (.slice none 0 0)).toArray 59).cells (aC ⟨k,aQ,0,[],0,0,0⟩ (.slice none 0 0)).toArray 59
  simp only [World.size_alloc] at h2
  exact h2.aL (R1:=[_,_,_]) [2,0,1] (by decide) rfl
 have e:fQ k v s=(⟨k,aQ,0,[],0,0,0⟩,true,s):=by unfold fQ;rw [if_neg n1,if_neg n2,if_neg n3,if_neg n4,if_neg n5,if_neg n6]
 rw [e]
 have q1:(k == 1)=false:=beq_eq_false_iff_ne.2 n1
 have q2:(k == 2)=false:=beq_eq_false_iff_ne.2 n2
 have q3:(k == 3)=false:=beq_eq_false_iff_ne.2 n3
 have q4:(k == 4)=false:=beq_eq_false_iff_ne.2 n4
 have q5:(k == 5)=false:=beq_eq_false_iff_ne.2 n5
 have q6:(k == 6)=false:=beq_eq_false_iff_ne.2 n6
 have HH:Hid (∀ o o2,In F0 w0 ((w.alloc o).alloc o2) (gq (.slice none 0 0) []::iY br s::R)):=Lib.hid fun o o2=>((h.alloc o).alloc o2).dz _ _
 clear e h h2 n1 n2 n3 n4 n5 n6
 go_enter Tryz.func223,Tryz.ntmps223
 go_wp2_with fail
 exact bodyPost_ret (aP Tryz.results223 _ _ w.heap.size 59 _ (0,0) _ rfl (heap_alloc2_old _ _ _) Tryz.underlying59 rfl (by kernel_rfl)) rfl ⟨.slice none 0 0,rfl,HH.out _ _⟩
theorem UR (k v:Int) (h:In F0 w0 w (iY br s::R)):Calls Tryz.prog 223 #[pR br,.int .i64 k,.int .i64 v] w (kL (fQ k v s) br F0 w0 R):=by
 by_cases n1:k=1
 ·subst n1;exact Rq v h
 by_cases n2:k=2
 ·subst n2;exact Rz v h
 by_cases n3:k=3
 ·subst n3;exact RG v h
 by_cases n4:k=4
 ·subst n4;exact RF v h
 by_cases n5:k=5
 ·subst n5;exact RA v h
 by_cases n6:k=6
 ·subst n6;exact RD v h
 ·exact RH n1 n2 n3 n4 n5 n6 v h
end
theorem iR (n:Nat) (s:pq):(gK n s).1.length≤s.1.length:=by
 unfold gK aU
 split
 ·exact Nat.le_refl _
 ·split
  ·simp
  ·simp only [List.length_drop];omega
theorem II (s:pq):(jV s).2.2.1.length≤s.1.length:=by
 have h:(gK 2 (gK 2 (gK 1 (gK 4 (gK 4 s))))).1.length≤s.1.length:=Nat.le_trans (iR _ _) (Nat.le_trans (iR _ _) (Nat.le_trans (iR _ _) (Nat.le_trans (iR _ _) (iR _ _))))
 unfold jV
 split
 ·exact iR _ _
 ·split <;> exact h
theorem UT (v:Int) (s:pq):(wu v s).2.2.1.length≤s.1.length:=by
 have h1:=II s
 have h2:=iR 2 (jV s).2.2
 unfold wu;simp only
 split <;> split
 ·exact Nat.le_trans (iR _ _) (Nat.le_trans (iR _ _) (Nat.le_trans h2 h1))
 ·exact Nat.le_trans (iR _ _) (Nat.le_trans h2 h1)
 ·exact Nat.le_trans (iR _ _) (Nat.le_trans h2 h1)
 ·exact Nat.le_trans h2 h1
theorem UU (v:Int) (s:pq):(wy v s).2.1.length≤s.1.length:=by
 have h2:=Nat.le_trans (iR 4 (gK 2 s)) (iR 2 s)
 unfold wy;simp only
 split
 ·exact Nat.le_trans (iR _ _) h2
 ·exact h2
theorem IJ (v:Int):∀ (n:Nat) (s:pq),(rdBks v n s).2.1.length≤s.1.length∧(rdBks v n s).1.length=n
 | 0,s=>⟨Nat.le_refl _,rfl⟩
 | n+1,s=>by
  obtain⟨h1,h2⟩:=IJ v n s
  refine⟨Nat.le_trans (UU _ _) h1,?_⟩
  show ((rdBks v n s).1++[_]).length=n+1
  rw [List.length_append,h2];rfl
theorem RI (k v:Int) (s:pq):(fQ k v s).2.2.1.length≤s.1.length∧(fQ k v s).1.au.length≤17:=by
 unfold fQ
 split
 ·exact⟨UT _ _,Nat.zero_le _⟩
 split
 ·exact⟨II _,Nat.zero_le _⟩
 split
 ·obtain⟨h1,h2⟩:=IJ v (min (kR 1 (gK 4 s)) 17) (gK 1 (gK 4 s))
  simp only
  exact⟨Nat.le_trans h1 (Nat.le_trans (iR _ _) (iR _ _)),by rw [h2];omega⟩
 split
 ·exact⟨Nat.le_trans (iR _ _) (iR _ _),Nat.zero_le _⟩
 split
 ·exact⟨iR _ _,Nat.zero_le _⟩
 split
 ·exact⟨iR _ _,Nat.zero_le _⟩
 ·exact⟨Nat.le_refl _,Nat.zero_le _⟩
section
variable {F0:List Nat} {w0 w:World} {R:List ax}
def RJ (r:Rec×Int) (F0:List Nat) (w0:World) (R:List ax) (e:Ending) (w':World):Prop:=
 ∃ pv,e=.returned (.tuple #[.agg (aC r.1 pv).toArray,.int .i64 r.2])∧In F0 w0 w' (gq pv r.1.au::R)
theorem xh {v:Value} {l:List Bk} {a:Option Addr} {n c:Nat} (hv:v=.slice a n c) (i:Nat) (hA:R[i]?=some (gq v l)):gZ F0 w0 R a l:=by
 intro w' h'
 obtain⟨F,r⟩:=h'.get i hA
 subst hv
 exact r.all
theorem UW {kind ak:Nat} {body:List UInt8} {A:Option Addr} {c:Nat} (hn:A=none→c=0∧body=[]) (hs:∀ w',In F0 w0 w' R→Src w' A body.length 1 (eB body)) (hl:body.length≤100000000) (h:In F0 w0 w R):Calls Tryz.prog 163 #[.agg #[.int .i64 kind,.int .i64 ak,.slice A body.length c]] w (RJ (jy ⟨kind,ak,body⟩) F0 w0 R):=by
 have KV:=Lib.hid (vG ak)
 cases hv:di ak with
 | false=>
  have e:jy ⟨kind,ak,body⟩=(aM,10):=by unfold jy;rw [if_pos hv]
  have HH:Hid (∀ o o2,In F0 w0 ((w.alloc o).alloc o2) (gq (.slice none 0 0) []::R)):=Lib.hid (fun o o2=>((h.alloc o).alloc o2).dz _ _)
  rw [e];rw [hv] at KV
  clear e h hs hl hn hv
  go_enter Tryz.func163,Tryz.ntmps163
  go_wp2_with fail
  refine (KV.out _).mono ?_
  rintro e w1 ⟨rfl,rfl⟩
  clear KV
  go_wp2_with fail
  exact bodyPost_ret (aP Tryz.results163 _ _ (w.heap.size+1) 59 _ (0,0) _ rfl (heap_alloc2_new _ _ _) Tryz.underlying59 rfl (by kernel_rfl)) rfl ⟨.slice none 0 0,rfl,HH.out _ _⟩
 | true=>
  rw [hv] at KV
  have h2:In F0 w0 ((w.alloc (.cells #[.int .i64 kind,.int .i64 ak,.slice A body.length c] 86)).alloc (.cells (aC aM (.slice none 0 0)).toArray 59)) (Cells (w.heap.size+1) (aC aM (.slice none 0 0)).toArray 59::Cells w.heap.size #[.int .i64 kind,.int .i64 ak,.slice A body.length c] 86::R):=by
   have h2:=(h.cells #[.int .i64 kind,.int .i64 ak,.slice A body.length c] 86).cells (aC aM (.slice none 0 0)).toArray 59
   simp only [World.size_alloc] at h2
   exact h2
  have KN:=Lib.hid (JJ (c:=c) h2 hn (hs _ h2.drop.drop) hl)
  have KR:Hid (∀ w' br,In F0 w0 w' (iY br (body,0)::Cells (w.heap.size+1) (aC aM (.slice none 0 0)).toArray 59::Cells w.heap.size #[.int .i64 kind,.int .i64 ak,.slice A body.length c] 86::R)→Calls Tryz.prog 223 #[pR br,.int .i64 kind,.int .i64 ak] w' (kL (fQ kind ak (body,0)) br F0 w0 (Cells (w.heap.size+1) (aC aM (.slice none 0 0)).toArray 59::Cells w.heap.size #[.int .i64 kind,.int .i64 ak,.slice A body.length c] 86::R))):=Lib.hid fun w' br h'=>UR kind ak h'
  obtain⟨hrl,hbl⟩:=RI kind ak (body,0)
  have e:jy ⟨kind,ak,body⟩=if (fQ kind ak (body,0)).2.1=true∧jS (fQ kind ak (body,0)).2.2.1 (fQ kind ak (body,0)).2.2.2=0∧bR (fQ kind ak (body,0)).1=true then ((fQ kind ak (body,0)).1,0) else (aM,3):=by unfold jy;rw [if_neg (by simp [hv])]
  rw [e];clear e hv hs hn
  generalize fQ kind ak (body,0)=r at *
  obtain⟨y,ok,l,er⟩:=r
  simp only at hrl hbl KR ⊢
  have HL:l.length≤100000000:=Nat.le_trans hrl hl
  clear hrl hl h h2
  cases ok with
  | false=>
   simp only [Bool.false_eq_true,false_and,if_false]
   go_enter Tryz.func163,Tryz.ntmps163
   go_wp2_with fail
   refine (KV.out _).mono ?_
   rintro e w1 ⟨rfl,rfl⟩
   clear KV
   go_wp2_with fail
   refine KN.out.mono ?_
   rintro e w1 ⟨br,rfl,g1⟩
   have c0:w1.cell? ⟨w.heap.size,0,none⟩=some (.int .i64 kind):=cell_of (g1.block 2 rfl) rfl
   have c1:w1.cell? ⟨w.heap.size,1,none⟩=some (.int .i64 ak):=cell_of (g1.block 2 rfl) rfl
   have K1:=Lib.hid (KR.out _ _ g1)
   clear g1 KN KR
   go_wp2_with fail
   refine K1.out.mono ?_
   rintro e w2 ⟨pv,rfl,g2⟩
   simp only at g2
   obtain⟨Fv,rv⟩:=g2.get 0 rfl
   obtain⟨pa,pc,rfl,-,-,-⟩:=ay.shape rv
   have g3:=g2.cells (aC y (.slice pa y.au.length pc)).toArray 59
   clear K1 rv
   have q1:=dX (g3.block 3 rfl)
   have G:=Lib.hid (g3.eX 3 rfl (xs:=aC aM (.slice none 0 0)) (b:=w.heap.size+1) (C:=(aC aM (.slice none 0 0)).toArray) (T:=59) rfl)
   have Q1:=Lib.hid q1
   clear g2 g3 q1
   go_wp2_with (refine wpList_store_mid (op:=⟨none,Op.store 59 (.tmp 2) (.tmp 36),_,_,_,_⟩) (by rfl) 59 (.tmp 2) (.tmp 36) rfl (w.heap.size+1) 0 (aC aM (.slice none 0 0)).toArray (by rfl) (by rfl) Q1.out (by kernel_rfl) (ig _ _ _ _) ?_)
   exact bodyPost_ret (aP Tryz.results163 _ _ (w.heap.size+1) 59 _ (0,0) _ rfl (G.out.block 3 rfl) Tryz.underlying59 rfl (by kernel_rfl)) rfl ⟨.slice none 0 0,rfl,(G.out.aL (R1:=[_,_,_,_,_]) [] (by decide) rfl).dz _ _⟩
  | true=>
   by_cases he:jS l er=0
   ·by_cases hm:bR y=true
    ·simp only [he,hm,and_self,if_true]
     go_enter Tryz.func163,Tryz.ntmps163
     go_wp2_with fail
     refine (KV.out _).mono ?_
     rintro e w1 ⟨rfl,rfl⟩
     clear KV
     go_wp2_with fail
     refine KN.out.mono ?_
     rintro e w1 ⟨br,rfl,g1⟩
     have c0:w1.cell? ⟨w.heap.size,0,none⟩=some (.int .i64 kind):=cell_of (g1.block 2 rfl) rfl
     have c1:w1.cell? ⟨w.heap.size,1,none⟩=some (.int .i64 ak):=cell_of (g1.block 2 rfl) rfl
     have K1:=Lib.hid (KR.out _ _ g1)
     clear g1 KN KR
     go_wp2_with fail
     refine K1.out.mono ?_
     rintro e w2 ⟨pv,rfl,g2⟩
     simp only at g2
     obtain⟨Fv,rv⟩:=g2.get 0 rfl
     obtain⟨pa,pc,rfl,-,-,-⟩:=ay.shape rv
     have g3:=g2.cells (aC y (.slice pa y.au.length pc)).toArray 59
     clear K1 rv
     have KE:=uV g3 2 rfl HL
     rw [he] at KE
     have KM:=jE (c:=pc) (xh rfl 1 rfl) (Nat.le_trans hbl (by decide)) g3
     rw [hm] at KM
     clear he hm HL hbl
     have RL:=Lib.hid KE
     clear KE
     have KM2:=Lib.hid KM
     clear KM g2 g3
     go_wp2_with fail
     refine RL.out.mono ?_
     rintro e w3 ⟨rfl,rfl⟩
     clear RL
     go_wp2_with fail
     refine KM2.out.mono ?_
     rintro e w4 ⟨rfl,g3⟩
     clear KM2
     have q0:w4.heap[w2.heap.size]?=some (.cells (aC y (.slice pa y.au.length pc)).toArray 59 (0,0)):=g3.block 0 rfl
     have q1:=dX (g3.block 3 rfl)
     have G:=Lib.hid (g3.eX 3 rfl (xs:=aC y (.slice pa y.au.length pc)) (b:=w.heap.size+1) (C:=(aC aM (.slice none 0 0)).toArray) (T:=59) rfl)
     have Q0:=Lib.hid q0
     have Q1:=Lib.hid q1
     clear g3 q0 q1
     go_wp2_with (first | (refine wpList_load_row rfl 59 (.tmp 5) rfl w2.heap.size rfl 59 _ (0,0) _ Q0.out Tryz.underlying59 rfl (by kernel_rfl) ?_) | (refine wpList_store_mid (op:=⟨none,Op.store 59 (.tmp 2) (.tmp 37),_,_,_,_⟩) (by rfl) 59 (.tmp 2) (.tmp 37) rfl (w.heap.size+1) 0 (aC y (.slice pa y.au.length pc)).toArray (by rfl) (by rfl) Q1.out (by kernel_rfl) (ig _ _ _ _) ?_))
     exact bodyPost_ret (aP Tryz.results163 _ _ (w.heap.size+1) 59 _ (0,0) _ rfl (G.out.block 3 rfl) Tryz.underlying59 rfl (by kernel_rfl)) rfl ⟨.slice pa y.au.length pc,rfl,G.out.aL (R1:=[_,_,_,_,_]) [1] (by decide) rfl⟩
    ·have hm2:bR y=false:=by simpa using hm
     simp only [he,hm2,Bool.false_eq_true,and_false,if_false]
     go_enter Tryz.func163,Tryz.ntmps163
     go_wp2_with fail
     refine (KV.out _).mono ?_
     rintro e w1 ⟨rfl,rfl⟩
     clear KV
     go_wp2_with fail
     refine KN.out.mono ?_
     rintro e w1 ⟨br,rfl,g1⟩
     have c0:w1.cell? ⟨w.heap.size,0,none⟩=some (.int .i64 kind):=cell_of (g1.block 2 rfl) rfl
     have c1:w1.cell? ⟨w.heap.size,1,none⟩=some (.int .i64 ak):=cell_of (g1.block 2 rfl) rfl
     have K1:=Lib.hid (KR.out _ _ g1)
     clear g1 KN KR
     go_wp2_with fail
     refine K1.out.mono ?_
     rintro e w2 ⟨pv,rfl,g2⟩
     simp only at g2
     obtain⟨Fv,rv⟩:=g2.get 0 rfl
     obtain⟨pa,pc,rfl,-,-,-⟩:=ay.shape rv
     have g3:=g2.cells (aC y (.slice pa y.au.length pc)).toArray 59
     clear K1 rv
     have KE:=uV g3 2 rfl HL
     rw [he] at KE
     have KM:=jE (c:=pc) (xh rfl 1 rfl) (Nat.le_trans hbl (by decide)) g3
     rw [hm2] at KM
     clear he hm hm2 HL hbl
     have RL:=Lib.hid KE
     clear KE
     have KM2:=Lib.hid KM
     clear KM g2 g3
     go_wp2_with fail
     refine RL.out.mono ?_
     rintro e w3 ⟨rfl,rfl⟩
     clear RL
     go_wp2_with fail
     refine KM2.out.mono ?_
     rintro e w4 ⟨rfl,g3⟩
     clear KM2
     have g2:True:=trivial
     have q1:=dX (g3.block 3 rfl)
     have G:=Lib.hid (g3.eX 3 rfl (xs:=aC aM (.slice none 0 0)) (b:=w.heap.size+1) (C:=(aC aM (.slice none 0 0)).toArray) (T:=59) rfl)
     have Q1:=Lib.hid q1
     clear g2 g3 q1
     go_wp2_with (refine wpList_store_mid (op:=⟨none,Op.store 59 (.tmp 2) (.tmp 36),_,_,_,_⟩) (by rfl) 59 (.tmp 2) (.tmp 36) rfl (w.heap.size+1) 0 (aC aM (.slice none 0 0)).toArray (by rfl) (by rfl) Q1.out (by kernel_rfl) (ig _ _ _ _) ?_)
     exact bodyPost_ret (aP Tryz.results163 _ _ (w.heap.size+1) 59 _ (0,0) _ rfl (G.out.block 3 rfl) Tryz.underlying59 rfl (by kernel_rfl)) rfl ⟨.slice none 0 0,rfl,(G.out.aL (R1:=[_,_,_,_,_]) [] (by decide) rfl).dz _ _⟩
   ·simp only [he,false_and,and_false,if_false]
    go_enter Tryz.func163,Tryz.ntmps163
    go_wp2_with fail
    refine (KV.out _).mono ?_
    rintro e w1 ⟨rfl,rfl⟩
    clear KV
    go_wp2_with fail
    refine KN.out.mono ?_
    rintro e w1 ⟨br,rfl,g1⟩
    have c0:w1.cell? ⟨w.heap.size,0,none⟩=some (.int .i64 kind):=cell_of (g1.block 2 rfl) rfl
    have c1:w1.cell? ⟨w.heap.size,1,none⟩=some (.int .i64 ak):=cell_of (g1.block 2 rfl) rfl
    have K1:=Lib.hid (KR.out _ _ g1)
    clear g1 KN KR
    go_wp2_with fail
    refine K1.out.mono ?_
    rintro e w2 ⟨pv,rfl,g2⟩
    simp only at g2
    obtain⟨Fv,rv⟩:=g2.get 0 rfl
    obtain⟨pa,pc,rfl,-,-,-⟩:=ay.shape rv
    have g3:=g2.cells (aC y (.slice pa y.au.length pc)).toArray 59
    clear K1 rv
    have KE:=uV g3 2 rfl HL
    have qe:(jS l er == 0)=false:=beq_eq_false_iff_ne.2 he
    have RL:=Lib.hid KE
    clear KE
    have q1:=dX (g3.block 3 rfl)
    have G:=Lib.hid (g3.eX 3 rfl (xs:=aC aM (.slice none 0 0)) (b:=w.heap.size+1) (C:=(aC aM (.slice none 0 0)).toArray) (T:=59) rfl)
    have Q1:=Lib.hid q1
    clear g2 g3 q1
    go_wp2_with fail
    refine RL.out.mono ?_
    rintro e w3 ⟨rfl,rfl⟩
    clear RL
    go_wp2_with (refine wpList_store_mid (op:=⟨none,Op.store 59 (.tmp 2) (.tmp 36),_,_,_,_⟩) (by rfl) 59 (.tmp 2) (.tmp 36) rfl (w.heap.size+1) 0 (aC aM (.slice none 0 0)).toArray (by rfl) (by rfl) Q1.out (by kernel_rfl) (ig _ _ _ _) ?_)
    exact bodyPost_ret (aP Tryz.results163 _ _ (w.heap.size+1) 59 _ (0,0) _ rfl (G.out.block 3 rfl) Tryz.underlying59 rfl (by kernel_rfl)) rfl ⟨.slice none 0 0,rfl,(G.out.aL (R1:=[_,_,_,_,_]) [] (by decide) rfl).dz _ _⟩
end
theorem RN:laidOutB Tryz.prog=true:=by kernel_rfl
theorem La:Keyed Tryz.prog 47:=Keyed.of_law (deep_law_laid RN (m:=3) (by omega) (of_decide_eq_true (by kernel_rfl)) (by kernel_rfl) (by kernel_rfl))
theorem wf_u32 {n:Int} (h0:0≤n) (h1:n < 4294967296):(Lit.int .u32 n).wf=true:=by
 simp [Lit.wf,IntKind.min,IntKind.max,IntKind.signed,IntKind.bits];omega
theorem wf_i64 {n:Int} (h0:-9223372036854775808≤n) (h1:n≤9223372036854775807):(Lit.int .i64 n).wf=true:=by
 simp [Lit.wf,IntKind.min,IntKind.max,IntKind.signed,IntKind.bits];omega
theorem Lb {P:Program} {T tu ti:TypeId} {f0 f1 f2 f3 f4:Field} (hu:P.underlying T=some (.struct #[f0,f1,f2,f3,f4])) (u1:P.underlying tu=some (.int .u32)) (u2:P.underlying ti=some (.int .i64))
  (e0:f0.type=tu∧f0.offset=0) (e1:f1.type=tu∧f1.offset=1) (e2:f2.type=ti∧f2.offset=2) (e3:f3.type=ti∧f3.offset=3) (e4:f4.type=ti∧f4.offset=4)
  (hn : #[f0, f1, f2, f3, f4].all (·.name != "_") = true) (c1 : P.cellsOf tu = 1) (c2 : P.cellsOf ti = 1) (c3 : P.cellsOf T = 5) (k1 : P.keyType T = true) (hs : 0 < P.types.size)
  {a b c d e:Int} (w1:(Lit.int .u32 a).wf=true) (w2:(Lit.int .u32 b).wf=true) (w3:(Lit.int .i64 c).wf=true) (w4:(Lit.int .i64 d).wf=true) (w5:(Lit.int .i64 e).wf=true) :
  ∃ l,keyOf P T (.agg #[.int .u32 a,.int .u32 b,.int .i64 c,.int .i64 d,.int .i64 e])=some l:=by
 obtain⟨m,hm⟩:∃ m,P.types.size=m+1:=⟨P.types.size - 1,by omega⟩
 unfold keyOf
 rw [hu]
 simp only [k1,Value.formed,hu,c3,hm,Program.keyLits,Value.cells,List.size_toArray,List.length_cons,List.length_nil,Nat.zero_add,Nat.reduceAdd,beq_self_eq_true,Bool.and_self,if_true,and_self,
  List.mapM_cons,List.mapM_nil,e0,e1,e2,e3,e4,c1,c2,u1,u2,w1,w2,w3,w4,w5,List.drop,List.take]
 rw [if_pos ⟨trivial,hn⟩]
 exact⟨_,rfl⟩
theorem yj {t:rX} (h:GK t):∃ l,keyOf Tryz.prog 47 (.agg (dE t))=some l:=
 Lb Tryz.underlying47 Tryz.underlying45 Tryz.underlying3 ⟨rfl,rfl⟩ ⟨rfl,rfl⟩ ⟨rfl,rfl⟩ ⟨rfl,rfl⟩ ⟨rfl,rfl⟩ (by decide +kernel) (by kernel_rfl) (by kernel_rfl) (by kernel_rfl) (by kernel_rfl) (of_decide_eq_true (by kernel_rfl))
  (wf_u32 h.s0 h.s1) (wf_u32 h.d0 h.d1) (wf_i64 h.p0 h.p1) (wf_i64 h.Zy h.sp1) (wf_i64 h.Zz h.dp1)
end Go.Proofs.YtanhdliaaccacaaGreat
