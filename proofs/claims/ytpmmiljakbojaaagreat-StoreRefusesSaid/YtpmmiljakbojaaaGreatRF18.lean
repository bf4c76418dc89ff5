/- Rows.StoreRefusesSaid -/
import Derived.Test.YtpmmiljakbojaaaGreatRF17
import Derived.Test.YtpmmiljakbojaaaGreatRF3
import Derived.Test.YtpmmiljakbojaaaGreatRF1
import Derived.DeepKeys4
import Derived.Test.YtpmmiljakbojaaaGreatRF14
import Derived.Test.YtpmmiljakbojaaaGreatRF6
namespace Go.Proofs.YtpmmiljakbojaaaGreat
open Go.RowKit
open Go.Maps (Keyed)
set_option linter.unusedVariables false
set_option maxHeartbeats 64000000
set_option maxRecDepth 100000
section
variable {F0:List Nat} {w0 w:World} {R:List Asrt} {br:Nat} {s:RdS}
theorem num_i64 (k:Nat) (s:RdS) (hk:k≤4):IntKind.i64.wrap ((rdN k s:Nat):Int)=((rdN k s:Nat):Int):=by
 have:rdN k s < 256 ^ k:=num_lt_of (k:=k) (rdTake_len _ _ _)
 have h2:256 ^ k≤256 ^ 4:=Nat.pow_le_pow_right (by decide) hk
 have h3:(256:Nat) ^ 4=4294967296:=rfl
 exact IntWalk.i64_in _ (by omega)
theorem o_rdrec5 (v:Int) (h:In F0 w0 w (RdB br s::R)):Calls Tryz.prog 143 #[pR br,.int .i64 5,.int .i64 v] w (RrPost (rdRec 5 v s) br F0 w0 R):=by
 have hmf:∀ (fn:Fn) (first cap:Array Value) (w:World),(Instr.makeFunc fn first cap).run Tryz.prog w=.ok (.func fn first cap) w:=fun _ _ _ _=>rfl
 have h2:In F0 w0 ((w.alloc (.cells (encRL zeroRec (.slice none 0 0)).toArray 39)).alloc (.cells (encRL ⟨5,zeroF,0,[],0,0,0⟩ (.slice none 0 0)).toArray 39)) (RdB br s::Cells (w.heap.size+1) (encRL ⟨5,zeroF,0,[],0,0,0⟩ (.slice none 0 0)).toArray 39::Cells w.heap.size (encRL zeroRec (.slice none 0 0)).toArray 39::R):=by
  have h2:=(h.cells (encRL zeroRec (.slice none 0 0)).toArray 39).cells (encRL ⟨5,zeroF,0,[],0,0,0⟩ (.slice none 0 0)).toArray 39
  simp only [World.size_alloc] at h2
  exact h2.sel2 (R1:=[_,_,_]) [2,0,1] (by decide) rfl
 have KA:=k_r16 h2
 have e:rdRec 5 v s=(⟨5,zeroF,0,[],rdN 2 s,0,0⟩,true,rdS 2 s):=rfl
 rw [e]
 generalize ((rdN 2 s:Nat):Int)=a1 at *
 generalize rdS 2 s=s1 at *
 have KF:=Lib.hid KA
 have HF:Hid (∀ w' pv,In F0 w0 w' (BkR pv []::RdB br s1::R)→RrPost (⟨5,zeroF,0,[],a1,0,0⟩,true,s1) br F0 w0 R (.returned (.tuple #[.agg (encRL ⟨5,zeroF,0,[],a1,0,0⟩ pv).toArray,.bool true])) w'):=Lib.hid fun w' pv h'=>⟨pv,rfl,h'⟩
 clear e h h2 KA
 go_enter Tryz.func143,Tryz.ntmps143
 go_wp2_with fail
 refine KF.out.mono ?_
 rintro e w2 ⟨rfl,g2⟩
 obtain⟨e0,e1,e2,e3,e4,e5,e6,e7,e8,e9,e10,e11,e12,e13,ef⟩:=rc_y (y:=⟨5,zeroF,0,[],0,0,0⟩) (pv:=.slice none 0 0) (g2.block 1 rfl)
 have g3:In F0 w0 (w2.setCell ⟨w.heap.size+1,11,none⟩ (.int .i64 a1)) (RdB br s1::Cells (w.heap.size+1) (encRL ⟨5,zeroF,0,[],a1,0,0⟩ (.slice none 0 0)).toArray 39::Cells w.heap.size (encRL zeroRec (.slice none 0 0)).toArray 39::R):=by
  have h9:=In.setCs [.int .i64 a1] 11 1 g2 (b:=w.heap.size+1) (C:=(encRL ⟨5,zeroF,0,[],0,0,0⟩ (.slice none 0 0)).toArray) (T:=39) rfl
  rw [setL_at (ys:=encRL ⟨5,zeroF,0,[],a1,0,0⟩ (.slice none 0 0)) (by simp) (by simp [zeroF,zeroT])] at h9
  exact h9
 have g4:In F0 w0 (w2.setCell ⟨w.heap.size+1,11,none⟩ (.int .i64 a1)) (BkR (.slice none 0 0) []::Cells (w.heap.size+1) (encRL ⟨5,zeroF,0,[],a1,0,0⟩ (.slice none 0 0)).toArray 39::Cells w.heap.size (encRL zeroRec (.slice none 0 0)).toArray 39::RdB br s1::R):=(g3.rownil 119 3).sel2 (R1:=[_,_,_,_]) [0,2,3,1] (by decide) rfl
 clear g2 g3 KF
 obtain⟨p0,p1,p2,p3,p4,p5,p6,p7,p8,p9,p10,p11,p12,p13,-⟩:=rc_y (g4.block 1 rfl)
 obtain⟨z0,z1,z2,z3,z4,z5,z6,z7,z8,z9,z10,z11,z12,z13,zf⟩:=rc_y (g4.block 2 rfl)
 simp only at p0 p1 p2 p3 p4 p5 p6 p7 p8 p9 p10 p11 p12 p13
 simp only [zeroF,zeroT] at p1 p2 p3 p4 p5 p6 p7 p8
 simp only [zeroRec,zeroF,zeroT] at z0 z1 z2 z3 z4 z5 z6 z7 z8 z9 z10 z11 z12 z13
 obtain⟨-,q3,q4⟩:=rec_end g4 rfl
 have Q3:=Lib.hid q3
 have Q4:=Lib.hid (HF.out _ _ q4)
 clear g4 q3 q4 HF
 go_wp2_with fail
 exact bodyPost_ret (results_cell_tmp_row Tryz.results143 _ _ w.heap.size 39 _ (0,0) _ rfl Q3.out Tryz.underlying39 rfl (by kernel_rfl)) rfl Q4.out
theorem o_rdrec6 (v:Int) (h:In F0 w0 w (RdB br s::R)):Calls Tryz.prog 143 #[pR br,.int .i64 6,.int .i64 v] w (RrPost (rdRec 6 v s) br F0 w0 R):=by
 have hmf:∀ (fn:Fn) (first cap:Array Value) (w:World),(Instr.makeFunc fn first cap).run Tryz.prog w=.ok (.func fn first cap) w:=fun _ _ _ _=>rfl
 have h2:In F0 w0 ((w.alloc (.cells (encRL zeroRec (.slice none 0 0)).toArray 39)).alloc (.cells (encRL ⟨6,zeroF,0,[],0,0,0⟩ (.slice none 0 0)).toArray 39)) (RdB br s::Cells (w.heap.size+1) (encRL ⟨6,zeroF,0,[],0,0,0⟩ (.slice none 0 0)).toArray 39::Cells w.heap.size (encRL zeroRec (.slice none 0 0)).toArray 39::R):=by
  have h2:=(h.cells (encRL zeroRec (.slice none 0 0)).toArray 39).cells (encRL ⟨6,zeroF,0,[],0,0,0⟩ (.slice none 0 0)).toArray 39
  simp only [World.size_alloc] at h2
  exact h2.sel2 (R1:=[_,_,_]) [2,0,1] (by decide) rfl
 have KA:=k_r32 h2
 have hw:=num_i64 4 s (by decide)
 have e:rdRec 6 v s=(⟨6,zeroF,0,[],0,0,rdN 4 s⟩,true,rdS 4 s):=rfl
 rw [e]
 generalize ((rdN 4 s:Nat):Int)=a1 at *
 generalize rdS 4 s=s1 at *
 have KF:=Lib.hid KA
 have HF:Hid (∀ w' pv,In F0 w0 w' (BkR pv []::RdB br s1::R)→RrPost (⟨6,zeroF,0,[],0,0,a1⟩,true,s1) br F0 w0 R (.returned (.tuple #[.agg (encRL ⟨6,zeroF,0,[],0,0,a1⟩ pv).toArray,.bool true])) w'):=Lib.hid fun w' pv h'=>⟨pv,rfl,h'⟩
 clear e h h2 KA
 go_enter Tryz.func143,Tryz.ntmps143
 go_wp2_with fail
 refine KF.out.mono ?_
 rintro e w2 ⟨rfl,g2⟩
 obtain⟨e0,e1,e2,e3,e4,e5,e6,e7,e8,e9,e10,e11,e12,e13,ef⟩:=rc_y (y:=⟨6,zeroF,0,[],0,0,0⟩) (pv:=.slice none 0 0) (g2.block 1 rfl)
 have g3:In F0 w0 (w2.setCell ⟨w.heap.size+1,13,none⟩ (.int .i64 a1)) (RdB br s1::Cells (w.heap.size+1) (encRL ⟨6,zeroF,0,[],0,0,a1⟩ (.slice none 0 0)).toArray 39::Cells w.heap.size (encRL zeroRec (.slice none 0 0)).toArray 39::R):=by
  have h9:=In.setCs [.int .i64 a1] 13 1 g2 (b:=w.heap.size+1) (C:=(encRL ⟨6,zeroF,0,[],0,0,0⟩ (.slice none 0 0)).toArray) (T:=39) rfl
  rw [setL_at (ys:=encRL ⟨6,zeroF,0,[],0,0,a1⟩ (.slice none 0 0)) (by simp) (by simp [zeroF,zeroT])] at h9
  exact h9
 have g4:In F0 w0 (w2.setCell ⟨w.heap.size+1,13,none⟩ (.int .i64 a1)) (BkR (.slice none 0 0) []::Cells (w.heap.size+1) (encRL ⟨6,zeroF,0,[],0,0,a1⟩ (.slice none 0 0)).toArray 39::Cells w.heap.size (encRL zeroRec (.slice none 0 0)).toArray 39::RdB br s1::R):=(g3.rownil 119 3).sel2 (R1:=[_,_,_,_]) [0,2,3,1] (by decide) rfl
 clear g2 g3 KF
 obtain⟨p0,p1,p2,p3,p4,p5,p6,p7,p8,p9,p10,p11,p12,p13,-⟩:=rc_y (g4.block 1 rfl)
 obtain⟨z0,z1,z2,z3,z4,z5,z6,z7,z8,z9,z10,z11,z12,z13,zf⟩:=rc_y (g4.block 2 rfl)
 simp only at p0 p1 p2 p3 p4 p5 p6 p7 p8 p9 p10 p11 p12 p13
 simp only [zeroF,zeroT] at p1 p2 p3 p4 p5 p6 p7 p8
 simp only [zeroRec,zeroF,zeroT] at z0 z1 z2 z3 z4 z5 z6 z7 z8 z9 z10 z11 z12 z13
 obtain⟨-,q3,q4⟩:=rec_end g4 rfl
 have Q3:=Lib.hid q3
 have Q4:=Lib.hid (HF.out _ _ q4)
 clear g4 q3 q4 HF
 go_wp2_with fail
 exact bodyPost_ret (results_cell_tmp_row Tryz.results143 _ _ w.heap.size 39 _ (0,0) _ rfl Q3.out Tryz.underlying39 rfl (by kernel_rfl)) rfl Q4.out
theorem o_rdrec4 (v:Int) (h:In F0 w0 w (RdB br s::R)):Calls Tryz.prog 143 #[pR br,.int .i64 4,.int .i64 v] w (RrPost (rdRec 4 v s) br F0 w0 R):=by
 have hmf:∀ (fn:Fn) (first cap:Array Value) (w:World),(Instr.makeFunc fn first cap).run Tryz.prog w=.ok (.func fn first cap) w:=fun _ _ _ _=>rfl
 have h2:In F0 w0 ((w.alloc (.cells (encRL zeroRec (.slice none 0 0)).toArray 39)).alloc (.cells (encRL ⟨4,zeroF,0,[],0,0,0⟩ (.slice none 0 0)).toArray 39)) (RdB br s::Cells (w.heap.size+1) (encRL ⟨4,zeroF,0,[],0,0,0⟩ (.slice none 0 0)).toArray 39::Cells w.heap.size (encRL zeroRec (.slice none 0 0)).toArray 39::R):=by
  have h2:=(h.cells (encRL zeroRec (.slice none 0 0)).toArray 39).cells (encRL ⟨4,zeroF,0,[],0,0,0⟩ (.slice none 0 0)).toArray 39
  simp only [World.size_alloc] at h2
  exact h2.sel2 (R1:=[_,_,_]) [2,0,1] (by decide) rfl
 have KA:=k_r16 h2
 have e:rdRec 4 v s=(⟨4,zeroF,0,[],rdN 2 s,sig64 (rdN 8 (rdS 2 s)),0⟩,true,rdS 8 (rdS 2 s)):=rfl
 rw [e]
 generalize ((rdN 2 s:Nat):Int)=a1 at *
 generalize rdS 2 s=s1 at *
 obtain⟨a2,ha2⟩:∃ x:Int,x=sig64 (rdN 8 s1):=⟨_,rfl⟩
 obtain⟨s2,hs2⟩:∃ x,x=rdS 8 s1:=⟨_,rfl⟩
 have KB:Hid (∀ w' R',In F0 w0 w' (RdB br s1::R')→Calls Tryz.prog 166 #[pR br] w' (RNPost (.int .i64 a2) br s2 F0 w0 R')):=Lib.hid fun w' R' h'=>by rw [ha2,hs2];exact k_r64 h'
 rw [← ha2,← hs2]
 have KF:=Lib.hid KA
 have HF:Hid (∀ w' pv,In F0 w0 w' (BkR pv []::RdB br s2::R)→RrPost (⟨4,zeroF,0,[],a1,a2,0⟩,true,s2) br F0 w0 R (.returned (.tuple #[.agg (encRL ⟨4,zeroF,0,[],a1,a2,0⟩ pv).toArray,.bool true])) w'):=Lib.hid fun w' pv h'=>⟨pv,rfl,h'⟩
 clear e h h2 KA ha2 hs2
 go_enter Tryz.func143,Tryz.ntmps143
 go_wp2_with fail
 refine KF.out.mono ?_
 rintro e w2 ⟨rfl,g2⟩
 obtain⟨e0,e1,e2,e3,e4,e5,e6,e7,e8,e9,e10,e11,e12,e13,ef⟩:=rc_y (y:=⟨4,zeroF,0,[],0,0,0⟩) (pv:=.slice none 0 0) (g2.block 1 rfl)
 have g3:In F0 w0 (w2.setCell ⟨w.heap.size+1,11,none⟩ (.int .i64 a1)) (RdB br s1::Cells (w.heap.size+1) (encRL ⟨4,zeroF,0,[],a1,0,0⟩ (.slice none 0 0)).toArray 39::Cells w.heap.size (encRL zeroRec (.slice none 0 0)).toArray 39::R):=by
  have h9:=In.setCs [.int .i64 a1] 11 1 g2 (b:=w.heap.size+1) (C:=(encRL ⟨4,zeroF,0,[],0,0,0⟩ (.slice none 0 0)).toArray) (T:=39) rfl
  rw [setL_at (ys:=encRL ⟨4,zeroF,0,[],a1,0,0⟩ (.slice none 0 0)) (by simp) (by simp [zeroF,zeroT])] at h9
  exact h9
 have KC:=Lib.hid (KB.out _ _ g3)
 clear g2 g3 KF KB
 go_wp2_with fail
 refine KC.out.mono ?_
 rintro e w3 ⟨rfl,g4⟩
 clear e0 e1 e2 e3 e4 e5 e6 e7 e8 e9 e10 e11 e12 e13 ef
 obtain⟨e0,e1,e2,e3,e4,e5,e6,e7,e8,e9,e10,e11,e12,e13,ef⟩:=rc_y (y:=⟨4,zeroF,0,[],a1,0,0⟩) (pv:=.slice none 0 0) (g4.block 1 rfl)
 have g5:In F0 w0 (w3.setCell ⟨w.heap.size+1,12,none⟩ (.int .i64 a2)) (RdB br s2::Cells (w.heap.size+1) (encRL ⟨4,zeroF,0,[],a1,a2,0⟩ (.slice none 0 0)).toArray 39::Cells w.heap.size (encRL zeroRec (.slice none 0 0)).toArray 39::R):=by
  have h9:=In.setCs [.int .i64 a2] 12 1 g4 (b:=w.heap.size+1) (C:=(encRL ⟨4,zeroF,0,[],a1,0,0⟩ (.slice none 0 0)).toArray) (T:=39) rfl
  rw [setL_at (ys:=encRL ⟨4,zeroF,0,[],a1,a2,0⟩ (.slice none 0 0)) (by simp) (by simp [zeroF,zeroT])] at h9
  exact h9
 have g6:In F0 w0 (w3.setCell ⟨w.heap.size+1,12,none⟩ (.int .i64 a2)) (BkR (.slice none 0 0) []::Cells (w.heap.size+1) (encRL ⟨4,zeroF,0,[],a1,a2,0⟩ (.slice none 0 0)).toArray 39::Cells w.heap.size (encRL zeroRec (.slice none 0 0)).toArray 39::RdB br s2::R):=(g5.rownil 119 3).sel2 (R1:=[_,_,_,_]) [0,2,3,1] (by decide) rfl
 clear g4 g5 KC
 obtain⟨p0,p1,p2,p3,p4,p5,p6,p7,p8,p9,p10,p11,p12,p13,-⟩:=rc_y (g6.block 1 rfl)
 obtain⟨z0,z1,z2,z3,z4,z5,z6,z7,z8,z9,z10,z11,z12,z13,zf⟩:=rc_y (g6.block 2 rfl)
 simp only at p0 p1 p2 p3 p4 p5 p6 p7 p8 p9 p10 p11 p12 p13
 simp only [zeroF,zeroT] at p1 p2 p3 p4 p5 p6 p7 p8
 simp only [zeroRec,zeroF,zeroT] at z0 z1 z2 z3 z4 z5 z6 z7 z8 z9 z10 z11 z12 z13
 obtain⟨-,q3,q4⟩:=rec_end g6 rfl
 have Q3:=Lib.hid q3
 have Q4:=Lib.hid (HF.out _ _ q4)
 clear g6 q3 q4 HF
 go_wp2_with fail
 exact bodyPost_ret (results_cell_tmp_row Tryz.results143 _ _ w.heap.size 39 _ (0,0) _ rfl Q3.out Tryz.underlying39 rfl (by kernel_rfl)) rfl Q4.out
theorem o_rdrec3 (v:Int) (h:In F0 w0 w (RdB br s::R)):Calls Tryz.prog 143 #[pR br,.int .i64 3,.int .i64 v] w (RrPost (rdRec 3 v s) br F0 w0 R):=by
 have hmf:∀ (fn:Fn) (first cap:Array Value) (w:World),(Instr.makeFunc fn first cap).run Tryz.prog w=.ok (.func fn first cap) w:=fun _ _ _ _=>rfl
 have h2:In F0 w0 ((w.alloc (.cells (encRL zeroRec (.slice none 0 0)).toArray 39)).alloc (.cells (encRL ⟨3,zeroF,0,[],0,0,0⟩ (.slice none 0 0)).toArray 39)) (RdB br s::Cells (w.heap.size+1) (encRL ⟨3,zeroF,0,[],0,0,0⟩ (.slice none 0 0)).toArray 39::Cells w.heap.size (encRL zeroRec (.slice none 0 0)).toArray 39::R):=by
  have h2:=(h.cells (encRL zeroRec (.slice none 0 0)).toArray 39).cells (encRL ⟨3,zeroF,0,[],0,0,0⟩ (.slice none 0 0)).toArray 39
  simp only [World.size_alloc] at h2
  exact h2.sel2 (R1:=[_,_,_]) [2,0,1] (by decide) rfl
 have KA:=k_r32 h2
 have hw:=num_i64 4 s (by decide)
 have e:rdRec 3 v s=(⟨3,zeroF,rdN 4 s,(rdBks v (min (rdN 1 (rdS 4 s)) 17) (rdS 1 (rdS 4 s))).1,0,0,0⟩,true,(rdBks v (min (rdN 1 (rdS 4 s)) 17) (rdS 1 (rdS 4 s))).2):=rfl
 rw [e]
 generalize ((rdN 4 s:Nat):Int)=a1 at *
 generalize rdS 4 s=s1 at *
 have KB0:∀ w' R',In F0 w0 w' (RdB br s1::R')→Calls Tryz.prog 165 #[pR br,.int .i64 v] w' (BrPost v (min (rdN 1 s1) 17) (rdS 1 s1) br F0 w0 R'):=fun w' R' h'=>o_rdbks v h'
 unfold BrPost at KB0
 generalize rdBks v (min (rdN 1 s1) 17) (rdS 1 s1)=r at *
 obtain⟨l,s2⟩:=r
 simp only at *
 have KB:=Lib.hid KB0
 have KF:=Lib.hid KA
 have HF:Hid (∀ w' pv,In F0 w0 w' (BkR pv l::RdB br s2::R)→RrPost (⟨3,zeroF,a1,l,0,0,0⟩,true,s2) br F0 w0 R (.returned (.tuple #[.agg (encRL ⟨3,zeroF,a1,l,0,0,0⟩ pv).toArray,.bool true])) w'):=Lib.hid fun w' pv h'=>⟨pv,rfl,h'⟩
 clear e h h2 KA KB0
 go_enter Tryz.func143,Tryz.ntmps143
 go_wp2_with fail
 refine KF.out.mono ?_
 rintro e w2 ⟨rfl,g2⟩
 obtain⟨e0,e1,e2,e3,e4,e5,e6,e7,e8,e9,e10,e11,e12,e13,ef⟩:=rc_y (y:=⟨3,zeroF,0,[],0,0,0⟩) (pv:=.slice none 0 0) (g2.block 1 rfl)
 have g3:In F0 w0 (w2.setCell ⟨w.heap.size+1,9,none⟩ (.int .i64 a1)) (RdB br s1::Cells (w.heap.size+1) (encRL ⟨3,zeroF,a1,[],0,0,0⟩ (.slice none 0 0)).toArray 39::Cells w.heap.size (encRL zeroRec (.slice none 0 0)).toArray 39::R):=by
  have h9:=In.setCs [.int .i64 a1] 9 1 g2 (b:=w.heap.size+1) (C:=(encRL ⟨3,zeroF,0,[],0,0,0⟩ (.slice none 0 0)).toArray) (T:=39) rfl
  rw [setL_at (ys:=encRL ⟨3,zeroF,a1,[],0,0,0⟩ (.slice none 0 0)) (by simp) (by simp [zeroF,zeroT])] at h9
  exact h9
 have KC:=Lib.hid (KB.out _ _ g3)
 clear g2 g3 KF KB
 go_wp2_with fail
 refine KC.out.mono ?_
 rintro e w3 ⟨pv,rfl,g4⟩
 obtain⟨Fv,rv⟩:=g4.get 1 rfl
 obtain⟨pa,pc,rfl,-,-,-⟩:=RowA.shape rv
 clear rv e0 e1 e2 e3 e4 e5 e6 e7 e8 e9 e10 e11 e12 e13 ef
 obtain⟨e0,e1,e2,e3,e4,e5,e6,e7,e8,e9,e10,e11,e12,e13,ef⟩:=rc_y (y:=⟨3,zeroF,a1,[],0,0,0⟩) (pv:=.slice none 0 0) (g4.block 2 rfl)
 have g5:In F0 w0 (w3.setCell ⟨w.heap.size+1,10,none⟩ (.slice pa l.length pc)) (BkR (.slice pa l.length pc) l::Cells (w.heap.size+1) (encRL ⟨3,zeroF,a1,l,0,0,0⟩ (.slice pa l.length pc)).toArray 39::Cells w.heap.size (encRL zeroRec (.slice none 0 0)).toArray 39::RdB br s2::R):=by
  have h9:=In.setCs [.slice pa l.length pc] 10 2 g4 (b:=w.heap.size+1) (C:=(encRL ⟨3,zeroF,a1,[],0,0,0⟩ (.slice none 0 0)).toArray) (T:=39) rfl
  rw [setL_at (ys:=encRL ⟨3,zeroF,a1,l,0,0,0⟩ (.slice pa l.length pc)) (by simp) (by simp [zeroF,zeroT])] at h9
  exact h9.sel2 (R1:=[_,_,_,_]) [1,2,3,0] (by decide) rfl
 clear g4 KC
 obtain⟨p0,p1,p2,p3,p4,p5,p6,p7,p8,p9,p10,p11,p12,p13,-⟩:=rc_y (g5.block 1 rfl)
 obtain⟨z0,z1,z2,z3,z4,z5,z6,z7,z8,z9,z10,z11,z12,z13,zf⟩:=rc_y (g5.block 2 rfl)
 simp only at p0 p1 p2 p3 p4 p5 p6 p7 p8 p9 p10 p11 p12 p13
 simp only [zeroF,zeroT] at p1 p2 p3 p4 p5 p6 p7 p8
 simp only [zeroRec,zeroF,zeroT] at z0 z1 z2 z3 z4 z5 z6 z7 z8 z9 z10 z11 z12 z13
 obtain⟨-,q3,q4⟩:=rec_end g5 rfl
 have Q3:=Lib.hid q3
 have Q4:=Lib.hid (HF.out _ _ q4)
 clear g5 q3 q4 HF
 go_wp2_with fail
 exact bodyPost_ret (results_cell_tmp_row Tryz.results143 _ _ w.heap.size 39 _ (0,0) _ rfl Q3.out Tryz.underlying39 rfl (by kernel_rfl)) rfl Q4.out
theorem o_rdrec0 {k:Int} (n1:k≠1) (n2:k≠2) (n3:k≠3) (n4:k≠4) (n5:k≠5) (n6:k≠6) (v:Int) (h:In F0 w0 w (RdB br s::R)):Calls Tryz.prog 143 #[pR br,.int .i64 k,.int .i64 v] w (RrPost (rdRec k v s) br F0 w0 R):=by
 have hmf:∀ (fn:Fn) (first cap:Array Value) (w:World),(Instr.makeFunc fn first cap).run Tryz.prog w=.ok (.func fn first cap) w:=fun _ _ _ _=>rfl
 have h2:In F0 w0 ((w.alloc (.cells (encRL zeroRec (.slice none 0 0)).toArray 39)).alloc (.cells (encRL ⟨k,zeroF,0,[],0,0,0⟩ (.slice none 0 0)).toArray 39)) (RdB br s::Cells (w.heap.size+1) (encRL ⟨k,zeroF,0,[],0,0,0⟩ (.slice none 0 0)).toArray 39::Cells w.heap.size (encRL zeroRec (.slice none 0 0)).toArray 39::R):=by
  have h2:=(h.cells (encRL zeroRec (.slice none 0 0)).toArray 39).cells (encRL ⟨k,zeroF,0,[],0,0,0⟩ (.slice none 0 0)).toArray 39
  simp only [World.size_alloc] at h2
  exact h2.sel2 (R1:=[_,_,_]) [2,0,1] (by decide) rfl
 have e:rdRec k v s=(⟨k,zeroF,0,[],0,0,0⟩,true,s):=by unfold rdRec;rw [if_neg n1,if_neg n2,if_neg n3,if_neg n4,if_neg n5,if_neg n6]
 rw [e]
 have q1:(k == 1)=false:=beq_eq_false_iff_ne.2 n1
 have q2:(k == 2)=false:=beq_eq_false_iff_ne.2 n2
 have q3:(k == 3)=false:=beq_eq_false_iff_ne.2 n3
 have q4:(k == 4)=false:=beq_eq_false_iff_ne.2 n4
 have q5:(k == 5)=false:=beq_eq_false_iff_ne.2 n5
 have q6:(k == 6)=false:=beq_eq_false_iff_ne.2 n6
 have HH:Hid (∀ o o2,In F0 w0 ((w.alloc o).alloc o2) (BkR (.slice none 0 0) []::RdB br s::R)):=Lib.hid fun o o2=>((h.alloc o).alloc o2).rownil _ _
 clear e h h2 n1 n2 n3 n4 n5 n6
 go_enter Tryz.func143,Tryz.ntmps143
 go_wp2_with fail
 exact bodyPost_ret (results_cell_tmp_row Tryz.results143 _ _ w.heap.size 39 _ (0,0) _ rfl (heap_alloc2_old _ _ _) Tryz.underlying39 rfl (by kernel_rfl)) rfl ⟨.slice none 0 0,rfl,HH.out _ _⟩
theorem o_rdrec (k v:Int) (h:In F0 w0 w (RdB br s::R)):Calls Tryz.prog 143 #[pR br,.int .i64 k,.int .i64 v] w (RrPost (rdRec k v s) br F0 w0 R):=by
 by_cases n1:k=1
 ·subst n1;exact o_rdrec1 v h
 by_cases n2:k=2
 ·subst n2;exact o_rdrec2 v h
 by_cases n3:k=3
 ·subst n3;exact o_rdrec3 v h
 by_cases n4:k=4
 ·subst n4;exact o_rdrec4 v h
 by_cases n5:k=5
 ·subst n5;exact o_rdrec5 v h
 by_cases n6:k=6
 ·subst n6;exact o_rdrec6 v h
 ·exact o_rdrec0 n1 n2 n3 n4 n5 n6 v h
end
theorem rdS_le (n:Nat) (s:RdS):(rdS n s).1.length≤s.1.length:=by
 unfold rdS rdTake
 split
 ·exact Nat.le_refl _
 ·split
  ·simp
  ·simp only [List.length_drop];omega
theorem rdTup_le (s:RdS):(rdTup s).2.2.1.length≤s.1.length:=by
 have h:(rdS 2 (rdS 2 (rdS 1 (rdS 4 (rdS 4 s))))).1.length≤s.1.length:=Nat.le_trans (rdS_le _ _) (Nat.le_trans (rdS_le _ _) (Nat.le_trans (rdS_le _ _) (Nat.le_trans (rdS_le _ _) (rdS_le _ _))))
 unfold rdTup
 split
 ·exact rdS_le _ _
 ·split <;> exact h
theorem rdFl_le (v:Int) (s:RdS):(rdFl v s).2.2.1.length≤s.1.length:=by
 have h1:=rdTup_le s
 have h2:=rdS_le 2 (rdTup s).2.2
 unfold rdFl;simp only
 split <;> split
 ·exact Nat.le_trans (rdS_le _ _) (Nat.le_trans (rdS_le _ _) (Nat.le_trans h2 h1))
 ·exact Nat.le_trans (rdS_le _ _) (Nat.le_trans h2 h1)
 ·exact Nat.le_trans (rdS_le _ _) (Nat.le_trans h2 h1)
 ·exact Nat.le_trans h2 h1
theorem rdBk_le (v:Int) (s:RdS):(rdBk v s).2.1.length≤s.1.length:=by
 have h2:=Nat.le_trans (rdS_le 4 (rdS 2 s)) (rdS_le 2 s)
 unfold rdBk;simp only
 split
 ·exact Nat.le_trans (rdS_le _ _) h2
 ·exact h2
theorem rdBks_le (v:Int):∀ (n:Nat) (s:RdS),(rdBks v n s).2.1.length≤s.1.length∧(rdBks v n s).1.length=n
 | 0,s=>⟨Nat.le_refl _,rfl⟩
 | n+1,s=>by
  obtain⟨h1,h2⟩:=rdBks_le v n s
  refine⟨Nat.le_trans (rdBk_le _ _) h1,?_⟩
  show ((rdBks v n s).1++[_]).length=n+1
  rw [List.length_append,h2];rfl
theorem rdRec_le (k v:Int) (s:RdS):(rdRec k v s).2.2.1.length≤s.1.length∧(rdRec k v s).1.bks.length≤17:=by
 unfold rdRec
 split
 ·exact⟨rdFl_le _ _,Nat.zero_le _⟩
 split
 ·exact⟨rdTup_le _,Nat.zero_le _⟩
 split
 ·obtain⟨h1,h2⟩:=rdBks_le v (min (rdN 1 (rdS 4 s)) 17) (rdS 1 (rdS 4 s))
  simp only
  exact⟨Nat.le_trans h1 (Nat.le_trans (rdS_le _ _) (rdS_le _ _)),by rw [h2];omega⟩
 split
 ·exact⟨Nat.le_trans (rdS_le _ _) (rdS_le _ _),Nat.zero_le _⟩
 split
 ·exact⟨rdS_le _ _,Nat.zero_le _⟩
 split
 ·exact⟨rdS_le _ _,Nat.zero_le _⟩
 ·exact⟨Nat.le_refl _,Nat.zero_le _⟩
section
variable {F0:List Nat} {w0 w:World} {R:List Asrt}
def RDecPost (r:Rec×Int) (F0:List Nat) (w0:World) (R:List Asrt) (e:Ending) (w':World):Prop:=
 ∃ pv,e=.returned (.tuple #[.agg (encRL r.1 pv).toArray,.int .i64 r.2])∧In F0 w0 w' (BkR pv r.1.bks::R)
theorem bks_row {v:Value} {l:List Bk} {a:Option Addr} {n c:Nat} (hv:v=.slice a n c) (i:Nat) (hA:R[i]?=some (BkR v l)):BksAt F0 w0 R a l:=by
 intro w' h'
 obtain⟨F,r⟩:=h'.get i hA
 subst hv
 exact r.all
theorem o_rcdec {kind ver:Nat} {body:List UInt8} {A:Option Addr} {c:Nat} (hn:A=none→c=0∧body=[]) (hs:∀ w',In F0 w0 w' R→Src w' A body.length 1 (u8s body)) (hl:body.length≤100000000) (h:In F0 w0 w R):Calls Tryz.prog 88 #[.agg #[.int .i64 kind,.int .i64 ver,.slice A body.length c]] w (RDecPost (decRec ⟨kind,ver,body⟩) F0 w0 R):=by
 have KV:=Lib.hid (rc_version ver)
 cases hv:verOk ver with
 | false=>
  have e:decRec ⟨kind,ver,body⟩=(zeroRec,10):=by unfold decRec;rw [if_pos hv]
  have HH:Hid (∀ o o2,In F0 w0 ((w.alloc o).alloc o2) (BkR (.slice none 0 0) []::R)):=Lib.hid (fun o o2=>((h.alloc o).alloc o2).rownil _ _)
  rw [e];rw [hv] at KV
  clear e h hs hl hn hv
  go_enter Tryz.func88,Tryz.ntmps88
  go_wp2_with fail
  refine (KV.out _).mono ?_
  rintro e w1 ⟨rfl,rfl⟩
  clear KV
  go_wp2_with fail
  exact bodyPost_ret (results_cell_tmp_row Tryz.results88 _ _ (w.heap.size+1) 39 _ (0,0) _ rfl (heap_alloc2_new _ _ _) Tryz.underlying39 rfl (by kernel_rfl)) rfl ⟨.slice none 0 0,rfl,HH.out _ _⟩
 | true=>
  rw [hv] at KV
  have h2:In F0 w0 ((w.alloc (.cells #[.int .i64 kind,.int .i64 ver,.slice A body.length c] 74)).alloc (.cells (encRL zeroRec (.slice none 0 0)).toArray 39)) (Cells (w.heap.size+1) (encRL zeroRec (.slice none 0 0)).toArray 39::Cells w.heap.size #[.int .i64 kind,.int .i64 ver,.slice A body.length c] 74::R):=by
   have h2:=(h.cells #[.int .i64 kind,.int .i64 ver,.slice A body.length c] 74).cells (encRL zeroRec (.slice none 0 0)).toArray 39
   simp only [World.size_alloc] at h2
   exact h2
  have KN:=Lib.hid (o_rnew (c:=c) h2 hn (hs _ h2.drop.drop) hl)
  have KR:Hid (∀ w' br,In F0 w0 w' (RdB br (body,0)::Cells (w.heap.size+1) (encRL zeroRec (.slice none 0 0)).toArray 39::Cells w.heap.size #[.int .i64 kind,.int .i64 ver,.slice A body.length c] 74::R)→Calls Tryz.prog 143 #[pR br,.int .i64 kind,.int .i64 ver] w' (RrPost (rdRec kind ver (body,0)) br F0 w0 (Cells (w.heap.size+1) (encRL zeroRec (.slice none 0 0)).toArray 39::Cells w.heap.size #[.int .i64 kind,.int .i64 ver,.slice A body.length c] 74::R))):=Lib.hid fun w' br h'=>o_rdrec kind ver h'
  obtain⟨hrl,hbl⟩:=rdRec_le kind ver (body,0)
  have e:decRec ⟨kind,ver,body⟩=if (rdRec kind ver (body,0)).2.1=true∧endE (rdRec kind ver (body,0)).2.2.1 (rdRec kind ver (body,0)).2.2.2=0∧mayRec (rdRec kind ver (body,0)).1=true then ((rdRec kind ver (body,0)).1,0) else (zeroRec,3):=by unfold decRec;rw [if_neg (by simp [hv])]
  rw [e];clear e hv hs hn
  generalize rdRec kind ver (body,0)=r at *
  obtain⟨y,ok,l,er⟩:=r
  simp only at hrl hbl KR ⊢
  have HL:l.length≤100000000:=Nat.le_trans hrl hl
  clear hrl hl h h2
  cases ok with
  | false=>
   simp only [Bool.false_eq_true,false_and,if_false]
   go_enter Tryz.func88,Tryz.ntmps88
   go_wp2_with fail
   refine (KV.out _).mono ?_
   rintro e w1 ⟨rfl,rfl⟩
   clear KV
   go_wp2_with fail
   refine KN.out.mono ?_
   rintro e w1 ⟨br,rfl,g1⟩
   have c0:w1.cell? ⟨w.heap.size,0,none⟩=some (.int .i64 kind):=cell_of (g1.block 2 rfl) rfl
   have c1:w1.cell? ⟨w.heap.size,1,none⟩=some (.int .i64 ver):=cell_of (g1.block 2 rfl) rfl
   have K1:=Lib.hid (KR.out _ _ g1)
   clear g1 KN KR
   go_wp2_with fail
   refine K1.out.mono ?_
   rintro e w2 ⟨pv,rfl,g2⟩
   simp only at g2
   obtain⟨Fv,rv⟩:=g2.get 0 rfl
   obtain⟨pa,pc,rfl,-,-,-⟩:=RowA.shape rv
   have g3:=g2.cells (encRL y (.slice pa y.bks.length pc)).toArray 39
   clear K1 rv
   have q1:=there_of (g3.block 3 rfl)
   have G:=Lib.hid (g3.setFull 3 rfl (xs:=encRL zeroRec (.slice none 0 0)) (b:=w.heap.size+1) (C:=(encRL zeroRec (.slice none 0 0)).toArray) (T:=39) rfl)
   have Q1:=Lib.hid q1
   clear g2 g3 q1
   go_wp2_with (refine wpList_store_mid (op:=⟨none,Op.store 39 (.tmp 2) (.tmp 36),_,_,_,_⟩) (by rfl) 39 (.tmp 2) (.tmp 36) rfl (w.heap.size+1) 0 (encRL zeroRec (.slice none 0 0)).toArray (by rfl) (by rfl) Q1.out (by kernel_rfl) (encRL_all _ _ _ _) ?_)
   exact bodyPost_ret (results_cell_tmp_row Tryz.results88 _ _ (w.heap.size+1) 39 _ (0,0) _ rfl (G.out.block 3 rfl) Tryz.underlying39 rfl (by kernel_rfl)) rfl ⟨.slice none 0 0,rfl,(G.out.sel2 (R1:=[_,_,_,_,_]) [] (by decide) rfl).rownil _ _⟩
  | true=>
   by_cases he:endE l er=0
   ·by_cases hm:mayRec y=true
    ·simp only [he,hm,and_self,if_true]
     go_enter Tryz.func88,Tryz.ntmps88
     go_wp2_with fail
     refine (KV.out _).mono ?_
     rintro e w1 ⟨rfl,rfl⟩
     clear KV
     go_wp2_with fail
     refine KN.out.mono ?_
     rintro e w1 ⟨br,rfl,g1⟩
     have c0:w1.cell? ⟨w.heap.size,0,none⟩=some (.int .i64 kind):=cell_of (g1.block 2 rfl) rfl
     have c1:w1.cell? ⟨w.heap.size,1,none⟩=some (.int .i64 ver):=cell_of (g1.block 2 rfl) rfl
     have K1:=Lib.hid (KR.out _ _ g1)
     clear g1 KN KR
     go_wp2_with fail
     refine K1.out.mono ?_
     rintro e w2 ⟨pv,rfl,g2⟩
     simp only at g2
     obtain⟨Fv,rv⟩:=g2.get 0 rfl
     obtain⟨pa,pc,rfl,-,-,-⟩:=RowA.shape rv
     have g3:=g2.cells (encRL y (.slice pa y.bks.length pc)).toArray 39
     clear K1 rv
     have KE:=o_rend g3 2 rfl HL
     rw [he] at KE
     have KM:=o_rcmay (c:=pc) (bks_row rfl 1 rfl) (Nat.le_trans hbl (by decide)) g3
     rw [hm] at KM
     clear he hm HL hbl
     have KE2:=Lib.hid KE
     clear KE
     have KM2:=Lib.hid KM
     clear KM g2 g3
     go_wp2_with fail
     refine KE2.out.mono ?_
     rintro e w3 ⟨rfl,rfl⟩
     clear KE2
     go_wp2_with fail
     refine KM2.out.mono ?_
     rintro e w4 ⟨rfl,g3⟩
     clear KM2
     have q0:w4.heap[w2.heap.size]?=some (.cells (encRL y (.slice pa y.bks.length pc)).toArray 39 (0,0)):=g3.block 0 rfl
     have q1:=there_of (g3.block 3 rfl)
     have G:=Lib.hid (g3.setFull 3 rfl (xs:=encRL y (.slice pa y.bks.length pc)) (b:=w.heap.size+1) (C:=(encRL zeroRec (.slice none 0 0)).toArray) (T:=39) rfl)
     have Q0:=Lib.hid q0
     have Q1:=Lib.hid q1
     clear g3 q0 q1
     go_wp2_with (first | (refine wpList_load_row rfl 39 (.tmp 5) rfl w2.heap.size rfl 39 _ (0,0) _ Q0.out Tryz.underlying39 rfl (by kernel_rfl) ?_) | (refine wpList_store_mid (op:=⟨none,Op.store 39 (.tmp 2) (.tmp 37),_,_,_,_⟩) (by rfl) 39 (.tmp 2) (.tmp 37) rfl (w.heap.size+1) 0 (encRL y (.slice pa y.bks.length pc)).toArray (by rfl) (by rfl) Q1.out (by kernel_rfl) (encRL_all _ _ _ _) ?_))
     exact bodyPost_ret (results_cell_tmp_row Tryz.results88 _ _ (w.heap.size+1) 39 _ (0,0) _ rfl (G.out.block 3 rfl) Tryz.underlying39 rfl (by kernel_rfl)) rfl ⟨.slice pa y.bks.length pc,rfl,G.out.sel2 (R1:=[_,_,_,_,_]) [1] (by decide) rfl⟩
    ·have hm2:mayRec y=false:=by simpa using hm
     simp only [he,hm2,Bool.false_eq_true,and_false,if_false]
     go_enter Tryz.func88,Tryz.ntmps88
     go_wp2_with fail
     refine (KV.out _).mono ?_
     rintro e w1 ⟨rfl,rfl⟩
     clear KV
     go_wp2_with fail
     refine KN.out.mono ?_
     rintro e w1 ⟨br,rfl,g1⟩
     have c0:w1.cell? ⟨w.heap.size,0,none⟩=some (.int .i64 kind):=cell_of (g1.block 2 rfl) rfl
     have c1:w1.cell? ⟨w.heap.size,1,none⟩=some (.int .i64 ver):=cell_of (g1.block 2 rfl) rfl
     have K1:=Lib.hid (KR.out _ _ g1)
     clear g1 KN KR
     go_wp2_with fail
     refine K1.out.mono ?_
     rintro e w2 ⟨pv,rfl,g2⟩
     simp only at g2
     obtain⟨Fv,rv⟩:=g2.get 0 rfl
     obtain⟨pa,pc,rfl,-,-,-⟩:=RowA.shape rv
     have g3:=g2.cells (encRL y (.slice pa y.bks.length pc)).toArray 39
     clear K1 rv
     have KE:=o_rend g3 2 rfl HL
     rw [he] at KE
     have KM:=o_rcmay (c:=pc) (bks_row rfl 1 rfl) (Nat.le_trans hbl (by decide)) g3
     rw [hm2] at KM
     clear he hm hm2 HL hbl
     have KE2:=Lib.hid KE
     clear KE
     have KM2:=Lib.hid KM
     clear KM g2 g3
     go_wp2_with fail
     refine KE2.out.mono ?_
     rintro e w3 ⟨rfl,rfl⟩
     clear KE2
     go_wp2_with fail
     refine KM2.out.mono ?_
     rintro e w4 ⟨rfl,g3⟩
     clear KM2
     have g2:True:=trivial
     have q1:=there_of (g3.block 3 rfl)
     have G:=Lib.hid (g3.setFull 3 rfl (xs:=encRL zeroRec (.slice none 0 0)) (b:=w.heap.size+1) (C:=(encRL zeroRec (.slice none 0 0)).toArray) (T:=39) rfl)
     have Q1:=Lib.hid q1
     clear g2 g3 q1
     go_wp2_with (refine wpList_store_mid (op:=⟨none,Op.store 39 (.tmp 2) (.tmp 36),_,_,_,_⟩) (by rfl) 39 (.tmp 2) (.tmp 36) rfl (w.heap.size+1) 0 (encRL zeroRec (.slice none 0 0)).toArray (by rfl) (by rfl) Q1.out (by kernel_rfl) (encRL_all _ _ _ _) ?_)
     exact bodyPost_ret (results_cell_tmp_row Tryz.results88 _ _ (w.heap.size+1) 39 _ (0,0) _ rfl (G.out.block 3 rfl) Tryz.underlying39 rfl (by kernel_rfl)) rfl ⟨.slice none 0 0,rfl,(G.out.sel2 (R1:=[_,_,_,_,_]) [] (by decide) rfl).rownil _ _⟩
   ·simp only [he,false_and,and_false,if_false]
    go_enter Tryz.func88,Tryz.ntmps88
    go_wp2_with fail
    refine (KV.out _).mono ?_
    rintro e w1 ⟨rfl,rfl⟩
    clear KV
    go_wp2_with fail
    refine KN.out.mono ?_
    rintro e w1 ⟨br,rfl,g1⟩
    have c0:w1.cell? ⟨w.heap.size,0,none⟩=some (.int .i64 kind):=cell_of (g1.block 2 rfl) rfl
    have c1:w1.cell? ⟨w.heap.size,1,none⟩=some (.int .i64 ver):=cell_of (g1.block 2 rfl) rfl
    have K1:=Lib.hid (KR.out _ _ g1)
    clear g1 KN KR
    go_wp2_with fail
    refine K1.out.mono ?_
    rintro e w2 ⟨pv,rfl,g2⟩
    simp only at g2
    obtain⟨Fv,rv⟩:=g2.get 0 rfl
    obtain⟨pa,pc,rfl,-,-,-⟩:=RowA.shape rv
    have g3:=g2.cells (encRL y (.slice pa y.bks.length pc)).toArray 39
    clear K1 rv
    have KE:=o_rend g3 2 rfl HL
    have qe:(endE l er == 0)=false:=beq_eq_false_iff_ne.2 he
    have KE2:=Lib.hid KE
    clear KE
    have q1:=there_of (g3.block 3 rfl)
    have G:=Lib.hid (g3.setFull 3 rfl (xs:=encRL zeroRec (.slice none 0 0)) (b:=w.heap.size+1) (C:=(encRL zeroRec (.slice none 0 0)).toArray) (T:=39) rfl)
    have Q1:=Lib.hid q1
    clear g2 g3 q1
    go_wp2_with fail
    refine KE2.out.mono ?_
    rintro e w3 ⟨rfl,rfl⟩
    clear KE2
    go_wp2_with (refine wpList_store_mid (op:=⟨none,Op.store 39 (.tmp 2) (.tmp 36),_,_,_,_⟩) (by rfl) 39 (.tmp 2) (.tmp 36) rfl (w.heap.size+1) 0 (encRL zeroRec (.slice none 0 0)).toArray (by rfl) (by rfl) Q1.out (by kernel_rfl) (encRL_all _ _ _ _) ?_)
    exact bodyPost_ret (results_cell_tmp_row Tryz.results88 _ _ (w.heap.size+1) 39 _ (0,0) _ rfl (G.out.block 3 rfl) Tryz.underlying39 rfl (by kernel_rfl)) rfl ⟨.slice none 0 0,rfl,(G.out.sel2 (R1:=[_,_,_,_,_]) [] (by decide) rfl).rownil _ _⟩
end
theorem laidOutT:laidOutB Tryz.prog=true:=by kernel_rfl
theorem tupLaw:Keyed Tryz.prog 34:=Keyed.of_law (deep_law_laid laidOutT (m:=3) (by omega) (of_decide_eq_true (by kernel_rfl)) (by kernel_rfl) (by kernel_rfl))
theorem wf_u32 {n:Int} (h0:0≤n) (h1:n < 4294967296):(Lit.int .u32 n).wf=true:=by
 simp [Lit.wf,IntKind.min,IntKind.max,IntKind.signed,IntKind.bits];omega
theorem wf_i64 {n:Int} (h0:-9223372036854775808≤n) (h1:n≤9223372036854775807):(Lit.int .i64 n).wf=true:=by
 simp [Lit.wf,IntKind.min,IntKind.max,IntKind.signed,IntKind.bits];omega
theorem keyOf_five {P:Program} {T tu ti:TypeId} {f0 f1 f2 f3 f4:Field} (hu:P.underlying T=some (.struct #[f0,f1,f2,f3,f4])) (u1:P.underlying tu=some (.int .u32)) (u2:P.underlying ti=some (.int .i64))
  (e0:f0.type=tu∧f0.offset=0) (e1:f1.type=tu∧f1.offset=1) (e2:f2.type=ti∧f2.offset=2) (e3:f3.type=ti∧f3.offset=3) (e4:f4.type=ti∧f4.offset=4)
  (hn : #[f0, f1, f2, f3, f4].all (·.name != "_") = true) (c1 : P.cellsOf tu = 1) (c2 : P.cellsOf ti = 1) (c3 : P.cellsOf T = 5) (k1 : P.keyType T = true) (hs : 0 < P.types.size)
  {a b c d e:Int} (w1:(Lit.int .u32 a).wf=true) (w2:(Lit.int .u32 b).wf=true) (w3:(Lit.int .i64 c).wf=true) (w4:(Lit.int .i64 d).wf=true) (w5:(Lit.int .i64 e).wf=true) :
  ∃ l,keyOf P T (.agg #[.int .u32 a,.int .u32 b,.int .i64 c,.int .i64 d,.int .i64 e])=some l:=by
 obtain⟨m,hm⟩:∃ m,P.types.size=m+1:=⟨P.types.size - 1,by omega⟩
 unfold keyOf
 rw [hu]
 simp only [k1,Value.formed,hu,c3,hm,Program.keyLits,Value.cells,List.size_toArray,List.length_cons,List.length_nil,Nat.zero_add,Nat.reduceAdd,beq_self_eq_true,Bool.and_self,if_true,and_self,
  List.mapM_cons,List.mapM_nil,e0,e1,e2,e3,e4,c1,c2,u1,u2,w1,w2,w3,w4,w5,List.drop,List.take]
 rw [if_pos ⟨trivial,hn⟩]
 exact⟨_,rfl⟩
theorem keyOf_tup {t:Tup} (h:WfT t):∃ l,keyOf Tryz.prog 34 (.agg (encT t))=some l:=
 keyOf_five Tryz.underlying34 Tryz.underlying32 Tryz.underlying3 ⟨rfl,rfl⟩ ⟨rfl,rfl⟩ ⟨rfl,rfl⟩ ⟨rfl,rfl⟩ ⟨rfl,rfl⟩ (by decide +kernel) (by kernel_rfl) (by kernel_rfl) (by kernel_rfl) (by kernel_rfl) (of_decide_eq_true (by kernel_rfl))
  (wf_u32 h.s0 h.s1) (wf_u32 h.d0 h.d1) (wf_i64 h.p0 h.p1) (wf_i64 h.sp0 h.sp1) (wf_i64 h.dp0 h.dp1)
theorem intLawS:Keyed Tryz.prog 3:=Maps.int_keyed Tryz.underlying3
abbrev svT (x:Fl):Value:=.agg (encT x.t)
abbrev svF (x:Fl):Value:=.agg (encF x)
abbrev SFM (b:Nat) (L:List Fl):Asrt:=TabA Tryz.prog 34 svT svF b L
abbrev sdK (x:Int×Int):Value:=.int .i64 x.1
abbrev sdV (x:Int×Int):Value:=.int .i64 x.2
abbrev SDM (b:Nat) (L:List (Int×Int)):Asrt:=TabA Tryz.prog 3 sdK sdV b L
abbrev stC (s:StD) (bv:Value) (dm fm:Nat):Array Value:=#[.int .i64 s.gen,bv,.map (some dm),.map (some fm)]
def StR (sb dm fm:Nat) (bv:Value) (s:StD):List Asrt:=[Cells sb (stC s bv dm fm) 116,BkR bv s.bks,SDM dm s.drs,SFM fm s.fls]
theorem StR.framed {sb dm fm:Nat} {bv:Value} {s:StD}:∀ A∈StR sb dm fm bv s,Framed A:=by
 intro A hA
 simp only [StR,List.mem_cons,List.not_mem_nil,or_false] at hA
 rcases hA with rfl | rfl | rfl | rfl
 ·exact Cells.framed _ _ _
 ·exact RowA.framed _ _ _ _ _
 ·exact TabA.framed _ _
 ·exact TabA.framed _ _
def StA (sb:Nat) (s:StD):Asrt:=fun w F=>∃ dm fm bv,OkSt s∧Star (StR sb dm fm bv s) w F
theorem StA.framed (sb:Nat) (s:StD):Framed (StA sb s):=by
 refine⟨?_,?_⟩
 ·rintro w w' F ⟨dm,fm,bv,h1,h2⟩ hk;exact⟨dm,fm,bv,h1,(Framed.star StR.framed).keep h2 hk⟩
 ·rintro w F ⟨dm,fm,bv,h1,h2⟩;exact (Framed.star StR.framed).lt h2
theorem star_backS {w:World}:∀ {A1 R:List Asrt} {F1 F2:List Nat},Star A1 w F1→Star R w F2→Apart F1 F2→Star (A1++R) w (F1++F2)
 | [],R,F1,F2,h1,h2,_=>by obtain rfl:F1=[]:=h1;simpa using h2
 | A::A1,R,F1,F2,⟨G1,G2,g1,g2,g3,e⟩,h2,h3=>by
  refine⟨G1,G2++F2,g1,star_backS g2 h2 (fun b hb=>h3 b (by rw [e];exact List.mem_append_right _ hb)),fun b hb hb2=>?_,by rw [e,List.append_assoc]⟩
  rcases List.mem_append.1 hb2 with hb2 | hb2
  ·exact g3 b hb hb2
  ·exact h3 b (by rw [e];exact List.mem_append_left _ hb) hb2
section
variable {F0:List Nat} {w0 w:World} {R:List Asrt} {sb:Nat} {s:StD}
theorem In.stOpen (h:In F0 w0 w (StA sb s::R)):OkSt s∧∃ dm fm a c,In F0 w0 w (Cells sb (stC s (.slice a s.bks.length c) dm fm) 116::BkR (.slice a s.bks.length c) s.bks::SDM dm s.drs::SFM fm s.fls::R):=by
 obtain⟨F,⟨F1,F2,⟨dm,fm,bv,hok,h1⟩,h2,h3,rfl⟩,hF⟩:=h.star
 have h4:In F0 w0 w (StR sb dm fm bv s++R):=by
  refine⟨fun B hB=>?_,⟨_,star_backS h1 h2 h3,hF⟩,h.mod⟩
  rcases List.mem_append.1 hB with hB | hB
  ·exact StR.framed _ hB
  ·exact h.framed B (List.mem_cons_of_mem _ hB)
 obtain⟨Fv,rv⟩:=h4.get 1 rfl
 obtain⟨a,c,rfl,-,-,-⟩:=RowA.shape rv
 exact⟨hok,dm,fm,a,c,h4⟩
theorem In.stClose {dm fm:Nat} {bv:Value} (hok:OkSt s) (h:In F0 w0 w (Cells sb (stC s bv dm fm) 116::BkR bv s.bks::SDM dm s.drs::SFM fm s.fls::R)):In F0 w0 w (StA sb s::R):=
 (In.join (A1:=StR sb dm fm bv s) (R:=R) h).imp (A':=StA sb s) 0 rfl (StA.framed _ _) (fun F hF=>⟨dm,fm,bv,hok,hF⟩)
theorem o_stnew (h:In F0 w0 w R):Calls Tryz.prog 20 #[] w fun e w'=>∃ sb,e=.returned (pR sb)∧In F0 w0 w' (StA sb zeroSt::R):=by
 have h1:=tab_make h Tryz.prog 3 sdK sdV
 have h2:=tab_make h1 Tryz.prog 34 svT svF
 have e1:(w.alloc (Obj.map #[] 0)).heap.size=w.heap.size+1:=Array.size_push _
 have e2:((w.alloc (Obj.map #[] 0)).alloc (Obj.map #[] 0)).heap.size=w.heap.size+1+1:=by rw [show ((w.alloc (Obj.map #[] 0)).alloc (Obj.map #[] 0)).heap.size=(w.alloc (Obj.map #[] 0)).heap.size+1 from Array.size_push _,e1]
 have h3:=(h2.cells #[.int .i64 0,.slice none 0 0,.map (some w.heap.size),.map (some (w.heap.size+1))] 116).rownil 119 3
 rw [e1,e2] at h3
 have HF:=Lib.hid (In.stClose (s:=zeroSt) OkSt.zero (In.sel2 (R1:=[_,_,_,_]) (R2:=R) h3 [1,0,3,2] (by decide) rfl))
 clear h h1 h2 h3 e1 e2
 have hmm:=@run_makeMap Tryz.prog
 go_enter Tryz.func20,Tryz.ntmps20
 go_wp2_with fail
 go_ret
 exact⟨_,rfl,HF.out⟩
/-! ### The maps -/
theorem svT_inj {x y:Fl} (h:svT x=svT y):x.t=y.t:=by
 obtain⟨⟨a1,a2,a3,a4,a5⟩,_,_,_⟩:=x
 obtain⟨⟨b1,b2,b3,b4,b5⟩,_,_,_⟩:=y
 simp [svT,encT] at h
 simp [h]
theorem nodup_svT {L:List Fl} (h:SrtF L):(L.map svT).Nodup:=by
 unfold List.Nodup
 rw [List.pairwise_map]
 refine List.Pairwise.imp (fun {x y} hl e=>?_) h
 rw [svT_inj e,ltT_irrefl] at hl;cases hl
theorem nodup_sdK {L:List (Int×Int)} (h:SrtD L):(L.map sdK).Nodup:=by
 unfold List.Nodup
 rw [List.pairwise_map]
 refine List.Pairwise.imp (fun {x y} hl e=>?_) h
 simp only [sdK,Value.int.injEq,true_and] at e
 omega
theorem zero_flowS (w:World):(zeroValue 36).run Tryz.prog w=.ok (.agg (encF zeroF)) w:=by kernel_rfl
variable {fm dm:Nat} {L:List Fl} {M:List (Int×Int)}
theorem tne_iff {t:Tup} {x:Fl}:decide (x.t≠t)=true↔svT x≠.agg (encT t):=by
 rw [decide_eq_true_eq]
 exact⟨fun h e=>h (svT_inj (y:=⟨t,0,0,0⟩) e),fun h e=>h (by rw [← e])⟩
theorem sf_put (h:In F0 w0 w R) (i:Nat) (hA:R[i]?=some (SFM fm L)) (hs:SrtF L) {f:Fl} (wt:WfT f.t):∃ w',(Instr.mapUpdate 114 (.map (some fm)) (.agg (encT f.t)) (.agg (encF f))).run Tryz.prog w=.ok () w'∧Turn fm w w'∧In F0 w0 w' (R.set i (SFM fm (stPutF f L))):=by
 obtain⟨kl,hkl⟩:=keyOf_tup wt
 obtain⟨w',h1,h2,h3⟩:=tab_put h i hA tupLaw Tryz.underlying114 f hkl (nodup_svT hs) (fun x=>decide (x.t≠f.t)) (fun x _=>tne_iff)
 have hi:=(List.getElem?_eq_some_iff.1 hA).1
 have:=tab_perm (L':=stPutF f L) h3 i (by rw [List.getElem?_set_self hi];rfl) (stPutF_perm hs)
 rw [List.set_set] at this
 exact⟨w',h1,h2,this⟩
theorem sf_del (h:In F0 w0 w R) (i:Nat) (hA:R[i]?=some (SFM fm L)) (hs:SrtF L) {t:Tup} (wt:WfT t) (k2 ty:TypeId):∃ w',(Builtin.delete_ #[114,k2] ty #[.map (some fm),.agg (encT t)]).run Tryz.prog w=.ok (.tuple #[]) w'∧Turn fm w w'∧In F0 w0 w' (R.set i (SFM fm (stDelF t L))):=by
 obtain⟨kl,hkl⟩:=keyOf_tup wt
 exact tab_del h i hA tupLaw Tryz.underlying114 hkl (nodup_svT hs) (fun x=>decide (x.t≠t)) (fun x _=>tne_iff) k2 ty
theorem sd_put (h:In F0 w0 w R) (i:Nat) (hA:R[i]?=some (SDM dm M)) (hs:SrtD M) {b:Int} (hb:(Lit.int .i64 b).wf=true) (u:Int):∃ w',(Instr.mapUpdate 113 (.map (some dm)) (.int .i64 b) (.int .i64 u)).run Tryz.prog w=.ok () w'∧Turn dm w w'∧In F0 w0 w' (R.set i (SDM dm (stPutD b u M))):=by
 obtain⟨w',h1,h2,h3⟩:=tab_put h i hA intLawS Tryz.underlying113 (b,u) (Maps.keyOf_int_mk Tryz.underlying3 hb) (nodup_sdK hs) (fun x=>decide (x.1≠b)) (fun x _=>by simp [sdK])
 have hi:=(List.getElem?_eq_some_iff.1 hA).1
 have:=tab_perm (L':=stPutD b u M) h3 i (by rw [List.getElem?_set_self hi];rfl) (stPutD_perm hs)
 rw [List.set_set] at this
 exact⟨w',h1,h2,this⟩
theorem sd_del (h:In F0 w0 w R) (i:Nat) (hA:R[i]?=some (SDM dm M)) (hs:SrtD M) {b:Int} (hb:(Lit.int .i64 b).wf=true) (k2 ty:TypeId):∃ w',(Builtin.delete_ #[113,k2] ty #[.map (some dm),.int .i64 b]).run Tryz.prog w=.ok (.tuple #[]) w'∧Turn dm w w'∧In F0 w0 w' (R.set i (SDM dm (stDelD b M))):=
 tab_del h i hA intLawS Tryz.underlying113 (Maps.keyOf_int_mk Tryz.underlying3 hb) (nodup_sdK hs) (fun x=>decide (x.1≠b)) (fun x _=>by simp [sdK]) k2 ty
end
end Go.Proofs.YtpmmiljakbojaaaGreat
