/- .. -/
import Derived.Test.YtanhdliaaccacaaGreatUB40
namespace Go.Proofs.YtanhdliaaccacaaGreat
open Go.RowKit
set_option linter.unusedVariables false
set_option maxHeartbeats 64000000
set_option maxRecDepth 100000
section
variable {F0:List Nat} {w0 w:World} {R:List ax}
def Wp (t:eT) (F0:List Nat) (w0:World) (R:List ax) (e:Ending) (w':World):Prop:=∃ A' a' D' d' F' f',e=.returned (.tuple #[zx t A' a' D' d' F' f',.int .i64 0])∧In F0 w0 w' (gq (.slice A' t.au.length a') t.au::xA (.slice D' t.bL.length d') t.bL::FM (.slice F' t.bS.length f') t.bS::R)
theorem Pp {s:eT} {A D F:Option Addr} {a d f:Nat} {x y:Int} (hxy:1≤x∧x≤y∧y≤3) (v:xm F0 w0 R s A D F) (hn:A=none→a=0) (hnd:D=none→d=0) (lb:s.au.length≤1000) (ld:s.bL.length≤1000) (lf:s.bS.length≤1000) (h:In F0 w0 w R) :
  Calls Tryz.prog 36 #[zx s A a D d F f,.int .i64 x,.int .i64 y] w (Wp (eD x y s) F0 w0 R):=by
 have h2:=(h.cells #[.int .i64 s.gen,.slice A s.au.length a,.slice D s.bL.length d,.slice F s.bS.length f] 26).cells #[.int .i64 0,.slice none 0 0,.slice none 0 0,.slice none 0 0] 26
 simp only [World.size_alloc] at h2
 have KK:=(Pn (a:=a) (d:=d) (f:=f) hxy ((v.more (Cells w.heap.size #[.int .i64 s.gen,.slice A s.au.length a,.slice D s.bL.length d,.slice F s.bS.length f] 26)).more (Cells (w.heap.size+1) #[.int .i64 0,.slice none 0 0,.slice none 0 0,.slice none 0 0] 26)) hn hnd lb ld lf h2)
 obtain⟨t,ht⟩:∃ t,t=eD x y s:=⟨_,rfl⟩
 rw [← ht] at KK ⊢
 have K:=Lib.hid KK
 clear KK ht h h2 v hn hnd lb ld lf
 go_enter Tryz.func36,Tryz.ntmps36
 go_wp2_with fail
 generalize w.heap.size=g at *
 refine K.out.mono ?_
 rintro e w1 ⟨A',a',D',d',F',f',rfl,g1⟩
 have ht:=dX (g1.block 3 rfl)
 have G:=Lib.hid (g1.eX 3 rfl (xs:=[.int .i64 t.gen,.slice A' t.au.length a',.slice D' t.bL.length d',.slice F' t.bS.length f']) (b:=g+1) (C:=#[.int .i64 0,.slice none 0 0,.slice none 0 0,.slice none 0 0]) (T:=26) rfl)
 clear g1 K
 go_wp2_with (refine wpList_store_mid (op:=⟨none,Op.store 26 (.tmp 6) (.tmp 12),_,_,_,_⟩) (by rfl) 26 (.tmp 6) (.tmp 12) rfl (g+1) 0 #[.int .i64 t.gen,.slice A' t.au.length a',.slice D' t.bL.length d',.slice F' t.bS.length f'] (by rfl) (by rfl) ht (by kernel_rfl) (oC _ _ _ _ _ _ _ _ _ _) ?_)
 exact bodyPost_ret (aP Tryz.results36 _ _ (g+1) 26 _ (0,0) _ rfl (G.out.block 3 rfl) Tryz.underlying26 rfl (by kernel_rfl)) rfl ⟨A',a',D',d',F',f',rfl,G.out.aL (R1:=[_,_,_,_,_]) [0,1,2] (by decide) rfl⟩
end
section
variable {F0:List Nat} {w0 w:World} {R:List ax} {sb lb bd dA:Nat}
theorem Ze {s:SD} {n:Nat} (hr:Gt s n) (hn:n≤90000000) (b:Int) (h:In F0 w0 w (vQ sb lb bd dA s R)) :
  Calls Tryz.prog 17 #[pR sb,.int .i64 b] w (Jn sb lb bd (qK b s) F0 w0 R):=by
 have K1:=Lib.hid (fun w' (h':In F0 w0 w' (vQ sb lb bd dA s R))=>tN h')
 have HH:=Lib.hid h
 by_cases c1:b < (s.2.l.m.ak:Int)
 ·have q1:=decide_eq_true c1
  rw [Gu (Or.inl c1)]
  clear h hr c1
  go_enter Tryz.func17,Tryz.ntmps17
  go_wp2_with fail
  refine (K1.out _ HH.out).mono ?_
  rintro e w1 ⟨rfl,rfl⟩
  clear K1
  go_wp2_with fail
  go_ret
  exact⟨_,rfl,HH.out⟩
 have q1:decide (b < (s.2.l.m.ak:Int))=false:=decide_eq_false c1
 by_cases c2:3 < b
 ·have q2:decide ((3:Int) < b)=true:=decide_eq_true c2
  rw [Gu (Or.inr c2)]
  clear h hr c1
  go_enter Tryz.func17,Tryz.ntmps17
  go_wp2_with fail
  refine (K1.out _ HH.out).mono ?_
  rintro e w1 ⟨rfl,rfl⟩
  clear K1
  go_wp2_with fail
  go_ret
  exact⟨_,rfl,HH.out⟩
 have q2:decide ((3:Int) < b)=false:=decide_eq_false c2
 by_cases c3:b=(s.2.l.m.ak:Int)
 ·have q3:(b == (s.2.l.m.ak:Int))=true:=beq_iff_eq.2 c3
  rw [qI c3 (by omega)]
  clear h hr c1 c2 c3
  go_enter Tryz.func17,Tryz.ntmps17
  go_wp2_with fail
  refine (K1.out _ HH.out).mono ?_
  rintro e w1 ⟨rfl,rfl⟩
  go_wp2_with fail
  refine (K1.out _ HH.out).mono ?_
  rintro e w1 ⟨rfl,rfl⟩
  clear K1
  go_wp2_with fail
  go_ret
  exact⟨_,rfl,HH.out⟩
 have q3:(b == (s.2.l.m.ak:Int))=false:=beq_eq_false_iff_ne.2 c3
 have hvk:=hr.ak
 unfold di at hvk
 simp only [decide_eq_true_eq] at hvk
 have hxy:1≤(s.2.l.m.ak:Int)∧(s.2.l.m.ak:Int)≤b∧b≤3:=by omega
 rw [vU (by omega) (by omega)]
 have K2:=Lib.hid (DN h)
 have K3:=Lib.hid (tH (h.aL (R1:=[_,_,_,_]) [3,0,1,2] (by decide) rfl))
 have HXY:=Lib.hid hxy
 have HR:=Lib.hid hr
 have HOI:Hid (gm (eD s.2.l.m.ak b s.2.st)):=Lib.hid (hr.ok.img _ _)
 have iT:=Lib.hid hr.ok.lens
 have HNN:=Lib.hid hn
 clear h hr hn c1 c2 c3 hvk hxy
 go_enter Tryz.func17,Tryz.ntmps17
 go_wp2_with fail
 refine (K1.out _ HH.out).mono ?_
 rintro e w1 ⟨rfl,rfl⟩
 go_wp2_with fail
 refine (K1.out _ HH.out).mono ?_
 rintro e w1 ⟨rfl,rfl⟩
 go_wp2_with fail
 refine K2.out.mono ?_
 rintro e w1 ⟨rfl,rfl⟩
 go_wp2_with fail
 refine K3.out.mono ?_
 rintro e w2 ⟨A,a,D,d,F,f,rfl,g1⟩
 obtain⟨Fb,rb⟩:=g1.get 0 rfl
 obtain⟨Fd,rd⟩:=g1.get 1 rfl
 have K4:=Lib.hid (tN (g1.aL (R1:=[_,_,_,_,_,_,_]) [4,5,0,1,2,3,6] (by decide) rfl))
 have K5:=Lib.hid (Pp (a:=a) (d:=d) (f:=f) HXY.out (BH 0 1 2 rfl rfl rfl) (fun e=>ay.Jz rb e) (fun e=>ay.Jz rd e) (by have:=iT.out.1;omega) (by have:=iT.out.2.1;omega) (by have:=iT.out.2.2;omega) g1)
 clear g1 rb rd K1 K2 K3
 go_wp2_with fail
 refine K4.out.mono ?_
 rintro e w3 ⟨rfl,rfl⟩
 go_wp2_with fail
 refine K5.out.mono ?_
 rintro e w4 ⟨A',a',D',d',F',f',rfl,g2⟩
 obtain⟨t,ht⟩:∃ t,t=eD s.2.l.m.ak b s.2.st:=⟨_,rfl⟩
 rw [← ht] at g2 HOI ⊢
 have HT:=Lib.hid ht
 obtain⟨Fb,rb⟩:=g2.get 0 rfl
 have hnb:A'=none→a'=0:=fun e=>ay.Jz rb e
 have h5:=g2.cells #[.int .i64 t.gen,.slice A' t.au.length a',.slice D' t.bL.length d',.slice F' t.bS.length f'] 26
 obtain⟨l1,l2,l3⟩:=HOI.out.lens
 have KO:=Yt (v:=t) (a:=a') (d:=d') (f:=f') (BH 1 2 3 rfl rfl rfl) hnb (by omega) (by omega) (by omega) (fun r hr=>(nS.recs HOI.out r hr).1) h5
 have K6:Hid (Calls Tryz.prog 41 #[zx t A' a' D' d' F' f'] (w4.alloc (.cells #[.int .i64 t.gen,.slice A' t.au.length a',.slice D' t.bL.length d',.slice F' t.bS.length f'] 26)) fun e w'=>∃ tb,e=.returned (.tuple #[pR tb,.int .i64 0])∧In F0 w0 w' (vQ sb lb bd dA s (iF tb t::R))):=Lib.hid (KO.mono (fun e w' hp=>by
  unfold yw at hp
  rw [Ul HOI.out] at hp
  obtain⟨tb,e1,g3⟩:=hp
  exact⟨tb,e1,g3.aL (R1:=[_,_,_,_,_,_,_,_,_,_,_,_]) [9,10,11,8,0] (by decide) rfl⟩))
 clear g2 ht rb hnb h5 KO K4 K5 l1 l2 l3
 go_wp2_with fail
 refine K6.out.mono ?_
 rintro e w5 ⟨tb,rfl,g3⟩
 have K7:=Lib.hid (Tt (ak:=b) HR.out.lg (Classical.choose_spec (Classical.choose_spec HR.out.inv)) (by have:=HR.out.ops;have:=HNN.out;omega) 4 rfl g3)
 clear g3 K6
 go_wp2_with fail
 refine K7.out.mono ?_
 rintro e w6 ⟨aax,rfl,g4⟩
 have g5:=g4.aL (R1:=[_,_,_,_,_]) [0,1,2,3] (by decide) rfl
 rw [HT.out] at g5
 have G:=Lib.hid g5
 clear g4 g5 K7 q1 q2 q3
 go_wp2_with fail
 go_ret
 exact⟨aax,by rw [HT.out];rfl,G.out⟩
end
end Go.Proofs.YtanhdliaaccacaaGreat
