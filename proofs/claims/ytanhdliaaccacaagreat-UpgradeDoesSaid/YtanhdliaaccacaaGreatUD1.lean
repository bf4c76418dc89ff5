/- .. -/
import Derived.Test.YtanhdliaaccacaaGreatUBUpFill
import Derived.Test.YtanhdliaaccacaaGreatUBL17Awake
namespace Go.Proofs.YtanhdliaaccacaaGreat
open Go.RowKit
set_option linter.unusedVariables false
set_option maxHeartbeats 64000000
set_option maxRecDepth 100000
theorem ab0 (W:World) (version:Int) (wv:(Lit.int .i64 version).wf=true) (b:Int) (wb:(Lit.int .i64 b).wf=true) (size:Int) (wsz:(Lit.int .i64 size).wf=true) {v:Value} {cs:List kS} (hv:uW W v cs) :
  Calls Tryz.prog 7 #[.int .i64 version,.int .i64 b,.int .i64 size,v] W (abq W):=by
 have HAW:=Lib.hid (fun w' (R:List ax) (h':In [] W w' R)=>Zu h')
 have KF:=Lib.hid (fun z zs (hz:1≤z∧z≤3)=>Zr hz zs (Own.nil W) hv)
 have ab5:=Lib.hid (aa5 version)
 clear hv wv wsz wb
 go_enter Tryz.func7,Tryz.ntmps7
 go_wp2_with fail
 generalize wrap64 (1+wrap64 ((IntKind.u64.wrap version).tmod 3))=z at *
 generalize wrap64 ((IntKind.u64.wrap size).tmod 500)=zs at *
 refine (KF.out z zs ab5.out).mono ?_
 rintro e w1 ⟨sb,lb,bd,dA,s,rfl,hfi,g1⟩
 obtain⟨r0,hvr,hz3,hx1,hx2⟩:=Wo (b:=b) hfi
 have HX1:=Lib.hid hx1
 have Yd:=Lib.hid hx2
 have HR0:=Lib.hid r0
 have HVR:=Lib.hid hvr
 have HZ3:=Lib.hid hz3
 obtain⟨t,ht⟩:∃ t,t=s.2.st:=⟨_,rfl⟩
 have HT:=Lib.hid ht
 have HOT:Hid (gm t):=Lib.hid (by rw [ht];exact r0.ok)
 have K6:=Lib.hid (DN g1)
 have K7:=uC (g1.aL (R1:=[_,_,_,_]) (R2:=[]) [3,0,1,2] (by decide) rfl)
 rw [← ht] at K7
 have K7':=Lib.hid K7
 clear g1 KF hfi hx1 hx2 r0 hvr hz3 ht K7 ab5
 go_wp2_with fail
 refine K6.out.mono ?_
 rintro e w7 ⟨rfl,rfl⟩
 go_wp2_with fail
 refine K7'.out.mono ?_
 rintro e w8 ⟨A4,a4,D4,d4,F4,f4,rfl,g8⟩
 have g9:=(g8.cells #[.int .i64 t.gen,.slice A4 t.au.length a4,.slice D4 t.bL.length d4,.slice F4 t.bS.length f4] 26).aL (R1:=[_,_,_,_,_,_,_,_]) (R2:=[]) [5,6,7,4,0,1,2,3] (by decide) rfl
 obtain⟨ob,hob⟩:∃ ob,ob=w8.heap.size:=⟨_,rfl⟩
 obtain⟨w9,hw9⟩:∃ w9,w9=w8.alloc (.cells #[.int .i64 t.gen,.slice A4 t.au.length a4,.slice D4 t.bL.length d4,.slice F4 t.bS.length f4] 26):=⟨_,rfl⟩
 have g10:In [] W w9 (vQ sb lb bd dA s [Cells ob #[.int .i64 t.gen,.slice A4 t.au.length a4,.slice D4 t.bL.length d4,.slice F4 t.bS.length f4] 26,gq (.slice A4 t.au.length a4) t.au,xA (.slice D4 t.bL.length d4) t.bL,FM (.slice F4 t.bS.length f4) t.bS]):=by rw [hob,hw9];unfold vQ;rw [← HT.out];exact g9
 have K8:=Lib.hid (Ze HR0.out (by omega) b g10)
 have HOB:=Lib.hid hob
 have HW9:=Lib.hid hw9
 clear g8 g9 g10 K6 K7' hob hw9
 go_wp2_with fail
 rw [← HOB.out,← HW9.out]
 refine K8.out.mono ?_
 rintro e Gw ⟨aax,rfl,g11⟩
 clear K8 HOB HW9
 by_cases c0:b < z∨3 < b
 case pos=>
  rw [HX1.out c0] at g11
  rw [HX1.out c0]
  have hz0:(Gw.drewN 1).cell? ⟨ob,0,none⟩=some (.int .i64 t.gen)∧(Gw.drewN 1).cell? ⟨ob,1,none⟩=some (.slice A4 t.au.length a4)∧(Gw.drewN 1).cell? ⟨ob,2,none⟩=some (.slice D4 t.bL.length d4)∧(Gw.drewN 1).cell? ⟨ob,3,none⟩=some (.slice F4 t.bS.length f4):=FT ((g11.drewN 1).block 4 rfl)
  have K5:=tN (g11.drewN 1)
  rw [HVR.out] at K5
  have K5':=Lib.hid K5
  have K6:=Lib.hid (DN (g11.drewN 1))
  have K7:=uC ((g11.drewN 1).aL (R1:=[_,_,_,_,_,_,_,_]) (R2:=[]) [3,0,1,2,4,5,6,7] (by decide) rfl)
  rw [← HT.out] at K7
  have K7':=Lib.hid K7
  clear g11 K7 K5 HX1 Yd
  have d0:(b < z)∨(decide (b < z)=false∧3 < b):=by
   by_cases h:b < z
   ·exact Or.inl h
   ·exact Or.inr ⟨decide_eq_false h,by omega⟩
  clear c0
  rcases d0 with d0 | ⟨d0,d1⟩
  all_goals
   go_wp2_with fail
   go_region_held3 (fun w'=>w'.cell? ⟨ob,0,none⟩=some (.int .i64 t.gen)∧w'.cell? ⟨ob,1,none⟩=some (.slice A4 t.au.length a4)∧w'.cell? ⟨ob,2,none⟩=some (.slice D4 t.bL.length d4)∧w'.cell? ⟨ob,3,none⟩=some (.slice F4 t.bS.length f4)) (first | exact hz3 | exact hz2 | exact hz1 | exact hz0) (first
    | (go_at_call 35;refine K5'.out.mono ?_;rintro e w6 ⟨rfl,rfl⟩)
    | (go_at_call 15;refine K6.out.mono ?_;rintro e w7 ⟨rfl,rfl⟩)
    | (go_at_call 16;refine K7'.out.mono ?_;rintro e w8 ⟨A8,a8,D8,d8,F8,f8,rfl,g8⟩;have hz1:=FT (g8.block 7 rfl);have K9:=Lib.hid (IL (s1:=t) (s2:=t) (a1:=a8) (e1:=d8) (h1:=f8) (a2:=a4) (e2:=d4) (h2:=f4) (BH 0 1 2 rfl rfl rfl) (BH 8 9 10 rfl rfl rfl) (aaF HOT.out).1 (aaF HOT.out).2.1 (aaF HOT.out).2.2 g8);clear g8)
    | (go_at_call 19;refine K9.out.mono ?_;rintro e w9 ⟨rfl,g9⟩;simp only [decide_true];have hz2:=FT (g9.block 7 rfl);have K12:=Lib.hid (HAW.out w9 _ g9);clear g9)
    | (go_at_call 18;refine K12.out.mono ?_;rintro e w12 ⟨rfl,g15⟩;have hz3:=FT (g15.block 7 rfl);have G:=Lib.hid g15.mod;clear g15))
   clear hz0 hz1 hz2 hz3 K5' K6 K7' K9 K12
   go_wp2_with fail
   go_ret
   exact⟨rfl,G.out⟩
 have c1:decide (b < z)=false:=decide_eq_false (fun h=>c0 (Or.inl h))
 have c2:decide ((3:Int) < b)=false:=decide_eq_false (fun h=>c0 (Or.inr h))
 have hzb:z≤b∧b≤3:=by omega
 have HZB:=Lib.hid hzb
 obtain⟨s1,hs1⟩:∃ s1,s1=(qK b s).1:=⟨_,rfl⟩
 rw [← hs1] at g11
 obtain⟨x1,x2,x3⟩:=Yd.out hzb s1 hs1
 rw [← HT.out] at x3
 clear hs1 hzb c0 HX1 Yd
 rcases x3 with ⟨x4,x5⟩|⟨x4,x5,x6,x7,x8,x9⟩
 ·rw [x4]
  have K5:=tN g11
  rw [x5] at K5
  have K5':=Lib.hid K5
  have KA:=Lib.hid (HAW.out _ _ g11)
  clear g11 K5 x1 x2 x4 x5
  go_wp2_with fail
  refine K5'.out.mono ?_
  rintro e w6 ⟨rfl,rfl⟩
  go_wp2_with fail
  refine KA.out.mono ?_
  rintro e w3 ⟨rfl,g3⟩
  have G:=Lib.hid g3.mod
  clear g3 KA K5'
  go_wp2_with fail
  go_ret
  exact⟨rfl,G.out⟩
 rw [x4]
 have HR1:=Lib.hid x5
 have HV1:=Lib.hid x6
 have HS1:=Lib.hid x7
 have HUP:=Lib.hid x8
 have SQ:=Lib.hid x9
 have Jy:=Lib.hid x1
 obtain⟨Fb,rb⟩:=g11.get 5 rfl
 obtain⟨Fd,rd⟩:=g11.get 6 rfl
 have HLT:=Lib.hid HOT.out.lens
 have KI:=Pp (s:=t) (a:=a4) (d:=d4) (f:=f4) (x:=z) (y:=b) (by have:=HZ3.out;have:=HZB.out;omega) (BH 5 6 7 rfl rfl rfl) (fun e=>ay.Jz rb e) (fun e=>ay.Jz rd e) (by have:=HLT.out.1;omega) (by have:=HLT.out.2.1;omega) (by have:=HLT.out.2.2;omega) g11
 obtain⟨u,hu⟩:∃ u,u=eD z b t:=⟨_,rfl⟩
 rw [← hu] at KI
 have HU:=Lib.hid hu
 have HOU:Hid (gm u):=Lib.hid (by rw [hu];exact HOT.out.img z b)
 have KI':=Lib.hid KI
 have hz0:=FT (g11.block 4 rfl)
 clear x1 x2 x4 x5 x6 x7 x8 x9 rb rd KI hu g11
 go_wp2_with fail
 refine KI'.out.mono ?_
 rintro e w12 ⟨A5,a5,D5,d5,F5,f5,rfl,g12⟩
 clear KI' hz0
 obtain⟨xb,hxb⟩:∃ xb,xb=w12.heap.size:=⟨_,rfl⟩
 obtain⟨w13,ab4⟩:∃ w13,w13=w12.alloc (.cells #[.int .i64 u.gen,.slice A5 u.au.length a5,.slice D5 u.bL.length d5,.slice F5 u.bS.length f5] 26):=⟨_,rfl⟩
 have g13:=g12.cells #[.int .i64 u.gen,.slice A5 u.au.length a5,.slice D5 u.bL.length d5,.slice F5 u.bS.length f5] 26
 rw [← hxb,← ab4] at g13
 have HXB:=Lib.hid hxb
 have ab3:=Lib.hid ab4
 clear g12 hxb ab4
 by_cases hbv:b=z
 ·have HVB:Hid (¬ z < b):=Lib.hid (by omega)
  have RU:Hid (zl z b t=t):=Lib.hid (if_pos hbv)
  have c3:(b == z)=true:=beq_iff_eq.2 hbv
  have c4:decide (z < b)=false:=decide_eq_false (by omega)
  have q1:=g13.block 8 rfl
  have ht:=dX (g13.block 0 rfl)
  have g14:=(g13.eX 0 rfl (xs:=[.int .i64 t.gen,.slice A4 t.au.length a4,.slice D4 t.bL.length d4,.slice F4 t.bS.length f4]) (b:=xb) (T:=26) rfl).aL (R1:=[_,_,_,_,_,_,_,_,_,_,_,_]) (R2:=[]) [4,5,6,7,0,9,10,11] (by decide) rfl
  have Q1:=Lib.hid q1
  clear g13 q1 hbv
  go_upto_region 12 with fail
  rw [← HXB.out,← ab3.out]
  clear HXB ab3
  go_wp2_with (first | (refine wpList_load_row rfl 26 (.tmp 11) rfl ob rfl 26 _ (0,0) _ Q1.out Tryz.underlying26 rfl (by kernel_rfl) ?_) | (refine wpList_store_mid (op:=⟨none,Op.store 26 (.tmp 13) (.tmp 89),_,_,_,_⟩) (by rfl) 26 (.tmp 13) (.tmp 89) rfl xb 0 #[.int .i64 t.gen,.slice A4 t.au.length a4,.slice D4 t.bL.length d4,.slice F4 t.bS.length f4] (by rfl) (by rfl) ht (by kernel_rfl) (oC _ _ _ _ _ _ _ _ _ _) ?_))
  have hgn:In [] W _ (vQ sb lb bd aax s1 [Cells xb #[.int .i64 t.gen,.slice A4 t.au.length a4,.slice D4 t.bL.length d4,.slice F4 t.bS.length f4] 26,gq (.slice A4 t.au.length a4) t.au,xA (.slice D4 t.bL.length d4) t.bL,FM (.slice F4 t.bS.length f4) t.bS]):=g14
  have HSW:Hid (s1.2.st=t):=Lib.hid (by rw [HS1.out];exact RU.out)
  have hz0:=FT ((hgn.drewN 1).block 4 rfl)
  have K5:=tN (hgn.drewN 1)
  rw [HV1.out] at K5
  have K5':=Lib.hid K5
  have K6:=Lib.hid (DN (hgn.drewN 1))
  have K7:=uC ((hgn.drewN 1).aL (R1:=[_,_,_,_,_,_,_,_]) (R2:=[]) [3,0,1,2,4,5,6,7] (by decide) rfl)
  rw [HSW.out] at K7
  have K7':=Lib.hid K7
  clear hgn g14 K5 K7
  go_wp2_with fail
  go_region_held3 (fun w'=>w'.cell? ⟨xb,0,none⟩=some (.int .i64 t.gen)∧w'.cell? ⟨xb,1,none⟩=some (.slice A4 t.au.length a4)∧w'.cell? ⟨xb,2,none⟩=some (.slice D4 t.bL.length d4)∧w'.cell? ⟨xb,3,none⟩=some (.slice F4 t.bS.length f4)) (first | exact hz6 | exact hz5 | exact Zq | exact hz3 | exact hz2 | exact hz1 | exact hz0) (first
   | (go_at_call 35;refine K5'.out.mono ?_;rintro e w6 ⟨rfl,rfl⟩)
   | (go_at_call 19;refine K16.out.mono ?_;rintro e w9 ⟨rfl,g9⟩;simp only [decide_true];have hz6:=FT (g9.block 7 rfl);have G9:=Lib.hid g9;clear g9)
   | (go_at_call 19;refine K9.out.mono ?_;rintro e w9 ⟨rfl,g9⟩;simp only [decide_true];have hz2:=FT (g9.block 7 rfl);have g9b:In [] W w9 (vQ sb lb bd aax s1 [Cells xb #[.int .i64 t.gen,.slice A4 t.au.length a4,.slice D4 t.bL.length d4,.slice F4 t.bS.length f4] 26,gq (.slice A4 t.au.length a4) t.au,xA (.slice D4 t.bL.length d4) t.bL,FM (.slice F4 t.bS.length f4) t.bS]):=by unfold vQ;rw [HSW.out];exact g9.aL (R1:=[_,_,_,_,_,_,_,_,_,_,_]) (R2:=[]) [4,5,6,3,7,8,9,10] (by decide) rfl
      have K13:=Ze HR1.out (by omega) b g9b
      rw [HUP.out] at K13
      have ab1:=Lib.hid K13
      clear g9 g9b K13)
   | (go_at_call 17;refine ab1.out.mono ?_;rintro e w13 ⟨ab6,rfl,g16⟩;have hz3:=FT (g16.block 4 rfl);have K14:=Lib.hid (DN g16);have K15:=uC (g16.aL (R1:=[_,_,_,_,_,_,_,_]) (R2:=[]) [3,0,1,2,4,5,6,7] (by decide) rfl);rw [HSW.out] at K15;have ab2:=Lib.hid K15;clear g16 K15)
   | (go_at_call 15;refine K14.out.mono ?_;rintro e w7 ⟨rfl,rfl⟩)
   | (go_at_call 15;refine K6.out.mono ?_;rintro e w7 ⟨rfl,rfl⟩)
   | (go_at_call 16;refine ab2.out.mono ?_;rintro e w8 ⟨A8,a8,D8,d8,F8,f8,rfl,g8⟩;have hz5:=FT (g8.block 7 rfl);have K16:=Lib.hid (IL (s1:=t) (s2:=t) (a1:=a8) (e1:=d8) (h1:=f8) (a2:=a4) (e2:=d4) (h2:=f4) (BH 0 1 2 rfl rfl rfl) (BH 8 9 10 rfl rfl rfl) (aaF HOT.out).1 (aaF HOT.out).2.1 (aaF HOT.out).2.2 g8);clear g8)
   | (go_at_call 16;refine K7'.out.mono ?_;rintro e w8 ⟨A8,a8,D8,d8,F8,f8,rfl,g8⟩;have hz1:=FT (g8.block 7 rfl);have K9:=Lib.hid (IL (s1:=t) (s2:=t) (a1:=a8) (e1:=d8) (h1:=f8) (a2:=a4) (e2:=d4) (h2:=f4) (BH 0 1 2 rfl rfl rfl) (BH 8 9 10 rfl rfl rfl) (aaF HOT.out).1 (aaF HOT.out).2.1 (aaF HOT.out).2.2 g8);clear g8))
  clear hz0 hz1 hz2 hz3 hz5 hz6 K5' K6 K7' K9 ab1 K14 ab2 K16
  obtain⟨d',l',y1,y2⟩:=SQ.out
  rw [if_neg (by have:=HVB.out;omega)] at y1
  have g21:=G9.out.aL (R1:=[_,_,_,_,_,_,_,_,_,_,_]) (R2:=[]) [6,7,8,9,10] (by decide) rfl
  have g23:In [] W _ (bJ bd s1.1::[Cells xb #[.int .i64 t.gen,.slice A4 t.au.length a4,.slice D4 t.bL.length d4,.slice F4 t.bS.length f4] 26,gq (.slice A4 t.au.length a4) t.au,xA (.slice D4 t.bL.length d4) t.bL,FM (.slice F4 t.bS.length f4) t.bS]):=g21
  have KO:=o_soopen g23 (by have:=Jy.out;show s1.1.ops≤_;omega) b zs
  rw [y1] at KO
  have KO':=Lib.hid KO
  clear g21 g23 KO y1 G9
  go_wp2_with fail
  refine KO'.out.mono ?_
  intro e w21 hp
  obtain⟨sb5,lb5,ab7,rfl,g24⟩:=hp.some rfl
  have hwt:=RU.out
  have hz0:=FT ((g24.drewN 1).block 4 rfl)
  have K5:=tN (g24.drewN 1)
  rw [y2] at K5
  have K5':=Lib.hid K5
  have K6:=Lib.hid (DN (g24.drewN 1))
  have K7:=uC ((g24.drewN 1).aL (R1:=[_,_,_,_,_,_,_,_]) (R2:=[]) [3,0,1,2,4,5,6,7] (by decide) rfl)
  rw [hwt] at K7
  have K7':=Lib.hid K7
  clear g24 hp KO' K5 K7 hwt y2
  go_wp2_with fail
  go_region_held3 (fun w'=>w'.cell? ⟨xb,0,none⟩=some (.int .i64 t.gen)∧w'.cell? ⟨xb,1,none⟩=some (.slice A4 t.au.length a4)∧w'.cell? ⟨xb,2,none⟩=some (.slice D4 t.bL.length d4)∧w'.cell? ⟨xb,3,none⟩=some (.slice F4 t.bS.length f4)) (first | exact hz3 | exact hz2 | exact hz1 | exact hz0) (first
   | (go_at_call 35;refine K5'.out.mono ?_;rintro e w6 ⟨rfl,rfl⟩)
   | (go_at_call 15;refine K6.out.mono ?_;rintro e w7 ⟨rfl,rfl⟩)
   | (go_at_call 16;refine K7'.out.mono ?_;rintro e w8 ⟨A8,a8,D8,d8,F8,f8,rfl,g8⟩;have hz1:=FT (g8.block 7 rfl);have K9:=Lib.hid (IL (s1:=t) (s2:=t) (a1:=a8) (e1:=d8) (h1:=f8) (a2:=a4) (e2:=d4) (h2:=f4) (BH 0 1 2 rfl rfl rfl) (BH 8 9 10 rfl rfl rfl) (aaF HOT.out).1 (aaF HOT.out).2.1 (aaF HOT.out).2.2 g8);clear g8)
   | (go_at_call 19;refine K9.out.mono ?_;rintro e w9 ⟨rfl,g9⟩;simp only [decide_true];have hz2:=FT (g9.block 7 rfl);have K12:=Lib.hid (HAW.out w9 _ g9);clear g9)
   | (go_at_call 18;refine K12.out.mono ?_;rintro e w12 ⟨rfl,g15⟩;have hz3:=FT (g15.block 7 rfl);have G:=Lib.hid g15.mod;clear g15))
  clear hz0 hz1 hz2 hz3 K5' K6 K7' K9 K12
  go_wp2_with fail
  go_ret
  exact⟨rfl,G.out⟩
 ·have HVB:Hid (z < b):=Lib.hid (by have:=HZB.out;omega)
  have RU:Hid (zl z b t=u):=Lib.hid (by rw [HU.out];exact if_neg hbv)
  have c3:(b == z)=false:=beq_eq_false_iff_ne.2 hbv
  have c4:decide (z < b)=true:=decide_eq_true HVB.out
  have g14:=g13.aL (R1:=[_,_,_,_,_,_,_,_,_,_,_,_]) (R2:=[]) [4,5,6,7,0,1,2,3] (by decide) rfl
  clear g13 hbv
  go_upto_region 12 with fail
  rw [← HXB.out,← ab3.out]
  clear HXB ab3
  have hgn:In [] W _ (vQ sb lb bd aax s1 [Cells xb #[.int .i64 u.gen,.slice A5 u.au.length a5,.slice D5 u.bL.length d5,.slice F5 u.bS.length f5] 26,gq (.slice A5 u.au.length a5) u.au,xA (.slice D5 u.bL.length d5) u.bL,FM (.slice F5 u.bS.length f5) u.bS]):=g14
  have HSW:Hid (s1.2.st=u):=Lib.hid (by rw [HS1.out];exact RU.out)
  have hz0:=FT ((hgn.drewN 1).block 4 rfl)
  have K5:=tN (hgn.drewN 1)
  rw [HV1.out] at K5
  have K5':=Lib.hid K5
  have K6:=Lib.hid (DN (hgn.drewN 1))
  have K7:=uC ((hgn.drewN 1).aL (R1:=[_,_,_,_,_,_,_,_]) (R2:=[]) [3,0,1,2,4,5,6,7] (by decide) rfl)
  rw [HSW.out] at K7
  have K7':=Lib.hid K7
  clear hgn g14 K5 K7
  go_wp2_with fail
  go_region_held3 (fun w'=>w'.cell? ⟨xb,0,none⟩=some (.int .i64 u.gen)∧w'.cell? ⟨xb,1,none⟩=some (.slice A5 u.au.length a5)∧w'.cell? ⟨xb,2,none⟩=some (.slice D5 u.bL.length d5)∧w'.cell? ⟨xb,3,none⟩=some (.slice F5 u.bS.length f5)) (first | exact hz6 | exact hz5 | exact Zq | exact hz3 | exact hz2 | exact hz1 | exact hz0) (first
   | (go_at_call 35;refine K5'.out.mono ?_;rintro e w6 ⟨rfl,rfl⟩)
   | (go_at_call 19;refine K16.out.mono ?_;rintro e w9 ⟨rfl,g9⟩;simp only [decide_true];have hz6:=FT (g9.block 7 rfl);have G9:=Lib.hid g9;clear g9)
   | (go_at_call 19;refine K9.out.mono ?_;rintro e w9 ⟨rfl,g9⟩;simp only [decide_true];have hz2:=FT (g9.block 7 rfl);have g9b:In [] W w9 (vQ sb lb bd aax s1 [Cells xb #[.int .i64 u.gen,.slice A5 u.au.length a5,.slice D5 u.bL.length d5,.slice F5 u.bS.length f5] 26,gq (.slice A5 u.au.length a5) u.au,xA (.slice D5 u.bL.length d5) u.bL,FM (.slice F5 u.bS.length f5) u.bS]):=by unfold vQ;rw [HSW.out];exact g9.aL (R1:=[_,_,_,_,_,_,_,_,_,_,_]) (R2:=[]) [4,5,6,3,7,8,9,10] (by decide) rfl
      have K13:=Ze HR1.out (by omega) b g9b
      rw [HUP.out] at K13
      have ab1:=Lib.hid K13
      clear g9 g9b K13)
   | (go_at_call 17;refine ab1.out.mono ?_;rintro e w13 ⟨ab6,rfl,g16⟩;have hz3:=FT (g16.block 4 rfl);have K14:=Lib.hid (DN g16);have K15:=uC (g16.aL (R1:=[_,_,_,_,_,_,_,_]) (R2:=[]) [3,0,1,2,4,5,6,7] (by decide) rfl);rw [HSW.out] at K15;have ab2:=Lib.hid K15;clear g16 K15)
   | (go_at_call 15;refine K14.out.mono ?_;rintro e w7 ⟨rfl,rfl⟩)
   | (go_at_call 15;refine K6.out.mono ?_;rintro e w7 ⟨rfl,rfl⟩)
   | (go_at_call 16;refine ab2.out.mono ?_;rintro e w8 ⟨A8,a8,D8,d8,F8,f8,rfl,g8⟩;have hz5:=FT (g8.block 7 rfl);have K16:=Lib.hid (IL (s1:=u) (s2:=u) (a1:=a8) (e1:=d8) (h1:=f8) (a2:=a5) (e2:=d5) (h2:=f5) (BH 0 1 2 rfl rfl rfl) (BH 8 9 10 rfl rfl rfl) (aaF HOU.out).1 (aaF HOU.out).2.1 (aaF HOU.out).2.2 g8);clear g8)
   | (go_at_call 16;refine K7'.out.mono ?_;rintro e w8 ⟨A8,a8,D8,d8,F8,f8,rfl,g8⟩;have hz1:=FT (g8.block 7 rfl);have K9:=Lib.hid (IL (s1:=u) (s2:=u) (a1:=a8) (e1:=d8) (h1:=f8) (a2:=a5) (e2:=d5) (h2:=f5) (BH 0 1 2 rfl rfl rfl) (BH 8 9 10 rfl rfl rfl) (aaF HOU.out).1 (aaF HOU.out).2.1 (aaF HOU.out).2.2 g8);clear g8))
  clear hz0 hz1 hz2 hz3 hz5 hz6 K5' K6 K7' K9 ab1 K14 ab2 K16
  obtain⟨d',l',y1,y2⟩:=SQ.out
  rw [if_pos (by have:=HVB.out;omega)] at y1
  have g21:=G9.out.aL (R1:=[_,_,_,_,_,_,_,_,_,_,_]) (R2:=[]) [6,7,8,9,10] (by decide) rfl
  have K19:=Lib.hid (UJ (A:=none) (c:=0) (p:=[]) g21 0 rfl (by have:=Jy.out;omega) (Src.nil _ _ _) (Nat.zero_le _) (by decide))
  clear g21 G9
  go_wp2_with fail
  refine K19.out.mono ?_
  rintro e w20 ⟨rfl,g22⟩
  have g23:In [] W w20 (bJ bd (gz s1.1 [])::[Cells xb #[.int .i64 u.gen,.slice A5 u.au.length a5,.slice D5 u.bL.length d5,.slice F5 u.bS.length f5] 26,gq (.slice A5 u.au.length a5) u.au,xA (.slice D5 u.bL.length d5) u.bL,FM (.slice F5 u.bS.length f5) u.bS]):=g22
  have KO:=o_soopen g23 (by have:=Jy.out;show s1.1.ops≤_;omega) b zs
  rw [y1] at KO
  have KO':=Lib.hid KO
  clear g22 g23 K19 KO y1
  go_wp2_with fail
  refine KO'.out.mono ?_
  intro e w21 hp
  obtain⟨sb5,lb5,ab7,rfl,g24⟩:=hp.some rfl
  have hwt:=RU.out
  have hz0:=FT ((g24.drewN 1).block 4 rfl)
  have K5:=tN (g24.drewN 1)
  rw [y2] at K5
  have K5':=Lib.hid K5
  have K6:=Lib.hid (DN (g24.drewN 1))
  have K7:=uC ((g24.drewN 1).aL (R1:=[_,_,_,_,_,_,_,_]) (R2:=[]) [3,0,1,2,4,5,6,7] (by decide) rfl)
  rw [hwt] at K7
  have K7':=Lib.hid K7
  clear g24 hp KO' K5 K7 hwt y2
  go_wp2_with fail
  go_region_held3 (fun w'=>w'.cell? ⟨xb,0,none⟩=some (.int .i64 u.gen)∧w'.cell? ⟨xb,1,none⟩=some (.slice A5 u.au.length a5)∧w'.cell? ⟨xb,2,none⟩=some (.slice D5 u.bL.length d5)∧w'.cell? ⟨xb,3,none⟩=some (.slice F5 u.bS.length f5)) (first | exact hz3 | exact hz2 | exact hz1 | exact hz0) (first
   | (go_at_call 35;refine K5'.out.mono ?_;rintro e w6 ⟨rfl,rfl⟩)
   | (go_at_call 15;refine K6.out.mono ?_;rintro e w7 ⟨rfl,rfl⟩)
   | (go_at_call 16;refine K7'.out.mono ?_;rintro e w8 ⟨A8,a8,D8,d8,F8,f8,rfl,g8⟩;have hz1:=FT (g8.block 7 rfl);have K9:=Lib.hid (IL (s1:=u) (s2:=u) (a1:=a8) (e1:=d8) (h1:=f8) (a2:=a5) (e2:=d5) (h2:=f5) (BH 0 1 2 rfl rfl rfl) (BH 8 9 10 rfl rfl rfl) (aaF HOU.out).1 (aaF HOU.out).2.1 (aaF HOU.out).2.2 g8);clear g8)
   | (go_at_call 19;refine K9.out.mono ?_;rintro e w9 ⟨rfl,g9⟩;simp only [decide_true];have hz2:=FT (g9.block 7 rfl);have K12:=Lib.hid (HAW.out w9 _ g9);clear g9)
   | (go_at_call 18;refine K12.out.mono ?_;rintro e w12 ⟨rfl,g15⟩;have hz3:=FT (g15.block 7 rfl);have G:=Lib.hid g15.mod;clear g15))
  clear hz0 hz1 hz2 hz3 K5' K6 K7' K9 K12
  go_wp2_with fail
  go_ret
  exact⟨rfl,G.out⟩
end Go.Proofs.YtanhdliaaccacaaGreat
