/- .. -/
import Derived.Test.YtanhdliaaccacaaGreatUBUpFill
import Derived.Test.YtanhdliaaccacaaGreatUBL17Awake
import Derived.Deep.DeepCutAuto
namespace Go.Proofs.YtanhdliaaccacaaGreat
open Go.RowKit
set_option linter.unusedVariables false
set_option maxHeartbeats 64000000
set_option maxRecDepth 100000
theorem ab1 {z:Int} (h:1≤z∧z≤3):wrap64 (4 - z)=4 - z∧IntKind.u64.wrap (4 - z)=4 - z∧¬ 4 - z=0∧decide (4 - z=0)=false∧(4 - z == 0)=false:=by
 have e:IntKind.u64.wrap (4 - z)=(4 - z) % 18446744073709551616:=rfl
 have h0:¬ 4 - z=0:=by omega
 exact⟨by unfold wrap64;omega,by rw [e];omega,h0,decide_eq_false h0,beq_eq_false_iff_ne.2 h0⟩
theorem ab6 {z:Int} (h:1≤z∧z≤3) (n:Int):z≤wrap64 (z+wrap64 ((IntKind.u64.wrap n).tmod (4 - z)))∧wrap64 (z+wrap64 ((IntKind.u64.wrap n).tmod (4 - z)))≤3:=by
 have e:IntKind.u64.wrap n=n % 18446744073709551616:=rfl
 rw [e]
 have h1:(n % 18446744073709551616).tmod (4 - z)=(n % 18446744073709551616) % (4 - z):=Int.tmod_eq_emod_of_nonneg (by omega)
 rw [h1]
 have h2:=Int.emod_nonneg (n % 18446744073709551616) (show 4 - z≠0 by omega)
 have h3:=Int.emod_lt_of_pos (n % 18446744073709551616) (show 0 < 4 - z by omega)
 generalize (n % 18446744073709551616) % (4 - z)=r at *
 unfold wrap64;omega
theorem ab0 (W:World) (version:Int) (wv:(Lit.int .i64 version).wf=true) (b0:Int) (wb:(Lit.int .i64 b0).wf=true) (size:Int) (wsz:(Lit.int .i64 size).wf=true) {v:Value} {cs:List kS} (hv:uW W v cs) (fault:Int) (wf:(Lit.int .i64 fault).wf=true) {a9:Option Addr} {acb acd:Nat} {p:List UInt8} (h9:AB W (.slice a9 acb acd) p) :
  Calls Tryz.prog 8 #[.int .i64 version,.int .i64 b0,.int .i64 size,v,.int .i64 fault,.slice a9 acb acd] W (abq W):=by
 obtain⟨a9',c9',e9,hs9,hr9,hm9⟩:=h9.ex
 cases e9
 have HAW:=Lib.hid (fun w' (R:List ax) (h':In [] W w' R)=>Zu h')
 have KF:=Lib.hid (fun z zs (hz:1≤z∧z≤3)=>Zr hz zs (Own.nil W) hv)
 have ace:=Lib.hid (aa5 version)
 have H9:=Lib.hid (And.intro hs9 (And.intro hr9 hm9))
 obtain⟨d1,d2,d3,d4,d5⟩:=ab1 (aa5 version)
 have HTO:=Lib.hid (ab6 (aa5 version) b0)
 clear hv wv wsz wb wf h9 hs9
 go_enter Tryz.func8,Tryz.ntmps8
 go_wp2_with fail
 generalize wrap64 (1+wrap64 ((IntKind.u64.wrap version).tmod 3))=z at *
 generalize wrap64 (z+wrap64 ((IntKind.u64.wrap b0).tmod (4 - z)))=b at *
 generalize wrap64 (100+wrap64 ((IntKind.u64.wrap size).tmod 500))=zs at *
 clear d1 d2 d3 d4 d5
 refine (KF.out z zs ace.out).mono ?_
 rintro e w1 ⟨sb,lb,bd,dA,s,rfl,hfi,g1⟩
 obtain⟨r0,h0,-⟩:=TK hfi HTO.out 0 p
 have HXF:=Lib.hid (fun n=>(TK hfi HTO.out n p).2.2)
 have K2:=Lib.hid (aao r0.lg (by have:=r0.ops;omega) g1)
 have E0:=Lib.hid h0
 have oI:Hid (gm s.2.st):=Lib.hid r0.ok
 clear g1 KF hfi r0 h0
 go_wp2_with fail
 refine K2.out.mono ?_
 rintro e w2 ⟨rfl,g2⟩
 rw [E0.out]
 obtain⟨s1,hs1⟩:∃ s1,s1=(jM s).1:=⟨_,rfl⟩
 rw [← hs1] at g2
 have HXG:=Lib.hid (fun n=>HXF.out n s1 hs1)
 obtain⟨t,ht⟩:∃ t,t=s.2.st:=⟨_,rfl⟩
 have HT:=Lib.hid ht
 have HOT:Hid (gm t):=Lib.hid (by rw [ht];exact oI.out)
 have HS1:Hid (s1.2.st=t):=Lib.hid (by rw [ht];exact (HXG.out 0).1)
 have K3:=Lib.hid (DN g2)
 have K4:=uC (g2.aL (R1:=[_,_,_,_]) (R2:=[]) [3,0,1,2] (by decide) rfl)
 rw [HS1.out] at K4
 have K4':=Lib.hid K4
 clear g2 K2 K4 E0 HXF oI hs1 ht
 go_wp2_with fail
 refine K3.out.mono ?_
 rintro e w3 ⟨rfl,rfl⟩
 go_wp2_with fail
 refine K4'.out.mono ?_
 rintro e w4 ⟨A4,a4,D4,d4,F4,f4,rfl,g4⟩
 have g5:=(g4.cells #[.int .i64 t.gen,.slice A4 t.au.length a4,.slice D4 t.bL.length d4,.slice F4 t.bS.length f4] 26).aL (R1:=[_,_,_,_,_,_,_,_]) (R2:=[]) [5,6,7,4,0,1,2,3] (by decide) rfl
 obtain⟨ob,hob⟩:∃ ob,ob=w4.heap.size:=⟨_,rfl⟩
 obtain⟨w5,hw5⟩:∃ w5,w5=w4.alloc (.cells #[.int .i64 t.gen,.slice A4 t.au.length a4,.slice D4 t.bL.length d4,.slice F4 t.bS.length f4] 26):=⟨_,rfl⟩
 have g6:In [] W w5 (vQ sb lb bd dA s1 [Cells ob #[.int .i64 t.gen,.slice A4 t.au.length a4,.slice D4 t.bL.length d4,.slice F4 t.bS.length f4] 26,gq (.slice A4 t.au.length a4) t.au,xA (.slice D4 t.bL.length d4) t.bL,FM (.slice F4 t.bS.length f4) t.bS]):=by rw [hob,hw5];unfold vQ;rw [HS1.out];exact g5
 obtain⟨Fb,rb⟩:=g6.get 5 rfl
 obtain⟨Fd,rd⟩:=g6.get 6 rfl
 have HLT:=Lib.hid HOT.out.lens
 have KI:=Pp (s:=t) (a:=a4) (d:=d4) (f:=f4) (x:=z) (y:=b) (by have:=ace.out;have:=HTO.out;omega) (BH 5 6 7 rfl rfl rfl) (fun e=>ay.Jz rb e) (fun e=>ay.Jz rd e) (by have:=HLT.out.1;omega) (by have:=HLT.out.2.1;omega) (by have:=HLT.out.2.2;omega) g6
 obtain⟨u,hu⟩:∃ u,u=eD z b t:=⟨_,rfl⟩
 rw [← hu] at KI
 have HU:=Lib.hid hu
 have HOU:Hid (gm u):=Lib.hid (by rw [hu];exact HOT.out.img z b)
 have KI':=Lib.hid KI
 have hz0:=FT (g6.block 4 rfl)
 have HOB:=Lib.hid hob
 have HW5:=Lib.hid hw5
 clear g4 g5 g6 K3 K4' rb rd KI hu hob hw5
 go_wp2_with fail
 rw [← HOB.out,← HW5.out]
 clear HOB HW5
 go_wp2_with fail
 refine KI'.out.mono ?_
 rintro e w12 ⟨A5,a5,D5,d5,F5,f5,rfl,g12⟩
 clear KI' hz0
 obtain⟨xb,hxb⟩:∃ xb,xb=w12.heap.size:=⟨_,rfl⟩
 obtain⟨w13,aca⟩:∃ w13,w13=w12.alloc (.cells #[.int .i64 u.gen,.slice A5 u.au.length a5,.slice D5 u.bL.length d5,.slice F5 u.bS.length f5] 26):=⟨_,rfl⟩
 have g13:=g12.cells #[.int .i64 u.gen,.slice A5 u.au.length a5,.slice D5 u.bL.length d5,.slice F5 u.bS.length f5] 26
 rw [← hxb,← aca] at g13
 have HXB:=Lib.hid hxb
 have ab9:=Lib.hid aca
 clear g12 hxb aca
 by_cases hbv:b=z
 ·have HVB:Hid (b=z):=Lib.hid hbv
  have c3:(b == z)=true:=beq_iff_eq.2 hbv
  have q1:=g13.block 8 rfl
  have ht:=dX (g13.block 0 rfl)
  have g14:=(g13.eX 0 rfl (xs:=[.int .i64 t.gen,.slice A4 t.au.length a4,.slice D4 t.bL.length d4,.slice F4 t.bS.length f4]) (b:=xb) (T:=26) rfl).aL (R1:=[_,_,_,_,_,_,_,_,_,_,_,_]) (R2:=[]) [4,5,6,7,0,8,9,10,11] (by decide) rfl
  have Q1:=Lib.hid q1
  clear g13 q1 hbv
  go_upto_region 10 with fail
  rw [← HXB.out,← ab9.out]
  clear HXB ab9
  go_wp2_with (first | (refine wpList_load_row rfl 26 (.tmp 15) rfl ob rfl 26 _ (0,0) _ Q1.out Tryz.underlying26 rfl (by kernel_rfl) ?_) | (refine wpList_store_mid (op:=⟨none,Op.store 26 (.tmp 16) (.tmp 72),_,_,_,_⟩) (by rfl) 26 (.tmp 16) (.tmp 72) rfl xb 0 #[.int .i64 t.gen,.slice A4 t.au.length a4,.slice D4 t.bL.length d4,.slice F4 t.bS.length f4] (by rfl) (by rfl) ht (by kernel_rfl) (oC _ _ _ _ _ _ _ _ _ _) ?_))
  have hgn:In [] W _ (vQ sb lb bd dA s1 [Cells xb #[.int .i64 t.gen,.slice A4 t.au.length a4,.slice D4 t.bL.length d4,.slice F4 t.bS.length f4] 26,Cells ob #[.int .i64 t.gen,.slice A4 t.au.length a4,.slice D4 t.bL.length d4,.slice F4 t.bS.length f4] 26,gq (.slice A4 t.au.length a4) t.au,xA (.slice D4 t.bL.length d4) t.bL,FM (.slice F4 t.bS.length f4) t.bS]):=g14
  clear g14
  have HSW:Hid (zl z b t=t):=Lib.hid (by exact if_pos HVB.out)
  have KFL:=Lib.hid (fun n=>aaC hgn 2 rfl (by have:=(HXG.out 0).2.1;omega) n)
  clear hgn
  generalize wrap64 ((IntKind.u64.wrap fault).tmod 40)=nf at *
  refine (KFL.out nf).mono ?_
  rintro e w15 ⟨rfl,g15⟩
  have g16:In [] W w15 (vQ sb lb bd dA (nA s1.1 nf,s1.2) [Cells xb #[.int .i64 t.gen,.slice A4 t.au.length a4,.slice D4 t.bL.length d4,.slice F4 t.bS.length f4] 26,Cells ob #[.int .i64 t.gen,.slice A4 t.au.length a4,.slice D4 t.bL.length d4,.slice F4 t.bS.length f4] 26,gq (.slice A4 t.au.length a4) t.au,xA (.slice D4 t.bL.length d4) t.bL,FM (.slice F4 t.bS.length f4) t.bS]):=g15
  obtain⟨-,x2,x3,x4⟩:=HXG.out nf
  have K5:=Lib.hid (Ze x3 (by omega) b g16)
  clear g15 g16 KFL x2 x3
  go_wp2_with fail
  refine K5.out.mono ?_
  rintro e w16 ⟨aax,rfl,g17⟩
  obtain⟨s2,hs2⟩:∃ s2,s2=(qK b (nA s1.1 nf,s1.2)).1:=⟨_,rfl⟩
  rw [← hs2] at g17
  obtain⟨y1,d',l,st,y2,y3,y4,y5,y6⟩:=x4 s2 hs2
  rw [← HT.out,HSW.out] at y4 y5 y6
  obtain⟨er,her⟩:∃ er,er=(qK b (nA s1.1 nf,s1.2)).2:=⟨_,rfl⟩
  rw [← her] at y5 ⊢
  have g18:=g17.aL (R1:=[_,_,_,_,_,_,_,_,_]) (R2:=[]) [2,4,5,6,7,8] (by decide) rfl
  have K6:=Lib.hid (UJ g18 0 rfl (by omega) H9.out.1 H9.out.2.1 H9.out.2.2)
  have Y1:=Lib.hid y1
  have Y2:=Lib.hid y2
  have Y3:=Lib.hid y3
  have Y4:=Lib.hid y4
  have Y5:=Lib.hid y5
  have Y6:=Lib.hid y6
  clear g17 g18 K5 HXG hs2 her x4 y1 y2 y3 y4 y5 y6
  go_wp2_with fail
  refine K6.out.mono ?_
  rintro e w17 ⟨rfl,g19⟩
  have g20:In [] W w17 (bJ bd (gz s2.1 p)::[Cells xb #[.int .i64 t.gen,.slice A4 t.au.length a4,.slice D4 t.bL.length d4,.slice F4 t.bS.length f4] 26,Cells ob #[.int .i64 t.gen,.slice A4 t.au.length a4,.slice D4 t.bL.length d4,.slice F4 t.bS.length f4] 26,gq (.slice A4 t.au.length a4) t.au,xA (.slice D4 t.bL.length d4) t.bL,FM (.slice F4 t.bS.length f4) t.bS]):=g19
  have KO:=o_soopen g20 (by have:=Y1.out;show s2.1.ops≤_;omega) 3 zs
  rw [Y2.out] at KO
  have KO':=Lib.hid KO
  clear g19 g20 KO K6 Y1 Y2
  go_wp2_with fail
  refine KO'.out.mono ?_
  intro e w18 hp
  obtain⟨sb5,lb5,ab3,rfl,g21⟩:=hp.some rfl
  clear hp KO'
  obtain⟨y7,y8⟩:(l.m.ak:Int)=b∧st=t:=by
   rcases Y4.out with ⟨h1,h2⟩|⟨h1,h2⟩
   ·exact⟨by rw [h1];exact HVB.out.symm,h2⟩
   ·exact⟨h1,h2⟩
  have y9:=y8.symm
  subst y9
  have Y7:=Lib.hid y7
  have K7:=Lib.hid (DN g21)
  have K8:=Lib.hid (uC (g21.aL (R1:=[_,_,_,_,_,_,_,_,_]) (R2:=[]) [3,0,1,2,4,5,6,7,8] (by decide) rfl))
  clear g21 y7
  go_wp2_with fail
  refine K7.out.mono ?_
  rintro e w19 ⟨rfl,rfl⟩
  go_wp2_with fail
  refine K8.out.mono ?_
  rintro e w20 ⟨A6,a6,D6,d6,F6,f6,rfl,g22⟩
  obtain⟨vb,hvb⟩:∃ vb,vb=w20.heap.size:=⟨_,rfl⟩
  obtain⟨w21,ab2⟩:∃ w21,w21=w20.alloc (.cells #[.int .i64 t.gen,.slice A6 t.au.length a6,.slice D6 t.bL.length d6,.slice F6 t.bS.length f6] 26):=⟨_,rfl⟩
  have g23:=(g22.cells #[.int .i64 t.gen,.slice A6 t.au.length a6,.slice D6 t.bL.length d6,.slice F6 t.bS.length f6] 26).aL (R1:=[_,_,_,_,_,_,_,_,_,_,_,_,_]) (R2:=[]) [5,6,7,4,0,1,2,3,8,9,10,11,12] (by decide) rfl
  rw [← hvb,← ab2] at g23
  have g24:In [] W w21 (vQ sb5 lb5 bd ab3 (d',⟨l,t,t⟩) [Cells vb #[.int .i64 t.gen,.slice A6 t.au.length a6,.slice D6 t.bL.length d6,.slice F6 t.bS.length f6] 26,gq (.slice A6 t.au.length a6) t.au,xA (.slice D6 t.bL.length d6) t.bL,FM (.slice F6 t.bS.length f6) t.bS,Cells xb #[.int .i64 t.gen,.slice A4 t.au.length a4,.slice D4 t.bL.length d4,.slice F4 t.bS.length f4] 26,Cells ob #[.int .i64 t.gen,.slice A4 t.au.length a4,.slice D4 t.bL.length d4,.slice F4 t.bS.length f4] 26,gq (.slice A4 t.au.length a4) t.au,xA (.slice D4 t.bL.length d4) t.bL,FM (.slice F4 t.bS.length f4) t.bS]):=g23
  obtain⟨v0,v1,v2,v3⟩:=FT (g24.block 4 rfl)
  obtain⟨o0,o1,o2,o3⟩:=FT (g24.block 9 rfl)
  obtain⟨x0,x1,x2,x3⟩:=FT (g24.block 8 rfl)
  have KV:=Lib.hid (fun w' (h':In [] W w' (vQ sb5 lb5 bd ab3 (d',⟨l,t,t⟩) [Cells vb #[.int .i64 t.gen,.slice A6 t.au.length a6,.slice D6 t.bL.length d6,.slice F6 t.bS.length f6] 26,gq (.slice A6 t.au.length a6) t.au,xA (.slice D6 t.bL.length d6) t.bL,FM (.slice F6 t.bS.length f6) t.bS,Cells xb #[.int .i64 t.gen,.slice A4 t.au.length a4,.slice D4 t.bL.length d4,.slice F4 t.bS.length f4] 26,Cells ob #[.int .i64 t.gen,.slice A4 t.au.length a4,.slice D4 t.bL.length d4,.slice F4 t.bS.length f4] 26,gq (.slice A4 t.au.length a4) t.au,xA (.slice D4 t.bL.length d4) t.bL,FM (.slice F4 t.bS.length f4) t.bS]))=>tN h')
  have HV5:Hid ((l.m.ak:Int)=b):=Lib.hid Y7.out
  have ab4:=Lib.hid hvb
  have ab5:=Lib.hid ab2
  have K9:=KV.out w21 g24
  rw [HV5.out] at K9
  have K9':=Lib.hid K9
  clear K9 K7 K8 g22 g23 hvb ab2 Y7
  go_upto_region 19 with fail
  rw [← ab4.out,← ab5.out]
  clear ab4 ab5
  go_wp2_with fail
  refine K9'.out.mono ?_
  rintro e w22 ⟨rfl,rfl⟩
  clear K9'
  have K10:=Lib.hid (IL (s1:=t) (s2:=t) (a1:=a6) (e1:=d6) (h1:=f6) (a2:=a4) (e2:=d4) (h2:=f4) (BH 5 6 7 rfl rfl rfl) (BH 10 11 12 rfl rfl rfl) (aaF HOT.out).1 (aaF HOT.out).2.1 (aaF HOT.out).2.2 g24)
  clear g24
  go_wp2_with fail
  refine K10.out.mono ?_
  rintro e w23 ⟨rfl,g25⟩
  simp only [decide_true]
  obtain⟨v0,v1,v2,v3⟩:=FT (g25.block 4 rfl)
  obtain⟨x0,x1,x2,x3⟩:=FT (g25.block 8 rfl)
  clear K10
  have K9:=KV.out _ g25
  rw [HV5.out] at K9
  have K9':=Lib.hid K9
  clear K9
  go_wp2_with fail
  refine K9'.out.mono ?_
  rintro e w24 ⟨rfl,rfl⟩
  clear K9'
  have K11:=Lib.hid (IL (s1:=t) (s2:=t) (a1:=a6) (e1:=d6) (h1:=f6) (a2:=a4) (e2:=d4) (h2:=f4) (BH 5 6 7 rfl rfl rfl) (BH 10 11 12 rfl rfl rfl) (aaF HOT.out).1 (aaF HOT.out).2.1 (aaF HOT.out).2.2 g25)
  clear g25
  go_wp2_with fail
  refine K11.out.mono ?_
  rintro e w25 ⟨rfl,g26⟩
  simp only [decide_true]
  clear K11
  have g27:In [] W _ (vQ sb5 lb5 bd ab3 (d',⟨l,t,t⟩) [Cells vb #[.int .i64 t.gen,.slice A6 t.au.length a6,.slice D6 t.bL.length d6,.slice F6 t.bS.length f6] 26,gq (.slice A6 t.au.length a6) t.au,xA (.slice D6 t.bL.length d6) t.bL,FM (.slice F6 t.bS.length f6) t.bS,Cells xb #[.int .i64 t.gen,.slice A4 t.au.length a4,.slice D4 t.bL.length d4,.slice F4 t.bS.length f4] 26,Cells ob #[.int .i64 t.gen,.slice A4 t.au.length a4,.slice D4 t.bL.length d4,.slice F4 t.bS.length f4] 26,gq (.slice A4 t.au.length a4) t.au,xA (.slice D4 t.bL.length d4) t.bL,FM (.slice F4 t.bS.length f4) t.bS]):=g26
  have KD:=Lib.hid (Ze Y3.out (by omega) b g27)
  clear g26 g27 KV v0 v1 v2 v3 o0 o1 o2 o3 x0 x1 x2 x3
  go_upto_region 20 with fail
  go_cut [131] (fun ab7 wx=>ab7=.bool false∧wx=_)
  case first=>
   by_cases qq:er=0
   ·have qe:(er == 0)=true:=beq_iff_eq.2 qq
    clear qq
    go_wp2_with fail
    go_meet
    exact⟨rfl,rfl⟩
   ·have qe:(er == 0)=false:=beq_eq_false_iff_ne.2 qq
    clear qq
    go_wp2_with fail
    go_meet
    exact⟨rfl,rfl⟩
  case rest=>
  obtain⟨rfl,rfl⟩:=hcut
  go_wp2_with fail
  refine KD.out.mono ?_
  rintro e w26 ⟨ab8,rfl,g28⟩
  by_cases q9:(qK b (d',⟨l,t,t⟩)).2=0
  case neg=>
   have q9':((qK b (d',⟨l,t,t⟩)).2 != 0)=true:=by rw [bne_iff_ne];exact q9
   generalize (qK b (d',⟨l,t,t⟩)).2=er2 at *
   have KA:=Lib.hid (HAW.out _ _ g28)
   clear g28 q9 HAW KD
   go_wp2_with fail
   refine KA.out.mono ?_
   rintro e w3 ⟨rfl,g3⟩
   have G:=Lib.hid g3.mod
   clear g3 KA
   go_wp2_with fail
   go_ret
   exact⟨rfl,G.out⟩
  rw [q9]
  obtain⟨e1,e2⟩:=Y6.out q9
  obtain⟨s9,hs9⟩:∃ s9,s9=(qK b (d',⟨l,t,t⟩)).1:=⟨_,rfl⟩
  rw [← hs9] at g28 e1 e2
  have g29:=g28.aL (R1:=[_,_,_,_,_,_,_,_,_,_,_,_,_]) (R2:=[]) [0,1,2,3,8,9,10,11,12] (by decide) rfl
  have g30:In [] W w26 (vQ sb5 lb5 bd ab8 s9 [Cells xb #[.int .i64 t.gen,.slice A4 t.au.length a4,.slice D4 t.bL.length d4,.slice F4 t.bS.length f4] 26,Cells ob #[.int .i64 t.gen,.slice A4 t.au.length a4,.slice D4 t.bL.length d4,.slice F4 t.bS.length f4] 26,gq (.slice A4 t.au.length a4) t.au,xA (.slice D4 t.bL.length d4) t.bL,FM (.slice F4 t.bS.length f4) t.bS]):=g29
  have hz0:=FT ((g30.drewN 1).block 4 rfl)
  have K5:=tN (g30.drewN 1)
  rw [e1] at K5
  have K5':=Lib.hid K5
  have K6:=Lib.hid (DN (g30.drewN 1))
  have K7:=uC ((g30.drewN 1).aL (R1:=[_,_,_,_,_,_,_,_,_]) (R2:=[]) [3,0,1,2,4,5,6,7,8] (by decide) rfl)
  rw [e2] at K7
  have K7':=Lib.hid K7
  clear g28 g29 g30 KD K5 K7 e1 e2 q9 hs9 Y6 Y3 Y4 Y5
  go_wp2_with fail
  go_region_held3 (fun w'=>w'.cell? ⟨xb,0,none⟩=some (.int .i64 t.gen)∧w'.cell? ⟨xb,1,none⟩=some (.slice A4 t.au.length a4)∧w'.cell? ⟨xb,2,none⟩=some (.slice D4 t.bL.length d4)∧w'.cell? ⟨xb,3,none⟩=some (.slice F4 t.bS.length f4)) (first | exact hz3 | exact hz2 | exact hz1 | exact hz0) (first
   | (go_at_call 35;refine K5'.out.mono ?_;rintro e w6 ⟨rfl,rfl⟩)
   | (go_at_call 15;refine K6.out.mono ?_;rintro e w7 ⟨rfl,rfl⟩)
   | (go_at_call 16;refine K7'.out.mono ?_;rintro e w8 ⟨A8,a8,D8,d8,F8,f8,rfl,g8⟩;have hz1:=FT (g8.block 7 rfl);have K9:=Lib.hid (IL (s1:=t) (s2:=t) (a1:=a8) (e1:=d8) (h1:=f8) (a2:=a4) (e2:=d4) (h2:=f4) (BH 0 1 2 rfl rfl rfl) (BH 9 10 11 rfl rfl rfl) (aaF HOT.out).1 (aaF HOT.out).2.1 (aaF HOT.out).2.2 g8);clear g8)
   | (go_at_call 19;refine K9.out.mono ?_;rintro e w9 ⟨rfl,g9⟩;simp only [decide_true];have hz2:=FT (g9.block 7 rfl);have K12:=Lib.hid (HAW.out w9 _ g9);clear g9)
   | (go_at_call 18;refine K12.out.mono ?_;rintro e w12 ⟨rfl,g15⟩;have hz3:=FT (g15.block 7 rfl);have G:=Lib.hid g15.mod;clear g15))
  clear hz0 hz1 hz2 hz3 K5' K6 K7' K9 K12
  go_wp2_with fail
  go_ret
  exact⟨rfl,G.out⟩
 ·have HVB:Hid (¬ b=z):=Lib.hid hbv
  have c3:(b == z)=false:=beq_eq_false_iff_ne.2 hbv
  have c5:(z == b)=false:=beq_eq_false_iff_ne.2 (fun h=>hbv h.symm)
  have g14:=g13.aL (R1:=[_,_,_,_,_,_,_,_,_,_,_,_]) (R2:=[]) [4,5,6,7,0,1,2,3,8,9,10,11] (by decide) rfl
  clear g13 hbv
  have hgn:In [] W _ (vQ sb lb bd dA s1 [Cells xb #[.int .i64 u.gen,.slice A5 u.au.length a5,.slice D5 u.bL.length d5,.slice F5 u.bS.length f5] 26,gq (.slice A5 u.au.length a5) u.au,xA (.slice D5 u.bL.length d5) u.bL,FM (.slice F5 u.bS.length f5) u.bS,Cells ob #[.int .i64 t.gen,.slice A4 t.au.length a4,.slice D4 t.bL.length d4,.slice F4 t.bS.length f4] 26,gq (.slice A4 t.au.length a4) t.au,xA (.slice D4 t.bL.length d4) t.bL,FM (.slice F4 t.bS.length f4) t.bS]):=g14
  clear g14
  have HSW:Hid (zl z b t=u):=Lib.hid (by rw [HU.out];exact if_neg HVB.out)
  have KFL:=Lib.hid (fun n=>aaC hgn 2 rfl (by have:=(HXG.out 0).2.1;omega) n)
  clear hgn
  go_upto_region 12 with fail
  rw [← HXB.out,← ab9.out]
  clear HXB ab9
  go_wp2_with fail
  generalize wrap64 ((IntKind.u64.wrap fault).tmod 40)=nf at *
  refine (KFL.out nf).mono ?_
  rintro e w15 ⟨rfl,g15⟩
  have g16:In [] W w15 (vQ sb lb bd dA (nA s1.1 nf,s1.2) [Cells xb #[.int .i64 u.gen,.slice A5 u.au.length a5,.slice D5 u.bL.length d5,.slice F5 u.bS.length f5] 26,gq (.slice A5 u.au.length a5) u.au,xA (.slice D5 u.bL.length d5) u.bL,FM (.slice F5 u.bS.length f5) u.bS,Cells ob #[.int .i64 t.gen,.slice A4 t.au.length a4,.slice D4 t.bL.length d4,.slice F4 t.bS.length f4] 26,gq (.slice A4 t.au.length a4) t.au,xA (.slice D4 t.bL.length d4) t.bL,FM (.slice F4 t.bS.length f4) t.bS]):=g15
  obtain⟨-,x2,x3,x4⟩:=HXG.out nf
  have K5:=Lib.hid (Ze x3 (by omega) b g16)
  clear g15 g16 KFL x2 x3
  go_wp2_with fail
  refine K5.out.mono ?_
  rintro e w16 ⟨aax,rfl,g17⟩
  obtain⟨s2,hs2⟩:∃ s2,s2=(qK b (nA s1.1 nf,s1.2)).1:=⟨_,rfl⟩
  rw [← hs2] at g17
  obtain⟨y1,d',l,st,y2,y3,y4,y5,y6⟩:=x4 s2 hs2
  rw [← HT.out,HSW.out] at y4 y5 y6
  obtain⟨er,her⟩:∃ er,er=(qK b (nA s1.1 nf,s1.2)).2:=⟨_,rfl⟩
  rw [← her] at y5 ⊢
  have g18:=g17.aL (R1:=[_,_,_,_,_,_,_,_,_,_,_,_]) (R2:=[]) [2,4,5,6,7,8,9,10,11] (by decide) rfl
  have K6:=Lib.hid (UJ g18 0 rfl (by omega) H9.out.1 H9.out.2.1 H9.out.2.2)
  have Y1:=Lib.hid y1
  have Y2:=Lib.hid y2
  have Y3:=Lib.hid y3
  have Y4:=Lib.hid y4
  have Y5:=Lib.hid y5
  have Y6:=Lib.hid y6
  clear g17 g18 K5 HXG hs2 her x4 y1 y2 y3 y4 y5 y6
  go_wp2_with fail
  refine K6.out.mono ?_
  rintro e w17 ⟨rfl,g19⟩
  have g20:In [] W w17 (bJ bd (gz s2.1 p)::[Cells xb #[.int .i64 u.gen,.slice A5 u.au.length a5,.slice D5 u.bL.length d5,.slice F5 u.bS.length f5] 26,gq (.slice A5 u.au.length a5) u.au,xA (.slice D5 u.bL.length d5) u.bL,FM (.slice F5 u.bS.length f5) u.bS,Cells ob #[.int .i64 t.gen,.slice A4 t.au.length a4,.slice D4 t.bL.length d4,.slice F4 t.bS.length f4] 26,gq (.slice A4 t.au.length a4) t.au,xA (.slice D4 t.bL.length d4) t.bL,FM (.slice F4 t.bS.length f4) t.bS]):=g19
  have KO:=o_soopen g20 (by have:=Y1.out;show s2.1.ops≤_;omega) 3 zs
  rw [Y2.out] at KO
  have KO':=Lib.hid KO
  clear g19 g20 KO K6 Y1 Y2
  go_wp2_with fail
  refine KO'.out.mono ?_
  intro e w18 hp
  obtain⟨sb5,lb5,ab3,rfl,g21⟩:=hp.some rfl
  clear hp KO'
  by_cases hp9:(l.m.ak:Int)=b∧st=u
  ·obtain⟨y7,y8⟩:=hp9
   have y9:=y8.symm
   subst y9
   have Y7:=Lib.hid y7
   have K7:=Lib.hid (DN g21)
   have K8:=Lib.hid (uC (g21.aL (R1:=[_,_,_,_,_,_,_,_,_,_,_,_]) (R2:=[]) [3,0,1,2,4,5,6,7,8,9,10,11] (by decide) rfl))
   clear g21 y7
   go_wp2_with fail
   refine K7.out.mono ?_
   rintro e w19 ⟨rfl,rfl⟩
   go_wp2_with fail
   refine K8.out.mono ?_
   rintro e w20 ⟨A6,a6,D6,d6,F6,f6,rfl,g22⟩
   obtain⟨vb,hvb⟩:∃ vb,vb=w20.heap.size:=⟨_,rfl⟩
   obtain⟨w21,ab2⟩:∃ w21,w21=w20.alloc (.cells #[.int .i64 u.gen,.slice A6 u.au.length a6,.slice D6 u.bL.length d6,.slice F6 u.bS.length f6] 26):=⟨_,rfl⟩
   have g23:=(g22.cells #[.int .i64 u.gen,.slice A6 u.au.length a6,.slice D6 u.bL.length d6,.slice F6 u.bS.length f6] 26).aL (R1:=[_,_,_,_,_,_,_,_,_,_,_,_,_,_,_,_]) (R2:=[]) [5,6,7,4,0,1,2,3,8,9,10,11,12,13,14,15] (by decide) rfl
   rw [← hvb,← ab2] at g23
   have g24:In [] W w21 (vQ sb5 lb5 bd ab3 (d',⟨l,u,u⟩) [Cells vb #[.int .i64 u.gen,.slice A6 u.au.length a6,.slice D6 u.bL.length d6,.slice F6 u.bS.length f6] 26,gq (.slice A6 u.au.length a6) u.au,xA (.slice D6 u.bL.length d6) u.bL,FM (.slice F6 u.bS.length f6) u.bS,Cells xb #[.int .i64 u.gen,.slice A5 u.au.length a5,.slice D5 u.bL.length d5,.slice F5 u.bS.length f5] 26,gq (.slice A5 u.au.length a5) u.au,xA (.slice D5 u.bL.length d5) u.bL,FM (.slice F5 u.bS.length f5) u.bS,Cells ob #[.int .i64 t.gen,.slice A4 t.au.length a4,.slice D4 t.bL.length d4,.slice F4 t.bS.length f4] 26,gq (.slice A4 t.au.length a4) t.au,xA (.slice D4 t.bL.length d4) t.bL,FM (.slice F4 t.bS.length f4) t.bS]):=g23
   obtain⟨v0,v1,v2,v3⟩:=FT (g24.block 4 rfl)
   obtain⟨o0,o1,o2,o3⟩:=FT (g24.block 12 rfl)
   obtain⟨x0,x1,x2,x3⟩:=FT (g24.block 8 rfl)
   have KV:=Lib.hid (fun w' (h':In [] W w' (vQ sb5 lb5 bd ab3 (d',⟨l,u,u⟩) [Cells vb #[.int .i64 u.gen,.slice A6 u.au.length a6,.slice D6 u.bL.length d6,.slice F6 u.bS.length f6] 26,gq (.slice A6 u.au.length a6) u.au,xA (.slice D6 u.bL.length d6) u.bL,FM (.slice F6 u.bS.length f6) u.bS,Cells xb #[.int .i64 u.gen,.slice A5 u.au.length a5,.slice D5 u.bL.length d5,.slice F5 u.bS.length f5] 26,gq (.slice A5 u.au.length a5) u.au,xA (.slice D5 u.bL.length d5) u.bL,FM (.slice F5 u.bS.length f5) u.bS,Cells ob #[.int .i64 t.gen,.slice A4 t.au.length a4,.slice D4 t.bL.length d4,.slice F4 t.bS.length f4] 26,gq (.slice A4 t.au.length a4) t.au,xA (.slice D4 t.bL.length d4) t.bL,FM (.slice F4 t.bS.length f4) t.bS]))=>tN h')
   have HV5:Hid ((l.m.ak:Int)=b):=Lib.hid Y7.out
   have ab4:=Lib.hid hvb
   have ab5:=Lib.hid ab2
   have K9:=KV.out w21 g24
   rw [HV5.out] at K9
   have K9':=Lib.hid K9
   clear K9 K7 K8 g22 g23 hvb ab2 Y7
   go_upto_region 19 with fail
   rw [← ab4.out,← ab5.out]
   clear ab4 ab5
   go_wp2_with fail
   refine K9'.out.mono ?_
   rintro e w22 ⟨rfl,rfl⟩
   clear K9'
   have K9:=KV.out _ g24
   rw [HV5.out] at K9
   have K9':=Lib.hid K9
   clear K9
   go_wp2_with fail
   refine K9'.out.mono ?_
   rintro e w24 ⟨rfl,rfl⟩
   clear K9'
   have K11:=Lib.hid (IL (s1:=u) (s2:=u) (a1:=a6) (e1:=d6) (h1:=f6) (a2:=a5) (e2:=d5) (h2:=f5) (BH 5 6 7 rfl rfl rfl) (BH 9 10 11 rfl rfl rfl) (aaF HOU.out).1 (aaF HOU.out).2.1 (aaF HOU.out).2.2 g24)
   clear g24
   go_wp2_with fail
   refine K11.out.mono ?_
   rintro e w25 ⟨rfl,g26⟩
   simp only [decide_true]
   clear K11
   have g27:In [] W _ (vQ sb5 lb5 bd ab3 (d',⟨l,u,u⟩) [Cells vb #[.int .i64 u.gen,.slice A6 u.au.length a6,.slice D6 u.bL.length d6,.slice F6 u.bS.length f6] 26,gq (.slice A6 u.au.length a6) u.au,xA (.slice D6 u.bL.length d6) u.bL,FM (.slice F6 u.bS.length f6) u.bS,Cells xb #[.int .i64 u.gen,.slice A5 u.au.length a5,.slice D5 u.bL.length d5,.slice F5 u.bS.length f5] 26,gq (.slice A5 u.au.length a5) u.au,xA (.slice D5 u.bL.length d5) u.bL,FM (.slice F5 u.bS.length f5) u.bS,Cells ob #[.int .i64 t.gen,.slice A4 t.au.length a4,.slice D4 t.bL.length d4,.slice F4 t.bS.length f4] 26,gq (.slice A4 t.au.length a4) t.au,xA (.slice D4 t.bL.length d4) t.bL,FM (.slice F4 t.bS.length f4) t.bS]):=g26
   have KD:=Lib.hid (Ze Y3.out (by omega) b g27)
   clear g26 g27 KV v0 v1 v2 v3 o0 o1 o2 o3 x0 x1 x2 x3
   go_upto_region 20 with fail
   go_cut [131] (fun ab7 wx=>ab7=.bool false∧wx=_)
   case first=>
    by_cases qq:er=0
    ·have qe:(er == 0)=true:=beq_iff_eq.2 qq
     clear qq
     go_wp2_with fail
     go_meet
     exact⟨rfl,rfl⟩
    ·have qe:(er == 0)=false:=beq_eq_false_iff_ne.2 qq
     clear qq
     go_wp2_with fail
     go_meet
     exact⟨rfl,rfl⟩
   case rest=>
   obtain⟨rfl,rfl⟩:=hcut
   go_wp2_with fail
   refine KD.out.mono ?_
   rintro e w26 ⟨ab8,rfl,g28⟩
   by_cases q9:(qK b (d',⟨l,u,u⟩)).2=0
   case neg=>
    have q9':((qK b (d',⟨l,u,u⟩)).2 != 0)=true:=by rw [bne_iff_ne];exact q9
    generalize (qK b (d',⟨l,u,u⟩)).2=er2 at *
    have KA:=Lib.hid (HAW.out _ _ g28)
    clear g28 q9 HAW KD
    go_wp2_with fail
    refine KA.out.mono ?_
    rintro e w3 ⟨rfl,g3⟩
    have G:=Lib.hid g3.mod
    clear g3 KA
    go_wp2_with fail
    go_ret
    exact⟨rfl,G.out⟩
   rw [q9]
   obtain⟨e1,e2⟩:=Y6.out q9
   obtain⟨s9,hs9⟩:∃ s9,s9=(qK b (d',⟨l,u,u⟩)).1:=⟨_,rfl⟩
   rw [← hs9] at g28 e1 e2
   have g29:=g28.aL (R1:=[_,_,_,_,_,_,_,_,_,_,_,_,_,_,_,_]) (R2:=[]) [0,1,2,3,8,9,10,11,12,13,14,15] (by decide) rfl
   have g30:In [] W w26 (vQ sb5 lb5 bd ab8 s9 [Cells xb #[.int .i64 u.gen,.slice A5 u.au.length a5,.slice D5 u.bL.length d5,.slice F5 u.bS.length f5] 26,gq (.slice A5 u.au.length a5) u.au,xA (.slice D5 u.bL.length d5) u.bL,FM (.slice F5 u.bS.length f5) u.bS,Cells ob #[.int .i64 t.gen,.slice A4 t.au.length a4,.slice D4 t.bL.length d4,.slice F4 t.bS.length f4] 26,gq (.slice A4 t.au.length a4) t.au,xA (.slice D4 t.bL.length d4) t.bL,FM (.slice F4 t.bS.length f4) t.bS]):=g29
   have hz0:=FT ((g30.drewN 1).block 4 rfl)
   have K5:=tN (g30.drewN 1)
   rw [e1] at K5
   have K5':=Lib.hid K5
   have K6:=Lib.hid (DN (g30.drewN 1))
   have K7:=uC ((g30.drewN 1).aL (R1:=[_,_,_,_,_,_,_,_,_,_,_,_]) (R2:=[]) [3,0,1,2,4,5,6,7,8,9,10,11] (by decide) rfl)
   rw [e2] at K7
   have K7':=Lib.hid K7
   clear g28 g29 g30 KD K5 K7 e1 e2 q9 hs9 Y6 Y3 Y4 Y5
   go_wp2_with fail
   go_region_held3 (fun w'=>w'.cell? ⟨xb,0,none⟩=some (.int .i64 u.gen)∧w'.cell? ⟨xb,1,none⟩=some (.slice A5 u.au.length a5)∧w'.cell? ⟨xb,2,none⟩=some (.slice D5 u.bL.length d5)∧w'.cell? ⟨xb,3,none⟩=some (.slice F5 u.bS.length f5)) (first | exact hz3 | exact hz2 | exact hz1 | exact hz0) (first
    | (go_at_call 35;refine K5'.out.mono ?_;rintro e w6 ⟨rfl,rfl⟩)
    | (go_at_call 15;refine K6.out.mono ?_;rintro e w7 ⟨rfl,rfl⟩)
    | (go_at_call 16;refine K7'.out.mono ?_;rintro e w8 ⟨A8,a8,D8,d8,F8,f8,rfl,g8⟩;have hz1:=FT (g8.block 7 rfl);have K9:=Lib.hid (IL (s1:=u) (s2:=u) (a1:=a8) (e1:=d8) (h1:=f8) (a2:=a5) (e2:=d5) (h2:=f5) (BH 0 1 2 rfl rfl rfl) (BH 8 9 10 rfl rfl rfl) (aaF HOU.out).1 (aaF HOU.out).2.1 (aaF HOU.out).2.2 g8);clear g8)
    | (go_at_call 19;refine K9.out.mono ?_;rintro e w9 ⟨rfl,g9⟩;simp only [decide_true];have hz2:=FT (g9.block 7 rfl);have K12:=Lib.hid (HAW.out w9 _ g9);clear g9)
    | (go_at_call 18;refine K12.out.mono ?_;rintro e w12 ⟨rfl,g15⟩;have hz3:=FT (g15.block 7 rfl);have G:=Lib.hid g15.mod;clear g15))
   clear hz0 hz1 hz2 hz3 K5' K6 K7' K9 K12
   go_wp2_with fail
   go_ret
   exact⟨rfl,G.out⟩
  ·obtain⟨y7,y8⟩:(l.m.ak:Int)=z∧st=t:=by
    rcases Y4.out with h | h
    ·exact h
    ·exact absurd h hp9
   have HQ:Hid (er≠0):=Lib.hid (fun h=>hp9 (Y5.out h))
   have y9:=y8.symm
   subst y9
   clear hp9
   have Y7:=Lib.hid y7
   have K7:=Lib.hid (DN g21)
   have K8:=Lib.hid (uC (g21.aL (R1:=[_,_,_,_,_,_,_,_,_,_,_,_]) (R2:=[]) [3,0,1,2,4,5,6,7,8,9,10,11] (by decide) rfl))
   clear g21 y7
   go_wp2_with fail
   refine K7.out.mono ?_
   rintro e w19 ⟨rfl,rfl⟩
   go_wp2_with fail
   refine K8.out.mono ?_
   rintro e w20 ⟨A6,a6,D6,d6,F6,f6,rfl,g22⟩
   obtain⟨vb,hvb⟩:∃ vb,vb=w20.heap.size:=⟨_,rfl⟩
   obtain⟨w21,ab2⟩:∃ w21,w21=w20.alloc (.cells #[.int .i64 t.gen,.slice A6 t.au.length a6,.slice D6 t.bL.length d6,.slice F6 t.bS.length f6] 26):=⟨_,rfl⟩
   have g23:=(g22.cells #[.int .i64 t.gen,.slice A6 t.au.length a6,.slice D6 t.bL.length d6,.slice F6 t.bS.length f6] 26).aL (R1:=[_,_,_,_,_,_,_,_,_,_,_,_,_,_,_,_]) (R2:=[]) [5,6,7,4,0,1,2,3,8,9,10,11,12,13,14,15] (by decide) rfl
   rw [← hvb,← ab2] at g23
   have g24:In [] W w21 (vQ sb5 lb5 bd ab3 (d',⟨l,t,t⟩) [Cells vb #[.int .i64 t.gen,.slice A6 t.au.length a6,.slice D6 t.bL.length d6,.slice F6 t.bS.length f6] 26,gq (.slice A6 t.au.length a6) t.au,xA (.slice D6 t.bL.length d6) t.bL,FM (.slice F6 t.bS.length f6) t.bS,Cells xb #[.int .i64 u.gen,.slice A5 u.au.length a5,.slice D5 u.bL.length d5,.slice F5 u.bS.length f5] 26,gq (.slice A5 u.au.length a5) u.au,xA (.slice D5 u.bL.length d5) u.bL,FM (.slice F5 u.bS.length f5) u.bS,Cells ob #[.int .i64 t.gen,.slice A4 t.au.length a4,.slice D4 t.bL.length d4,.slice F4 t.bS.length f4] 26,gq (.slice A4 t.au.length a4) t.au,xA (.slice D4 t.bL.length d4) t.bL,FM (.slice F4 t.bS.length f4) t.bS]):=g23
   obtain⟨v0,v1,v2,v3⟩:=FT (g24.block 4 rfl)
   obtain⟨o0,o1,o2,o3⟩:=FT (g24.block 12 rfl)
   obtain⟨x0,x1,x2,x3⟩:=FT (g24.block 8 rfl)
   have KV:=Lib.hid (fun w' (h':In [] W w' (vQ sb5 lb5 bd ab3 (d',⟨l,t,t⟩) [Cells vb #[.int .i64 t.gen,.slice A6 t.au.length a6,.slice D6 t.bL.length d6,.slice F6 t.bS.length f6] 26,gq (.slice A6 t.au.length a6) t.au,xA (.slice D6 t.bL.length d6) t.bL,FM (.slice F6 t.bS.length f6) t.bS,Cells xb #[.int .i64 u.gen,.slice A5 u.au.length a5,.slice D5 u.bL.length d5,.slice F5 u.bS.length f5] 26,gq (.slice A5 u.au.length a5) u.au,xA (.slice D5 u.bL.length d5) u.bL,FM (.slice F5 u.bS.length f5) u.bS,Cells ob #[.int .i64 t.gen,.slice A4 t.au.length a4,.slice D4 t.bL.length d4,.slice F4 t.bS.length f4] 26,gq (.slice A4 t.au.length a4) t.au,xA (.slice D4 t.bL.length d4) t.bL,FM (.slice F4 t.bS.length f4) t.bS]))=>tN h')
   have HV5:Hid ((l.m.ak:Int)=z):=Lib.hid Y7.out
   have ab4:=Lib.hid hvb
   have ab5:=Lib.hid ab2
   have K9:=KV.out w21 g24
   rw [HV5.out] at K9
   have K9':=Lib.hid K9
   clear K9 K7 K8 g22 g23 hvb ab2 Y7
   go_upto_region 19 with fail
   rw [← ab4.out,← ab5.out]
   clear ab4 ab5
   go_wp2_with fail
   refine K9'.out.mono ?_
   rintro e w22 ⟨rfl,rfl⟩
   clear K9'
   have K10:=Lib.hid (IL (s1:=t) (s2:=t) (a1:=a6) (e1:=d6) (h1:=f6) (a2:=a4) (e2:=d4) (h2:=f4) (BH 5 6 7 rfl rfl rfl) (BH 13 14 15 rfl rfl rfl) (aaF HOT.out).1 (aaF HOT.out).2.1 (aaF HOT.out).2.2 g24)
   clear g24
   go_wp2_with fail
   refine K10.out.mono ?_
   rintro e w23 ⟨rfl,g25⟩
   simp only [decide_true]
   obtain⟨v0,v1,v2,v3⟩:=FT (g25.block 4 rfl)
   obtain⟨x0,x1,x2,x3⟩:=FT (g25.block 8 rfl)
   clear K10
   have K9:=KV.out _ g25
   rw [HV5.out] at K9
   have K9':=Lib.hid K9
   clear K9
   go_wp2_with fail
   refine K9'.out.mono ?_
   rintro e w24 ⟨rfl,rfl⟩
   clear K9'
   have g27:In [] W _ (vQ sb5 lb5 bd ab3 (d',⟨l,t,t⟩) [Cells vb #[.int .i64 t.gen,.slice A6 t.au.length a6,.slice D6 t.bL.length d6,.slice F6 t.bS.length f6] 26,gq (.slice A6 t.au.length a6) t.au,xA (.slice D6 t.bL.length d6) t.bL,FM (.slice F6 t.bS.length f6) t.bS,Cells xb #[.int .i64 u.gen,.slice A5 u.au.length a5,.slice D5 u.bL.length d5,.slice F5 u.bS.length f5] 26,gq (.slice A5 u.au.length a5) u.au,xA (.slice D5 u.bL.length d5) u.bL,FM (.slice F5 u.bS.length f5) u.bS,Cells ob #[.int .i64 t.gen,.slice A4 t.au.length a4,.slice D4 t.bL.length d4,.slice F4 t.bS.length f4] 26,gq (.slice A4 t.au.length a4) t.au,xA (.slice D4 t.bL.length d4) t.bL,FM (.slice F4 t.bS.length f4) t.bS]):=g25
   have KD:=Lib.hid (Ze Y3.out (by omega) b g27)
   clear g25 g27 KV v0 v1 v2 v3 o0 o1 o2 o3 x0 x1 x2 x3
   go_upto_region 20 with fail
   go_cut [131] (fun ab7 wx=>ab7=.bool false∧wx=_)
   case first=>
    have qe:(er == 0)=false:=beq_eq_false_iff_ne.2 (fun h=>HQ.out h)
    go_wp2_with fail
    go_meet
    exact⟨rfl,rfl⟩
   case rest=>
   obtain⟨rfl,rfl⟩:=hcut
   go_wp2_with fail
   refine KD.out.mono ?_
   rintro e w26 ⟨ab8,rfl,g28⟩
   by_cases q9:(qK b (d',⟨l,t,t⟩)).2=0
   case neg=>
    have q9':((qK b (d',⟨l,t,t⟩)).2 != 0)=true:=by rw [bne_iff_ne];exact q9
    generalize (qK b (d',⟨l,t,t⟩)).2=er2 at *
    have KA:=Lib.hid (HAW.out _ _ g28)
    clear g28 q9 HAW KD
    go_wp2_with fail
    refine KA.out.mono ?_
    rintro e w3 ⟨rfl,g3⟩
    have G:=Lib.hid g3.mod
    clear g3 KA
    go_wp2_with fail
    go_ret
    exact⟨rfl,G.out⟩
   rw [q9]
   obtain⟨e1,e2⟩:=Y6.out q9
   obtain⟨s9,hs9⟩:∃ s9,s9=(qK b (d',⟨l,t,t⟩)).1:=⟨_,rfl⟩
   rw [← hs9] at g28 e1 e2
   have g29:=g28.aL (R1:=[_,_,_,_,_,_,_,_,_,_,_,_,_,_,_,_]) (R2:=[]) [0,1,2,3,8,9,10,11,12,13,14,15] (by decide) rfl
   have g30:In [] W w26 (vQ sb5 lb5 bd ab8 s9 [Cells xb #[.int .i64 u.gen,.slice A5 u.au.length a5,.slice D5 u.bL.length d5,.slice F5 u.bS.length f5] 26,gq (.slice A5 u.au.length a5) u.au,xA (.slice D5 u.bL.length d5) u.bL,FM (.slice F5 u.bS.length f5) u.bS,Cells ob #[.int .i64 t.gen,.slice A4 t.au.length a4,.slice D4 t.bL.length d4,.slice F4 t.bS.length f4] 26,gq (.slice A4 t.au.length a4) t.au,xA (.slice D4 t.bL.length d4) t.bL,FM (.slice F4 t.bS.length f4) t.bS]):=g29
   have hz0:=FT ((g30.drewN 1).block 4 rfl)
   have K5:=tN (g30.drewN 1)
   rw [e1] at K5
   have K5':=Lib.hid K5
   have K6:=Lib.hid (DN (g30.drewN 1))
   have K7:=uC ((g30.drewN 1).aL (R1:=[_,_,_,_,_,_,_,_,_,_,_,_]) (R2:=[]) [3,0,1,2,4,5,6,7,8,9,10,11] (by decide) rfl)
   rw [e2] at K7
   have K7':=Lib.hid K7
   clear g28 g29 g30 KD K5 K7 e1 e2 q9 hs9 Y6 Y3 Y4 Y5
   go_wp2_with fail
   go_region_held3 (fun w'=>w'.cell? ⟨xb,0,none⟩=some (.int .i64 u.gen)∧w'.cell? ⟨xb,1,none⟩=some (.slice A5 u.au.length a5)∧w'.cell? ⟨xb,2,none⟩=some (.slice D5 u.bL.length d5)∧w'.cell? ⟨xb,3,none⟩=some (.slice F5 u.bS.length f5)) (first | exact hz3 | exact hz2 | exact hz1 | exact hz0) (first
    | (go_at_call 35;refine K5'.out.mono ?_;rintro e w6 ⟨rfl,rfl⟩)
    | (go_at_call 15;refine K6.out.mono ?_;rintro e w7 ⟨rfl,rfl⟩)
    | (go_at_call 16;refine K7'.out.mono ?_;rintro e w8 ⟨A8,a8,D8,d8,F8,f8,rfl,g8⟩;have hz1:=FT (g8.block 7 rfl);have K9:=Lib.hid (IL (s1:=u) (s2:=u) (a1:=a8) (e1:=d8) (h1:=f8) (a2:=a5) (e2:=d5) (h2:=f5) (BH 0 1 2 rfl rfl rfl) (BH 8 9 10 rfl rfl rfl) (aaF HOU.out).1 (aaF HOU.out).2.1 (aaF HOU.out).2.2 g8);clear g8)
    | (go_at_call 19;refine K9.out.mono ?_;rintro e w9 ⟨rfl,g9⟩;simp only [decide_true];have hz2:=FT (g9.block 7 rfl);have K12:=Lib.hid (HAW.out w9 _ g9);clear g9)
    | (go_at_call 18;refine K12.out.mono ?_;rintro e w12 ⟨rfl,g15⟩;have hz3:=FT (g15.block 7 rfl);have G:=Lib.hid g15.mod;clear g15))
   clear hz0 hz1 hz2 hz3 K5' K6 K7' K9 K12
   go_wp2_with fail
   go_ret
   exact⟨rfl,G.out⟩
end Go.Proofs.YtanhdliaaccacaaGreat
