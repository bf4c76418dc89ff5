/- .. -/
import Derived.Test.YtanhdliaaccacaaGreatUBUpFill
import Derived.Test.YtanhdliaaccacaaGreatUBL17Awake
import Derived.Laws.StructEq
namespace Go.Proofs.YtanhdliaaccacaaGreat
open Go.RowKit
set_option linter.unusedVariables false
set_option maxHeartbeats 64000000
set_option maxRecDepth 100000
theorem ab2 (t:rX) (w:World):(binOp .neq 47 (.agg (dE t)) (.agg (dE t))).run Tryz.prog w=.ok (.bool false) w:=by
 have u3:=Tryz.underlying3
 have u2:=Tryz.underlying45
 have a3:=Tryz.isAgg3
 have z3:=Tryz.sizeOf3
 have a2:=Tryz.isAgg45
 have z2:=Tryz.sizeOf45
 have hS:Tryz.prog.underlying 47=some (.struct (Tryz.prog.fieldsOf 47)):=by kernel_rfl
 have hp:Tryz.prog.stoodInHeld 47=false:=by kernel_rfl
 rw [run_neq_struct,show (10000:Nat)=9999+1 from rfl,run_equalIn_agg w 9999 47 _ _ hS hp]
 simp only [Program.fieldsOf,Tryz.underlying47]
 go_simp
def ab1 (t u:eT) (ob vb:Nat) (A4:Option Addr) (a4:Nat) (D4:Option Addr) (d4:Nat) (F4:Option Addr) (f4:Nat) (A5:Option Addr) (a5:Nat) (D5:Option Addr) (d5:Nat) (F5:Option Addr) (f5:Nat) (W:World) (i:Value) (wr:World):Prop:=
 ∃ k:Nat,k≤u.bS.length∧i=.int .i64 k∧In [] W wr [Cells vb #[.int .i64 u.gen,.slice A5 u.au.length a5,.slice D5 u.bL.length d5,.slice F5 u.bS.length f5] 26,FM (.slice F5 u.bS.length f5) u.bS,Cells ob #[.int .i64 t.gen,.slice A4 t.au.length a4,.slice D4 t.bL.length d4,.slice F4 t.bS.length f4] 26,FM (.slice F4 t.bS.length f4) t.bS]
theorem ab0 (W:World) (size:Int) (wsz:(Lit.int .i64 size).wf=true) {v:Value} {cs:List kS} (hv:uW W v cs) :
  Calls Tryz.prog 4 #[.int .i64 size,v] W (abq W):=by
 have HAW:=Lib.hid (fun w' (R:List ax) (h':In [] W w' R)=>Zu h')
 have KF:=Lib.hid (fun zs w' (R':List ax) (h':In [] W w' R')=>Zt (ak:=1) ⟨by omega,by omega⟩ zs h' hv)
 clear hv wsz
 go_enter Tryz.func4,Tryz.ntmps4
 go_wp2_with fail
 generalize wrap64 (100+wrap64 ((IntKind.u64.wrap size).tmod 500))=zs at *
 refine (KF.out zs _ _ (Own.nil W)).mono ?_
 rintro e w1 ⟨sb,lb,bd,dA,rfl,hfi,g1⟩
 have K1:=Lib.hid (KF.out zs w1 _ g1)
 have HF:=Lib.hid hfi
 clear KF g1 hfi
 go_wp2_with fail
 refine K1.out.mono ?_
 rintro e w2 ⟨sb2,lb2,bd2,aax,rfl,-,g2⟩
 obtain⟨s,hs⟩:∃ s,s=WX 1 zs cs:=⟨_,rfl⟩
 have hfi:=HF.out
 rw [← hs] at hfi g2
 obtain⟨r0,hx⟩:=TU hfi
 have HX:=Lib.hid hx
 have HR0:=Lib.hid r0
 obtain⟨t,ht⟩:∃ t,t=s.2.st:=⟨_,rfl⟩
 have HT:=Lib.hid ht
 have HOT:Hid (gm t):=Lib.hid (by rw [ht];exact r0.ok)
 have K6:=Lib.hid (DN (g2.aL (R1:=[_,_,_,_,_,_,_,_]) (R2:=[]) [4,5,6,7,0,1,2,3] (by decide) rfl))
 have K7:=uC (g2.aL (R1:=[_,_,_,_,_,_,_,_]) (R2:=[]) [7,4,5,6,0,1,2,3] (by decide) rfl)
 rw [← ht] at K7
 have K7':=Lib.hid K7
 clear K1 HF hs hfi g2 r0 hx ht K7
 go_wp2_with fail
 refine K6.out.mono ?_
 rintro e w7 ⟨rfl,rfl⟩
 go_wp2_with fail
 refine K7'.out.mono ?_
 rintro e w8 ⟨A4,a4,D4,d4,F4,f4,rfl,g8⟩
 have g9:=(g8.cells #[.int .i64 t.gen,.slice A4 t.au.length a4,.slice D4 t.bL.length d4,.slice F4 t.bS.length f4] 26).aL (R1:=[_,_,_,_,_,_,_,_,_,_,_,_]) (R2:=[]) [5,6,7,4,8,9,10,11,0,1,2,3] (by decide) rfl
 obtain⟨ob,hob⟩:∃ ob,ob=w8.heap.size:=⟨_,rfl⟩
 obtain⟨w9,hw9⟩:∃ w9,w9=w8.alloc (.cells #[.int .i64 t.gen,.slice A4 t.au.length a4,.slice D4 t.bL.length d4,.slice F4 t.bS.length f4] 26):=⟨_,rfl⟩
 have g10:In [] W w9 (vQ sb lb bd dA s (vQ sb2 lb2 bd2 aax s [Cells ob #[.int .i64 t.gen,.slice A4 t.au.length a4,.slice D4 t.bL.length d4,.slice F4 t.bS.length f4] 26,gq (.slice A4 t.au.length a4) t.au,xA (.slice D4 t.bL.length d4) t.bL,FM (.slice F4 t.bS.length f4) t.bS])):=by rw [hob,hw9];unfold vQ;rw [← HT.out];exact g9
 have K8:=Lib.hid (Ze HR0.out (by omega) 3 g10)
 have HOB:=Lib.hid hob
 have HW9:=Lib.hid hw9
 clear g8 g9 g10 K6 K7' hob hw9
 go_wp2_with fail
 rw [← HOB.out,← HW9.out]
 refine K8.out.mono ?_
 rintro e Gw ⟨ab7,rfl,g11⟩
 clear K8 HOB HW9
 have HX3:=Lib.hid (HX.out 3 (Or.inr rfl) _ rfl)
 by_cases q1:(qK 3 s).2=0
 case neg=>
  have q1':((qK 3 s).2 != 0)=true:=by rw [bne_iff_ne];exact q1
  generalize (qK 3 s).2=er at *
  clear q1 HX HX3
  have KA:=Lib.hid (HAW.out _ _ g11)
  clear g11 HAW
  go_wp2_with fail
  refine KA.out.mono ?_
  rintro e w3 ⟨rfl,g3⟩
  have G:=Lib.hid g3.mod
  clear g3 KA
  go_wp2_with fail
  go_ret
  exact⟨rfl,G.out⟩
 rw [q1]
 obtain⟨r1,e1,-⟩:=HX3.out q1
 have Yd:=Lib.hid (HX.out 2 (Or.inl rfl) _ rfl)
 obtain⟨s1,hs1⟩:∃ s1,s1=(qK 3 s).1:=⟨_,rfl⟩
 rw [← hs1] at g11 e1
 obtain⟨u,hu⟩:∃ u,u=eD 1 3 t:=⟨_,rfl⟩
 have HU:=Lib.hid hu
 rw [← HT.out,← hu] at e1
 have Ri:=Lib.hid e1
 have HOU:Hid (gm u):=Lib.hid (by rw [hu];exact HOT.out.img 1 3)
 have K9:=Lib.hid (Ze HR0.out (by omega) 2 (g11.aL (R1:=[_,_,_,_,_,_,_,_,_,_,_,_]) (R2:=[]) [4,5,6,7,0,1,2,3,8,9,10,11] (by decide) rfl))
 clear g11 q1 HX3 HX r1 hs1 hu e1
 go_wp2_with fail
 refine K9.out.mono ?_
 rintro e w11 ⟨ab8,rfl,g12⟩
 clear K9
 by_cases q2:(qK 2 s).2=0
 case neg=>
  have q2':((qK 2 s).2 != 0)=true:=by rw [bne_iff_ne];exact q2
  generalize (qK 2 s).2=er at *
  clear q2 Yd
  have KA:=Lib.hid (HAW.out _ _ g12)
  clear g12 HAW
  go_wp2_with fail
  refine KA.out.mono ?_
  rintro e w3 ⟨rfl,g3⟩
  have G:=Lib.hid g3.mod
  clear g3 KA
  go_wp2_with fail
  go_ret
  exact⟨rfl,G.out⟩
 rw [q2]
 obtain⟨r2,-,hx4⟩:=Yd.out q2
 have HX4:=Lib.hid (hx4 (by first | rfl | trivial) _ rfl)
 obtain⟨s2,hs2⟩:∃ s2,s2=(qK 2 s).1:=⟨_,rfl⟩
 rw [← hs2] at g12 HX4 r2
 have K10:=Lib.hid (Ze r2 (by omega) 3 g12)
 clear g12 q2 Yd hx4 r2 hs2
 go_wp2_with fail
 refine K10.out.mono ?_
 rintro e w12 ⟨ab9,rfl,g13⟩
 clear K10
 by_cases q3:(qK 3 s2).2=0
 case neg=>
  have q3':((qK 3 s2).2 != 0)=true:=by rw [bne_iff_ne];exact q3
  generalize (qK 3 s2).2=er at *
  clear q3 HX4
  have KA:=Lib.hid (HAW.out _ _ g13)
  clear g13 HAW
  go_wp2_with fail
  refine KA.out.mono ?_
  rintro e w3 ⟨rfl,g3⟩
  have G:=Lib.hid g3.mod
  clear g3 KA
  go_wp2_with fail
  go_ret
  exact⟨rfl,G.out⟩
 rw [q3]
 obtain⟨-,e3⟩:=HX4.out q3
 obtain⟨s3,hs3⟩:∃ s3,s3=(qK 3 s2).1:=⟨_,rfl⟩
 rw [← HT.out,← HU.out,← hs3] at e3
 rw [← hs3] at g13
 have HE3:=Lib.hid e3
 have K11:=Lib.hid (DN (g13.aL (R1:=[_,_,_,_,_,_,_,_,_,_,_,_]) (R2:=[]) [4,5,6,7,0,1,2,3,8,9,10,11] (by decide) rfl))
 have K12:=uC (g13.aL (R1:=[_,_,_,_,_,_,_,_,_,_,_,_]) (R2:=[]) [7,4,5,6,0,1,2,3,8,9,10,11] (by decide) rfl)
 rw [Ri.out] at K12
 have ab4:=Lib.hid K12
 clear g13 q3 HX4 hs3 e3 K12
 go_wp2_with fail
 refine K11.out.mono ?_
 rintro e w13 ⟨rfl,rfl⟩
 go_wp2_with fail
 refine ab4.out.mono ?_
 rintro e w14 ⟨A5,a5,D5,d5,F5,f5,rfl,g14⟩
 obtain⟨vb,hvb⟩:∃ vb,vb=w14.heap.size:=⟨_,rfl⟩
 obtain⟨w15,ab3⟩:∃ w15,w15=w14.alloc (.cells #[.int .i64 u.gen,.slice A5 u.au.length a5,.slice D5 u.bL.length d5,.slice F5 u.bS.length f5] 26):=⟨_,rfl⟩
 have g15:=(g14.cells #[.int .i64 u.gen,.slice A5 u.au.length a5,.slice D5 u.bL.length d5,.slice F5 u.bS.length f5] 26).drewN 0
 have g16:=(g14.cells #[.int .i64 u.gen,.slice A5 u.au.length a5,.slice D5 u.bL.length d5,.slice F5 u.bS.length f5] 26)
 rw [← hvb,← ab3] at g16
 have g17:=g16.drewN 1
 have hz0:(w15.drewN 1).cell? ⟨vb,0,none⟩=some (.int .i64 u.gen)∧(w15.drewN 1).cell? ⟨vb,1,none⟩=some (.slice A5 u.au.length a5)∧(w15.drewN 1).cell? ⟨vb,2,none⟩=some (.slice D5 u.bL.length d5)∧(w15.drewN 1).cell? ⟨vb,3,none⟩=some (.slice F5 u.bS.length f5)∧(w15.drewN 1).cell? ⟨ob,3,none⟩=some (.slice F4 t.bS.length f4):=⟨cell_of (g17.block 0 rfl) rfl,cell_of (g17.block 0 rfl) rfl,cell_of (g17.block 0 rfl) rfl,cell_of (g17.block 0 rfl) rfl,cell_of (g17.block 12 rfl) rfl⟩
 have K13:=Lib.hid (DN (g17.aL (R1:=[_,_,_,_,_,_,_,_,_,_,_,_,_,_,_,_]) (R2:=[]) [8,9,10,11,0,1,2,3,4,5,6,7,12,13,14,15] (by decide) rfl))
 have K14:=uC (g17.aL (R1:=[_,_,_,_,_,_,_,_,_,_,_,_,_,_,_,_]) (R2:=[]) [11,8,9,10,0,1,2,3,4,5,6,7,12,13,14,15] (by decide) rfl)
 rw [HE3.out] at K14
 have ab5:=Lib.hid K14
 have HVB:=Lib.hid hvb
 have ab6:=Lib.hid ab3
 have qn:((u.bS.length:Int) != (t.bS.length:Int))=false:=by rw [HU.out];simp [eD]
 have HLE:Hid (u.bS.length=t.bS.length):=Lib.hid (by rw [HU.out];simp [eD])
 clear g14 g15 g16 g17 K11 ab4 K14 hvb ab3 Ri HE3
 go_wp2_with fail
 rw [← HVB.out,← ab6.out]
 clear HVB ab6
 go_region_held3 (fun w'=>w'.cell? ⟨vb,0,none⟩=some (.int .i64 u.gen)∧w'.cell? ⟨vb,1,none⟩=some (.slice A5 u.au.length a5)∧w'.cell? ⟨vb,2,none⟩=some (.slice D5 u.bL.length d5)∧w'.cell? ⟨vb,3,none⟩=some (.slice F5 u.bS.length f5)∧w'.cell? ⟨ob,3,none⟩=some (.slice F4 t.bS.length f4)) (first | exact hz2 | exact hz1 | exact hz0) (first
  | (go_at_call 15;refine K13.out.mono ?_;rintro e w7 ⟨rfl,rfl⟩)
  | (go_at_call 16;refine ab5.out.mono ?_;rintro e w8 ⟨A8,a8,D8,d8,F8,f8,rfl,g8⟩;have hz1:w8.cell? ⟨vb,0,none⟩=some (.int .i64 u.gen)∧w8.cell? ⟨vb,1,none⟩=some (.slice A5 u.au.length a5)∧w8.cell? ⟨vb,2,none⟩=some (.slice D5 u.bL.length d5)∧w8.cell? ⟨vb,3,none⟩=some (.slice F5 u.bS.length f5)∧w8.cell? ⟨ob,3,none⟩=some (.slice F4 t.bS.length f4):=⟨cell_of (g8.block 7 rfl) rfl,cell_of (g8.block 7 rfl) rfl,cell_of (g8.block 7 rfl) rfl,cell_of (g8.block 7 rfl) rfl,cell_of (g8.block 15 rfl) rfl⟩;have K15:=Lib.hid (IL (s1:=u) (s2:=u) (a1:=a5) (e1:=d5) (h1:=f5) (a2:=a8) (e2:=d8) (h2:=f8) (BH 8 9 10 rfl rfl rfl) (BH 0 1 2 rfl rfl rfl) (aaF HOU.out).1 (aaF HOU.out).2.1 (aaF HOU.out).2.2 g8);clear g8)
  | (go_at_call 19;refine K15.out.mono ?_;rintro e w9 ⟨rfl,g9⟩;simp only [decide_true];have hz2:w9.cell? ⟨vb,0,none⟩=some (.int .i64 u.gen)∧w9.cell? ⟨vb,1,none⟩=some (.slice A5 u.au.length a5)∧w9.cell? ⟨vb,2,none⟩=some (.slice D5 u.bL.length d5)∧w9.cell? ⟨vb,3,none⟩=some (.slice F5 u.bS.length f5)∧w9.cell? ⟨ob,3,none⟩=some (.slice F4 t.bS.length f4):=⟨cell_of (g9.block 7 rfl) rfl,cell_of (g9.block 7 rfl) rfl,cell_of (g9.block 7 rfl) rfl,cell_of (g9.block 7 rfl) rfl,cell_of (g9.block 15 rfl) rfl⟩;have G9:=Lib.hid g9;clear g9))
 clear hz0 hz1 hz2 K13 ab5 K15
 have g18:=G9.out.aL (R1:=[_,_,_,_,_,_,_,_,_,_,_,_,_,_,_,_,_,_,_]) (R2:=[]) [7,10,15,18] (by decide) rfl
 have c3:w9.cell? ⟨vb,3,none⟩=some (.slice F5 u.bS.length f5):=cell_of (g18.block 0 rfl) rfl
 have HR:Hid (ab1 t u ob vb A4 a4 D4 d4 F4 f4 A5 a5 D5 d5 F5 f5 W (.int .i64 0) w9):=Lib.hid ⟨0,Nat.zero_le _,rfl,g18⟩
 have HLU:Hid (u.bS.length≤256):=Lib.hid HOU.out.lens.2.2
 clear G9 g18
 go_wp2_with fail
 go_loopw [74] (ab1 t u ob vb A4 a4 D4 d4 F4 f4 A5 a5 D5 d5 F5 f5 W) (fun k _=>u.bS.length - (intOf k).toNat)
 case atStart=>exact HR.out
 case round=>
  obtain⟨k,hk,rfl,dh⟩:=hrel
  clear HR c3
  by_cases hlt:k < u.bS.length
  ·obtain⟨z,hz⟩:∃ z,t.bS[k]?=some z:=⟨t.bS[k]'(by rw [← HLE.out];exact hlt),List.getElem?_eq_getElem _⟩
   have hx:u.bS[k]?=some (uf 1 3 z):=by rw [HU.out];show (t.bS.map (uf 1 3))[k]?=_;rw [List.getElem?_map,hz];rfl
   have hlu:=HLU.out
   have hle:=HLE.out
   obtain⟨Fr,rr⟩:=dh.get 1 rfl
   obtain⟨gf,fo,rfl,sc⟩:=rr.all.plain (by omega) (by decide)
   have c0:wr.cell? ⟨gf,fo+k * 8,none⟩=some (.int .u32 z.t.src):=by
    have:=sc (k * 8+0) _ (by rw [bU (enc:=fH) (k:=8) (fun _=>rfl) hx 0 (by decide)];rfl)
    rwa [← Nat.add_assoc] at this
   have c1:wr.cell? ⟨gf,fo+k * 8+1,none⟩=some (.int .u32 z.t.dst):=by
    have:=sc (k * 8+1) _ (by rw [bU (enc:=fH) (k:=8) (fun _=>rfl) hx 1 (by decide)];rfl)
    rwa [← Nat.add_assoc] at this
   have c2:wr.cell? ⟨gf,fo+k * 8+2,none⟩=some (.int .i64 z.t.proto):=by
    have:=sc (k * 8+2) _ (by rw [bU (enc:=fH) (k:=8) (fun _=>rfl) hx 2 (by decide)];rfl)
    rwa [← Nat.add_assoc] at this
   have c3:wr.cell? ⟨gf,fo+k * 8+3,none⟩=some (.int .i64 z.t.ag):=by
    have:=sc (k * 8+3) _ (by rw [bU (enc:=fH) (k:=8) (fun _=>rfl) hx 3 (by decide)];rfl)
    rwa [← Nat.add_assoc] at this
   have c4:wr.cell? ⟨gf,fo+k * 8+4,none⟩=some (.int .i64 z.t.ah):=by
    have:=sc (k * 8+4) _ (by rw [bU (enc:=fH) (k:=8) (fun _=>rfl) hx 4 (by decide)];rfl)
    rwa [← Nat.add_assoc] at this
   have c5:wr.cell? ⟨gf,fo+k * 8+5,none⟩=some (.int .i64 z.bk):=by
    have:=sc (k * 8+5) _ (by rw [bU (enc:=fH) (k:=8) (fun _=>rfl) hx 5 (by decide)];rfl)
    rwa [← Nat.add_assoc] at this
   have c6:wr.cell? ⟨gf,fo+k * 8+6,none⟩=some (.int .i64 (uf 1 3 z).gen):=by
    have:=sc (k * 8+6) _ (by rw [bU (enc:=fH) (k:=8) (fun _=>rfl) hx 6 (by decide)];rfl)
    rwa [← Nat.add_assoc] at this
   have c7:wr.cell? ⟨gf,fo+k * 8+7,none⟩=some (.int .i64 (uf 1 3 z).seen):=by
    have:=sc (k * 8+7) _ (by rw [bU (enc:=fH) (k:=8) (fun _=>rfl) hx 7 (by decide)];rfl)
    rwa [← Nat.add_assoc] at this
   obtain⟨fb,hfb⟩:∃ fb,fb=wr.heap.size:=⟨_,rfl⟩
   obtain⟨w4,hw4⟩:∃ w4,w4=wr.alloc (.cells #[.int .u32 z.t.src,.int .u32 z.t.dst,.int .i64 z.t.proto,.int .i64 z.t.ag,.int .i64 z.t.ah,.int .i64 z.bk,.int .i64 (uf 1 3 z).gen,.int .i64 (uf 1 3 z).seen] 49):=⟨_,rfl⟩
   have h5:=dh.cells #[.int .u32 z.t.src,.int .u32 z.t.dst,.int .i64 z.t.proto,.int .i64 z.t.ag,.int .i64 z.t.ah,.int .i64 z.bk,.int .i64 (uf 1 3 z).gen,.int .i64 (uf 1 3 z).seen] 49
   rw [← hw4,← hfb] at h5
   obtain⟨Fs,rs⟩:=h5.get 4 rfl
   obtain⟨gt,to',rfl,st⟩:=rs.all.plain (by omega) (by decide)
   have dd0:w4.cell? ⟨gt,to'+k * 8,none⟩=some (.int .u32 z.t.src):=by
    have:=st (k * 8+0) _ (by rw [bU (enc:=fH) (k:=8) (fun _=>rfl) hz 0 (by decide)];rfl)
    rwa [← Nat.add_assoc] at this
   have dd1:w4.cell? ⟨gt,to'+k * 8+1,none⟩=some (.int .u32 z.t.dst):=by
    have:=st (k * 8+1) _ (by rw [bU (enc:=fH) (k:=8) (fun _=>rfl) hz 1 (by decide)];rfl)
    rwa [← Nat.add_assoc] at this
   have dd2:w4.cell? ⟨gt,to'+k * 8+2,none⟩=some (.int .i64 z.t.proto):=by
    have:=st (k * 8+2) _ (by rw [bU (enc:=fH) (k:=8) (fun _=>rfl) hz 2 (by decide)];rfl)
    rwa [← Nat.add_assoc] at this
   have dd3:w4.cell? ⟨gt,to'+k * 8+3,none⟩=some (.int .i64 z.t.ag):=by
    have:=st (k * 8+3) _ (by rw [bU (enc:=fH) (k:=8) (fun _=>rfl) hz 3 (by decide)];rfl)
    rwa [← Nat.add_assoc] at this
   have dd4:w4.cell? ⟨gt,to'+k * 8+4,none⟩=some (.int .i64 z.t.ah):=by
    have:=st (k * 8+4) _ (by rw [bU (enc:=fH) (k:=8) (fun _=>rfl) hz 4 (by decide)];rfl)
    rwa [← Nat.add_assoc] at this
   have dd5:w4.cell? ⟨gt,to'+k * 8+5,none⟩=some (.int .i64 z.bk):=by
    have:=st (k * 8+5) _ (by rw [bU (enc:=fH) (k:=8) (fun _=>rfl) hz 5 (by decide)];rfl)
    rwa [← Nat.add_assoc] at this
   have b0:w4.cell? ⟨fb,0,none⟩=some (.int .u32 z.t.src):=cell_of (h5.block 0 rfl) rfl
   have b1:w4.cell? ⟨fb,1,none⟩=some (.int .u32 z.t.dst):=cell_of (h5.block 0 rfl) rfl
   have b2:w4.cell? ⟨fb,2,none⟩=some (.int .i64 z.t.proto):=cell_of (h5.block 0 rfl) rfl
   have b3:w4.cell? ⟨fb,3,none⟩=some (.int .i64 z.t.ag):=cell_of (h5.block 0 rfl) rfl
   have b4:w4.cell? ⟨fb,4,none⟩=some (.int .i64 z.t.ah):=cell_of (h5.block 0 rfl) rfl
   have b5:w4.cell? ⟨fb,5,none⟩=some (.int .i64 z.bk):=cell_of (h5.block 0 rfl) rfl
   have bo:w4.cell? ⟨ob,3,none⟩=some (.slice (some ⟨gt,to',none⟩) t.bS.length f4):=cell_of (h5.block 3 rfl) rfl
   have hlt':(k:Int) < (u.bS.length:Int):=Int.ofNat_lt.2 hlt
   have hlt2:(k:Int) < (t.bS.length:Int):=by rw [← hle];exact hlt'
   have hw2:wrap64 ((k:Int)+1)=(k:Int)+1:=by unfold wrap64;omega
   have htn:=ab2 z.t
   have qz:(z.bk != z.bk)=false:=bne_self_eq_false _
   have HRn:Hid (∀ n,ab1 t u ob vb A4 a4 D4 d4 (some ⟨gt,to',none⟩) f4 A5 a5 D5 d5 (some ⟨gf,fo,none⟩) f5 W (.int .i64 ((k:Int)+1)) (w4.drewN n)):=Lib.hid (fun n=>⟨k+1,hlt,by rw [Int.natCast_add];rfl,(h5.drop).drewN n⟩)
   have HM:=Lib.hid (dS hlt')
   have WW:=Lib.hid hw4
   have HFB:=Lib.hid hfb
   have hm:Tryz.prog.eqGuardType Tryz.prog.depth 47=false:=by kernel_rfl
   clear dh hx hz hlu hle rr rs sc st hlt hk hw4 hfb h5
   go_upto_region 15 with fail
   rw [← WW.out,← HFB.out]
   clear WW HFB c0 c1 c2 c3 c4 c5 c6 c7
   go_quiet (fail)
   go_wp2_with fail
   go_roundw
   case rel=>(try rw [hw2]);exact HRn.out _
   case measure=>(try rw [hw2]);exact HM.out
  ·have hge:(u.bS.length:Int)≤(k:Int):=by omega
   have KA:=Lib.hid (HAW.out _ _ dh)
   clear dh hk hlt HAW
   go_wp2_with fail
   refine KA.out.mono ?_
   rintro e w3 ⟨rfl,g3⟩
   have G:=Lib.hid g3.mod
   clear g3 KA
   go_wp2_with fail
   go_ret
   exact⟨rfl,G.out⟩
end Go.Proofs.YtanhdliaaccacaaGreat
