/- What is proved here: contracts of the program's functions, and plain laws, on which the proofs of StoreSure and CompactBreaks rest; without conditions. -/
import Derived.Test.YtogclkhpbjfadaaGreatCB37
namespace Go.Proofs.YtogclkhpbjfadaaGreat
open Go.RowKit
set_option linter.unusedVariables false
set_option maxHeartbeats 64000000
set_option maxRecDepth 100000
theorem FiSt.synced {z:Nat} {v:Int} {s:SD} (h:FiSt 60 z v s):∃ Fr,(syncS s).2=0∧SoInv (syncS s).1 Fr Fr.length Fr Fr.length∧FmtSt ((syncS s).1.2.l.m.ver) (syncS s).1.2.st∧(syncS s).1.2.l.size=z∧(syncS s).1.1.ops≤3000∧((syncS s).1.2.l.m.ver:Int)=v:=by
 obtain⟨Fr,kk,g⟩:=h.su.rm
 obtain⟨a1,a2,a3,a4,a5⟩:=g.sync
 have ho:=syncS_ops s
 have h1:=h.su.ops
 refine⟨Fr,a1,a5.inv,?_,by rw [a4];exact h.su.size,by omega,by rw [a4];exact h.ver⟩
 rw [a4,a3,h.ver];exact h.fmt
theorem SoInv.lgOk {s:SD} {Fr Fr0:List FrD} {k k0 z:Nat} (h:SoInv s Fr k Fr0 k0) (hs:s.2.l.size=z) (hz:16≤z∧z≤1048576):LgOk s.2.l:=⟨by rw [hs];exact hz.1,by rw [hs];exact hz.2,h.log.now.1⟩
theorem lens_of {t:StD} (h:OkSt t):t.bks.length≤1000000∧t.drs.length≤1000000∧t.fls.length≤1000000:=by
 obtain⟨h1,h2,h3⟩:=h.lens
 exact⟨by omega,by omega,by omega⟩
theorem broken {s:SD} {Fr:List FrD} {z:Nat} (hi:SoInv s Fr Fr.length Fr Fr.length) (hf:FmtSt s.2.l.m.ver s.2.st) (hs:s.2.l.size=z) (hz:16≤z∧z≤1048576) (ho:s.1.ops≤3000) (n:Int) (p:List UInt8) (size:Int) :
  (swapS s.2.l.m.ver s.2.st (dFail s.1 n,s.2)).1.2.st=s.2.st∧(swapS s.2.l.m.ver s.2.st (dFail s.1 n,s.2)).1.1.ops≤6000 ∧
  ∃ d' l,openS 3 size (dCrash (swapS s.2.l.m.ver s.2.st (dFail s.1 n,s.2)).1.1 p)=(d',some ⟨l,s.2.st,s.2.st⟩,0):=by
 have hi2:=hi.fail n
 obtain⟨h1,h2⟩:=cp_swap (s:=(dFail s.1 n,s.2)) hi2 hf
 have h3:=swapS_ops (s:=(dFail s.1 n,s.2)) (hi2.lgOk hs hz) hi.ok hi.ver
 have h4:(dFail s.1 n).ops=s.1.ops:=rfl
 obtain⟨m0,Fr',g1,g2⟩:=h2 p
 have hv:=(mayM_iff.1 g1.may).1
 obtain⟨d',e,_⟩:=open_so g1 rfl g2 hi.ok size (ver:=3) ⟨by omega,by omega⟩
 exact⟨h1,by simp only at h3;omega,d',_,e⟩
theorem walk_CompactBreaks (W:World) (version:Int) (wv:(Lit.int .i64 version).wf=true) (size:Int) (wsz:(Lit.int .i64 size).wf=true) {v:Value} {cs:List CallR} (hv:ArgCalls15 W v cs) (fault:Int) (wf:(Lit.int .i64 fault).wf=true) {a5:Option Addr} {len5 cap5:Nat} {p:List UInt8} (h5:AB W (.slice a5 len5 cap5) p) :
  Calls Tryz.prog 13 #[.int .i64 version,.int .i64 size,v,.int .i64 fault,.slice a5 len5 cap5] W (TrueP W):=by
 obtain⟨a5',c5',e5,hs5,hr5,hm5⟩:=h5.ex
 cases e5
 have HAW:=Lib.hid (fun w' (R:List Asrt) (h':In [] W w' R)=>o_awake16 h')
 have KF:=Lib.hid (fun z zs (hz:1≤z∧z≤3)=>o_filled hz zs (Own.nil W) hv)
 have HVER:=Lib.hid (ver_of version)
 have H5:=Lib.hid (And.intro hs5 (And.intro hr5 hm5))
 clear hv wv wsz wf h5 hs5
 go_enter Tryz.func13,Tryz.ntmps13
 go_wp2_with fail
 generalize wrap64 (1+wrap64 ((IntKind.u64.wrap version).tmod 3))=z at *
 generalize wrap64 ((IntKind.u64.wrap size).tmod 500)=zs at *
 refine (KF.out z zs HVER.out).mono ?_
 rintro e w1 ⟨sb,lb,bd,stb,s,rfl,hfi,g1⟩
 obtain⟨Fr,hy0,hy1,hy2,hy3,hy4,hy5⟩:=hfi.synced
 have K2:=Lib.hid (o_sosync (hfi.su.lgOk (sized_ok zs)) (by have:=hfi.su.ops;omega) g1)
 have E0:=Lib.hid hy0
 have HI:=Lib.hid hy1
 have HF:=Lib.hid hy2
 have HZ:=Lib.hid hy3
 have HO:=Lib.hid hy4
 clear g1 KF hfi hy0 hy1 hy2 hy3 hy4 hy5
 go_wp2_with fail
 refine K2.out.mono ?_
 rintro e w2 ⟨rfl,g2⟩
 rw [E0.out]
 have K3:=Lib.hid (o_sostate g2)
 have K4:=Lib.hid (o_stview' (g2.sel2 (R1:=[_,_,_,_]) [3,0,1,2] (by decide) rfl))
 clear g2 K2
 go_wp2_with fail
 refine K3.out.mono ?_
 rintro e w3 ⟨rfl,rfl⟩
 go_wp2_with fail
 refine K4.out.mono ?_
 rintro e w4 ⟨A,a,D,d,F,f,rfl,g4⟩
 have g5:=(g4.cells #[.int .i64 (syncS s).1.2.st.gen,.slice A (syncS s).1.2.st.bks.length a,.slice D (syncS s).1.2.st.drs.length d,.slice F (syncS s).1.2.st.fls.length f] 62).sel2 (R1:=[_,_,_,_,_,_,_,_]) (R2:=[]) [5,6,7,4,0,1,2,3] (by decide) rfl
 obtain⟨ob,hob⟩:∃ ob,ob=w4.heap.size:=⟨_,rfl⟩
 have g6:In [] W (w4.alloc (.cells #[.int .i64 (syncS s).1.2.st.gen,.slice A (syncS s).1.2.st.bks.length a,.slice D (syncS s).1.2.st.drs.length d,.slice F (syncS s).1.2.st.fls.length f] 62)) (SoL sb lb bd stb (syncS s).1 [Cells ob #[.int .i64 (syncS s).1.2.st.gen,.slice A (syncS s).1.2.st.bks.length a,.slice D (syncS s).1.2.st.drs.length d,.slice F (syncS s).1.2.st.fls.length f] 62,BkR (.slice A (syncS s).1.2.st.bks.length a) (syncS s).1.2.st.bks,DrR (.slice D (syncS s).1.2.st.drs.length d) (syncS s).1.2.st.drs,FlR (.slice F (syncS s).1.2.st.fls.length f) (syncS s).1.2.st.fls]):=by rw [hob];exact g5
 have HOB:=Lib.hid hob
 have KFL:=Lib.hid (fun n=>o_dfail g6 2 rfl (by have:=HO.out;omega) n)
 clear g4 g5 g6 K3 K4 hob
 go_wp2_with fail
 rw [← HOB.out]
 generalize wrap64 ((IntKind.u64.wrap fault).tmod 40)=nf at *
 refine (KFL.out nf).mono ?_
 rintro e w5 ⟨rfl,g7⟩
 have g8:In [] W w5 (SoL sb lb bd stb (dFail (syncS s).1.1 nf,(syncS s).1.2) [Cells ob #[.int .i64 (syncS s).1.2.st.gen,.slice A (syncS s).1.2.st.bks.length a,.slice D (syncS s).1.2.st.drs.length d,.slice F (syncS s).1.2.st.fls.length f] 62,BkR (.slice A (syncS s).1.2.st.bks.length a) (syncS s).1.2.st.bks,DrR (.slice D (syncS s).1.2.st.drs.length d) (syncS s).1.2.st.drs,FlR (.slice F (syncS s).1.2.st.fls.length f) (syncS s).1.2.st.fls]):=g7
 obtain⟨b1,b2,d',l',b3⟩:=broken HI.out HF.out HZ.out (sized_ok zs) HO.out nf p zs
 have K5:=Lib.hid (o_cpdo (s:=(dFail (syncS s).1.1 nf,(syncS s).1.2)) (HI.out.lgOk HZ.out (sized_ok zs)) (HI.out.fail nf).log (by have:=HO.out;show (syncS s).1.1.ops≤_;omega) g8)
 have HOK:=Lib.hid HI.out.ok
 clear g7 g8 KFL HOB HI HF HZ HO
 go_wp2_with fail
 refine K5.out.mono ?_
 rintro e w6 ⟨stb2,rfl,g9⟩
 obtain⟨t,ht⟩:∃ t,t=(syncS s).1.2.st:=⟨_,rfl⟩
 obtain⟨s3,hs3⟩:∃ s3,s3=(swapS (syncS s).1.2.l.m.ver (syncS s).1.2.st (dFail (syncS s).1.1 nf,(syncS s).1.2)).1:=⟨_,rfl⟩
 have g10:In [] W w6 (SoL sb lb bd stb2 s3 [Cells ob #[.int .i64 (syncS s).1.2.st.gen,.slice A (syncS s).1.2.st.bks.length a,.slice D (syncS s).1.2.st.drs.length d,.slice F (syncS s).1.2.st.fls.length f] 62,BkR (.slice A (syncS s).1.2.st.bks.length a) (syncS s).1.2.st.bks,DrR (.slice D (syncS s).1.2.st.drs.length d) (syncS s).1.2.st.drs,FlR (.slice F (syncS s).1.2.st.fls.length f) (syncS s).1.2.st.fls]):=by rw [hs3];exact g9
 rw [← ht] at g10
 rw [← hs3,← ht] at b1
 rw [← hs3] at b2 b3
 rw [← ht] at b3
 have HOT:Hid (OkSt t):=Lib.hid (by rw [ht];exact HOK.out)
 have hz0:=cells4 ((g10.drewN 1).block 4 rfl)
 have K6:=Lib.hid (o_sostate (g10.drewN 1))
 have K7:=Lib.hid (o_stview' ((g10.drewN 1).sel2 (R1:=[_,_,_,_,_,_,_,_]) (R2:=[]) [3,0,1,2,4,5,6,7] (by decide) rfl))
 have B1:=Lib.hid b1
 have B2:=Lib.hid b2
 have B3:=Lib.hid b3
 clear g9 g10 K5 HOK b1 b2 b3 ht hs3
 go_wp2_with fail
 go_region_held3 (fun w'=>w'.cell? ⟨ob,0,none⟩=some (.int .i64 t.gen)∧w'.cell? ⟨ob,1,none⟩=some (.slice A t.bks.length a)∧w'.cell? ⟨ob,2,none⟩=some (.slice D t.drs.length d)∧w'.cell? ⟨ob,3,none⟩=some (.slice F t.fls.length f)) (first | exact hz2 | exact hz1 | exact hz0) (first
  | (go_at_call 33;refine K6.out.mono ?_;rintro e w7 ⟨rfl,rfl⟩)
  | (go_at_call 34;refine K7.out.mono ?_;rintro e w8 ⟨A8,a8,D8,d8,F8,f8,rfl,g8⟩;have hz1:=cells4 (g8.block 7 rfl);have K9:=Lib.hid (o_stsame (a1:=a8) (e1:=d8) (h1:=f8) (a2:=a) (e2:=d) (h2:=f) (stV_of 0 1 2 rfl rfl rfl) (stV_of 8 9 10 rfl rfl rfl) (by rw [B1.out];exact (lens_of HOT.out).1) (by rw [B1.out];exact (lens_of HOT.out).2.1) (by rw [B1.out];exact (lens_of HOT.out).2.2) g8);clear g8)
  | (go_at_call 35;refine K9.out.mono ?_;rintro e w9 ⟨rfl,g9⟩;rw [show decide (s3.2.st=t)=true from decide_eq_true B1.out];have hz2:=cells4 (g9.block 7 rfl);have G9:=Lib.hid g9;clear g9))
 have g11:=G9.out.sel2 (R1:=[_,_,_,_,_,_,_,_,_,_,_]) (R2:=[]) [6,7,8,9,10] (by decide) rfl
 have K10:=Lib.hid (o_dcrash_arg g11 0 rfl (by have:=B2.out;omega) H5.out.1 H5.out.2.1 H5.out.2.2)
 clear g11 G9 hz0 hz1 hz2 K6 K7 K9
 go_wp2_with fail
 refine K10.out.mono ?_
 rintro e w10 ⟨rfl,g12⟩
 have g13:In [] W w10 (DkA bd (dCrash s3.1 p)::[Cells ob #[.int .i64 t.gen,.slice A t.bks.length a,.slice D t.drs.length d,.slice F t.fls.length f] 62,BkR (.slice A t.bks.length a) t.bks,DrR (.slice D t.drs.length d) t.drs,FlR (.slice F t.fls.length f) t.fls]):=g12
 have K11:=o_soopen g13 (by have:=B2.out;show s3.1.ops≤_;omega) 3 zs
 rw [B3.out] at K11
 have K11':=Lib.hid K11
 clear g12 g13 K10 K11 B1 B2 B3
 go_wp2_with fail
 refine K11'.out.mono ?_
 intro e w11 hp
 obtain⟨sb5,lb5,stb5,rfl,g14⟩:=hp.some rfl
 have hz0:=cells4 ((g14.drewN 1).block 4 rfl)
 have K6:=Lib.hid (o_sostate (g14.drewN 1))
 have K7:=Lib.hid (o_stview' ((g14.drewN 1).sel2 (R1:=[_,_,_,_,_,_,_,_]) (R2:=[]) [3,0,1,2,4,5,6,7] (by decide) rfl))
 clear g14 hp K11'
 go_wp2_with fail
 go_region_held3 (fun w'=>w'.cell? ⟨ob,0,none⟩=some (.int .i64 t.gen)∧w'.cell? ⟨ob,1,none⟩=some (.slice A t.bks.length a)∧w'.cell? ⟨ob,2,none⟩=some (.slice D t.drs.length d)∧w'.cell? ⟨ob,3,none⟩=some (.slice F t.fls.length f)) (first | exact hz3 | exact hz2 | exact hz1 | exact hz0) (first
  | (go_at_call 33;refine K6.out.mono ?_;rintro e w7 ⟨rfl,rfl⟩)
  | (go_at_call 34;refine K7.out.mono ?_;rintro e w8 ⟨A8,a8,D8,d8,F8,f8,rfl,g8⟩;have hz1:=cells4 (g8.block 7 rfl);have K9:=Lib.hid (o_stsame (s1:=t) (s2:=t) (a1:=a8) (e1:=d8) (h1:=f8) (a2:=a) (e2:=d) (h2:=f) (stV_of 0 1 2 rfl rfl rfl) (stV_of 8 9 10 rfl rfl rfl) (lens_of HOT.out).1 (lens_of HOT.out).2.1 (lens_of HOT.out).2.2 g8);clear g8)
  | (go_at_call 35;refine K9.out.mono ?_;rintro e w9 ⟨rfl,g9⟩;simp only [decide_true];have hz2:=cells4 (g9.block 7 rfl);have K12:=Lib.hid (HAW.out w9 _ g9);clear g9)
  | (go_at_call 51;refine K12.out.mono ?_;rintro e w12 ⟨rfl,g15⟩;have hz3:=cells4 (g15.block 7 rfl);have G:=Lib.hid g15.mod;clear g15))
 clear hz0 hz1 hz2 hz3 K6 K7 K9 K12
 go_wp2_with fail
 go_ret
 exact⟨rfl,G.out⟩
end Go.Proofs.YtogclkhpbjfadaaGreat
