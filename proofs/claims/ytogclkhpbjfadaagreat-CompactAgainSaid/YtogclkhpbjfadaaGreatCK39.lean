/- Parts of the proofs that a compaction keeps what lives, and done again is as once. -/
import Derived.Test.YtogclkhpbjfadaaGreatCK38
namespace Go.Proofs.YtogclkhpbjfadaaGreat
open Go.RowKit Go.WideShapes
set_option linter.unusedVariables false
set_option maxHeartbeats 64000000
set_option maxRecDepth 100000
def TB (w:World) (v:Value) (r:Rec):Prop:=∃ A c,v=uy r A c∧Src w A r.ax.length 3 (oD r.ax)∧(A=Option.none→c=0)∧r.ax.length≤maxLen∧PI r
theorem We {H:Type} {enc:TypeId×Value→H} {w:World} {base b0:Nat} {r:Reach} {spare:Nat→Bool} {held:Bool} {v:Value} {d:DataW H} {p:List MemPlace}
  (hv:Value.okWide Tryz.prog w r b0 69 v) (h:DataW.Trod enc Tryz.prog w base spare held 69 v d p):∃ r,TB w v r:=by
 obtain⟨cs,rfl,hsz⟩:=okWide_struct Tryz.underlying69 hv
 obtain⟨n,h⟩:=h
 obtain⟨r,hr⟩:=PL h (by show cs.toList.length=14;rw [Array.length_toList,hsz];kernel_rfl)
 obtain⟨ab,cb,e,h1,h2,h3,h4⟩:=Xi hr
 exact⟨r,ab,cb,by show Value.agg cs=Value.agg (Nh r ab cb).toArray;rw [← e];show _=Value.agg cs.toList.toArray;rw [Array.toArray_toList],h1,h2,h3,h4⟩
section
variable {F0:List Nat} {w0 w:World} {R:List az} {sb lb bd dz:Nat}
theorem In.aag {s:SD} (h:In F0 w0 w (oG sb lb bd dz s R)):In F0 w0 w (bJ bd s.1::R):=by
 exact h.aI (R1:=[_,_,_,_]) (R2:=R) [2] (by decide) rfl
end
theorem Wh {W:World} {g:Nat} {k src dst proto ag ah bI aG au gen bk till count:Int} {x:Value} (h:W.heap[g]?=some (.cells #[.int .i64 k,.int .u32 src,.int .u32 dst,.int .i64 proto,.int .i64 ag,.int .i64 ah,.int .i64 bI,.int .i64 aG,.int .i64 au,.int .i64 gen,x,.int .i64 bk,.int .i64 till,.int .i64 count] 69 (0,0))):W.cell? ⟨g,0,none⟩=some (.int .i64 k)∧W.cell? ⟨g,1,none⟩=some (.int .u32 src)∧W.cell? ⟨g,2,none⟩=some (.int .u32 dst)∧W.cell? ⟨g,3,none⟩=some (.int .i64 proto)∧W.cell? ⟨g,4,none⟩=some (.int .i64 ag)∧W.cell? ⟨g,5,none⟩=some (.int .i64 ah)∧W.cell? ⟨g,6,none⟩=some (.int .i64 bI)∧W.cell? ⟨g,7,none⟩=some (.int .i64 aG)∧W.cell? ⟨g,8,none⟩=some (.int .i64 au)∧W.cell? ⟨g,9,none⟩=some (.int .i64 gen)∧W.cell? ⟨g,10,none⟩=some (x)∧W.cell? ⟨g,11,none⟩=some (.int .i64 bk)∧W.cell? ⟨g,12,none⟩=some (.int .i64 till)∧W.cell? ⟨g,13,none⟩=some (.int .i64 count):=
 ⟨cell_of h rfl,cell_of h rfl,cell_of h rfl,cell_of h rfl,cell_of h rfl,cell_of h rfl,cell_of h rfl,cell_of h rfl,cell_of h rfl,cell_of h rfl,cell_of h rfl,cell_of h rfl,cell_of h rfl,cell_of h rfl⟩
theorem vM (W:World) (version:Int) (size:Int) {v:Value} {cs:List oL} (hv:nM W v cs) {k src dst proto ag ah bI aG au gen bk till count:Int} {ax:List Bk} {A:Option Addr} {c:Nat} (hs:Src W A ax.length 3 (oD ax)) (hn:A=none→c=0) (hb:ax.length≤maxLen) (wr:mQ ⟨k,⟨⟨src,dst,proto,ag,ah⟩,bI,aG,au⟩,gen,ax,bk,till,count⟩) :
  Calls Tryz.prog 12 #[.int .i64 version,.int .i64 size,v,uy ⟨k,⟨⟨src,dst,proto,ag,ah⟩,bI,aG,au⟩,gen,ax,bk,till,count⟩ A c] W (SL W):=by
 have Wi:=Lib.hid (fun w' (R:List az) (h':In [] W w' R)=>Ed h')
 have g1:=(Own.nil W).cells #[.int .i64 k,.int .u32 src,.int .u32 dst,.int .i64 proto,.int .i64 ag,.int .i64 ah,.int .i64 bI,.int .i64 aG,.int .i64 au,.int .i64 gen,.slice A ax.length c,.int .i64 bk,.int .i64 till,.int .i64 count] 69
 have KA:=Lib.hid (Wi.out _ _ g1)
 obtain⟨rb,hrb⟩:∃ rb,rb=W.heap.size:=⟨_,rfl⟩
 have KF:=Lib.hid (fun z zs (hz:1≤z∧z≤3)=>Ec hz zs g1 hv)
 rw [← hrb] at KF
 have WO:=Lib.hid hrb
 have TC:=Lib.hid (SN version)
 have HS:=Lib.hid hs
 have HN:=Lib.hid hn
 have HB:=Lib.hid hb
 have OC:=Lib.hid wr
 by_cases q:40 < ax.length
 ·have q':(40:Int) < (ax.length:Int):=by omega
  clear hv hs hn hb wr g1 KF TC HS HN HB OC WO hrb q
  go_enter Tryz.func12,Tryz.ntmps12
  go_wp2_with fail
  refine KA.out.mono ?_
  rintro e w1 ⟨rfl,g2⟩
  have G:=Lib.hid g2.mod
  clear g2 KA Wi
  go_wp2_with fail
  go_ret
  exact⟨rfl,G.out⟩
 have q':decide ((40:Int) < (ax.length:Int))=false:=by simp;omega
 have q'':¬ (40:Int) < (ax.length:Int):=by omega
 clear hv hs hn hb wr g1 q hrb KA
 go_enter Tryz.func12,Tryz.ntmps12
 go_wp2_with fail
 generalize wrap64 (1+wrap64 ((IntKind.u64.wrap version).tmod 3))=z at *
 generalize wrap64 (100+wrap64 ((IntKind.u64.wrap size).tmod 500))=zs at *
 refine (KF.out z zs TC.out).mono ?_
 rintro e w1 ⟨sb,lb,bd,dz,s,rfl,hfi,g1⟩
 obtain⟨r0,hx⟩:=Jn hfi OC.out
 have K1:=Lib.hid (Gn r0.lg (Classical.choose_spec (Classical.choose_spec r0.inv)) (by have:=r0.ops;omega) g1)
 have HX:=Lib.hid hx
 clear g1 KF hfi hx r0
 go_wp2_with fail
 refine K1.out.mono ?_
 rintro e w2 ⟨Tq,rfl,g2⟩
 obtain⟨s1,hs1⟩:∃ s1,s1=(dx s.2.l.m.aj s.2.st s).1:=⟨_,rfl⟩
 rw [← hs1] at g2
 have YX:=Lib.hid (HX.out s1 hs1)
 clear K1 HX hs1
 by_cases q1:(dx s.2.l.m.aj s.2.st s).2=0
 case neg=>
  have q1':((dx s.2.l.m.aj s.2.st s).2 != 0)=true:=by rw [bne_iff_ne];exact q1
  have KA:=Lib.hid (Wi.out _ _ g2)
  clear g2 YX q1 Wi
  generalize (dx s.2.l.m.aj s.2.st s).2=er at *
  go_wp2_with fail
  refine KA.out.mono ?_
  rintro e w3 ⟨rfl,g3⟩
  have G:=Lib.hid g3.mod
  clear g3 KA
  go_wp2_with fail
  go_ret
  exact⟨rfl,G.out⟩
 rw [q1]
 obtain⟨r1,hd,hx⟩:=YX.out q1
 have K2:=Lib.hid (qK r1.lg g2)
 have KD:=Lib.hid (fun w' h'=>Gn (w:=w') r1.lg (Classical.choose_spec (Classical.choose_spec r1.inv)) (by have:=r1.ops;omega) (h':In [] W w' (oG sb lb bd Tq s1 [Cells rb #[.int .i64 k,.int .u32 src,.int .u32 dst,.int .i64 proto,.int .i64 ag,.int .i64 ah,.int .i64 bI,.int .i64 aG,.int .i64 au,.int .i64 gen,.slice A ax.length c,.int .i64 bk,.int .i64 till,.int .i64 count] 69])))
 have HD:=Lib.hid hd
 have TN:=Lib.hid hx
 clear g2 YX q1 hd hx r1
 go_wp2_with fail
 refine K2.out.mono ?_
 rintro e w3 ⟨rfl,g3⟩
 have K3:=Lib.hid (KD.out w3 g3)
 clear g3 K2 KD
 go_wp2_with fail
 refine K3.out.mono ?_
 rintro e w4 ⟨aaS,rfl,g4⟩
 rw [HD.out]
 obtain⟨s2,hs2⟩:∃ s2,s2=(dx s1.2.l.m.aj s1.2.st s1).1:=⟨_,rfl⟩
 rw [← hs2] at g4
 obtain⟨r2,hz2,hx⟩:=TN.out s2 hs2
 have K4:=Lib.hid (qK r2.lg g4)
 rw [hz2] at K4
 have HX3:=Lib.hid hx
 have HR2:=Lib.hid r2
 clear K3 TN HD hs2 hz2 hx r2 g4
 go_wp2_with fail
 refine K4.out.mono ?_
 rintro e w5 ⟨rfl,g5⟩
 unfold maxLen at HB
 have hrc:=Wh (g5.block 4 rfl)
 rw [← WO.out]
 have K5:=Lib.hid (uq (r:=⟨k,⟨⟨src,dst,proto,ag,ah⟩,bI,aG,au⟩,gen,ax,bk,till,count⟩) (A:=A) (c:=c) HR2.out.lg (by have:=HR2.out.ops;omega) (fun w' h'=>HS.out.old h') HN.out (by have:=HB.out;show ax.length≤_;omega) OC.out g5)
 clear K4 g5
 go_wp2_with fail
 refine K5.out.mono ?_
 rintro e w6 ⟨rfl,g6⟩
 obtain⟨s3,hs3⟩:∃ s3,s3=(bG ⟨k,⟨⟨src,dst,proto,ag,ah⟩,bI,aG,au⟩,gen,ax,bk,till,count⟩ s2).1:=⟨_,rfl⟩
 rw [← hs3] at g6
 obtain⟨r3,ho3,hx⟩:=HX3.out s3 hs3
 obtain⟨er,her⟩:∃ er,er=(bG ⟨k,⟨⟨src,dst,proto,ag,ah⟩,bI,aG,au⟩,gen,ax,bk,till,count⟩ s2).2:=⟨_,rfl⟩
 rw [← her] at hx ⊢
 obtain⟨t,ht⟩:∃ t,t=s3.2.st:=⟨_,rfl⟩
 rw [← ht] at ho3 hx
 have Ck:Hid (fU t):=Lib.hid (by rw [ht];exact r3.ok)
 have K6:=Lib.hid (jT g6)
 have K7:=ig (g6.aI (R1:=[_,_,_,_,_]) [3,0,1,2,4] (by decide) rfl)
 rw [← ht] at K7
 have K7':=Lib.hid K7
 have HR3:=Lib.hid r3
 have HO3:=Lib.hid ho3
 have HX4:=Lib.hid hx
 have HT:=Lib.hid ht
 clear g6 K5 K7 HX3 HR2 hs3 her ht ho3 hx r3 OC HS HN HB
 go_wp2_with fail
 refine K6.out.mono ?_
 rintro e w7 ⟨rfl,rfl⟩
 go_wp2_with fail
 refine K7'.out.mono ?_
 rintro e w8 ⟨A4,a4,D4,d4,F4,f4,rfl,g8⟩
 have g9:=(g8.cells #[.int .i64 t.gen,.slice A4 t.ax.length a4,.slice D4 t.bN.length d4,.slice F4 t.bU.length f4] 62).aI (R1:=[_,_,_,_,_,_,_,_,_]) (R2:=[]) [5,6,7,4,0,1,2,3,8] (by decide) rfl
 obtain⟨ob,YO⟩:∃ ob,ob=w8.heap.size:=⟨_,rfl⟩
 obtain⟨w9,YP⟩:∃ w9,w9=w8.alloc (.cells #[.int .i64 t.gen,.slice A4 t.ax.length a4,.slice D4 t.bN.length d4,.slice F4 t.bU.length f4] 62):=⟨_,rfl⟩
 have g10:In [] W w9 (oG sb lb bd aaS s3 [Cells ob #[.int .i64 t.gen,.slice A4 t.ax.length a4,.slice D4 t.bN.length d4,.slice F4 t.bU.length f4] 62,gG (.slice A4 t.ax.length a4) t.ax,zq (.slice D4 t.bN.length d4) t.bN,BI (.slice F4 t.bU.length f4) t.bU,Cells rb #[.int .i64 k,.int .u32 src,.int .u32 dst,.int .i64 proto,.int .i64 ag,.int .i64 ah,.int .i64 bI,.int .i64 aG,.int .i64 au,.int .i64 gen,.slice A ax.length c,.int .i64 bk,.int .i64 till,.int .i64 count] 69]):=by rw [YO,YP];unfold oG;rw [← HT.out];exact g9
 have Zd:=Lib.hid YO
 have Ze:=Lib.hid YP
 clear g8 g9 K6 K7' YO YP
 by_cases he:er=0
 ·subst he
  obtain⟨y1,y2,d',l',y3⟩:=HX4.out rfl
  have KS:=Lib.hid (Sz HR3.out.lg (by have:=HR3.out.ops;omega) g10)
  have HY1:=Lib.hid y1
  have HY2:=Lib.hid y2
  have OA:=Lib.hid y3
  clear g10 HX4 HR3 HO3 y1 y2 y3 HT
  go_wp2_with fail
  rw [← Zd.out,← Ze.out]
  refine KS.out.mono ?_
  rintro e Co ⟨rfl,g11⟩
  rw [HY1.out]
  have G0:=Lib.hid g11
  clear g11 KS Zd Ze HY1
  have KO:=o_soopen (In.aag G0.out) (by have:=HY2.out;omega) 3 zs
  rw [OA.out] at KO
  have WV:=Lib.hid KO
  clear KO G0
  go_wp2_with fail
  refine WV.out.mono ?_
  intro e Zq hp
  obtain⟨sb5,lb5,aah,rfl,g14⟩:=hp.some rfl
  have hz0:=fJ ((g14.drewN 1).block 4 rfl)
  have K6:=Lib.hid (jT (g14.drewN 1))
  have K7:=Lib.hid (ig ((g14.drewN 1).aI (R1:=[_,_,_,_,_,_,_,_]) (R2:=[_]) [3,0,1,2,4,5,6,7] (by decide) rfl))
  clear g14 hp WV
  go_wp2_with fail
  go_region_held3 (fun w'=>w'.cell? ⟨ob,0,none⟩=some (.int .i64 t.gen)∧w'.cell? ⟨ob,1,none⟩=some (.slice A4 t.ax.length a4)∧w'.cell? ⟨ob,2,none⟩=some (.slice D4 t.bN.length d4)∧w'.cell? ⟨ob,3,none⟩=some (.slice F4 t.bU.length f4)) (first | exact hz3 | exact hz2 | exact hz1 | exact hz0) (first
   | (go_at_call 33;refine K6.out.mono ?_;rintro e w7 ⟨rfl,rfl⟩)
   | (go_at_call 34;refine K7.out.mono ?_;rintro e w8 ⟨A8,a8,D8,d8,F8,f8,rfl,g8⟩;have hz1:=fJ (g8.block 7 rfl);have K9:=Lib.hid (mX (s1:=t) (s2:=t) (a1:=a8) (e1:=d8) (h1:=f8) (a2:=a4) (e2:=d4) (h2:=f4) (jA 0 1 2 rfl rfl rfl) (jA 8 9 10 rfl rfl rfl) (iD Ck.out).1 (iD Ck.out).2.1 (iD Ck.out).2.2 g8);clear g8)
   | (go_at_call 35;refine K9.out.mono ?_;rintro e w9 ⟨rfl,g9⟩;simp only [decide_true];have hz2:=fJ (g9.block 7 rfl);have TD:=Lib.hid (Wi.out w9 _ g9);clear g9)
   | (go_at_call 51;refine TD.out.mono ?_;rintro e Wj ⟨rfl,g15⟩;have hz3:=fJ (g15.block 7 rfl);have G:=Lib.hid g15.mod;clear g15))
  clear hz0 hz1 hz2 hz3 K6 K7 K9 TD
  go_wp2_with fail
  go_ret
  exact⟨rfl,G.out⟩
 ·have he':(er == 0)=false:=by rw [beq_eq_false_iff_ne];exact he
  obtain⟨d',l',y3⟩:=HO3.out
  have OA:=Lib.hid y3
  have G0:=Lib.hid g10
  clear g10 HX4 HO3 he y3 HT
  have KO:=o_soopen (In.aag G0.out) (by have:=HR3.out.ops;omega) 3 zs
  rw [OA.out] at KO
  have WV:=Lib.hid KO
  clear KO G0
  go_wp2_with fail
  rw [← Zd.out,← Ze.out]
  refine WV.out.mono ?_
  intro e Zq hp
  obtain⟨sb5,lb5,aah,rfl,g14⟩:=hp.some rfl
  have hz0:=fJ ((g14.drewN 1).block 4 rfl)
  have K6:=Lib.hid (jT (g14.drewN 1))
  have K7:=Lib.hid (ig ((g14.drewN 1).aI (R1:=[_,_,_,_,_,_,_,_]) (R2:=[_]) [3,0,1,2,4,5,6,7] (by decide) rfl))
  clear g14 hp WV
  go_wp2_with fail
  go_region_held3 (fun w'=>w'.cell? ⟨ob,0,none⟩=some (.int .i64 t.gen)∧w'.cell? ⟨ob,1,none⟩=some (.slice A4 t.ax.length a4)∧w'.cell? ⟨ob,2,none⟩=some (.slice D4 t.bN.length d4)∧w'.cell? ⟨ob,3,none⟩=some (.slice F4 t.bU.length f4)) (first | exact hz3 | exact hz2 | exact hz1 | exact hz0) (first
   | (go_at_call 33;refine K6.out.mono ?_;rintro e w7 ⟨rfl,rfl⟩)
   | (go_at_call 34;refine K7.out.mono ?_;rintro e w8 ⟨A8,a8,D8,d8,F8,f8,rfl,g8⟩;have hz1:=fJ (g8.block 7 rfl);have K9:=Lib.hid (mX (s1:=t) (s2:=t) (a1:=a8) (e1:=d8) (h1:=f8) (a2:=a4) (e2:=d4) (h2:=f4) (jA 0 1 2 rfl rfl rfl) (jA 8 9 10 rfl rfl rfl) (iD Ck.out).1 (iD Ck.out).2.1 (iD Ck.out).2.2 g8);clear g8)
   | (go_at_call 35;refine K9.out.mono ?_;rintro e w9 ⟨rfl,g9⟩;simp only [decide_true];have hz2:=fJ (g9.block 7 rfl);have TD:=Lib.hid (Wi.out w9 _ g9);clear g9)
   | (go_at_call 51;refine TD.out.mono ?_;rintro e Wj ⟨rfl,g15⟩;have hz3:=fJ (g15.block 7 rfl);have G:=Lib.hid g15.mod;clear g15))
  clear hz0 hz1 hz2 hz3 K6 K7 K9 TD
  go_wp2_with fail
  go_ret
  exact⟨rfl,G.out⟩
theorem xA (W:World) (version:Int) (wv:(Lit.int .i64 version).wf=true) (size:Int) (wsz:(Lit.int .i64 size).wf=true) {v:Value} {cs:List oL} (hv:nM W v cs) {v3:Value} {r:Rec} (hr:TB W v3 r) :
  Calls Tryz.prog 12 #[.int .i64 version,.int .i64 size,v,v3] W (SL W):=by
 obtain⟨A,c,rfl,h1,h2,h3,h4⟩:=hr
 obtain⟨k,⟨⟨src,dst,proto,ag,ah⟩,bI,aG,au⟩,gen,ax,bk,till,count⟩:=r
 exact vM W version size hv h1 h2 h3 h4.rr
end Go.Proofs.YtogclkhpbjfadaaGreat
