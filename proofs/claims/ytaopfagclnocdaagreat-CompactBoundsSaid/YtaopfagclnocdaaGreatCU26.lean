/- Rows.CompactBoundsSaid -/
import Derived.Test.YtaopfagclnocdaaGreatCU24
import Derived.Test.YtaopfagclnocdaaGreatCU25
import Derived.BigRegion
namespace Go.Proofs.YtaopfagclnocdaaGreat
open Go.RowKit
set_option linter.unusedVariables false
set_option maxHeartbeats 64000000
set_option maxRecDepth 100000
section
variable {F0:List Nat} {w0 w:World} {R R0:List Asrt} {mb:Nat} {s:StD} {bv dv fv:Value}
structure QRows (F0:List Nat) (w0:World) (R:List Asrt) (s:StD) (bv dv fv:Value):Prop where
 bk:∀ W,In F0 w0 W R→∃ F,ViewA 3 bv s.bks.length (bkV s.bks) W F
 dr:VD F0 w0 R dv s.drs
 fl:VF F0 w0 R fv s.fls
theorem QRows.of {R0:List Asrt} (h:QRows F0 w0 R0 s bv dv fv) (hR:∀ W,In F0 w0 W R→In F0 w0 W R0):QRows F0 w0 R s bv dv fv:=⟨fun W hW=>h.bk W (hR W hW),fun W hW=>h.dr W (hR W hW),fun W hW=>h.fl W (hR W hW)⟩
theorem In.tailX (X:List Asrt) {R0:List Asrt} (h:In F0 w0 w (X++R0)):In F0 w0 w R0:=In.take (h.perm List.perm_append_comm)
theorem In.midX (X:List Asrt) {N:Asrt} {R0:List Asrt} (h:In F0 w0 w (N::(X++R0))):In F0 w0 w (N::R0):=In.tailX X (h.perm List.perm_middle.symm)
theorem QRows.more (h:QRows F0 w0 R s bv dv fv) (A:Asrt):QRows F0 w0 (A::R) s bv dv fv:=⟨fun W hW=>h.bk W hW.drop,h.dr.more A,h.fl.more A⟩
abbrev QS (mb:Nat) (s:StD) (bv dv fv:Value):Asrt:=Cells mb #[.int .i64 s.gen,bv,dv,fv] 38
def QApPost (p:StD×Int) (mb:Nat) (F0:List Nat) (w0:World) (R R0:List Asrt) (e:Ending) (w':World):Prop:=
 ∃ bv dv fv N,e=.returned (.int .i64 p.2)∧In F0 w0 w' (QS mb p.1 bv dv fv::N::R)∧QRows F0 w0 (N::R0) p.1 bv dv fv
theorem o_qdrains {i:Nat} {a:Option Addr} {n c:Nat} (h:In F0 w0 w R) (hA:R[i]?=some (QS mb s bv (.slice a n c) fv)) :
  Calls Tryz.prog 43 #[.pointer (some ⟨mb,0,none⟩)] w fun e w'=>∃ db,e=.returned (.pointer (some ⟨db,0,none⟩))∧In F0 w0 w' (QD db (.slice a n c)::R):=by
 have c2:w.cell? ⟨mb,2,none⟩=some (.slice a n c):=cell_of (h.block i hA) rfl
 have HO:=Lib.hid (h.cells #[.slice a n c] 102)
 clear h hA
 go_enter Tryz.func43,Tryz.ntmps43
 go_wp2_with fail
 go_ret
 exact⟨_,rfl,HO.out⟩
theorem o_qap1 {src dst proto sport dport fbk fgen fseen gen bk till count:Int} {bks:List Bk} {A:Option Addr} {c:Nat} (hok:OkSt s) (hs:BksAt F0 w0 R A bks) (hl:bks.length≤1000000) (hm:mayRec ⟨1,⟨⟨src,dst,proto,sport,dport⟩,fbk,fgen,fseen⟩,gen,bks,bk,till,count⟩=true) (hr0:QRows F0 w0 R0 s bv dv fv) (hR:∃ X,R=X++R0) (h:In F0 w0 w (QS mb s bv dv fv::R)) :
  Calls Tryz.prog 10 #[.pointer (some ⟨mb,0,none⟩),agR ⟨1,⟨⟨src,dst,proto,sport,dport⟩,fbk,fgen,fseen⟩,gen,bks,bk,till,count⟩ A c] w (QApPost (applySt s ⟨1,⟨⟨src,dst,proto,sport,dport⟩,fbk,fgen,fseen⟩,gen,bks,bk,till,count⟩) mb F0 w0 R R0):=by
 have hr:QRows F0 w0 R s bv dv fv:=hr0.of (fun W hW=>by obtain⟨X,rfl⟩:=hR;exact In.tailX X hW)
 have HN:Hid (∀ W N,In F0 w0 W (N::R)→In F0 w0 W (N::R0)):=Lib.hid fun W N hW=>by obtain⟨X,rfl⟩:=hR;exact In.midX X hW
 obtain⟨Fb,hxb⟩:=hr.bk w h.drop
 obtain⟨ba,bc,rfl,-,-⟩:=hxb.shape
 obtain⟨Fd,hxd⟩:=hr.dr w h.drop
 obtain⟨da,dc,rfl,-,-⟩:=hxd.shape
 obtain⟨Ff,hxf⟩:=hr.fl w h.drop
 obtain⟨fa,fc,rfl,-,-⟩:=hxf.shape
 obtain⟨C0,hC0⟩:∃ C,C=(encRL ⟨1,⟨⟨src,dst,proto,sport,dport⟩,fbk,fgen,fseen⟩,gen,bks,bk,till,count⟩ (.slice A bks.length c)).toArray:=⟨_,rfl⟩
 obtain⟨S0,hS0⟩:∃ S,S=QS mb s (.slice ba s.bks.length bc) (.slice da s.drs.length dc) (.slice fa s.fls.length fc):=⟨_,rfl⟩
 have h2:=h.cells C0 45
 have KM:=o_qmay (c:=c) (r:=⟨1,⟨⟨src,dst,proto,sport,dport⟩,fbk,fgen,fseen⟩,gen,bks,bk,till,count⟩) (fun w' h'=>hs w' h'.drop.drop) hl h2
 rw [hm] at KM
 rw [← hS0] at KM h2
 have KP:Hid (∀ w' rb,In F0 w0 w' (Cells rb C0 45::S0::R)→Calls Tryz.prog 42 #[agR ⟨1,⟨⟨src,dst,proto,sport,dport⟩,fbk,fgen,fseen⟩,gen,bks,bk,till,count⟩ A c] w' (RecPost ⟨1,⟨⟨src,dst,proto,sport,dport⟩,fbk,fgen,fseen⟩,0,[],0,0,0⟩ F0 w0 (Cells rb C0 45::S0::R))):=Lib.hid fun w' rb h'=>o_qplain (r:=⟨1,⟨⟨src,dst,proto,sport,dport⟩,fbk,fgen,fseen⟩,gen,bks,bk,till,count⟩) (c:=c) (fun W hW=>hs W hW.drop.drop) hl h'
 have KD:Hid (∀ w' fb rb pv C,In F0 w0 w' (QF fb (.slice fa s.fls.length fc)::BkR pv []::Cells rb C 45::S0::R)→Calls Tryz.prog 43 #[.pointer (some ⟨mb,0,none⟩)] w' fun e w''=>∃ db,e=.returned (.pointer (some ⟨db,0,none⟩))∧In F0 w0 w'' (QD db (.slice da s.drs.length dc)::QF fb (.slice fa s.fls.length fc)::BkR pv []::Cells rb C 45::S0::R)):=Lib.hid fun w' fb rb pv C h'=>o_qdrains (i:=3) (s:=s) (mb:=mb) (bv:=.slice ba s.bks.length bc) (fv:=.slice fa s.fls.length fc) h' (by rw [hS0];rfl)
 have HST:Hid (∀ w' rb pv,In F0 w0 w' (BkR pv []::Cells rb C0 45::S0::R)→w'.there rb 0 14∧In F0 w0 (w'.setCells rb 0 (encRL ⟨1,⟨⟨src,dst,proto,sport,dport⟩,fbk,fgen,fseen⟩,0,[],0,0,0⟩ pv)) (BkR pv []::Cells rb (encRL ⟨1,⟨⟨src,dst,proto,sport,dport⟩,fbk,fgen,fseen⟩,0,[],0,0,0⟩ pv).toArray 45::S0::R)):=Lib.hid fun w' rb pv h'=>by
  have ht:=there_of (h'.block 1 rfl)
  rw [hC0] at ht
  exact⟨ht,h'.setFull 1 rfl (xs:=encRL ⟨1,⟨⟨src,dst,proto,sport,dport⟩,fbk,fgen,fseen⟩,0,[],0,0,0⟩ pv) (b:=rb) (C:=C0) (T:=45) (by rw [hC0];rfl)⟩
 have HM0:Hid (∀ W rb pv C,In F0 w0 W (BkR pv []::Cells rb C 45::S0::R)→W.cell? ⟨mb,3,none⟩=some (.slice fa s.fls.length fc)):=Lib.hid fun W rb pv C h'=>by rw [hS0] at h';exact cell_of (h'.block 2 rfl) rfl
 have hfl:MayF ⟨⟨src,dst,proto,sport,dport⟩,fbk,fgen,fseen⟩:=by
  rcases mayRec_iff.1 hm with ⟨_,h⟩|⟨h,_⟩|⟨h,_⟩|⟨h,_⟩|⟨h,_⟩|⟨h,_⟩
  ·exact h
  all_goals simp at h
 have hcase:(fullF ⟨src,dst,proto,sport,dport⟩ s.fls=true∧applySt s ⟨1,⟨⟨src,dst,proto,sport,dport⟩,fbk,fgen,fseen⟩,gen,bks,bk,till,count⟩=(s,9))∨(fullF ⟨src,dst,proto,sport,dport⟩ s.fls=false∧applySt s ⟨1,⟨⟨src,dst,proto,sport,dport⟩,fbk,fgen,fseen⟩,gen,bks,bk,till,count⟩=({ s with fls:=stPutF ⟨⟨src,dst,proto,sport,dport⟩,fbk,fgen,fseen⟩ s.fls },0)):=by
  have hb:badSt ⟨1,⟨⟨src,dst,proto,sport,dport⟩,fbk,fgen,fseen⟩,gen,bks,bk,till,count⟩=false:=by unfold badSt;rw [hm];rfl
  have hf:fullSt s ⟨1,⟨⟨src,dst,proto,sport,dport⟩,fbk,fgen,fseen⟩,gen,bks,bk,till,count⟩=fullF ⟨src,dst,proto,sport,dport⟩ s.fls:=rfl
  unfold applySt
  rw [hb,hf]
  cases fullF ⟨src,dst,proto,sport,dport⟩ s.fls
  ·right;exact⟨rfl,rfl⟩
  ·left;exact⟨rfl,rfl⟩
 have KPut0:Hid (∀ w' db fb rb pv C,In F0 w0 w' (QD db (.slice da s.drs.length dc)::QF fb (.slice fa s.fls.length fc)::BkR pv []::Cells rb C 45::S0::R)→Calls Tryz.prog 44 #[.pointer (some ⟨fb,0,none⟩),.agg (encF ⟨⟨src,dst,proto,sport,dport⟩,fbk,fgen,fseen⟩)] w' (QPutPost fb s.fls ⟨⟨src,dst,proto,sport,dport⟩,fbk,fgen,fseen⟩ F0 w0 (QD db (.slice da s.drs.length dc)::BkR pv []::Cells rb C 45::S0::R) R0)):=Lib.hid fun w' db fb rb pv C h'=>
  o_qput (h'.perm (List.Perm.swap _ _ _)) (by have:=hok.flen;omega) ((((hr.fl.more _).more _).more _).more _) hr0.fl hfl
 have HC5:Hid (∀ W db fb rb pv C v5 N,In F0 w0 W (QF fb v5::N::QD db (.slice da s.drs.length dc)::BkR pv []::Cells rb C 45::S0::R)→(W.cell? ⟨fb,0,none⟩=some v5∧W.frozen? ⟨mb,3,none⟩=false∧W.cell? ⟨mb,3,none⟩=some (.slice fa s.fls.length fc)∧True∧True)):=Lib.hid fun W db fb rb pv C v5 N h'=>by
  rw [hS0] at h'
  exact⟨cell_of (h'.block 0 rfl) rfl,free_of (h'.block 5 rfl),cell_of (h'.block 5 rfl) rfl,trivial,trivial⟩
 have HR:=Lib.hid hr0
 have HM:=Lib.hid KM
 clear h h2 hs hl hm hr hr0 hR KM hxb hxd hxf
 go_enter Tryz.func10,Tryz.ntmps10
 go_wp2_with fail
 rw [hC0] at HM
 refine HM.out.mono ?_
 rintro e w1 ⟨rfl,g1⟩
 rw [← hC0] at g1
 generalize w.heap.size=rb at *
 have g1':=g1
 rw [hC0] at g1'
 obtain⟨y0,y1,y2,y3,y4,y5,y6,y7,y8,y9,y10,y11,y12,y13,yf⟩:=rc_y (y:=⟨1,⟨⟨src,dst,proto,sport,dport⟩,fbk,fgen,fseen⟩,gen,bks,bk,till,count⟩) (pv:=.slice A bks.length c) (g1'.block 0 rfl)
 simp only at y0 y1 y2 y3 y4 y5 y6 y7 y8 y9 y10 y11 y12 y13
 have KP1:=Lib.hid (KP.out _ _ g1)
 clear g1 g1' HM KP
 go_wp2_with fail
 refine KP1.out.mono ?_
 rintro e w2 ⟨pv,rfl,g2⟩
 obtain⟨Fp,hp⟩:=g2.get 0 rfl
 obtain⟨pa,pc,rfl,-,-,-⟩:=RowA.shape hp
 obtain⟨ht,g3⟩:=HST.out _ _ _ g2
 have Q2:=Lib.hid ht
 have G3:=Lib.hid g3
 clear hp ht g2 g3 KP1 HST y0 y1 y2 y3 y4 y5 y6 y7 y8 y9 y10 y11 y12 y13 yf
 go_upto_region 4 with (refine wpList_store_mid (op:=⟨none,Op.store 45 (.tmp 3) (.tmp 20),_,_,_,_⟩) (by rfl) 45 (.tmp 3) (.tmp 20) rfl rb 0 (encRL ⟨1,⟨⟨src,dst,proto,sport,dport⟩,fbk,fgen,fseen⟩,0,[],0,0,0⟩ (.slice pa _ pc)).toArray (by rfl) (by rfl) Q2.out (by kernel_rfl) (encRL_all _ _ _ _) ?_)
 try simp only [Act.put]
 have g3:=G3.out
 clear G3 Q2
 generalize w2.setCells rb 0 (encRL ⟨1,⟨⟨src,dst,proto,sport,dport⟩,fbk,fgen,fseen⟩,0,[],0,0,0⟩ (.slice pa ([]:List Bk).length pc))=w3 at *
 have m3:=HM0.out _ _ _ _ g3
 have KD1:=Lib.hid (KD.out _ _ _ _ _ (g3.cells #[.slice fa s.fls.length fc,.int .i64 256,.int .i64 0] 92))
 clear g3 KD HM0
 go_wp2_with fail
 refine KD1.out.mono ?_
 rintro e w4 ⟨db,rfl,g4⟩
 generalize w3.heap.size=fb at *
 obtain⟨y0,y1,y2,y3,y4,y5,y6,y7,y8,y9,y10,y11,y12,y13,yf⟩:=rc_y (y:=⟨1,⟨⟨src,dst,proto,sport,dport⟩,fbk,fgen,fseen⟩,0,[],0,0,0⟩) (pv:=.slice pa ([]:List Bk).length pc) (g4.block 3 rfl)
 simp only at y0 y1 y2 y3 y4 y5 y6 y7 y8 y9 y10 y11 y12 y13
 have KPut:=Lib.hid (KPut0.out _ _ _ _ _ _ g4)
 clear g4 m3 KD1 KPut0
 go_wp2_with fail
 refine KPut.out.mono ?_
 rintro e w5 ⟨v5,N,q5,rfl,g5,hv5⟩
 obtain⟨d0,u0,u1,u2,u3⟩:=HC5.out _ _ _ _ _ _ _ _ g5
 have G5:=Lib.hid g5
 have V5:=Lib.hid hv5
 clear g5 hv5 KPut HC5 y0 y1 y2 y3 y4 y5 y6 y7 y8 y9 y10 y11 y12 y13 yf
 rcases hcase with ⟨hp,ha⟩|⟨hp,ha⟩
 ·rw [hp,if_pos rfl] at V5
  rw [hp,if_pos rfl]
  have HA:=Lib.hid ha
  clear ha hp
  go_wp2_with fail
  go_ret
  rw [HA.out]
  have g:=G5.out
  rw [hS0] at g
  exact⟨_,_,_,N,rfl,g.sel2 (R1:=[_,_,_,_,_,_]) [5,1] (by decide) rfl,HR.out.more N⟩
 ·rw [hp,if_neg (by simp)] at V5
  rw [hp,if_neg (by simp)]
  obtain⟨Fv,hvv⟩:=V5.out _ (HN.out _ _ (G5.out.sel2 (R1:=[_,_,_,_,_,_]) [1] (by decide) rfl))
  obtain⟨va,vc,rfl,-,-⟩:=hvv.shape
  clear hvv
  have HA:=Lib.hid ha
  clear ha hp
  go_wp2_with fail
  go_ret
  rw [HA.out]
  have g:=G5.out
  rw [hS0] at g
  have g2:=(g.put 5 rfl 3 (.slice va (stPutF ⟨⟨src,dst,proto,sport,dport⟩,fbk,fgen,fseen⟩ s.fls).length vc)).sel2 (R1:=[_,_,_,_,_,_]) [5,1] (by decide) rfl
  exact⟨_,_,_,N,rfl,g2,⟨(HR.out.more N).bk,(HR.out.more N).dr,V5.out⟩⟩
theorem o_qap2 {src dst proto sport dport fbk fgen fseen gen bk till count:Int} {bks:List Bk} {A:Option Addr} {c:Nat} (hok:OkSt s) (hs:BksAt F0 w0 R A bks) (hl:bks.length≤1000000) (hm:mayRec ⟨2,⟨⟨src,dst,proto,sport,dport⟩,fbk,fgen,fseen⟩,gen,bks,bk,till,count⟩=true) (hr0:QRows F0 w0 R0 s bv dv fv) (hR:∃ X,R=X++R0) (h:In F0 w0 w (QS mb s bv dv fv::R)) :
  Calls Tryz.prog 10 #[.pointer (some ⟨mb,0,none⟩),agR ⟨2,⟨⟨src,dst,proto,sport,dport⟩,fbk,fgen,fseen⟩,gen,bks,bk,till,count⟩ A c] w (QApPost (applySt s ⟨2,⟨⟨src,dst,proto,sport,dport⟩,fbk,fgen,fseen⟩,gen,bks,bk,till,count⟩) mb F0 w0 R R0):=by
 have hr:QRows F0 w0 R s bv dv fv:=hr0.of (fun W hW=>by obtain⟨X,rfl⟩:=hR;exact In.tailX X hW)
 have HN:Hid (∀ W N,In F0 w0 W (N::R)→In F0 w0 W (N::R0)):=Lib.hid fun W N hW=>by obtain⟨X,rfl⟩:=hR;exact In.midX X hW
 obtain⟨Fb,hxb⟩:=hr.bk w h.drop
 obtain⟨ba,bc,rfl,-,-⟩:=hxb.shape
 obtain⟨Fd,hxd⟩:=hr.dr w h.drop
 obtain⟨da,dc,rfl,-,-⟩:=hxd.shape
 obtain⟨Ff,hxf⟩:=hr.fl w h.drop
 obtain⟨fa,fc,rfl,-,-⟩:=hxf.shape
 obtain⟨C0,hC0⟩:∃ C,C=(encRL ⟨2,⟨⟨src,dst,proto,sport,dport⟩,fbk,fgen,fseen⟩,gen,bks,bk,till,count⟩ (.slice A bks.length c)).toArray:=⟨_,rfl⟩
 obtain⟨S0,hS0⟩:∃ S,S=QS mb s (.slice ba s.bks.length bc) (.slice da s.drs.length dc) (.slice fa s.fls.length fc):=⟨_,rfl⟩
 have h2:=h.cells C0 45
 have KM:=o_qmay (c:=c) (r:=⟨2,⟨⟨src,dst,proto,sport,dport⟩,fbk,fgen,fseen⟩,gen,bks,bk,till,count⟩) (fun w' h'=>hs w' h'.drop.drop) hl h2
 rw [hm] at KM
 rw [← hS0] at KM h2
 have KP:Hid (∀ w' rb,In F0 w0 w' (Cells rb C0 45::S0::R)→Calls Tryz.prog 42 #[agR ⟨2,⟨⟨src,dst,proto,sport,dport⟩,fbk,fgen,fseen⟩,gen,bks,bk,till,count⟩ A c] w' (RecPost ⟨2,⟨⟨src,dst,proto,sport,dport⟩,0,0,0⟩,0,[],0,0,0⟩ F0 w0 (Cells rb C0 45::S0::R))):=Lib.hid fun w' rb h'=>o_qplain (r:=⟨2,⟨⟨src,dst,proto,sport,dport⟩,fbk,fgen,fseen⟩,gen,bks,bk,till,count⟩) (c:=c) (fun W hW=>hs W hW.drop.drop) hl h'
 have KD:Hid (∀ w' fb rb pv C,In F0 w0 w' (QF fb (.slice fa s.fls.length fc)::BkR pv []::Cells rb C 45::S0::R)→Calls Tryz.prog 43 #[.pointer (some ⟨mb,0,none⟩)] w' fun e w''=>∃ db,e=.returned (.pointer (some ⟨db,0,none⟩))∧In F0 w0 w'' (QD db (.slice da s.drs.length dc)::QF fb (.slice fa s.fls.length fc)::BkR pv []::Cells rb C 45::S0::R)):=Lib.hid fun w' fb rb pv C h'=>o_qdrains (i:=3) (s:=s) (mb:=mb) (bv:=.slice ba s.bks.length bc) (fv:=.slice fa s.fls.length fc) h' (by rw [hS0];rfl)
 have HST:Hid (∀ w' rb pv,In F0 w0 w' (BkR pv []::Cells rb C0 45::S0::R)→w'.there rb 0 14∧In F0 w0 (w'.setCells rb 0 (encRL ⟨2,⟨⟨src,dst,proto,sport,dport⟩,0,0,0⟩,0,[],0,0,0⟩ pv)) (BkR pv []::Cells rb (encRL ⟨2,⟨⟨src,dst,proto,sport,dport⟩,0,0,0⟩,0,[],0,0,0⟩ pv).toArray 45::S0::R)):=Lib.hid fun w' rb pv h'=>by
  have ht:=there_of (h'.block 1 rfl)
  rw [hC0] at ht
  exact⟨ht,h'.setFull 1 rfl (xs:=encRL ⟨2,⟨⟨src,dst,proto,sport,dport⟩,0,0,0⟩,0,[],0,0,0⟩ pv) (b:=rb) (C:=C0) (T:=45) (by rw [hC0];rfl)⟩
 have HM0:Hid (∀ W rb pv C,In F0 w0 W (BkR pv []::Cells rb C 45::S0::R)→W.cell? ⟨mb,3,none⟩=some (.slice fa s.fls.length fc)):=Lib.hid fun W rb pv C h'=>by rw [hS0] at h';exact cell_of (h'.block 2 rfl) rfl
 have ha:applySt s ⟨2,⟨⟨src,dst,proto,sport,dport⟩,fbk,fgen,fseen⟩,gen,bks,bk,till,count⟩=({ s with fls:=stDelF ⟨src,dst,proto,sport,dport⟩ s.fls },0):=by
  have hb:badSt ⟨2,⟨⟨src,dst,proto,sport,dport⟩,fbk,fgen,fseen⟩,gen,bks,bk,till,count⟩=false:=by unfold badSt;rw [hm];rfl
  have hf:fullSt s ⟨2,⟨⟨src,dst,proto,sport,dport⟩,fbk,fgen,fseen⟩,gen,bks,bk,till,count⟩=false:=rfl
  unfold applySt
  rw [hb,hf];rfl
 have HA:=Lib.hid ha
 have KPut0:Hid (∀ w' db fb rb pv C,In F0 w0 w' (QD db (.slice da s.drs.length dc)::QF fb (.slice fa s.fls.length fc)::BkR pv []::Cells rb C 45::S0::R)→Calls Tryz.prog 45 #[.pointer (some ⟨fb,0,none⟩),.agg (encT ⟨src,dst,proto,sport,dport⟩)] w' (QDropPost fb (stDelF ⟨src,dst,proto,sport,dport⟩ s.fls) F0 w0 (QD db (.slice da s.drs.length dc)::BkR pv []::Cells rb C 45::S0::R) R0)):=Lib.hid fun w' db fb rb pv C h'=>
  o_qdrop (h'.perm (List.Perm.swap _ _ _)) (by have:=hok.flen;omega) hok.fsort ((((hr.fl.more _).more _).more _).more _) hr0.fl _
 have HC5:Hid (∀ W db fb rb pv C v5 N,In F0 w0 W (QF fb v5::N::QD db (.slice da s.drs.length dc)::BkR pv []::Cells rb C 45::S0::R)→(W.cell? ⟨fb,0,none⟩=some v5∧W.frozen? ⟨mb,3,none⟩=false∧W.cell? ⟨mb,3,none⟩=some (.slice fa s.fls.length fc))):=Lib.hid fun W db fb rb pv C v5 N h'=>by
  rw [hS0] at h'
  exact⟨cell_of (h'.block 0 rfl) rfl,free_of (h'.block 5 rfl),cell_of (h'.block 5 rfl) rfl⟩
 clear ha
 have HR:=Lib.hid hr0
 have HM:=Lib.hid KM
 clear h h2 hs hl hm hr hr0 hR KM hxb hxd hxf
 go_enter Tryz.func10,Tryz.ntmps10
 go_wp2_with fail
 rw [hC0] at HM
 refine HM.out.mono ?_
 rintro e w1 ⟨rfl,g1⟩
 rw [← hC0] at g1
 generalize w.heap.size=rb at *
 have g1':=g1
 rw [hC0] at g1'
 obtain⟨y0,y1,y2,y3,y4,y5,y6,y7,y8,y9,y10,y11,y12,y13,yf⟩:=rc_y (y:=⟨2,⟨⟨src,dst,proto,sport,dport⟩,fbk,fgen,fseen⟩,gen,bks,bk,till,count⟩) (pv:=.slice A bks.length c) (g1'.block 0 rfl)
 simp only at y0 y1 y2 y3 y4 y5 y6 y7 y8 y9 y10 y11 y12 y13
 have KP1:=Lib.hid (KP.out _ _ g1)
 clear g1 g1' HM KP
 go_wp2_with fail
 refine KP1.out.mono ?_
 rintro e w2 ⟨pv,rfl,g2⟩
 obtain⟨Fp,hp⟩:=g2.get 0 rfl
 obtain⟨pa,pc,rfl,-,-,-⟩:=RowA.shape hp
 obtain⟨ht,g3⟩:=HST.out _ _ _ g2
 have Q2:=Lib.hid ht
 have G3:=Lib.hid g3
 clear hp ht g2 g3 KP1 HST y0 y1 y2 y3 y4 y5 y6 y7 y8 y9 y10 y11 y12 y13 yf
 go_upto_region 4 with (refine wpList_store_mid (op:=⟨none,Op.store 45 (.tmp 3) (.tmp 20),_,_,_,_⟩) (by rfl) 45 (.tmp 3) (.tmp 20) rfl rb 0 (encRL ⟨2,⟨⟨src,dst,proto,sport,dport⟩,0,0,0⟩,0,[],0,0,0⟩ (.slice pa _ pc)).toArray (by rfl) (by rfl) Q2.out (by kernel_rfl) (encRL_all _ _ _ _) ?_)
 try simp only [Act.put]
 have g3:=G3.out
 clear G3 Q2
 generalize w2.setCells rb 0 (encRL ⟨2,⟨⟨src,dst,proto,sport,dport⟩,0,0,0⟩,0,[],0,0,0⟩ (.slice pa ([]:List Bk).length pc))=w3 at *
 have m3:=HM0.out _ _ _ _ g3
 have KD1:=Lib.hid (KD.out _ _ _ _ _ (g3.cells #[.slice fa s.fls.length fc,.int .i64 256,.int .i64 0] 92))
 clear g3 KD HM0
 go_wp2_with fail
 refine KD1.out.mono ?_
 rintro e w4 ⟨db,rfl,g4⟩
 generalize w3.heap.size=fb at *
 obtain⟨y0,y1,y2,y3,y4,y5,y6,y7,y8,y9,y10,y11,y12,y13,yf⟩:=rc_y (y:=⟨2,⟨⟨src,dst,proto,sport,dport⟩,0,0,0⟩,0,[],0,0,0⟩) (pv:=.slice pa ([]:List Bk).length pc) (g4.block 3 rfl)
 simp only at y0 y1 y2 y3 y4 y5 y6 y7 y8 y9 y10 y11 y12 y13
 have KPut:=Lib.hid (KPut0.out _ _ _ _ _ _ g4)
 clear g4 m3 KD1 KPut0
 go_wp2_with fail
 refine KPut.out.mono ?_
 rintro e w5 ⟨v5,N,q5,rfl,g5,hv5⟩
 obtain⟨Fv,hvv⟩:=hv5 _ (HN.out _ _ (g5.sel2 (R1:=[_,_,_,_,_,_]) [1] (by decide) rfl))
 obtain⟨va,vc,rfl,-,-⟩:=hvv.shape
 obtain⟨d0,u0,u1⟩:=HC5.out _ _ _ _ _ _ _ _ g5
 have G5:=Lib.hid g5
 have V5:=Lib.hid hv5
 clear g5 hv5 hvv KPut HC5 y0 y1 y2 y3 y4 y5 y6 y7 y8 y9 y10 y11 y12 y13 yf
 go_wp2_with fail
 go_ret
 rw [HA.out]
 have g:=G5.out
 rw [hS0] at g
 have g2:=(g.put 5 rfl 3 (.slice va (stDelF ⟨src,dst,proto,sport,dport⟩ s.fls).length vc)).sel2 (R1:=[_,_,_,_,_,_]) [5,1] (by decide) rfl
 exact⟨_,_,_,N,rfl,g2,⟨(HR.out.more N).bk,(HR.out.more N).dr,V5.out⟩⟩
theorem o_qap3 {src dst proto sport dport fbk fgen fseen gen bk till count:Int} {bks:List Bk} {A:Option Addr} {c:Nat} (hok:OkSt s) (hs:BksAt F0 w0 R A bks) (hl:bks.length≤1000000) (hm:mayRec ⟨3,⟨⟨src,dst,proto,sport,dport⟩,fbk,fgen,fseen⟩,gen,bks,bk,till,count⟩=true) (hr0:QRows F0 w0 R0 s bv dv fv) (hR:∃ X,R=X++R0) (h:In F0 w0 w (QS mb s bv dv fv::R)) :
  Calls Tryz.prog 10 #[.pointer (some ⟨mb,0,none⟩),agR ⟨3,⟨⟨src,dst,proto,sport,dport⟩,fbk,fgen,fseen⟩,gen,bks,bk,till,count⟩ A c] w (QApPost (applySt s ⟨3,⟨⟨src,dst,proto,sport,dport⟩,fbk,fgen,fseen⟩,gen,bks,bk,till,count⟩) mb F0 w0 R R0):=by
 have hr:QRows F0 w0 R s bv dv fv:=hr0.of (fun W hW=>by obtain⟨X,rfl⟩:=hR;exact In.tailX X hW)
 have HN:Hid (∀ W N,In F0 w0 W (N::R)→In F0 w0 W (N::R0)):=Lib.hid fun W N hW=>by obtain⟨X,rfl⟩:=hR;exact In.midX X hW
 obtain⟨Fb,hxb⟩:=hr.bk w h.drop
 obtain⟨ba,bc,rfl,-,-⟩:=hxb.shape
 obtain⟨Fd,hxd⟩:=hr.dr w h.drop
 obtain⟨da,dc,rfl,-,-⟩:=hxd.shape
 obtain⟨Ff,hxf⟩:=hr.fl w h.drop
 obtain⟨fa,fc,rfl,-,-⟩:=hxf.shape
 obtain⟨C0,hC0⟩:∃ C,C=(encRL ⟨3,⟨⟨src,dst,proto,sport,dport⟩,fbk,fgen,fseen⟩,gen,bks,bk,till,count⟩ (.slice A bks.length c)).toArray:=⟨_,rfl⟩
 obtain⟨S0,hS0⟩:∃ S,S=QS mb s (.slice ba s.bks.length bc) (.slice da s.drs.length dc) (.slice fa s.fls.length fc):=⟨_,rfl⟩
 have h2:=h.cells C0 45
 have KM:=o_qmay (c:=c) (r:=⟨3,⟨⟨src,dst,proto,sport,dport⟩,fbk,fgen,fseen⟩,gen,bks,bk,till,count⟩) (fun w' h'=>hs w' h'.drop.drop) hl h2
 rw [hm] at KM
 rw [← hS0] at KM h2
 have KP:Hid (∀ w' rb,In F0 w0 w' (Cells rb C0 45::S0::R)→Calls Tryz.prog 42 #[agR ⟨3,⟨⟨src,dst,proto,sport,dport⟩,fbk,fgen,fseen⟩,gen,bks,bk,till,count⟩ A c] w' (RecPost ⟨3,zeroF,gen,bks,0,0,0⟩ F0 w0 (Cells rb C0 45::S0::R))):=Lib.hid fun w' rb h'=>o_qplain (r:=⟨3,⟨⟨src,dst,proto,sport,dport⟩,fbk,fgen,fseen⟩,gen,bks,bk,till,count⟩) (c:=c) (fun W hW=>hs W hW.drop.drop) hl h'
 have KD:Hid (∀ w' fb rb pv C,In F0 w0 w' (QF fb (.slice fa s.fls.length fc)::BkR pv bks::Cells rb C 45::S0::R)→Calls Tryz.prog 43 #[.pointer (some ⟨mb,0,none⟩)] w' fun e w''=>∃ db,e=.returned (.pointer (some ⟨db,0,none⟩))∧In F0 w0 w'' (QD db (.slice da s.drs.length dc)::QF fb (.slice fa s.fls.length fc)::BkR pv bks::Cells rb C 45::S0::R)):=Lib.hid fun w' fb rb pv C h'=>o_qdrains (i:=3) (s:=s) (mb:=mb) (bv:=.slice ba s.bks.length bc) (fv:=.slice fa s.fls.length fc) h' (by rw [hS0];rfl)
 have HST:Hid (∀ w' rb pv,In F0 w0 w' (BkR pv bks::Cells rb C0 45::S0::R)→w'.there rb 0 14∧In F0 w0 (w'.setCells rb 0 (encRL ⟨3,zeroF,gen,bks,0,0,0⟩ pv)) (BkR pv bks::Cells rb (encRL ⟨3,zeroF,gen,bks,0,0,0⟩ pv).toArray 45::S0::R)):=Lib.hid fun w' rb pv h'=>by
  have ht:=there_of (h'.block 1 rfl)
  rw [hC0] at ht
  exact⟨ht,h'.setFull 1 rfl (xs:=encRL ⟨3,zeroF,gen,bks,0,0,0⟩ pv) (b:=rb) (C:=C0) (T:=45) (by rw [hC0];rfl)⟩
 have HM0:Hid (∀ W rb pv C,In F0 w0 W (BkR pv bks::Cells rb C 45::S0::R)→W.cell? ⟨mb,3,none⟩=some (.slice fa s.fls.length fc)):=Lib.hid fun W rb pv C h'=>by rw [hS0] at h';exact cell_of (h'.block 2 rfl) rfl
 have hcase:(gensMay bks=false∧applySt s ⟨3,⟨⟨src,dst,proto,sport,dport⟩,fbk,fgen,fseen⟩,gen,bks,bk,till,count⟩=(s,1))∨(gensMay bks=true∧applySt s ⟨3,⟨⟨src,dst,proto,sport,dport⟩,fbk,fgen,fseen⟩,gen,bks,bk,till,count⟩=({ s with gen:=gen,bks:=bks },0)):=by
  have hb:badSt ⟨3,⟨⟨src,dst,proto,sport,dport⟩,fbk,fgen,fseen⟩,gen,bks,bk,till,count⟩=!gensMay bks:=by unfold badSt;rw [hm];simp
  have hf:fullSt s ⟨3,⟨⟨src,dst,proto,sport,dport⟩,fbk,fgen,fseen⟩,gen,bks,bk,till,count⟩=false:=rfl
  unfold applySt
  rw [hb,hf]
  cases gensMay bks
  ·left;exact⟨rfl,rfl⟩
  ·right;exact⟨rfl,rfl⟩
 have KPut0:Hid (∀ w' db fb rb pv pa pc C,pv=.slice pa bks.length pc→In F0 w0 w' (QD db (.slice da s.drs.length dc)::QF fb (.slice fa s.fls.length fc)::BkR pv bks::Cells rb C 45::S0::R)→Calls Tryz.prog 46 #[.slice pa bks.length pc] w' (GnPost (gensMay bks) F0 w0 (QD db (.slice da s.drs.length dc)::QF fb (.slice fa s.fls.length fc)::BkR pv bks::Cells rb C 45::S0::R))):=Lib.hid fun w' db fb rb pv pa pc C e h'=>
  o_qmaybks (bks_row (v:=pv) (l:=bks) e 2 rfl) (by omega) h'
 have HC5:Hid (∀ W db fb rb pv C,In F0 w0 W (QD db (.slice da s.drs.length dc)::QF fb (.slice fa s.fls.length fc)::BkR pv bks::Cells rb C 45::S0::R)→(W.frozen? ⟨mb,0,none⟩=false∧W.frozen? ⟨mb,1,none⟩=false∧W.cell? ⟨mb,0,none⟩=some (.int .i64 s.gen)∧W.cell? ⟨mb,1,none⟩=some (.slice ba s.bks.length bc)∧¬ rb=mb)):=Lib.hid fun W db fb rb pv C h'=>by
  rw [hS0] at h'
  exact⟨free_of (h'.block 4 rfl),free_of (h'.block 4 rfl),cell_of (h'.block 4 rfl) rfl,cell_of (h'.block 4 rfl) rfl,fun e=>h'.ne 3 4 (by decide) rfl rfl e⟩
 have HBV:Hid (∀ pv,∀ W,In F0 w0 W (BkR pv bks::R0)→∃ F,ViewA 3 pv bks.length (bkV bks) W F):=Lib.hid fun pv W hW=>by
  obtain⟨F,hF⟩:=hW.get 0 rfl
  exact⟨F,RowA.view hF⟩
 have HR:=Lib.hid hr0
 have HM:=Lib.hid KM
 clear h h2 hs hl hm hr hr0 hR KM hxb hxd hxf
 go_enter Tryz.func10,Tryz.ntmps10
 go_wp2_with fail
 rw [hC0] at HM
 refine HM.out.mono ?_
 rintro e w1 ⟨rfl,g1⟩
 rw [← hC0] at g1
 generalize w.heap.size=rb at *
 have g1':=g1
 rw [hC0] at g1'
 obtain⟨y0,y1,y2,y3,y4,y5,y6,y7,y8,y9,y10,y11,y12,y13,yf⟩:=rc_y (y:=⟨3,⟨⟨src,dst,proto,sport,dport⟩,fbk,fgen,fseen⟩,gen,bks,bk,till,count⟩) (pv:=.slice A bks.length c) (g1'.block 0 rfl)
 simp only at y0 y1 y2 y3 y4 y5 y6 y7 y8 y9 y10 y11 y12 y13
 have KP1:=Lib.hid (KP.out _ _ g1)
 clear g1 g1' HM KP
 go_wp2_with fail
 refine KP1.out.mono ?_
 rintro e w2 ⟨pv,rfl,g2⟩
 obtain⟨Fp,hp⟩:=g2.get 0 rfl
 obtain⟨pa,pc,rfl,-,-,-⟩:=RowA.shape hp
 obtain⟨ht,g3⟩:=HST.out _ _ _ g2
 have Q2:=Lib.hid ht
 have G3:=Lib.hid g3
 clear hp ht g2 g3 KP1 HST y0 y1 y2 y3 y4 y5 y6 y7 y8 y9 y10 y11 y12 y13 yf
 go_upto_region 4 with (refine wpList_store_mid (op:=⟨none,Op.store 45 (.tmp 3) (.tmp 20),_,_,_,_⟩) (by rfl) 45 (.tmp 3) (.tmp 20) rfl rb 0 (encRL ⟨3,zeroF,gen,bks,0,0,0⟩ (.slice pa _ pc)).toArray (by rfl) (by rfl) Q2.out (by kernel_rfl) (encRL_all _ _ _ _) ?_)
 try simp only [Act.put]
 have g3:=G3.out
 clear G3 Q2
 generalize w2.setCells rb 0 (encRL ⟨3,zeroF,gen,bks,0,0,0⟩ (.slice pa (bks:List Bk).length pc))=w3 at *
 have m3:=HM0.out _ _ _ _ g3
 have KD1:=Lib.hid (KD.out _ _ _ _ _ (g3.cells #[.slice fa s.fls.length fc,.int .i64 256,.int .i64 0] 92))
 clear g3 KD HM0
 go_wp2_with fail
 refine KD1.out.mono ?_
 rintro e w4 ⟨db,rfl,g4⟩
 generalize w3.heap.size=fb at *
 obtain⟨y0,y1,y2,y3,y4,y5,y6,y7,y8,y9,y10,y11,y12,y13,yf⟩:=rc_y (y:=⟨3,zeroF,gen,bks,0,0,0⟩) (pv:=.slice pa (bks:List Bk).length pc) (g4.block 3 rfl)
 simp only at y0 y1 y2 y3 y4 y5 y6 y7 y8 y9 y10 y11 y12 y13
 have KPut:=Lib.hid (KPut0.out _ _ _ _ _ pa pc _ rfl g4)
 clear g4 m3 KD1 KPut0
 go_wp2_with fail
 refine KPut.out.mono ?_
 rintro e w5 ⟨rfl,g5⟩
 clear y0 y1 y2 y3 y4 y5 y6 y7 y8 y9 y10 y11 y12 y13 yf
 obtain⟨d0,d1,u0,u1,hne⟩:=HC5.out _ _ _ _ _ _ g5
 have hne2:¬ mb=rb:=fun e=>hne e.symm
 obtain⟨y0,y1,y2,y3,y4,y5,y6,y7,y8,y9,y10,y11,y12,y13,yf⟩:=rc_y (y:=⟨3,zeroF,gen,bks,0,0,0⟩) (pv:=.slice pa bks.length pc) (g5.block 3 rfl)
 simp only at y0 y1 y2 y3 y4 y5 y6 y7 y8 y9 y10 y11 y12 y13
 have G5:=Lib.hid g5
 clear g5 KPut HC5
 rcases hcase with ⟨hp,ha⟩|⟨hp,ha⟩
 ·rw [hp]
  have HA:=Lib.hid ha
  clear ha hp
  go_wp2_with fail
  go_ret
  rw [HA.out]
  have g:=G5.out
  rw [hS0] at g
  exact⟨_,_,_,_,rfl,g.sel2 (R1:=[_,_,_,_,_]) [4,2] (by decide) rfl,HR.out.more _⟩
 ·rw [hp]
  have HA:=Lib.hid ha
  clear ha hp
  go_wp2_with fail
  go_region_held3 (fun w'=>w'.cell? ⟨rb,9,none⟩=some (.int .i64 gen)∧w'.cell? ⟨rb,10,none⟩=some (.slice pa bks.length pc)) (first | exact⟨y9,y10⟩ | go_keep) (fail)
  all_goals
   clear y0 y1 y2 y3 y4 y5 y6 y7 y8 y9 y10 y11 y12 y13 yf d0 d1 u0 u1
   go_wp2_with fail
   go_ret
   rw [HA.out]
   have g:=G5.out.drewN 1
   rw [hS0] at g
   have g2:=((g.put 4 rfl 0 (.int .i64 gen)).put 4 rfl 1 (.slice pa bks.length pc)).sel2 (R1:=[_,_,_,_,_]) [4,2] (by decide) rfl
   exact⟨_,_,_,_,rfl,g2,⟨HBV.out _,(HR.out.more _).dr,(HR.out.more _).fl⟩⟩
theorem o_qap4 {src dst proto sport dport fbk fgen fseen gen bk till count:Int} {bks:List Bk} {A:Option Addr} {c:Nat} (hok:OkSt s) (hs:BksAt F0 w0 R A bks) (hl:bks.length≤1000000) (hm:mayRec ⟨4,⟨⟨src,dst,proto,sport,dport⟩,fbk,fgen,fseen⟩,gen,bks,bk,till,count⟩=true) (hr0:QRows F0 w0 R0 s bv dv fv) (hR:∃ X,R=X++R0) (h:In F0 w0 w (QS mb s bv dv fv::R)) :
  Calls Tryz.prog 10 #[.pointer (some ⟨mb,0,none⟩),agR ⟨4,⟨⟨src,dst,proto,sport,dport⟩,fbk,fgen,fseen⟩,gen,bks,bk,till,count⟩ A c] w (QApPost (applySt s ⟨4,⟨⟨src,dst,proto,sport,dport⟩,fbk,fgen,fseen⟩,gen,bks,bk,till,count⟩) mb F0 w0 R R0):=by
 have hr:QRows F0 w0 R s bv dv fv:=hr0.of (fun W hW=>by obtain⟨X,rfl⟩:=hR;exact In.tailX X hW)
 have HN:Hid (∀ W N,In F0 w0 W (N::R)→In F0 w0 W (N::R0)):=Lib.hid fun W N hW=>by obtain⟨X,rfl⟩:=hR;exact In.midX X hW
 obtain⟨Fb,hxb⟩:=hr.bk w h.drop
 obtain⟨ba,bc,rfl,-,-⟩:=hxb.shape
 obtain⟨Fd,hxd⟩:=hr.dr w h.drop
 obtain⟨da,dc,rfl,-,-⟩:=hxd.shape
 obtain⟨Ff,hxf⟩:=hr.fl w h.drop
 obtain⟨fa,fc,rfl,-,-⟩:=hxf.shape
 obtain⟨C0,hC0⟩:∃ C,C=(encRL ⟨4,⟨⟨src,dst,proto,sport,dport⟩,fbk,fgen,fseen⟩,gen,bks,bk,till,count⟩ (.slice A bks.length c)).toArray:=⟨_,rfl⟩
 obtain⟨S0,hS0⟩:∃ S,S=QS mb s (.slice ba s.bks.length bc) (.slice da s.drs.length dc) (.slice fa s.fls.length fc):=⟨_,rfl⟩
 have h2:=h.cells C0 45
 have KM:=o_qmay (c:=c) (r:=⟨4,⟨⟨src,dst,proto,sport,dport⟩,fbk,fgen,fseen⟩,gen,bks,bk,till,count⟩) (fun w' h'=>hs w' h'.drop.drop) hl h2
 rw [hm] at KM
 rw [← hS0] at KM h2
 have KP:Hid (∀ w' rb,In F0 w0 w' (Cells rb C0 45::S0::R)→Calls Tryz.prog 42 #[agR ⟨4,⟨⟨src,dst,proto,sport,dport⟩,fbk,fgen,fseen⟩,gen,bks,bk,till,count⟩ A c] w' (RecPost ⟨4,zeroF,0,[],bk,till,0⟩ F0 w0 (Cells rb C0 45::S0::R))):=Lib.hid fun w' rb h'=>o_qplain (r:=⟨4,⟨⟨src,dst,proto,sport,dport⟩,fbk,fgen,fseen⟩,gen,bks,bk,till,count⟩) (c:=c) (fun W hW=>hs W hW.drop.drop) hl h'
 have KD:Hid (∀ w' fb rb pv C,In F0 w0 w' (QF fb (.slice fa s.fls.length fc)::BkR pv []::Cells rb C 45::S0::R)→Calls Tryz.prog 43 #[.pointer (some ⟨mb,0,none⟩)] w' fun e w''=>∃ db,e=.returned (.pointer (some ⟨db,0,none⟩))∧In F0 w0 w'' (QD db (.slice da s.drs.length dc)::QF fb (.slice fa s.fls.length fc)::BkR pv []::Cells rb C 45::S0::R)):=Lib.hid fun w' fb rb pv C h'=>o_qdrains (i:=3) (s:=s) (mb:=mb) (bv:=.slice ba s.bks.length bc) (fv:=.slice fa s.fls.length fc) h' (by rw [hS0];rfl)
 have HST:Hid (∀ w' rb pv,In F0 w0 w' (BkR pv []::Cells rb C0 45::S0::R)→w'.there rb 0 14∧In F0 w0 (w'.setCells rb 0 (encRL ⟨4,zeroF,0,[],bk,till,0⟩ pv)) (BkR pv []::Cells rb (encRL ⟨4,zeroF,0,[],bk,till,0⟩ pv).toArray 45::S0::R)):=Lib.hid fun w' rb pv h'=>by
  have ht:=there_of (h'.block 1 rfl)
  rw [hC0] at ht
  exact⟨ht,h'.setFull 1 rfl (xs:=encRL ⟨4,zeroF,0,[],bk,till,0⟩ pv) (b:=rb) (C:=C0) (T:=45) (by rw [hC0];rfl)⟩
 have HM0:Hid (∀ W rb pv C,In F0 w0 W (BkR pv []::Cells rb C 45::S0::R)→W.cell? ⟨mb,3,none⟩=some (.slice fa s.fls.length fc)):=Lib.hid fun W rb pv C h'=>by rw [hS0] at h';exact cell_of (h'.block 2 rfl) rfl
 have hbt:(0≤bk∧bk≤65535)∧0≤till∧till≤1099511627776:=by
  rcases mayRec_iff.1 hm with ⟨h,_⟩|⟨h,_⟩|⟨h,_⟩|⟨_,h⟩|⟨h,_⟩|⟨h,_⟩
  all_goals first | (simp at h;done) | exact h
 have hcase:(stHasD bk s.drs=false∧16≤s.drs.length∧applySt s ⟨4,⟨⟨src,dst,proto,sport,dport⟩,fbk,fgen,fseen⟩,gen,bks,bk,till,count⟩=(s,9))∨((stHasD bk s.drs=true∨(stHasD bk s.drs=false∧s.drs.length < 16))∧applySt s ⟨4,⟨⟨src,dst,proto,sport,dport⟩,fbk,fgen,fseen⟩,gen,bks,bk,till,count⟩=({ s with drs:=stPutD bk till s.drs },0)):=by
  have hb:badSt ⟨4,⟨⟨src,dst,proto,sport,dport⟩,fbk,fgen,fseen⟩,gen,bks,bk,till,count⟩=false:=by unfold badSt;rw [hm];rfl
  have hf:fullSt s ⟨4,⟨⟨src,dst,proto,sport,dport⟩,fbk,fgen,fseen⟩,gen,bks,bk,till,count⟩=(!stHasD bk s.drs && decide (16≤s.drs.length)):=rfl
  unfold applySt
  rw [hb,hf]
  cases hq:stHasD bk s.drs
  ·by_cases h16:16≤s.drs.length
   ·left;exact⟨rfl,h16,by simp [h16]⟩
   ·right;exact⟨Or.inr ⟨rfl,by omega⟩,by simp [h16];rfl⟩
  ·right;exact⟨Or.inl rfl,by simp;rfl⟩
 have KU0:Hid (∀ w' db fb rb pv C,In F0 w0 w' (QD db (.slice da s.drs.length dc)::QF fb (.slice fa s.fls.length fc)::BkR pv []::Cells rb C 45::S0::R)→Calls Tryz.prog 47 #[.pointer (some ⟨db,0,none⟩),.int .i64 bk] w' (QUntilPost db (.slice da s.drs.length dc) (stHasD bk s.drs) F0 w0 (QF fb (.slice fa s.fls.length fc)::BkR pv []::Cells rb C 45::S0::R))):=Lib.hid fun w' db fb rb pv C h'=>
  o_quntil h' (by have:=hok.dlen;omega) ((((hr.dr.more _).more _).more _).more _) _
 have KPut0:Hid (∀ w' db fb rb pv C,In F0 w0 w' (QD db (.slice da s.drs.length dc)::QF fb (.slice fa s.fls.length fc)::BkR pv []::Cells rb C 45::S0::R)→Calls Tryz.prog 48 #[.pointer (some ⟨db,0,none⟩),.int .i64 bk,.int .i64 till] w' (QDPutPost db (stPutD bk till s.drs) F0 w0 (QF fb (.slice fa s.fls.length fc)::BkR pv []::Cells rb C 45::S0::R))):=Lib.hid fun w' db fb rb pv C h'=>
  o_qdput h' (by have:=hok.dlen;omega) hok.dsort ((((hr.dr.more _).more _).more _).more _) hbt.1.1 hbt.1.2 hbt.2
 have HC5:Hid (∀ W db fb rb pv C v5 N,In F0 w0 W (QD db v5::N::QF fb (.slice fa s.fls.length fc)::BkR pv []::Cells rb C 45::S0::R)→(W.cell? ⟨db,0,none⟩=some v5∧W.frozen? ⟨mb,2,none⟩=false∧W.cell? ⟨mb,2,none⟩=some (.slice da s.drs.length dc))):=Lib.hid fun W db fb rb pv C v5 N h'=>by
  rw [hS0] at h'
  exact⟨cell_of (h'.block 0 rfl) rfl,free_of (h'.block 5 rfl),cell_of (h'.block 5 rfl) rfl⟩
 have HR:=Lib.hid hr0
 have HM:=Lib.hid KM
 clear h h2 hs hl hm hr hr0 hR KM hxb hxd hxf
 go_enter Tryz.func10,Tryz.ntmps10
 go_wp2_with fail
 rw [hC0] at HM
 refine HM.out.mono ?_
 rintro e w1 ⟨rfl,g1⟩
 rw [← hC0] at g1
 generalize w.heap.size=rb at *
 have g1':=g1
 rw [hC0] at g1'
 obtain⟨y0,y1,y2,y3,y4,y5,y6,y7,y8,y9,y10,y11,y12,y13,yf⟩:=rc_y (y:=⟨4,⟨⟨src,dst,proto,sport,dport⟩,fbk,fgen,fseen⟩,gen,bks,bk,till,count⟩) (pv:=.slice A bks.length c) (g1'.block 0 rfl)
 simp only at y0 y1 y2 y3 y4 y5 y6 y7 y8 y9 y10 y11 y12 y13
 have KP1:=Lib.hid (KP.out _ _ g1)
 clear g1 g1' HM KP
 go_wp2_with fail
 refine KP1.out.mono ?_
 rintro e w2 ⟨pv,rfl,g2⟩
 obtain⟨Fp,hp⟩:=g2.get 0 rfl
 obtain⟨pa,pc,rfl,-,-,-⟩:=RowA.shape hp
 obtain⟨ht,g3⟩:=HST.out _ _ _ g2
 have Q2:=Lib.hid ht
 have G3:=Lib.hid g3
 clear hp ht g2 g3 KP1 HST y0 y1 y2 y3 y4 y5 y6 y7 y8 y9 y10 y11 y12 y13 yf
 go_upto_region 4 with (refine wpList_store_mid (op:=⟨none,Op.store 45 (.tmp 3) (.tmp 20),_,_,_,_⟩) (by rfl) 45 (.tmp 3) (.tmp 20) rfl rb 0 (encRL ⟨4,zeroF,0,[],bk,till,0⟩ (.slice pa _ pc)).toArray (by rfl) (by rfl) Q2.out (by kernel_rfl) (encRL_all _ _ _ _) ?_)
 try simp only [Act.put]
 have g3:=G3.out
 clear G3 Q2
 generalize w2.setCells rb 0 (encRL ⟨4,zeroF,0,[],bk,till,0⟩ (.slice pa ([]:List Bk).length pc))=w3 at *
 have m3:=HM0.out _ _ _ _ g3
 have KD1:=Lib.hid (KD.out _ _ _ _ _ (g3.cells #[.slice fa s.fls.length fc,.int .i64 256,.int .i64 0] 92))
 clear g3 KD HM0
 go_wp2_with fail
 refine KD1.out.mono ?_
 rintro e w4 ⟨db,rfl,g4⟩
 generalize w3.heap.size=fb at *
 obtain⟨y0,y1,y2,y3,y4,y5,y6,y7,y8,y9,y10,y11,y12,y13,yf⟩:=rc_y (y:=⟨4,zeroF,0,[],bk,till,0⟩) (pv:=.slice pa ([]:List Bk).length pc) (g4.block 3 rfl)
 simp only at y0 y1 y2 y3 y4 y5 y6 y7 y8 y9 y10 y11 y12 y13
 have KU:=Lib.hid (KU0.out _ _ _ _ _ _ g4)
 clear g4 m3 KD1 KU0
 go_wp2_with fail
 refine KU.out.mono ?_
 rintro e w6 ⟨n6,rfl,g6⟩
 clear y0 y1 y2 y3 y4 y5 y6 y7 y8 y9 y10 y11 y12 y13 yf KU
 have e0:w6.cell? ⟨db,0,none⟩=some (.slice da s.drs.length dc):=cell_of (g6.block 0 rfl) rfl
 obtain⟨y0,y1,y2,y3,y4,y5,y6,y7,y8,y9,y10,y11,y12,y13,yf⟩:=rc_y (y:=⟨4,zeroF,0,[],bk,till,0⟩) (pv:=.slice pa ([]:List Bk).length pc) (g6.block 3 rfl)
 simp only at y0 y1 y2 y3 y4 y5 y6 y7 y8 y9 y10 y11 y12 y13
 have KPut:=Lib.hid (KPut0.out _ _ _ _ _ _ g6)
 have G6:=Lib.hid g6
 clear g6 KPut0
 rcases hcase with ⟨hp,h16,ha⟩|⟨hp,ha⟩
 ·rw [hp]
  have HA:=Lib.hid ha
  have q16:decide ((16:Int)≤(s.drs.length:Int))=true:=by simp;omega
  have q16':(16:Int)≤(s.drs.length:Int):=by omega
  clear ha hp h16 KPut HC5
  go_wp2_with fail
  go_ret
  rw [HA.out]
  have g:=G6.out
  rw [hS0] at g
  exact⟨_,_,_,_,rfl,g.sel2 (R1:=[_,_,_,_,_]) [4,2] (by decide) rfl,HR.out.more _⟩
 ·have HA:=Lib.hid ha
  clear ha G6
  rcases hp with hp | ⟨hp,h16⟩
  case' inr=>
   have q16:decide ((16:Int)≤(s.drs.length:Int))=false:=by simp;omega
   clear h16
  all_goals
   rw [hp]
   clear hp
   go_wp2_with fail
   refine KPut.out.mono ?_
   rintro e w5 ⟨v5,rfl,g5⟩
   clear KPut
   obtain⟨Fv,hvv⟩:=g5.get 1 rfl
   obtain⟨va,vc,rfl,-,-,-⟩:=RowA.shape hvv
   obtain⟨d0,u0,u1⟩:=HC5.out _ _ _ _ _ _ _ _ g5
   have G5:=Lib.hid g5
   clear g5 hvv HC5 y0 y1 y2 y3 y4 y5 y6 y7 y8 y9 y10 y11 y12 y13 yf
   go_wp2_with fail
   go_ret
   rw [HA.out]
   have g:=G5.out
   rw [hS0] at g
   have g2:=(g.put 5 rfl 2 (.slice va (stPutD bk till s.drs).length vc)).sel2 (R1:=[_,_,_,_,_,_]) [5,1] (by decide) rfl
   exact⟨_,_,_,_,rfl,g2,⟨(HR.out.more _).bk,VD.row,(HR.out.more _).fl⟩⟩
theorem o_qap5 {src dst proto sport dport fbk fgen fseen gen bk till count:Int} {bks:List Bk} {A:Option Addr} {c:Nat} (hok:OkSt s) (hs:BksAt F0 w0 R A bks) (hl:bks.length≤1000000) (hm:mayRec ⟨5,⟨⟨src,dst,proto,sport,dport⟩,fbk,fgen,fseen⟩,gen,bks,bk,till,count⟩=true) (hr0:QRows F0 w0 R0 s bv dv fv) (hR:∃ X,R=X++R0) (h:In F0 w0 w (QS mb s bv dv fv::R)) :
  Calls Tryz.prog 10 #[.pointer (some ⟨mb,0,none⟩),agR ⟨5,⟨⟨src,dst,proto,sport,dport⟩,fbk,fgen,fseen⟩,gen,bks,bk,till,count⟩ A c] w (QApPost (applySt s ⟨5,⟨⟨src,dst,proto,sport,dport⟩,fbk,fgen,fseen⟩,gen,bks,bk,till,count⟩) mb F0 w0 R R0):=by
 have hr:QRows F0 w0 R s bv dv fv:=hr0.of (fun W hW=>by obtain⟨X,rfl⟩:=hR;exact In.tailX X hW)
 have HN:Hid (∀ W N,In F0 w0 W (N::R)→In F0 w0 W (N::R0)):=Lib.hid fun W N hW=>by obtain⟨X,rfl⟩:=hR;exact In.midX X hW
 obtain⟨Fb,hxb⟩:=hr.bk w h.drop
 obtain⟨ba,bc,rfl,-,-⟩:=hxb.shape
 obtain⟨Fd,hxd⟩:=hr.dr w h.drop
 obtain⟨da,dc,rfl,-,-⟩:=hxd.shape
 obtain⟨Ff,hxf⟩:=hr.fl w h.drop
 obtain⟨fa,fc,rfl,-,-⟩:=hxf.shape
 obtain⟨C0,hC0⟩:∃ C,C=(encRL ⟨5,⟨⟨src,dst,proto,sport,dport⟩,fbk,fgen,fseen⟩,gen,bks,bk,till,count⟩ (.slice A bks.length c)).toArray:=⟨_,rfl⟩
 obtain⟨S0,hS0⟩:∃ S,S=QS mb s (.slice ba s.bks.length bc) (.slice da s.drs.length dc) (.slice fa s.fls.length fc):=⟨_,rfl⟩
 have h2:=h.cells C0 45
 have KM:=o_qmay (c:=c) (r:=⟨5,⟨⟨src,dst,proto,sport,dport⟩,fbk,fgen,fseen⟩,gen,bks,bk,till,count⟩) (fun w' h'=>hs w' h'.drop.drop) hl h2
 rw [hm] at KM
 rw [← hS0] at KM h2
 have KP:Hid (∀ w' rb,In F0 w0 w' (Cells rb C0 45::S0::R)→Calls Tryz.prog 42 #[agR ⟨5,⟨⟨src,dst,proto,sport,dport⟩,fbk,fgen,fseen⟩,gen,bks,bk,till,count⟩ A c] w' (RecPost ⟨5,zeroF,0,[],bk,0,0⟩ F0 w0 (Cells rb C0 45::S0::R))):=Lib.hid fun w' rb h'=>o_qplain (r:=⟨5,⟨⟨src,dst,proto,sport,dport⟩,fbk,fgen,fseen⟩,gen,bks,bk,till,count⟩) (c:=c) (fun W hW=>hs W hW.drop.drop) hl h'
 have KD:Hid (∀ w' fb rb pv C,In F0 w0 w' (QF fb (.slice fa s.fls.length fc)::BkR pv []::Cells rb C 45::S0::R)→Calls Tryz.prog 43 #[.pointer (some ⟨mb,0,none⟩)] w' fun e w''=>∃ db,e=.returned (.pointer (some ⟨db,0,none⟩))∧In F0 w0 w'' (QD db (.slice da s.drs.length dc)::QF fb (.slice fa s.fls.length fc)::BkR pv []::Cells rb C 45::S0::R)):=Lib.hid fun w' fb rb pv C h'=>o_qdrains (i:=3) (s:=s) (mb:=mb) (bv:=.slice ba s.bks.length bc) (fv:=.slice fa s.fls.length fc) h' (by rw [hS0];rfl)
 have HST:Hid (∀ w' rb pv,In F0 w0 w' (BkR pv []::Cells rb C0 45::S0::R)→w'.there rb 0 14∧In F0 w0 (w'.setCells rb 0 (encRL ⟨5,zeroF,0,[],bk,0,0⟩ pv)) (BkR pv []::Cells rb (encRL ⟨5,zeroF,0,[],bk,0,0⟩ pv).toArray 45::S0::R)):=Lib.hid fun w' rb pv h'=>by
  have ht:=there_of (h'.block 1 rfl)
  rw [hC0] at ht
  exact⟨ht,h'.setFull 1 rfl (xs:=encRL ⟨5,zeroF,0,[],bk,0,0⟩ pv) (b:=rb) (C:=C0) (T:=45) (by rw [hC0];rfl)⟩
 have HM0:Hid (∀ W rb pv C,In F0 w0 W (BkR pv []::Cells rb C 45::S0::R)→W.cell? ⟨mb,3,none⟩=some (.slice fa s.fls.length fc)):=Lib.hid fun W rb pv C h'=>by rw [hS0] at h';exact cell_of (h'.block 2 rfl) rfl
 have ha:applySt s ⟨5,⟨⟨src,dst,proto,sport,dport⟩,fbk,fgen,fseen⟩,gen,bks,bk,till,count⟩=({ s with drs:=stDelD bk s.drs },0):=by
  have hb:badSt ⟨5,⟨⟨src,dst,proto,sport,dport⟩,fbk,fgen,fseen⟩,gen,bks,bk,till,count⟩=false:=by unfold badSt;rw [hm];rfl
  have hf:fullSt s ⟨5,⟨⟨src,dst,proto,sport,dport⟩,fbk,fgen,fseen⟩,gen,bks,bk,till,count⟩=false:=rfl
  unfold applySt
  rw [hb,hf];rfl
 have HA:=Lib.hid ha
 have KPut0:Hid (∀ w' db fb rb pv C,In F0 w0 w' (QD db (.slice da s.drs.length dc)::QF fb (.slice fa s.fls.length fc)::BkR pv []::Cells rb C 45::S0::R)→Calls Tryz.prog 49 #[.pointer (some ⟨db,0,none⟩),.int .i64 bk] w' (QClearPost db (stDelD bk s.drs) F0 w0 (QF fb (.slice fa s.fls.length fc)::BkR pv []::Cells rb C 45::S0::R))):=Lib.hid fun w' db fb rb pv C h'=>
  o_qclear h' (by have:=hok.dlen;omega) ((((hr.dr.more _).more _).more _).more _) _
 have HC5:Hid (∀ W db fb rb pv C v5 N,In F0 w0 W (QD db v5::N::QF fb (.slice fa s.fls.length fc)::BkR pv []::Cells rb C 45::S0::R)→(W.cell? ⟨db,0,none⟩=some v5∧W.frozen? ⟨mb,2,none⟩=false∧W.cell? ⟨mb,2,none⟩=some (.slice da s.drs.length dc))):=Lib.hid fun W db fb rb pv C v5 N h'=>by
  rw [hS0] at h'
  exact⟨cell_of (h'.block 0 rfl) rfl,free_of (h'.block 5 rfl),cell_of (h'.block 5 rfl) rfl⟩
 clear ha
 have HR:=Lib.hid hr0
 have HM:=Lib.hid KM
 clear h h2 hs hl hm hr hr0 hR KM hxb hxd hxf
 go_enter Tryz.func10,Tryz.ntmps10
 go_wp2_with fail
 rw [hC0] at HM
 refine HM.out.mono ?_
 rintro e w1 ⟨rfl,g1⟩
 rw [← hC0] at g1
 generalize w.heap.size=rb at *
 have g1':=g1
 rw [hC0] at g1'
 obtain⟨y0,y1,y2,y3,y4,y5,y6,y7,y8,y9,y10,y11,y12,y13,yf⟩:=rc_y (y:=⟨5,⟨⟨src,dst,proto,sport,dport⟩,fbk,fgen,fseen⟩,gen,bks,bk,till,count⟩) (pv:=.slice A bks.length c) (g1'.block 0 rfl)
 simp only at y0 y1 y2 y3 y4 y5 y6 y7 y8 y9 y10 y11 y12 y13
 have KP1:=Lib.hid (KP.out _ _ g1)
 clear g1 g1' HM KP
 go_wp2_with fail
 refine KP1.out.mono ?_
 rintro e w2 ⟨pv,rfl,g2⟩
 obtain⟨Fp,hp⟩:=g2.get 0 rfl
 obtain⟨pa,pc,rfl,-,-,-⟩:=RowA.shape hp
 obtain⟨ht,g3⟩:=HST.out _ _ _ g2
 have Q2:=Lib.hid ht
 have G3:=Lib.hid g3
 clear hp ht g2 g3 KP1 HST y0 y1 y2 y3 y4 y5 y6 y7 y8 y9 y10 y11 y12 y13 yf
 go_upto_region 4 with (refine wpList_store_mid (op:=⟨none,Op.store 45 (.tmp 3) (.tmp 20),_,_,_,_⟩) (by rfl) 45 (.tmp 3) (.tmp 20) rfl rb 0 (encRL ⟨5,zeroF,0,[],bk,0,0⟩ (.slice pa _ pc)).toArray (by rfl) (by rfl) Q2.out (by kernel_rfl) (encRL_all _ _ _ _) ?_)
 try simp only [Act.put]
 have g3:=G3.out
 clear G3 Q2
 generalize w2.setCells rb 0 (encRL ⟨5,zeroF,0,[],bk,0,0⟩ (.slice pa ([]:List Bk).length pc))=w3 at *
 have m3:=HM0.out _ _ _ _ g3
 have KD1:=Lib.hid (KD.out _ _ _ _ _ (g3.cells #[.slice fa s.fls.length fc,.int .i64 256,.int .i64 0] 92))
 clear g3 KD HM0
 go_wp2_with fail
 refine KD1.out.mono ?_
 rintro e w4 ⟨db,rfl,g4⟩
 generalize w3.heap.size=fb at *
 obtain⟨y0,y1,y2,y3,y4,y5,y6,y7,y8,y9,y10,y11,y12,y13,yf⟩:=rc_y (y:=⟨5,zeroF,0,[],bk,0,0⟩) (pv:=.slice pa ([]:List Bk).length pc) (g4.block 3 rfl)
 simp only at y0 y1 y2 y3 y4 y5 y6 y7 y8 y9 y10 y11 y12 y13
 have KPut:=Lib.hid (KPut0.out _ _ _ _ _ _ g4)
 clear g4 m3 KD1 KPut0
 go_wp2_with fail
 refine KPut.out.mono ?_
 rintro e w5 ⟨v5,q5,rfl,g5⟩
 clear KPut
 obtain⟨Fv,hvv⟩:=g5.get 1 rfl
 obtain⟨va,vc,rfl,-,-,-⟩:=RowA.shape hvv
 obtain⟨d0,u0,u1⟩:=HC5.out _ _ _ _ _ _ _ _ g5
 have G5:=Lib.hid g5
 clear g5 hvv HC5 y0 y1 y2 y3 y4 y5 y6 y7 y8 y9 y10 y11 y12 y13 yf
 go_wp2_with fail
 go_ret
 rw [HA.out]
 have g:=G5.out
 rw [hS0] at g
 have g2:=(g.put 5 rfl 2 (.slice va (stDelD bk s.drs).length vc)).sel2 (R1:=[_,_,_,_,_,_]) [5,1] (by decide) rfl
 exact⟨_,_,_,_,rfl,g2,⟨(HR.out.more _).bk,VD.row,(HR.out.more _).fl⟩⟩
theorem QApPost.same (hr:QRows F0 w0 R0 s bv dv fv) (h:In F0 w0 w (QS mb s bv dv fv::R)) (e:Int):QApPost (s,e) mb F0 w0 R R0 (.returned (.int .i64 e)) w:=
 ⟨_,_,_,_,rfl,(h.rownil 43 8).perm (List.Perm.swap _ _ _),hr.more _⟩
theorem o_qapN {k src dst proto sport dport fbk fgen fseen gen bk till count:Int} {bks:List Bk} {A:Option Addr} {c:Nat} (hs:BksAt F0 w0 R A bks) (hl:bks.length≤1000000) (hm:mayRec ⟨k,⟨⟨src,dst,proto,sport,dport⟩,fbk,fgen,fseen⟩,gen,bks,bk,till,count⟩=false) (hr0:QRows F0 w0 R0 s bv dv fv) (hR:∃ X,R=X++R0) (h:In F0 w0 w (QS mb s bv dv fv::R)) :
  Calls Tryz.prog 10 #[.pointer (some ⟨mb,0,none⟩),agR ⟨k,⟨⟨src,dst,proto,sport,dport⟩,fbk,fgen,fseen⟩,gen,bks,bk,till,count⟩ A c] w (QApPost (s,1) mb F0 w0 R R0):=by
 obtain⟨C0,hC0⟩:∃ C,C=(encRL ⟨k,⟨⟨src,dst,proto,sport,dport⟩,fbk,fgen,fseen⟩,gen,bks,bk,till,count⟩ (.slice A bks.length c)).toArray:=⟨_,rfl⟩
 have h2:=h.cells C0 45
 have KM:=o_qmay (c:=c) (r:=⟨k,⟨⟨src,dst,proto,sport,dport⟩,fbk,fgen,fseen⟩,gen,bks,bk,till,count⟩) (fun w' h'=>hs w' h'.drop.drop) hl h2
 rw [hm] at KM
 rw [hC0] at KM
 have HE:Hid (∀ w' rb C,In F0 w0 w' (Cells rb C 45::QS mb s bv dv fv::R)→QApPost (s,1) mb F0 w0 R R0 (.returned (.int .i64 1)) w'):=Lib.hid fun w' rb C h'=>QApPost.same hr0 h'.drop 1
 have HM:=Lib.hid KM
 clear h h2 hs hl hm hr0 hR KM
 go_enter Tryz.func10,Tryz.ntmps10
 go_wp2_with fail
 refine HM.out.mono ?_
 rintro e w1 ⟨rfl,g1⟩
 have G1:=Lib.hid g1
 clear g1 HM
 go_wp2_with fail
 go_ret
 exact HE.out _ _ _ G1.out
theorem o_qap6 {src dst proto sport dport fbk fgen fseen gen bk till count:Int} {bks:List Bk} {A:Option Addr} {c:Nat} (hs:BksAt F0 w0 R A bks) (hl:bks.length≤1000000) (hm:mayRec ⟨6,⟨⟨src,dst,proto,sport,dport⟩,fbk,fgen,fseen⟩,gen,bks,bk,till,count⟩=true) (hr0:QRows F0 w0 R0 s bv dv fv) (hR:∃ X,R=X++R0) (h:In F0 w0 w (QS mb s bv dv fv::R)) :
  Calls Tryz.prog 10 #[.pointer (some ⟨mb,0,none⟩),agR ⟨6,⟨⟨src,dst,proto,sport,dport⟩,fbk,fgen,fseen⟩,gen,bks,bk,till,count⟩ A c] w (QApPost (s,1) mb F0 w0 R R0):=by
 have h2:=h.cells (encRL ⟨6,⟨⟨src,dst,proto,sport,dport⟩,fbk,fgen,fseen⟩,gen,bks,bk,till,count⟩ (.slice A bks.length c)).toArray 45
 have KM:=o_qmay (c:=c) (r:=⟨6,⟨⟨src,dst,proto,sport,dport⟩,fbk,fgen,fseen⟩,gen,bks,bk,till,count⟩) (fun w' h'=>hs w' h'.drop.drop) hl h2
 rw [hm] at KM
 have HE:Hid (∀ w' rb C,In F0 w0 w' (Cells rb C 45::QS mb s bv dv fv::R)→QApPost (s,1) mb F0 w0 R R0 (.returned (.int .i64 1)) w'):=Lib.hid fun w' rb C h'=>QApPost.same hr0 h'.drop 1
 have HM:=Lib.hid KM
 clear h h2 hs hl hm hr0 hR KM
 go_enter Tryz.func10,Tryz.ntmps10
 go_wp2_with fail
 refine HM.out.mono ?_
 rintro e w1 ⟨rfl,g1⟩
 generalize w.heap.size=rb at *
 obtain⟨y0,y1,y2,y3,y4,y5,y6,y7,y8,y9,y10,y11,y12,y13,yf⟩:=rc_y (y:=⟨6,⟨⟨src,dst,proto,sport,dport⟩,fbk,fgen,fseen⟩,gen,bks,bk,till,count⟩) (pv:=.slice A bks.length c) (g1.block 0 rfl)
 simp only at y0 y1 y2 y3 y4 y5 y6 y7 y8 y9 y10 y11 y12 y13
 have G1:=Lib.hid g1
 clear g1 HM
 go_wp2_with fail
 go_ret
 exact HE.out _ _ _ G1.out
theorem o_qapply {r:Rec} {A:Option Addr} {c:Nat} (hok:OkSt s) (hs:BksAt F0 w0 R A r.bks) (hl:r.bks.length≤1000000) (hr0:QRows F0 w0 R0 s bv dv fv) (hR:∃ X,R=X++R0) (h:In F0 w0 w (QS mb s bv dv fv::R)) :
  Calls Tryz.prog 10 #[.pointer (some ⟨mb,0,none⟩),agR r A c] w (QApPost (applySt s r) mb F0 w0 R R0):=by
 obtain⟨kind,⟨⟨src,dst,proto,sport,dport⟩,fbk,fgen,fseen⟩,gen,bks,bk,till,count⟩:=r
 cases hm:mayRec ⟨kind,⟨⟨src,dst,proto,sport,dport⟩,fbk,fgen,fseen⟩,gen,bks,bk,till,count⟩ with
 | false=>
  have e:applySt s ⟨kind,⟨⟨src,dst,proto,sport,dport⟩,fbk,fgen,fseen⟩,gen,bks,bk,till,count⟩=(s,1):=by
   unfold applySt badSt;rw [hm];rfl
  rw [e]
  exact o_qapN hs hl hm hr0 hR h
 | true=>
  have hk:=mayRec_iff.1 hm
  have hk':kind=1∨kind=2∨kind=3∨kind=4∨kind=5∨kind=6:=by
   rcases hk with ⟨h,_⟩|⟨h,_⟩|⟨h,_⟩|⟨h,_⟩|⟨h,_⟩|⟨h,_⟩ <;> simp only at h <;> omega
  rcases hk' with rfl | rfl | rfl | rfl | rfl | rfl
  ·exact o_qap1 hok hs hl hm hr0 hR h
  ·exact o_qap2 hok hs hl hm hr0 hR h
  ·exact o_qap3 hok hs hl hm hr0 hR h
  ·exact o_qap4 hok hs hl hm hr0 hR h
  ·exact o_qap5 hok hs hl hm hr0 hR h
  ·have e:applySt s ⟨6,⟨⟨src,dst,proto,sport,dport⟩,fbk,fgen,fseen⟩,gen,bks,bk,till,count⟩=(s,1):=by
    unfold applySt badSt;rw [hm];rfl
   rw [e]
   exact o_qap6 hs hl hm hr0 hR h
end
end Go.Proofs.YtaopfagclnocdaaGreat
