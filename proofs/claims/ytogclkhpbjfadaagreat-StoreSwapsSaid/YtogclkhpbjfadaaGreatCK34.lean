/- Parts of the proofs that a compaction keeps what lives, and done again is as once. -/
import Derived.Test.YtogclkhpbjfadaaGreatCK33
import Derived.StillTailTactics
import Derived.Deep.RegionHeld3
import Derived.Deep.DeepCutAuto
import Derived.Deep.AppendLies
namespace Go.Proofs.YtogclkhpbjfadaaGreat
open Go.RowKit
set_option linter.unusedVariables false
set_option maxHeartbeats 64000000
set_option maxRecDepth 100000
section
variable {F0:List Nat} {w0 w:World} {R:List az} {pn:Value} {bd lb:Nat} {d:ae} {l:bK}
def mH (pn:Value) (lb bd:Nat) (m:dw) (A:Option Addr) (c:Nat) (s:DL) (F0:List Nat) (w0:World) (R:List az) (e:Ending) (w':World):Prop:=
 e=.returned (.tuple #[.bool (dI m s).2.1,.int .i64 (dI m s).2.2])∧((dI m s).2.1=true→In F0 w0 w' (eB lb bd (dI m s).1.2::bJ bd (dI m s).1.1::ay 3 1 pn s.2.m.aa.length (cz s.2.m.aa)::R)) ∧
  ((dI m s).2.1=false→In F0 w0 w' (yA pn lb bd s.2::bJ bd (dI m s).1.1::lZ A c m.aa::R))
theorem SX (m:dw) {A:Option Addr} {c:Nat} (h:In F0 w0 w (yA pn lb bd l::bJ bd d::lZ A c m.aa::R)) (ho:d.ops≤99999990) (hn:m.aa.length≤1000000000) :
  Calls Tryz.prog 95 #[aD lb,iM m A c] w (mH pn lb bd m A c (d,l) F0 w0 R):=by
 have h1:=h.VJ
 have h2:=h1.cells #[.int .i64 m.aj,.int .i64 m.next,.slice A m.aa.length c] 111
 have HW:Hid (∀ w',In F0 w0 w' (Cells w.heap.size #[.int .i64 m.aj,.int .i64 m.next,.slice A m.aa.length c] 111::ay 3 1 pn l.m.aa.length (cz l.m.aa)::Cells lb (xc bd l pn) 120::bJ bd (aK m d).1::lZ A c m.aa::R) →
   (w'.cell? ⟨lb,0,none⟩=some (aD bd)∧w'.cell? ⟨w.heap.size,0,none⟩=some (.int .i64 m.aj)∧w'.cell? ⟨w.heap.size,1,none⟩=some (.int .i64 m.next)∧w'.cell? ⟨w.heap.size,2,none⟩=some (.slice A m.aa.length c)) ∧
   (w'.frozen? ⟨lb,2,none⟩=false∧w'.frozen? ⟨lb,3,none⟩=false∧w'.frozen? ⟨lb,4,none⟩=false∧w'.frozen? ⟨lb,5,none⟩=false ∧
    ∃ x2 x3 x4 x5,w'.cell? ⟨lb,2,none⟩=some x2∧w'.cell? ⟨lb,3,none⟩=some x3∧w'.cell? ⟨lb,4,none⟩=some x4∧w'.cell? ⟨lb,5,none⟩=some x5)):=Lib.hid fun w' h'=>
  ⟨⟨cell_of (h'.block 2 rfl) rfl,cell_of (h'.block 0 rfl) rfl,cell_of (h'.block 0 rfl) rfl,cell_of (h'.block 0 rfl) rfl⟩,aL (h'.block 2 rfl),aL (h'.block 2 rfl),aL (h'.block 2 rfl),aL (h'.block 2 rfl),_,_,_,_,cell_of (h'.block 2 rfl) rfl,cell_of (h'.block 2 rfl) rfl,cell_of (h'.block 2 rfl) rfl,cell_of (h'.block 2 rfl) rfl⟩
 have zm:Hid ((w.alloc (.cells #[.int .i64 m.aj,.int .i64 m.next,.slice A m.aa.length c] 111)).cell? ⟨lb,0,none⟩=some (aD bd)∧(w.alloc (.cells #[.int .i64 m.aj,.int .i64 m.next,.slice A m.aa.length c] 111)).cell? ⟨w.heap.size,0,none⟩=some (.int .i64 m.aj)∧(w.alloc (.cells #[.int .i64 m.aj,.int .i64 m.next,.slice A m.aa.length c] 111)).cell? ⟨w.heap.size,1,none⟩=some (.int .i64 m.next)∧(w.alloc (.cells #[.int .i64 m.aj,.int .i64 m.next,.slice A m.aa.length c] 111)).cell? ⟨w.heap.size,2,none⟩=some (.slice A m.aa.length c)):=Lib.hid
  ⟨cell_of (h2.block 2 rfl) rfl,cell_of (h2.block 0 rfl) rfl,cell_of (h2.block 0 rfl) rfl,cell_of (h2.block 0 rfl) rfl⟩
 have C:=Lib.hid (fun n=>BK (h2.drewN n) 3 rfl ho m (A:=A) (c:=c) (fun w' h'=>by obtain⟨F',r'⟩:=h'.get 4 rfl;exact r'.all) hn)
 have HQ:Hid (dI m (d,l)=(((aK m d).1,if (aK m d).2.1 then { l with m:=m,loose:=decide ((aK m d).2.2≠0) } else l),(aK m d).2.1,(aK m d).2.2)):=Lib.hid rfl
 have HT:Hid (∀ w',In F0 w0 w' (Cells w.heap.size #[.int .i64 m.aj,.int .i64 m.next,.slice A m.aa.length c] 111::ay 3 1 pn l.m.aa.length (cz l.m.aa)::Cells lb (xc bd l pn) 120::bJ bd (aK m d).1::lZ A c m.aa::R) →
   In F0 w0 ((((w'.setCell ⟨lb,2,none⟩ (.int .i64 m.aj)).setCell ⟨lb,3,none⟩ (.int .i64 m.next)).setCell ⟨lb,4,none⟩ (.slice A m.aa.length c)).setCell ⟨lb,5,none⟩ (.bool ((aK m d).2.2 != 0)))
    (eB lb bd { l with m:=m,loose:=decide ((aK m d).2.2≠0) }::bJ bd (aK m d).1::ay 3 1 pn l.m.aa.length (cz l.m.aa)::R)):=Lib.hid fun w' h'=>by
  have e:((aK m d).2.2 != 0)=decide ((aK m d).2.2≠0):=by simp [bne,Bool.beq_eq_decide_eq]
  have g:=(((h'.put (b:=lb) 2 rfl 2 (.int .i64 m.aj)).put (b:=lb) 2 rfl 3 (.int .i64 m.next)).put (b:=lb) 2 rfl 4 (.slice A m.aa.length c)).put (b:=lb) 2 rfl 5 (.bool ((aK m d).2.2 != 0))
  have g2:=g.aI (R1:=[_,_,_,_,_]) [4,2,3,1] (by decide) rfl
  refine In.nE (l':={ l with m:=m,loose:=decide ((aK m d).2.2≠0) }) (v:=.slice A m.aa.length c) ?_
  unfold xc
  rw [← e]
  exact g2
 have HN:Hid (∀ w',In F0 w0 w' (Cells w.heap.size #[.int .i64 m.aj,.int .i64 m.next,.slice A m.aa.length c] 111::ay 3 1 pn l.m.aa.length (cz l.m.aa)::Cells lb (xc bd l pn) 120::bJ bd (aK m d).1::lZ A c m.aa::R) →
   In F0 w0 w' (yA pn lb bd l::bJ bd (aK m d).1::lZ A c m.aa::R)):=Lib.hid fun w' h'=>h'.drop.Ja
 unfold iM at C ⊢
 clear h h1 h2 hn ho
 cases hq:(aK m d).2.1 with
 | true=>
  have HF:Hid (∀ w',In F0 w0 w' (eB lb bd { l with m:=m,loose:=decide ((aK m d).2.2≠0) }::bJ bd (aK m d).1::ay 3 1 pn l.m.aa.length (cz l.m.aa)::R)→mH pn lb bd m A c (d,l) F0 w0 R (.returned (.tuple #[.bool true,.int .i64 (aK m d).2.2])) w'):=Lib.hid fun w' h'=>by
   unfold mH
   rw [HQ.out,hq]
   exact⟨rfl,fun _=>h',fun e=>by cases e⟩
  rw [hq] at C
  clear HQ HN hq
  go_enter Tryz.func95,Tryz.ntmps95
  go_wp2_with fail
  go_region_held3 (fun w'=>w'.cell? ⟨lb,0,none⟩=some (aD bd)∧w'.cell? ⟨w.heap.size,0,none⟩=some (.int .i64 m.aj)∧w'.cell? ⟨w.heap.size,1,none⟩=some (.int .i64 m.next)∧w'.cell? ⟨w.heap.size,2,none⟩=some (.slice A m.aa.length c)) (first | exact zm.out | exact hc1) (first | (go_at_call 67;refine (C.out 1).mono ?_;rintro e w1 ⟨rfl,g1⟩;obtain⟨hc1,f2,f3,f4,f5,x2,x3,x4,x5,d2,d3,d4,d5⟩:=HW.out w1 g1;have G:=Lib.hid (HF.out _ (HT.out w1 g1));clear g1))
  go_wp2_with fail
  go_ret2
  exact G.out
 | false=>
  have HF:Hid (∀ w',In F0 w0 w' (yA pn lb bd l::bJ bd (aK m d).1::lZ A c m.aa::R)→mH pn lb bd m A c (d,l) F0 w0 R (.returned (.tuple #[.bool false,.int .i64 (aK m d).2.2])) w'):=Lib.hid fun w' h'=>by
   unfold mH
   rw [HQ.out,hq]
   exact⟨rfl,fun e=>(by cases e),fun _=>h'⟩
  rw [hq] at C
  clear HQ HT hq
  go_enter Tryz.func95,Tryz.ntmps95
  go_wp2_with fail
  go_region_held3 (fun w'=>w'.cell? ⟨lb,0,none⟩=some (aD bd)∧w'.cell? ⟨w.heap.size,0,none⟩=some (.int .i64 m.aj)∧w'.cell? ⟨w.heap.size,1,none⟩=some (.int .i64 m.next)∧w'.cell? ⟨w.heap.size,2,none⟩=some (.slice A m.aa.length c)) (first | exact zm.out | exact hc1) (first | (go_at_call 67;refine (C.out 1).mono ?_;rintro e w1 ⟨rfl,g1⟩;obtain⟨hc1,-⟩:=HW.out w1 g1;have G:=Lib.hid (HF.out _ (HN.out w1 g1));clear g1))
  go_wp2_with fail
  go_ret2
  exact G.out
end
def pQ (sb:Nat) (aa:List Nat):az:=fun w F=>∃ v,Star [Cells sb #[v] 43,ay 3 1 v aa.length (cz aa)] w F
theorem tF (sb:Nat) (aa:List Nat) (v:Value):∀ A∈[Cells sb #[v] 43,ay 3 1 v aa.length (cz aa)],bC A:=by
 intro A hA
 simp only [List.mem_cons,List.not_mem_nil,or_false] at hA
 rcases hA with rfl | rfl
 ·exact Cells.aA _ _ _
 ·exact ay.aA _ _ _ _ _
theorem pQ.aA (sb:Nat) (aa:List Nat):bC (pQ sb aa):=
 ⟨fun ⟨v,h⟩ hk=>⟨v,(bC.star (tF sb aa v)).keep h hk⟩,fun ⟨v,h⟩=>(bC.star (tF sb aa v)).lt h⟩
section
variable {F0:List Nat} {w0 w:World} {R:List az} {pn:Value} {bd lb sb:Nat} {d:ae} {l:bK} {aa:List Nat}
theorem In.rO (h:In F0 w0 w (pQ sb aa::R)):∃ a c,In F0 w0 w (ay 3 1 (.slice a aa.length c) aa.length (cz aa)::Cells sb #[.slice a aa.length c] 43::R):=by
 obtain⟨v,h1⟩:=h.ex (G:=fun v=>Star [Cells sb #[v] 43,ay 3 1 v aa.length (cz aa)]) 0 rfl (fun v=>bC.star (tF sb aa v))
 have h2:=h1.split (A:=Cells sb #[v] 43) (B:=ay 3 1 v aa.length (cz aa)) 0 rfl (Cells.aA _ _ _) (ay.aA _ _ _ _ _)
 obtain⟨F,hF⟩:=h2.get 0 rfl
 obtain⟨a,c,rfl,-,-,-⟩:=hF.shape
 exact⟨a,c,h2⟩
theorem In.xw {v:Value} (h:In F0 w0 w (ay 3 1 v aa.length (cz aa)::Cells sb #[v] 43::R)):In F0 w0 w (pQ sb aa::R):=
 h.fold (C:=pQ sb aa) 0 rfl (pQ.aA _ _) (fun F hF=>⟨v,hF⟩)
theorem Jb {x:Nat} (h:aa[aa.length - 1]?=some x):newest aa=ai x:=by
 unfold newest
 rw [List.getLastD_eq_getLast?,List.getLast?_eq_getElem?,h];rfl
theorem Gf {gb:Nat} (h:In F0 w0 w (pQ sb aa::R)) (j:Nat) (hj:R[j]?=some (Cells gb #[.pointer (some ⟨sb,0,none⟩)] 145)) (hne:aa≠[]) (hs:aa.length≤100) (hv:∀ x∈aa,x < 4611686018427387904) :
  Calls Tryz.prog 180 #[.pointer (some ⟨gb,0,none⟩)] w fun e w'=>e=.returned (.string (newest aa))∧In F0 w0 w' (pQ sb aa::R):=by
 obtain⟨a,c,h1⟩:=h.rO
 have hpos:0 < aa.length:=List.length_pos_iff.2 hne
 obtain⟨n,hn⟩:∃ n,aa.length=n+1:=⟨aa.length - 1,by omega⟩
 obtain⟨x,hx⟩:∃ x,aa[n]?=some x:=⟨aa[n]'(by omega),List.getElem?_eq_getElem _⟩
 have hnw:newest aa=ai x:=Jb (by rw [hn];exact hx)
 obtain⟨Fr,hr⟩:=h1.get 0 rfl
 obtain⟨g,rfl,cx⟩:=hr.at.2 n _ (Gd hx)
 have c0:w.cell? ⟨gb,0,none⟩=some (.pointer (some ⟨sb,0,none⟩)):=cell_of (h1.block (j+2) hj) rfl
 have c1:w.cell? ⟨sb,0,none⟩=some (.slice (some ⟨g,0,none⟩) aa.length c):=cell_of (h1.block 1 rfl) rfl
 rw [hn] at c1
 have hlen:aa.length≤100:=hs
 have q1:IntKind.i64.wrap (((n:Int)+1) - 1)=(n:Int):=by rw [IntWalk.i64_in _ (by omega)];omega
 have q2:(((n:Int)+1) - 1)=(n:Int):=by omega
 have q3:(n:Int) < (n:Int)+1:=by omega
 have q4:IntKind.i64.wrap (n:Int)=(n:Int):=IntWalk.i64_in _ (by omega)
 have HNW:=Lib.hid hnw
 have KN:=Lib.hid (nU ((h1.xw).drewN 1) x (hv x (List.mem_of_getElem? hx)))
 clear h h1 hr hx hnw hv hpos hne hn hlen hs
 go_enter Tryz.func180,Tryz.ntmps180
 go_wp2_with fail
 go_still_tail 10,(by kernel_rfl)
 change wpList _ _ _ _ _ w.drew
 go_wp2_with fail
 refine KN.out.mono ?_
 rintro e w1 ⟨rfl,g1⟩
 have G:=Lib.hid g1
 clear g1 KN
 go_wp2_with fail
 go_ret
 exact⟨by rw [HNW.out];rfl,G.out⟩
def gP (pn:Value) (lb bd sb hb:Nat) (l:bK) (s:ae×List Nat×Nat) (R:List az):List az:=yA pn lb bd l::bJ bd s.1::pQ sb s.2.1::Cells hb #[.int .i64 s.2.2] 3::R
theorem Gg {gb lx hb hv:Nat} {b:List UInt8} {A:Option Addr} {cA:Nat} (h:In F0 w0 w (gP pn lb bd sb hb l (d,aa,hv) R)) (j1 j2 j3:Nat) (hj1:R[j1]?=some (Cells gb #[.pointer (some ⟨sb,0,none⟩)] 145)) (hj2:R[j2]?=some (Cells lx #[aD lb] 28))
  (hB:R[j3]?=some (ay 5 1 (.slice A b.length cA) b.length (eD b))) (ho:d.ops≤99990000) (hb4:b.length≤5000) (hn:l.m.next≤1000000) :
  Calls Tryz.prog 179 #[.slice A b.length cA,.pointer (some ⟨gb,0,none⟩),.pointer (some ⟨lx,0,none⟩),.pointer (some ⟨hb,0,none⟩)] w fun e w'=>e=.returned (.int .i64 (dN l.m.next b (d,aa,hv)).2)∧In F0 w0 w' (gP pn lb bd sb hb l (dN l.m.next b (d,aa,hv)).1 R):=by
 have c0:w.cell? ⟨gb,0,none⟩=some (.pointer (some ⟨sb,0,none⟩)):=cell_of (h.block (j1+4) hj1) rfl
 obtain⟨a,c,h1⟩:=(h.aI (R1:=[_,_,_,_]) [2,0,1,3] (by decide) rfl).rO
 have c1:w.cell? ⟨sb,0,none⟩=some (.slice a aa.length c):=cell_of (h1.block 1 rfl) rfl
 by_cases h64:64≤aa.length
 ·have e:dN l.m.next b (d,aa,hv)=((d,aa,hv),4):=by unfold dN;rw [if_pos h64]
  have q1:(64:Int)≤(aa.length:Int):=Int.ofNat_le.2 h64
  have HE:=Lib.hid e
  have G:=Lib.hid h
  clear h h1 h64 ho hb4 hn e
  go_enter Tryz.func179,Tryz.ntmps179
  go_wp2_with fail
  go_ret
  exact⟨by rw [HE.out];rfl,by rw [HE.out];exact G.out⟩
 have q1:decide ((64:Int)≤(aa.length:Int))=false:=decide_eq_false (fun e=>h64 (Int.ofNat_le.1 e))
 have q1n:decide (64≤aa.length)=false:=decide_eq_false h64
 have c2:w.cell? ⟨lx,0,none⟩=some (aD lb):=cell_of (h.block (j2+4) hj2) rfl
 have c3:=h.Cy.lg3
 have hw1:IntKind.i64.wrap ((l.m.next:Int)+(aa.length:Int))=(l.m.next:Int)+(aa.length:Int):=IntWalk.i64_in _ (by omega)
 have hsm:l.m.next+aa.length < 4611686018427387904:=by omega
 have hND:dN l.m.next b (d,aa,hv)=(if (bF (ai (l.m.next+aa.length)) d).2≠0 then (((bF (ai (l.m.next+aa.length)) d).1,aa,hv),(bF (ai (l.m.next+aa.length)) d).2)
   else (((aH (bF (ai (l.m.next+aa.length)) d).1 (ai (l.m.next+aa.length)) b).1,aa++[l.m.next+aa.length],b.length),(aH (bF (ai (l.m.next+aa.length)) d).1 (ai (l.m.next+aa.length)) b).2)):=by
  unfold dN;rw [if_neg h64]
 have hcl:=kQ (ai (l.m.next+aa.length)) d
 obtain⟨x,hx⟩:∃ x,x=l.m.next+aa.length:=⟨_,rfl⟩
 have hxi:(l.m.next:Int)+(aa.length:Int)=(x:Int):=by omega
 rw [← hx] at hND hcl hsm
 rw [hxi] at hw1
 have KN:=Lib.hid (fun w' h'=>nU (w:=w') (F0:=F0) (w0:=w0) (R:=gP pn lb bd sb hb l (d,aa,hv) R) h' x hsm)
 have KC:=Lib.hid (fun w' h'=>zQ (w:=w') (F0:=F0) (w0:=w0) (R:=gP pn lb bd sb hb l (d,aa,hv) R) h' 1 rfl (Nat.le_trans ho (by decide)) (ai x) (df x))
 obtain⟨r1,hr1⟩:∃ r1,bF (ai x) d=r1:=⟨_,rfl⟩
 rw [hr1] at KC hND hcl
 obtain⟨d1,e1⟩:=r1
 simp only at KC hND hcl
 have Jq:Hid (d1.ops≤99999000):=Lib.hid (by omega)
 have XB:=Lib.hid (fun w' (h':In F0 w0 w' (gP pn lb bd sb hb l (d,aa,hv) R))=>h'.Cy.Ld)
 have za:=Lib.hid (fun w' d' (s':List Nat) (v':Nat) (h':In F0 w0 w' (gP pn lb bd sb hb l (d',s',v') R))=>And.intro (show w'.cell? ⟨lx,0,none⟩=some (aD lb) from cell_of (h'.block (j2+4) hj2) rfl) h'.Cy.Ld)
 have HLX:=Lib.hid (fun w' d' (h':In F0 w0 w' (gP pn lb bd sb hb l (d',aa,hv) R))=>And.intro (show w'.cell? ⟨gb,0,none⟩=some (.pointer (some ⟨sb,0,none⟩)) from cell_of (h'.block (j1+4) hj1) rfl) (And.intro (show w'.cell? ⟨lx,0,none⟩=some (aD lb) from cell_of (h'.block (j2+4) hj2) rfl) h'.Cy.Ld))
 have HH:=Lib.hid (fun n=>h.drewN n)
 have HSM:=Lib.hid hsm
 have aaN:Hid (aa.length+1≤64):=Lib.hid (by omega)
 have HB4:=Lib.hid hb4
 have Za:=Lib.hid hND
 have HXI:=Lib.hid hxi
 clear h1 h64 h hND hcl hr1 hx ho hb4 hn hsm
 go_enter Tryz.func179,Tryz.ntmps179
 go_wp2_with fail
 go_quiet (fail)
 clear c1
 have KN1:=Lib.hid (KN.out _ (HH.out (nq+1)))
 obtain⟨y0,y1,y2⟩:=HLX.out _ d (HH.out nq)
 clear c0 c2 c3 hw1
 go_wp2_with fail
 go_region_held3 (fun w'=>w'.cell? ⟨lx,0,none⟩=some (aD lb)∧w'.cell? ⟨lb,0,none⟩=some (aD bd)) (first | exact⟨hz1,hz2⟩ | exact⟨y1,y2⟩ | go_keep)
  (first
   | (go_at_call 65;refine KN1.out.mono ?_;rintro e w1 ⟨rfl,g1⟩;obtain⟨-,hz1,hz2⟩:=HLX.out w1 d g1;have K1:=Lib.hid (KC.out w1 g1);clear g1)
   | (go_at_call 144;refine K1.out.mono ?_;rintro e w2 ⟨rfl,g2⟩;obtain⟨hz0,hz1,hz2⟩:=HLX.out w2 d1 g2;have G2:=Lib.hid g2;clear g2))
 clear hz0 hz1 hz2 KN KN1 KC K1 XB HH y0 y1 y2
 by_cases he1:e1=0
 case neg=>
  have qe:(e1 != 0)=true:=by rw [bne_iff_ne];exact he1
  have HE:=Lib.hid Za.out
  have Ur:=Lib.hid he1
  clear he1
  go_wp2_with fail
  go_ret
  refine⟨by rw [HE.out,if_pos Ur.out];rfl,?_⟩
  rw [HE.out,if_pos Ur.out]
  exact G2.out
 have qe:(e1 != 0)=false:=by rw [he1];rfl
 have HE:Hid (dN l.m.next b (d,aa,hv)=(((aH d1 (ai x) b).1,aa++[x],b.length),(aH d1 (ai x) b).2)):=Lib.hid (by rw [Za.out,if_neg (by simp [he1])])
 clear he1 Za
 have KN2:=Lib.hid (fun w' s h'=>nU (w:=w') (F0:=F0) (w0:=w0) (R:=gP pn lb bd sb hb l (d1,s) R) h' x HSM.out)
 have KA:=Lib.hid (fun w' s h'=>uj (w:=w') (F0:=F0) (w0:=w0) (R:=gP pn lb bd sb hb l (d1,s) R) h' 1 rfl (Nat.le_trans Jq.out (by decide)) (ai x) (df x) (j3+4) (by omega) hB (Nat.le_trans HB4.out (by decide)))
 obtain⟨a2,c2',h2⟩:=(G2.out.aI (R1:=[_,_,_,_]) [2,0,1,3] (by decide) rfl).rO
 have d0:w2.cell? ⟨gb,0,none⟩=some (.pointer (some ⟨sb,0,none⟩)):=cell_of (G2.out.block (j1+4) hj1) rfl
 have d1':w2.cell? ⟨sb,0,none⟩=some (.slice a2 aa.length c2'):=cell_of (h2.block 1 rfl) rfl
 have H2:=Lib.hid h2
 clear h2
 go_wp2_with fail
 have g1:∀ o,(w2.alloc o).cell? ⟨sb,0,none⟩=some (.slice a2 aa.length c2'):=fun o=>cell_of ((H2.out.alloc o).block 1 rfl) rfl
 have g0:∀ o,(w2.alloc o).cell? ⟨gb,0,none⟩=some (.pointer (some ⟨sb,0,none⟩)):=fun o=>cell_of ((H2.out.alloc o).block (j1+5) hj1) rfl
 go_region_law
  (first
   | (refine mO rfl (R:=Cells _ _ 3::ay 3 1 (.slice a2 aa.length c2') aa.length (cz aa)::Cells sb #[.slice a2 aa.length c2'] 43::yA pn lb bd l::bJ bd d1::Cells hb #[.int .i64 hv] 3::R) (by exact (H2.out.drewN 1).cells _ _) 1 rfl (.tmp 36) (.tmp 38) 43 (by rfl) Tryz.underlying43 oO (by decide) (by decide) (by rfl) (by rfl) (by exact Src.of_block (((H2.out.drewN 1).cells _ _).block 0 rfl) rfl) (fun u hu=>by simp at hu;subst hu;rfl) (Nat.le_trans aaN.out (by decide)) ?_
      intro v1 w3 ho1 hg1
      have z0:w3.cell? ⟨gb,0,none⟩=some (.pointer (some ⟨sb,0,none⟩)):=cell_of (ho1.block (j1+6) hj1) rfl
      have z1:w3.cell? ⟨sb,0,none⟩=some (.slice a2 aa.length c2'):=cell_of (ho1.block 2 rfl) rfl
      have z2:w3.frozen? ⟨sb,0,none⟩=false:=aL (ho1.block 2 rfl)
      have z3:w3.cell? ⟨hb,0,none⟩=some (.int .i64 hv):=cell_of (ho1.block 5 rfl) rfl
      have z4:w3.frozen? ⟨hb,0,none⟩=false:=aL (ho1.block 5 rfl)
      obtain⟨F1,hr1⟩:=ho1.get 1 rfl
      obtain⟨a3,Lv,rfl,-,-,-⟩:=hr1.shape
      clear hr1
      have hp:=ho1.put 2 rfl 0 (.slice a3 (aa.length+1) Lv)
      have z5:(w3.setCell ⟨sb,0,none⟩ (.slice a3 (aa.length+1) Lv)).cell? ⟨hb,0,none⟩=some (.int .i64 hv):=cell_of (hp.block 5 rfl) rfl
      have z6:(w3.setCell ⟨sb,0,none⟩ (.slice a3 (aa.length+1) Lv)).frozen? ⟨hb,0,none⟩=false:=aL (hp.block 5 rfl)
      have HP:=Lib.hid hp
      clear ho1 hg1 hp))
 all_goals
  have hq:=HP.out.put 5 rfl 0 (.int .i64 (b.length:Int))
  have hr:In F0 w0 ((w3.setCell ⟨sb,0,none⟩ (.slice a3 (aa.length+1) Lv)).setCell ⟨hb,0,none⟩ (.int .i64 (b.length:Int))) (ay 3 1 (.slice a3 (aa++[x]).length Lv) (aa++[x]).length (cz (aa++[x]))::Cells sb #[.slice a3 (aa++[x]).length Lv] 43::yA pn lb bd l::bJ bd d1::Cells hb #[.int .i64 (b.length:Int)] 3::R):=by
   rw [show (aa++[x]).length=aa.length+1 by simp,show cz (aa++[x])=cz aa++[.int .i64 (x:Int)] by simp [cz]]
   exact hq.aI (R1:=[_,_,_,_,_,_]) [1,2,3,4,5] (by decide) rfl
  have hs:In F0 w0 ((w3.setCell ⟨sb,0,none⟩ (.slice a3 (aa.length+1) Lv)).setCell ⟨hb,0,none⟩ (.int .i64 (b.length:Int))) (gP pn lb bd sb hb l (d1,aa++[x],b.length) R):=hr.xw.aI (R1:=[_,_,_,_]) [1,2,0,3] (by decide) rfl
  clear hq hr z0 z1 z2 z3 z4 z5 z6 HP H2 g0 g1 d0 d1' hz1 hz2 G2
  have HS:=Lib.hid hs
  obtain⟨y0,y1⟩:=za.out _ d1 _ _ hs
  clear hs
  go_wp2_with fail
  go_region_held3 (fun w'=>w'.cell? ⟨lx,0,none⟩=some (aD lb)∧w'.cell? ⟨lb,0,none⟩=some (aD bd)) (first | exact⟨hz1,hz2⟩ | exact⟨y0,y1⟩ | go_keep)
   (first
    | (go_at_call 65;refine (KN2.out _ (aa++[x],b.length) (HS.out.drewN _)).mono ?_;rintro e w4 ⟨rfl,g1⟩;obtain⟨hz1,hz2⟩:=za.out w4 d1 _ _ g1;have K1:=Lib.hid (KA.out w4 _ g1);clear g1)
    | (go_at_call 77;refine K1.out.mono ?_;rintro e w5 ⟨rfl,g2⟩;obtain⟨hz1,hz2⟩:=za.out w5 (aH d1 (ai x) b).1 (aa++[x]) b.length g2;have G3:=Lib.hid g2;clear g2))
  all_goals
   go_wp2_with fail
   go_ret
   refine⟨by rw [HE.out];rfl,?_⟩
   rw [HE.out]
   exact G3.out
end
section
variable {F0:List Nat} {w0 w:World} {R:List az} {pn:Value} {bd lb sb:Nat} {d:ae} {l:bK} {aa:List Nat}
theorem VK {gb lx nb hb hv ty:Nat} (h:In F0 w0 w (gP pn lb bd sb hb l (d,aa,hv) R)) (j1 j2 j3:Nat) (hj1:R[j1]?=some (Cells gb #[.pointer (some ⟨sb,0,none⟩)] 145)) (hj2:R[j2]?=some (Cells lx #[aD lb] 28))
  (hj3:R[j3]?=some (Cells nb #[.func (.func 180) #[] #[.pointer (some ⟨gb,0,none⟩)]] ty)) (ho:d.ops≤99990000) (hne:aa≠[]) (hs:aa.length≤100) (hvv:∀ x∈aa,x < 4611686018427387904) :
  Calls Tryz.prog 181 #[.pointer (some ⟨lx,0,none⟩),.pointer (some ⟨nb,0,none⟩)] w fun e w'=>e=.returned (.int .i64 (aW d (newest aa)).2)∧In F0 w0 w' (gP pn lb bd sb hb l ((aW d (newest aa)).1,aa,hv) R):=by
 have za:=Lib.hid (fun w' d' (h':In F0 w0 w' (gP pn lb bd sb hb l (d',aa,hv) R))=>And.intro (show w'.cell? ⟨lx,0,none⟩=some (aD lb) from cell_of (h'.block (j2+4) hj2) rfl) (And.intro h'.Cy.Ld (show w'.cell? ⟨nb,0,none⟩=some (.func (.func 180) #[] #[.pointer (some ⟨gb,0,none⟩)]) from cell_of (h'.block (j3+4) hj3) rfl)))
 have KN:=Lib.hid (fun w' (h':In F0 w0 w' (gP pn lb bd sb hb l (d,aa,hv) R))=>Gf (h'.aI (R1:=[_,_,_,_]) [2,0,1,3] (by decide) rfl) (j1+3) hj1 hne hs hvv)
 have KA:=Lib.hid (fun w' (h':In F0 w0 w' (gP pn lb bd sb hb l (d,aa,hv) R))=>oU h' 1 rfl (Nat.le_trans ho (by decide)) (newest aa) (df _))
 obtain⟨y0,y1,y2⟩:=za.out _ d h
 have HH:=Lib.hid (fun n=>h.drewN n)
 clear h ho hne hs hvv
 go_enter Tryz.func181,Tryz.ntmps181
 go_wp2_with fail
 go_region_held3 (fun w'=>w'.cell? ⟨lx,0,none⟩=some (aD lb)∧w'.cell? ⟨lb,0,none⟩=some (aD bd)∧w'.cell? ⟨nb,0,none⟩=some (.func (.func 180) #[] #[.pointer (some ⟨gb,0,none⟩)])) (first | exact⟨hz1,hz2,hz3⟩ | exact⟨y0,y1,y2⟩ | go_keep)
  (first
   | (go_at_call 180;refine (KN.out _ (HH.out _)).mono ?_;rintro e w1 ⟨rfl,g1⟩;have g2:In F0 w0 w1 (gP pn lb bd sb hb l (d,aa,hv) R):=g1.aI (R1:=[_,_,_,_]) [1,2,0,3] (by decide) rfl;obtain⟨hz1,hz2,hz3⟩:=za.out w1 d g2;have K1:=Lib.hid (KA.out w1 g2);clear g1 g2)
   | (go_at_call 64;refine K1.out.mono ?_;rintro e w2 ⟨rfl,g3⟩;obtain⟨hz1,hz2,hz3⟩:=za.out w2 (aW d (newest aa)).1 g3;have G3:=Lib.hid g3;clear g3))
 all_goals
  go_wp2_with fail
  go_ret
  exact⟨rfl,G3.out⟩
end
section
variable {F0:List Nat} {w0 w:World} {R:List az} {pn:Value} {bd lb sb:Nat} {d:ae} {l:bK} {aa:List Nat}
theorem VL {gb lx nb bb hb hv ty Jr:Nat} {b:List UInt8} {A:Option Addr} {cA:Nat} (h:In F0 w0 w (gP pn lb bd sb hb l (d,aa,hv) R)) (j1 j2 j3 j4 j5:Nat) (hj1:R[j1]?=some (Cells gb #[.pointer (some ⟨sb,0,none⟩)] 145)) (hj2:R[j2]?=some (Cells lx #[aD lb] 28))
  (hB:R[j3]?=some (ay 5 1 (.slice A b.length cA) b.length (eD b))) (hj4:R[j4]?=some (Cells nb #[.func (.func 179) #[] #[.pointer (some ⟨gb,0,none⟩),.pointer (some ⟨lx,0,none⟩),.pointer (some ⟨hb,0,none⟩)]] ty)) (hj5:R[j5]?=some (Cells bb #[.slice A b.length cA] Jr))
  (ho:d.ops≤99990000) (hb4:b.length≤5000) (hn:l.m.next≤1000000) :
  Calls Tryz.prog 182 #[.pointer (some ⟨nb,0,none⟩),.pointer (some ⟨bb,0,none⟩)] w fun e w'=>e=.returned (.int .i64 (dN l.m.next b (d,aa,hv)).2)∧In F0 w0 w' (gP pn lb bd sb hb l (dN l.m.next b (d,aa,hv)).1 R):=by
 have y0:w.cell? ⟨nb,0,none⟩=some (.func (.func 179) #[] #[.pointer (some ⟨gb,0,none⟩),.pointer (some ⟨lx,0,none⟩),.pointer (some ⟨hb,0,none⟩)]):=cell_of (h.block (j4+4) hj4) rfl
 have y1:w.cell? ⟨bb,0,none⟩=some (.slice A b.length cA):=cell_of (h.block (j5+4) hj5) rfl
 have KN:=Lib.hid (Gg h j1 j2 j3 hj1 hj2 hB ho hb4 hn)
 clear h ho hb4 hn
 go_enter Tryz.func182,Tryz.ntmps182
 go_wp2_with fail
 refine KN.out.mono ?_
 rintro e w1 ⟨rfl,g1⟩
 have G:=Lib.hid g1
 clear g1 KN
 go_wp2_with fail
 go_ret
 exact⟨rfl,G.out⟩
end
def bodB:List Value→List (List UInt8)→List az
 | v::vs,b::bs=>ay 5 1 v b.length (eD b)::bodB vs bs
 | _,_=>[]
theorem MK:∀ {vs:List Value} {bs:List (List UInt8)} {R:List az} {k:Nat} {v:Value} {b:List UInt8},vs[k]?=some v→bs[k]?=some b→(bodB vs bs++R)[k]?=some (ay 5 1 v b.length (eD b))
 | [],_,_,_,_,_,h,_=>by simp at h
 | _::_,[],_,_,_,_,_,h=>by simp at h
 | v::vs,b::bs,R,0,_,_,h1,h2=>by simp at h1 h2;subst h1 h2;rfl
 | v::vs,b::bs,R,k+1,_,_,h1,h2=>by
  simp only [bodB,List.cons_append,List.getElem?_cons_succ]
  exact MK (by simpa using h1) (by simpa using h2)
abbrev Gh:=ae×List Nat×Nat
theorem yB (l:bK):∀ (xs ys:List (List UInt8)) (s:Gh),rowsD l (xs++ys) s=bR (rowsD l xs s) (rowsD l ys)
 | [],ys,s=>by
  have e:rowsD l [] s=(s,0):=rfl
  rw [List.nil_append,e,aV rfl]
 | x::xs,ys,s=>by
  have e1:rowsD l (x::(xs++ys)) s=bR (jh l x s) (rowsD l (xs++ys)):=rfl
  have e2:rowsD l (x::xs) s=bR (jh l x s) (rowsD l xs):=rfl
  rw [List.cons_append,e1,e2]
  by_cases h:(jh l x s).2=0
  ·rw [aV h,aV h,yB l xs ys]
  ·rw [bz h,bz h,bz h]
theorem OG (l:bK) (x:List UInt8) (s:Gh):rowsD l [x] s=jh l x s:=by
 have e:rowsD l [x] s=bR (jh l x s) (rowsD l []):=rfl
 rw [e]
 by_cases h:(jh l x s).2=0
 ·rw [aV h];exact Prod.ext rfl h.symm
 ·rw [bz h]
theorem zb (d:ae) (n:ByteArray) (b:List UInt8):(aH d n b).1.ops≤d.ops+1:=by have:=(Ex d n n b 0).1;omega
structure WM (l:bK) (d0:ae) (k:Nat) (s:Gh):Prop where
 ops:s.1.ops≤d0.ops+3 * k
 len:s.2.1.length≤64
 lt:∀ x∈s.2.1,x < l.m.next+64
 have':s.2.2≤5000 * k
theorem uu {nx:Nat} {b:List UInt8} {s:Gh} (h1:s.2.1.length≤64) (h2:∀ x∈s.2.1,x < nx+64) :
  (dN nx b s).1.1.ops≤s.1.ops+2∧(dN nx b s).1.2.1.length≤64∧(∀ x∈(dN nx b s).1.2.1,x < nx+64)∧((dN nx b s).1.2.2≤s.2.2∨(dN nx b s).1.2.2≤b.length)∧((dN nx b s).2=0→(dN nx b s).1.2.1≠[]):=by
 have c1:=kQ (ai (nx+s.2.1.length)) s.1
 unfold dN
 split
 ·exact⟨by simp only;omega,h1,h2,Or.inl (Nat.le_refl _),fun h=>by simp at h⟩
 split
 ·rename_i h64 hc
  exact⟨by simp only;omega,h1,h2,Or.inl (Nat.le_refl _),fun h=>absurd h hc⟩
 ·rename_i h64 hc
  have c2:=zb (bF (ai (nx+s.2.1.length)) s.1).1 (ai (nx+s.2.1.length)) b
  refine⟨by simp only;omega,by simp;omega,fun x hx=>?_,Or.inr (Nat.le_refl _),fun _=>by simp⟩
  rcases List.mem_append.1 hx with hx | hx
  ·exact h2 x hx
  ·simp at hx;omega
theorem WM.row {l:bK} {d0:ae} {k:Nat} {s:Gh} (h:WM l d0 k s) {b:List UInt8} (hb:b.length≤5000):WM l d0 (k+1) (jh l b s).1:=by
 obtain⟨h1,h2,h3,h4⟩:=h
 unfold jh
 split
 ·obtain⟨n1,n2,n3,n4,_⟩:=uu (b:=b) h2 h3
  exact⟨by omega,n2,n3,by omega⟩
 split
 ·have c2:=zb s.1 (newest s.2.1) b
  exact⟨by simp only;omega,h2,h3,by simp only;omega⟩
 ·have c1:=fZ s.1 (newest s.2.1)
  by_cases h:(aW s.1 (newest s.2.1)).2=0
  ·rw [aV (r:=(((aW s.1 (newest s.2.1)).1,s.2),(aW s.1 (newest s.2.1)).2)) h]
   obtain⟨n1,n2,n3,n4,_⟩:=uu (nx:=l.m.next) (b:=b) (s:=((aW s.1 (newest s.2.1)).1,s.2)) h2 h3
   simp only at n1 n4
   show WM l d0 (k+1) (dN l.m.next b ((aW s.1 (newest s.2.1)).1,s.2)).1
   exact⟨by omega,n2,n3,by omega⟩
  ·rw [bz (r:=(((aW s.1 (newest s.2.1)).1,s.2),(aW s.1 (newest s.2.1)).2)) h]
   exact⟨by simp only;omega,h2,h3,by simp only;omega⟩
def nG (s:Gh):Gh×Int:=(((aW s.1 (newest s.2.1)).1,s.2),(aW s.1 (newest s.2.1)).2)
theorem SY {l:bK} {bs:List (List UInt8)} {d:ae} (h:(rowsD l bs (d,[],0)).2≠0):fH l bs d=rowsD l bs (d,[],0):=by
 unfold fH
 rw [bz h,bz h]
theorem OH {l:bK} {bs:List (List UInt8)} {d:ae} {s:Gh} (h:rowsD l bs (d,[],0)=(s,0)) (hs:s.2.1≠[]):fH l bs d=nG s:=by
 unfold fH
 rw [h,aV (r:=(s,0)) rfl]
 simp only
 rw [if_neg hs,aV (r:=(s,0)) rfl];rfl
theorem Ta {l:bK} {bs:List (List UInt8)} {d:ae} {s:Gh} (h:rowsD l bs (d,[],0)=(s,0)) (hs:s.2.1=[]):fH l bs d=bR (dN l.m.next [] s) nG:=by
 unfold fH
 rw [h,aV (r:=(s,0)) rfl]
 simp only
 rw [if_pos hs];rfl
section
variable {F0:List Nat} {w0 w:World} {R:List az} {pn:Value} {bd lb sb:Nat} {d:ae} {l:bK}
def WN (gb lx hb:Nat):Value:=.func (.func 179) #[] #[.pointer (some ⟨gb,0,none⟩),.pointer (some ⟨lx,0,none⟩),.pointer (some ⟨hb,0,none⟩)]
def TQ (gb:Nat):Value:=.func (.func 180) #[] #[.pointer (some ⟨gb,0,none⟩)]
theorem VM {fb lx gb hb nx nm bb:Nat} {s:Gh} {x:List UInt8} {A:Option Addr} {cA ty:Nat} (hs:s.2.1≠[]) (h1:s.1.ops≤99980000) (h2:s.2.1.length≤64) (h3:∀ y∈s.2.1,y < l.m.next+64) (hn:l.m.next≤1000000) (hx:x.length≤5000) {Q:List az}
  (jg jl jm jn jb jx:Nat) (hg:Q[jg]?=some (Cells gb #[.pointer (some ⟨sb,0,none⟩)] 145)) (hl:Q[jl]?=some (Cells lx #[aD lb] 28)) (hm:Q[jm]?=some (Cells nm #[TQ gb] 125)) (hnn:Q[jn]?=some (Cells nx #[WN gb lx hb] 234)) (hb':Q[jb]?=some (Cells bb #[.slice A x.length cA] 23)) (hxx:Q[jx]?=some (ay 5 1 (.slice A x.length cA) x.length (eD x)))
  (fs:List (FuncId×Array Value)) (hfs:fs=[(181,#[.pointer (some ⟨lx,0,none⟩),.pointer (some ⟨nm,0,none⟩)]),(182,#[.pointer (some ⟨nx,0,none⟩),.pointer (some ⟨bb,0,none⟩)])])
  (h:In F0 w0 w (Cells fb (fs.map ED).toArray ty::gP pn lb bd sb hb l s Q)) :
  Calls Tryz.prog 60 #[.slice (some ⟨fb,0,none⟩) 2 2] w fun e w'=>e=.returned (.int .i64 (bR (nG s) (dN l.m.next x)).2)∧In F0 w0 w' (gP pn lb bd sb hb l (bR (nG s) (dN l.m.next x)).1 Q):=by
 have lV:∀ args w',(callFunc 181 args).run Tryz.prog w'=.ok (.enter 181 args) w':=enters_of Tryz.func181 (by kernel_rfl) rfl
 have lW:∀ args w',(callFunc 182 args).run Tryz.prog w'=.ok (.enter 182 args) w':=enters_of Tryz.func182 (by kernel_rfl) rfl
 have hlen:fs.length=2:=by rw [hfs];rfl
 have key:=AQ (F0:=F0) (w0:=w0) (w:=w) (fun k (t:Gh)=>(k=0→t=s)∧(k=1→t.1.ops≤99980001∧t.2=s.2)) (fun t=>gP pn lb bd sb hb l t Q) fb ty [nG,dN l.m.next x] fs (by rw [hlen];rfl) (by omega) s 2
  ⟨fun _=>rfl,fun h=>by omega⟩ (fun k f hf t hI=>by
   refine⟨fun h=>by omega,fun h=>?_⟩
   obtain rfl:k=0:=by omega
   cases hf
   obtain rfl:=hI.1 rfl
   have:=fZ t.1 (newest t.2.1)
   exact⟨by show (aW t.1 (newest t.2.1)).1.ops≤_;omega,rfl⟩)
  (fun f hf=>by
   rw [hfs] at hf
   simp only [List.mem_cons,List.not_mem_nil,or_false] at hf
   rcases hf with rfl | rfl
   ·exact lV
   ·exact lW)
  (fun k f g hf hgg w' t hI h'=>by
   rw [hfs] at hf
   rcases k with _ | _ | k
   ·obtain rfl:=hI.1 rfl
    cases hf;cases hgg
    obtain⟨t1,t2,t3⟩:=t
    have:=VK (F0:=F0) (w0:=w0) (d:=t1) (aa:=t2) (hv:=t3) (R:=Cells fb (fs.map ED).toArray ty::Q) (h'.aI (R1:=[_,_,_,_,_]) [1,2,3,4,0] (by decide) rfl) (gb:=gb) (lx:=lx) (nb:=nm) (jg+1) (jl+1) (jm+1) hg hl hm (by simp only at h1;omega) hs (by simp only at h2;omega) (fun y hy=>by have:=h3 y hy;omega)
    exact this.mono fun e w'' ⟨he,hw⟩=>⟨he,hw.aI (R1:=[_,_,_,_,_]) [4,0,1,2,3] (by decide) rfl⟩
   ·obtain⟨i1,i2⟩:=hI.2 rfl
    cases hf;cases hgg
    obtain⟨t1,t2,t3⟩:=t
    have:=VL (F0:=F0) (w0:=w0) (d:=t1) (aa:=t2) (hv:=t3) (b:=x) (A:=A) (cA:=cA) (R:=Cells fb (fs.map ED).toArray ty::Q) (h'.aI (R1:=[_,_,_,_,_]) [1,2,3,4,0] (by decide) rfl) (gb:=gb) (lx:=lx) (nb:=nx) (bb:=bb) (jg+1) (jl+1) (jx+1) (jn+1) (jb+1) hg hl hxx hnn hb' (by simp only at i1;omega) hx hn
    exact this.mono fun e w'' ⟨he,hw⟩=>⟨he,hw.aI (R1:=[_,_,_,_,_]) [4,0,1,2,3] (by decide) rfl⟩
   ·simp at hf) h
 rw [hlen] at key
 exact key.mono fun e w' ⟨he,hw⟩=>⟨he,hw.drop⟩
end
end Go.Proofs.YtogclkhpbjfadaaGreat
