/- .. -/
import Derived.Test.YtanhdliaaccacaaGreatUB33
import Derived.StillTailTactics
import Derived.Deep.RegionHeld3
import Derived.Deep.DeepCutAuto
import Derived.Deep.AppendLies
namespace Go.Proofs.YtanhdliaaccacaaGreat
open Go.RowKit
set_option linter.unusedVariables false
set_option maxHeartbeats 64000000
set_option maxRecDepth 100000
section
variable {F0:List Nat} {w0 w:World} {R:List ax} {pn:Value} {bd lb:Nat} {d:ae} {l:bI}
def mJ (pn:Value) (lb bd:Nat) (m:cZ) (A:Option Addr) (c:Nat) (s:DL) (F0:List Nat) (w0:World) (R:List ax) (e:Ending) (w':World):Prop:=
 e=.returned (.tuple #[.bool (dD m s).2.1,.int .i64 (dD m s).2.2])∧((dD m s).2.1=true→In F0 w0 w' (eH lb bd (dD m s).1.2::bJ bd (dD m s).1.1::ay 3 1 pn s.2.m.aa.length (cB s.2.m.aa)::R)) ∧
  ((dD m s).2.1=false→In F0 w0 w' (yD pn lb bd s.2::bJ bd (dD m s).1.1::mf A c m.aa::R))
theorem Ta (m:cZ) {A:Option Addr} {c:Nat} (h:In F0 w0 w (yD pn lb bd l::bJ bd d::mf A c m.aa::R)) (ho:d.ops≤99999990) (hn:m.aa.length≤1000000000) :
  Calls Tryz.prog 183 #[aF lb,iJ m A c] w (mJ pn lb bd m A c (d,l) F0 w0 R):=by
 have h1:=h.VL
 have h2:=h1.cells #[.int .i64 m.ak,.int .i64 m.next,.slice A m.aa.length c] 190
 have HW:Hid (∀ w',In F0 w0 w' (Cells w.heap.size #[.int .i64 m.ak,.int .i64 m.next,.slice A m.aa.length c] 190::ay 3 1 pn l.m.aa.length (cB l.m.aa)::Cells lb (xu bd l pn) 197::bJ bd (aG m d).1::mf A c m.aa::R) →
   (w'.cell? ⟨lb,0,none⟩=some (aF bd)∧w'.cell? ⟨w.heap.size,0,none⟩=some (.int .i64 m.ak)∧w'.cell? ⟨w.heap.size,1,none⟩=some (.int .i64 m.next)∧w'.cell? ⟨w.heap.size,2,none⟩=some (.slice A m.aa.length c)) ∧
   (w'.frozen? ⟨lb,2,none⟩=false∧w'.frozen? ⟨lb,3,none⟩=false∧w'.frozen? ⟨lb,4,none⟩=false∧w'.frozen? ⟨lb,5,none⟩=false ∧
    ∃ x2 x3 x4 x5,w'.cell? ⟨lb,2,none⟩=some x2∧w'.cell? ⟨lb,3,none⟩=some x3∧w'.cell? ⟨lb,4,none⟩=some x4∧w'.cell? ⟨lb,5,none⟩=some x5)):=Lib.hid fun w' h'=>
  ⟨⟨cell_of (h'.block 2 rfl) rfl,cell_of (h'.block 0 rfl) rfl,cell_of (h'.block 0 rfl) rfl,cell_of (h'.block 0 rfl) rfl⟩,aK (h'.block 2 rfl),aK (h'.block 2 rfl),aK (h'.block 2 rfl),aK (h'.block 2 rfl),_,_,_,_,cell_of (h'.block 2 rfl) rfl,cell_of (h'.block 2 rfl) rfl,cell_of (h'.block 2 rfl) rfl,cell_of (h'.block 2 rfl) rfl⟩
 have zq:Hid ((w.alloc (.cells #[.int .i64 m.ak,.int .i64 m.next,.slice A m.aa.length c] 190)).cell? ⟨lb,0,none⟩=some (aF bd)∧(w.alloc (.cells #[.int .i64 m.ak,.int .i64 m.next,.slice A m.aa.length c] 190)).cell? ⟨w.heap.size,0,none⟩=some (.int .i64 m.ak)∧(w.alloc (.cells #[.int .i64 m.ak,.int .i64 m.next,.slice A m.aa.length c] 190)).cell? ⟨w.heap.size,1,none⟩=some (.int .i64 m.next)∧(w.alloc (.cells #[.int .i64 m.ak,.int .i64 m.next,.slice A m.aa.length c] 190)).cell? ⟨w.heap.size,2,none⟩=some (.slice A m.aa.length c)):=Lib.hid
  ⟨cell_of (h2.block 2 rfl) rfl,cell_of (h2.block 0 rfl) rfl,cell_of (h2.block 0 rfl) rfl,cell_of (h2.block 0 rfl) rfl⟩
 have C:=Lib.hid (fun n=>BJ (h2.drewN n) 3 rfl ho m (A:=A) (c:=c) (fun w' h'=>by obtain⟨F',r'⟩:=h'.get 4 rfl;exact r'.all) hn)
 have HQ:Hid (dD m (d,l)=(((aG m d).1,if (aG m d).2.1 then { l with m:=m,loose:=decide ((aG m d).2.2≠0) } else l),(aG m d).2.1,(aG m d).2.2)):=Lib.hid rfl
 have HT:Hid (∀ w',In F0 w0 w' (Cells w.heap.size #[.int .i64 m.ak,.int .i64 m.next,.slice A m.aa.length c] 190::ay 3 1 pn l.m.aa.length (cB l.m.aa)::Cells lb (xu bd l pn) 197::bJ bd (aG m d).1::mf A c m.aa::R) →
   In F0 w0 ((((w'.setCell ⟨lb,2,none⟩ (.int .i64 m.ak)).setCell ⟨lb,3,none⟩ (.int .i64 m.next)).setCell ⟨lb,4,none⟩ (.slice A m.aa.length c)).setCell ⟨lb,5,none⟩ (.bool ((aG m d).2.2 != 0)))
    (eH lb bd { l with m:=m,loose:=decide ((aG m d).2.2≠0) }::bJ bd (aG m d).1::ay 3 1 pn l.m.aa.length (cB l.m.aa)::R)):=Lib.hid fun w' h'=>by
  have e:((aG m d).2.2 != 0)=decide ((aG m d).2.2≠0):=by simp [bne,Bool.beq_eq_decide_eq]
  have g:=(((h'.put (b:=lb) 2 rfl 2 (.int .i64 m.ak)).put (b:=lb) 2 rfl 3 (.int .i64 m.next)).put (b:=lb) 2 rfl 4 (.slice A m.aa.length c)).put (b:=lb) 2 rfl 5 (.bool ((aG m d).2.2 != 0))
  have g2:=g.aL (R1:=[_,_,_,_,_]) [4,2,3,1] (by decide) rfl
  refine In.nL (l':={ l with m:=m,loose:=decide ((aG m d).2.2≠0) }) (v:=.slice A m.aa.length c) ?_
  unfold xu
  rw [← e]
  exact g2
 have HN:Hid (∀ w',In F0 w0 w' (Cells w.heap.size #[.int .i64 m.ak,.int .i64 m.next,.slice A m.aa.length c] 190::ay 3 1 pn l.m.aa.length (cB l.m.aa)::Cells lb (xu bd l pn) 197::bJ bd (aG m d).1::mf A c m.aa::R) →
   In F0 w0 w' (yD pn lb bd l::bJ bd (aG m d).1::mf A c m.aa::R)):=Lib.hid fun w' h'=>h'.drop.Ji
 unfold iJ at C ⊢
 clear h h1 h2 hn ho
 cases hq:(aG m d).2.1 with
 | true=>
  have HF:Hid (∀ w',In F0 w0 w' (eH lb bd { l with m:=m,loose:=decide ((aG m d).2.2≠0) }::bJ bd (aG m d).1::ay 3 1 pn l.m.aa.length (cB l.m.aa)::R)→mJ pn lb bd m A c (d,l) F0 w0 R (.returned (.tuple #[.bool true,.int .i64 (aG m d).2.2])) w'):=Lib.hid fun w' h'=>by
   unfold mJ
   rw [HQ.out,hq]
   exact⟨rfl,fun _=>h',fun e=>by cases e⟩
  rw [hq] at C
  clear HQ HN hq
  go_enter Tryz.func183,Tryz.ntmps183
  go_wp2_with fail
  go_region_held3 (fun w'=>w'.cell? ⟨lb,0,none⟩=some (aF bd)∧w'.cell? ⟨w.heap.size,0,none⟩=some (.int .i64 m.ak)∧w'.cell? ⟨w.heap.size,1,none⟩=some (.int .i64 m.next)∧w'.cell? ⟨w.heap.size,2,none⟩=some (.slice A m.aa.length c)) (first | exact zq.out | exact hc1) (first | (go_at_call 125;refine (C.out 1).mono ?_;rintro e w1 ⟨rfl,g1⟩;obtain⟨hc1,f2,f3,f4,f5,x2,x3,x4,x5,d2,d3,d4,d5⟩:=HW.out w1 g1;have G:=Lib.hid (HF.out _ (HT.out w1 g1));clear g1))
  go_wp2_with fail
  go_ret2
  exact G.out
 | false=>
  have HF:Hid (∀ w',In F0 w0 w' (yD pn lb bd l::bJ bd (aG m d).1::mf A c m.aa::R)→mJ pn lb bd m A c (d,l) F0 w0 R (.returned (.tuple #[.bool false,.int .i64 (aG m d).2.2])) w'):=Lib.hid fun w' h'=>by
   unfold mJ
   rw [HQ.out,hq]
   exact⟨rfl,fun e=>(by cases e),fun _=>h'⟩
  rw [hq] at C
  clear HQ HT hq
  go_enter Tryz.func183,Tryz.ntmps183
  go_wp2_with fail
  go_region_held3 (fun w'=>w'.cell? ⟨lb,0,none⟩=some (aF bd)∧w'.cell? ⟨w.heap.size,0,none⟩=some (.int .i64 m.ak)∧w'.cell? ⟨w.heap.size,1,none⟩=some (.int .i64 m.next)∧w'.cell? ⟨w.heap.size,2,none⟩=some (.slice A m.aa.length c)) (first | exact zq.out | exact hc1) (first | (go_at_call 125;refine (C.out 1).mono ?_;rintro e w1 ⟨rfl,g1⟩;obtain⟨hc1,-⟩:=HW.out w1 g1;have G:=Lib.hid (HF.out _ (HN.out w1 g1));clear g1))
  go_wp2_with fail
  go_ret2
  exact G.out
end
def pO (sb:Nat) (aa:List Nat):ax:=fun w F=>∃ v,Star [Cells sb #[v] 104,ay 3 1 v aa.length (cB aa)] w F
theorem tT (sb:Nat) (aa:List Nat) (v:Value):∀ A∈[Cells sb #[v] 104,ay 3 1 v aa.length (cB aa)],bD A:=by
 intro A hA
 simp only [List.mem_cons,List.not_mem_nil,or_false] at hA
 rcases hA with rfl | rfl
 ·exact Cells.aB _ _ _
 ·exact ay.aB _ _ _ _ _
theorem pO.aB (sb:Nat) (aa:List Nat):bD (pO sb aa):=
 ⟨fun ⟨v,h⟩ hk=>⟨v,(bD.star (tT sb aa v)).keep h hk⟩,fun ⟨v,h⟩=>(bD.star (tT sb aa v)).lt h⟩
section
variable {F0:List Nat} {w0 w:World} {R:List ax} {pn:Value} {bd lb sb:Nat} {d:ae} {l:bI} {aa:List Nat}
theorem In.rQ (h:In F0 w0 w (pO sb aa::R)):∃ a c,In F0 w0 w (ay 3 1 (.slice a aa.length c) aa.length (cB aa)::Cells sb #[.slice a aa.length c] 104::R):=by
 obtain⟨v,h1⟩:=h.ex (G:=fun v=>Star [Cells sb #[v] 104,ay 3 1 v aa.length (cB aa)]) 0 rfl (fun v=>bD.star (tT sb aa v))
 have h2:=h1.split (A:=Cells sb #[v] 104) (B:=ay 3 1 v aa.length (cB aa)) 0 rfl (Cells.aB _ _ _) (ay.aB _ _ _ _ _)
 obtain⟨F,hF⟩:=h2.get 0 rfl
 obtain⟨a,c,rfl,-,-,-⟩:=hF.shape
 exact⟨a,c,h2⟩
theorem In.xz {v:Value} (h:In F0 w0 w (ay 3 1 v aa.length (cB aa)::Cells sb #[v] 104::R)):In F0 w0 w (pO sb aa::R):=
 h.fold (C:=pO sb aa) 0 rfl (pO.aB _ _) (fun F hF=>⟨v,hF⟩)
theorem Jj {x:Nat} (h:aa[aa.length - 1]?=some x):newest aa=ai x:=by
 unfold newest
 rw [List.getLastD_eq_getLast?,List.getLast?_eq_getElem?,h];rfl
theorem Gf {gb:Nat} (h:In F0 w0 w (pO sb aa::R)) (j:Nat) (hj:R[j]?=some (Cells gb #[.pointer (some ⟨sb,0,none⟩)] 232)) (hne:aa≠[]) (hs:aa.length≤100) (hv:∀ x∈aa,x < 4611686018427387904) :
  Calls Tryz.prog 230 #[.pointer (some ⟨gb,0,none⟩)] w fun e w'=>e=.returned (.string (newest aa))∧In F0 w0 w' (pO sb aa::R):=by
 obtain⟨a,c,h1⟩:=h.rQ
 have hpos:0 < aa.length:=List.length_pos_iff.2 hne
 obtain⟨n,hn⟩:∃ n,aa.length=n+1:=⟨aa.length - 1,by omega⟩
 obtain⟨x,hx⟩:∃ x,aa[n]?=some x:=⟨aa[n]'(by omega),List.getElem?_eq_getElem _⟩
 have hnw:newest aa=ai x:=Jj (by rw [hn];exact hx)
 obtain⟨Fr,hr⟩:=h1.get 0 rfl
 obtain⟨g,rfl,cx⟩:=hr.at.2 n _ (Gd hx)
 have c0:w.cell? ⟨gb,0,none⟩=some (.pointer (some ⟨sb,0,none⟩)):=cell_of (h1.block (j+2) hj) rfl
 have c1:w.cell? ⟨sb,0,none⟩=some (.slice (some ⟨g,0,none⟩) aa.length c):=cell_of (h1.block 1 rfl) rfl
 rw [hn] at c1
 have hlen:aa.length≤100:=hs
 have q1:IntKind.i64.wrap (((n:Int)+1) - 1)=(n:Int):=by rw [IntWalk.i64_in _ (by omega)];omega
 have q2:(((n:Int)+1) - 1)=(n:Int):=by omega
 have q3:(n:Int) < (n:Int)+1:=by omega
 have q4:IntKind.i64.wrap (n:Int)=(n:Int):=IntWalk.i64_in _ (by omega)
 have HNW:=Lib.hid hnw
 have KN:=Lib.hid (pF ((h1.xz).drewN 1) x (hv x (List.mem_of_getElem? hx)))
 clear h h1 hr hx hnw hv hpos hne hn hlen hs
 go_enter Tryz.func230,Tryz.ntmps230
 go_wp2_with fail
 go_still_tail 10,(by kernel_rfl)
 change wpList _ _ _ _ _ w.drew
 go_wp2_with fail
 refine KN.out.mono ?_
 rintro e w1 ⟨rfl,g1⟩
 have G:=Lib.hid g1
 clear g1 KN
 go_wp2_with fail
 go_ret
 exact⟨by rw [HNW.out];rfl,G.out⟩
def gT (pn:Value) (lb bd sb hb:Nat) (l:bI) (s:ae×List Nat×Nat) (R:List ax):List ax:=yD pn lb bd l::bJ bd s.1::pO sb s.2.1::Cells hb #[.int .i64 s.2.2] 3::R
theorem Gg {gb lx hb hv:Nat} {b:List UInt8} {A:Option Addr} {cA:Nat} (h:In F0 w0 w (gT pn lb bd sb hb l (d,aa,hv) R)) (j1 j2 j3:Nat) (hj1:R[j1]?=some (Cells gb #[.pointer (some ⟨sb,0,none⟩)] 232)) (hj2:R[j2]?=some (Cells lx #[aF lb] 94))
  (hB:R[j3]?=some (ay 5 1 (.slice A b.length cA) b.length (eB b))) (ho:d.ops≤99990000) (hb4:b.length≤5000) (hn:l.m.next≤1000000) :
  Calls Tryz.prog 229 #[.slice A b.length cA,.pointer (some ⟨gb,0,none⟩),.pointer (some ⟨lx,0,none⟩),.pointer (some ⟨hb,0,none⟩)] w fun e w'=>e=.returned (.int .i64 (dL l.m.next b (d,aa,hv)).2)∧In F0 w0 w' (gT pn lb bd sb hb l (dL l.m.next b (d,aa,hv)).1 R):=by
 have c0:w.cell? ⟨gb,0,none⟩=some (.pointer (some ⟨sb,0,none⟩)):=cell_of (h.block (j1+4) hj1) rfl
 obtain⟨a,c,h1⟩:=(h.aL (R1:=[_,_,_,_]) [2,0,1,3] (by decide) rfl).rQ
 have c1:w.cell? ⟨sb,0,none⟩=some (.slice a aa.length c):=cell_of (h1.block 1 rfl) rfl
 by_cases h64:64≤aa.length
 ·have e:dL l.m.next b (d,aa,hv)=((d,aa,hv),4):=by unfold dL;rw [if_pos h64]
  have q1:(64:Int)≤(aa.length:Int):=Int.ofNat_le.2 h64
  have HE:=Lib.hid e
  have G:=Lib.hid h
  clear h h1 h64 ho hb4 hn e
  go_enter Tryz.func229,Tryz.ntmps229
  go_wp2_with fail
  go_ret
  exact⟨by rw [HE.out];rfl,by rw [HE.out];exact G.out⟩
 have q1:decide ((64:Int)≤(aa.length:Int))=false:=decide_eq_false (fun e=>h64 (Int.ofNat_le.1 e))
 have q1n:decide (64≤aa.length)=false:=decide_eq_false h64
 have c2:w.cell? ⟨lx,0,none⟩=some (aF lb):=cell_of (h.block (j2+4) hj2) rfl
 have c3:=h.Cv.lg3
 have hw1:IntKind.i64.wrap ((l.m.next:Int)+(aa.length:Int))=(l.m.next:Int)+(aa.length:Int):=IntWalk.i64_in _ (by omega)
 have hsm:l.m.next+aa.length < 4611686018427387904:=by omega
 have hND:dL l.m.next b (d,aa,hv)=(if (bH (ai (l.m.next+aa.length)) d).2≠0 then (((bH (ai (l.m.next+aa.length)) d).1,aa,hv),(bH (ai (l.m.next+aa.length)) d).2)
   else (((aI (bH (ai (l.m.next+aa.length)) d).1 (ai (l.m.next+aa.length)) b).1,aa++[l.m.next+aa.length],b.length),(aI (bH (ai (l.m.next+aa.length)) d).1 (ai (l.m.next+aa.length)) b).2)):=by
  unfold dL;rw [if_neg h64]
 have hcl:=kN (ai (l.m.next+aa.length)) d
 obtain⟨x,hx⟩:∃ x,x=l.m.next+aa.length:=⟨_,rfl⟩
 have hxi:(l.m.next:Int)+(aa.length:Int)=(x:Int):=by omega
 rw [← hx] at hND hcl hsm
 rw [hxi] at hw1
 have KN:=Lib.hid (fun w' h'=>pF (w:=w') (F0:=F0) (w0:=w0) (R:=gT pn lb bd sb hb l (d,aa,hv) R) h' x hsm)
 have KC:=Lib.hid (fun w' h'=>zR (w:=w') (F0:=F0) (w0:=w0) (R:=gT pn lb bd sb hb l (d,aa,hv) R) h' 1 rfl (Nat.le_trans ho (by decide)) (ai x) (dx x))
 obtain⟨r1,hr1⟩:∃ r1,bH (ai x) d=r1:=⟨_,rfl⟩
 rw [hr1] at KC hND hcl
 obtain⟨d1,e1⟩:=r1
 simp only at KC hND hcl
 have Jy:Hid (d1.ops≤99999000):=Lib.hid (by omega)
 have XD:=Lib.hid (fun w' (h':In F0 w0 w' (gT pn lb bd sb hb l (d,aa,hv) R))=>h'.Cv.Lt)
 have zb:=Lib.hid (fun w' d' (s':List Nat) (v':Nat) (h':In F0 w0 w' (gT pn lb bd sb hb l (d',s',v') R))=>And.intro (show w'.cell? ⟨lx,0,none⟩=some (aF lb) from cell_of (h'.block (j2+4) hj2) rfl) h'.Cv.Lt)
 have HLX:=Lib.hid (fun w' d' (h':In F0 w0 w' (gT pn lb bd sb hb l (d',aa,hv) R))=>And.intro (show w'.cell? ⟨gb,0,none⟩=some (.pointer (some ⟨sb,0,none⟩)) from cell_of (h'.block (j1+4) hj1) rfl) (And.intro (show w'.cell? ⟨lx,0,none⟩=some (aF lb) from cell_of (h'.block (j2+4) hj2) rfl) h'.Cv.Lt))
 have HH:=Lib.hid (fun n=>h.drewN n)
 have HSM:=Lib.hid hsm
 have aa6:Hid (aa.length+1≤64):=Lib.hid (by omega)
 have HB4:=Lib.hid hb4
 have Zp:=Lib.hid hND
 have HXI:=Lib.hid hxi
 clear h1 h64 h hND hcl hr1 hx ho hb4 hn hsm
 go_enter Tryz.func229,Tryz.ntmps229
 go_wp2_with fail
 go_quiet (fail)
 clear c1
 have KN1:=Lib.hid (KN.out _ (HH.out (nq+1)))
 obtain⟨y0,y1,y2⟩:=HLX.out _ d (HH.out nq)
 clear c0 c2 c3 hw1
 go_wp2_with fail
 go_region_held3 (fun w'=>w'.cell? ⟨lx,0,none⟩=some (aF lb)∧w'.cell? ⟨lb,0,none⟩=some (aF bd)) (first | exact⟨hz1,hz2⟩ | exact⟨y1,y2⟩ | go_keep)
  (first
   | (go_at_call 123;refine KN1.out.mono ?_;rintro e w1 ⟨rfl,g1⟩;obtain⟨-,hz1,hz2⟩:=HLX.out w1 d g1;have K1:=Lib.hid (KC.out w1 g1);clear g1)
   | (go_at_call 193;refine K1.out.mono ?_;rintro e w2 ⟨rfl,g2⟩;obtain⟨hz0,hz1,hz2⟩:=HLX.out w2 d1 g2;have G2:=Lib.hid g2;clear g2))
 clear hz0 hz1 hz2 KN KN1 KC K1 XD HH y0 y1 y2
 by_cases he1:e1=0
 case neg=>
  have qe:(e1 != 0)=true:=by rw [bne_iff_ne];exact he1
  have HE:=Lib.hid Zp.out
  have Uu:=Lib.hid he1
  clear he1
  go_wp2_with fail
  go_ret
  refine⟨by rw [HE.out,if_pos Uu.out];rfl,?_⟩
  rw [HE.out,if_pos Uu.out]
  exact G2.out
 have qe:(e1 != 0)=false:=by rw [he1];rfl
 have HE:Hid (dL l.m.next b (d,aa,hv)=(((aI d1 (ai x) b).1,aa++[x],b.length),(aI d1 (ai x) b).2)):=Lib.hid (by rw [Zp.out,if_neg (by simp [he1])])
 clear he1 Zp
 have KN2:=Lib.hid (fun w' s h'=>pF (w:=w') (F0:=F0) (w0:=w0) (R:=gT pn lb bd sb hb l (d1,s) R) h' x HSM.out)
 have KA:=Lib.hid (fun w' s h'=>uz (w:=w') (F0:=F0) (w0:=w0) (R:=gT pn lb bd sb hb l (d1,s) R) h' 1 rfl (Nat.le_trans Jy.out (by decide)) (ai x) (dx x) (j3+4) (by omega) hB (Nat.le_trans HB4.out (by decide)))
 obtain⟨a2,c2',h2⟩:=(G2.out.aL (R1:=[_,_,_,_]) [2,0,1,3] (by decide) rfl).rQ
 have d0:w2.cell? ⟨gb,0,none⟩=some (.pointer (some ⟨sb,0,none⟩)):=cell_of (G2.out.block (j1+4) hj1) rfl
 have d1':w2.cell? ⟨sb,0,none⟩=some (.slice a2 aa.length c2'):=cell_of (h2.block 1 rfl) rfl
 have H2:=Lib.hid h2
 clear h2
 go_wp2_with fail
 have g1:∀ o,(w2.alloc o).cell? ⟨sb,0,none⟩=some (.slice a2 aa.length c2'):=fun o=>cell_of ((H2.out.alloc o).block 1 rfl) rfl
 have g0:∀ o,(w2.alloc o).cell? ⟨gb,0,none⟩=some (.pointer (some ⟨sb,0,none⟩)):=fun o=>cell_of ((H2.out.alloc o).block (j1+5) hj1) rfl
 go_region_law
  (first
   | (refine lu rfl (R:=Cells _ _ 3::ay 3 1 (.slice a2 aa.length c2') aa.length (cB aa)::Cells sb #[.slice a2 aa.length c2'] 104::yD pn lb bd l::bJ bd d1::Cells hb #[.int .i64 hv] 3::R) (by exact (H2.out.drewN 1).cells _ _) 1 rfl (.tmp 36) (.tmp 38) 104 (by rfl) Tryz.underlying104 oN (by decide) (by decide) (by rfl) (by rfl) (by exact Src.of_block (((H2.out.drewN 1).cells _ _).block 0 rfl) rfl) (fun u hu=>by simp at hu;subst hu;rfl) (Nat.le_trans aa6.out (by decide)) ?_
      intro v1 w3 ho1 hg1
      have z0:w3.cell? ⟨gb,0,none⟩=some (.pointer (some ⟨sb,0,none⟩)):=cell_of (ho1.block (j1+6) hj1) rfl
      have z1:w3.cell? ⟨sb,0,none⟩=some (.slice a2 aa.length c2'):=cell_of (ho1.block 2 rfl) rfl
      have z2:w3.frozen? ⟨sb,0,none⟩=false:=aK (ho1.block 2 rfl)
      have z3:w3.cell? ⟨hb,0,none⟩=some (.int .i64 hv):=cell_of (ho1.block 5 rfl) rfl
      have z4:w3.frozen? ⟨hb,0,none⟩=false:=aK (ho1.block 5 rfl)
      obtain⟨F1,hr1⟩:=ho1.get 1 rfl
      obtain⟨a3,LU,rfl,-,-,-⟩:=hr1.shape
      clear hr1
      have hp:=ho1.put 2 rfl 0 (.slice a3 (aa.length+1) LU)
      have z5:(w3.setCell ⟨sb,0,none⟩ (.slice a3 (aa.length+1) LU)).cell? ⟨hb,0,none⟩=some (.int .i64 hv):=cell_of (hp.block 5 rfl) rfl
      have z6:(w3.setCell ⟨sb,0,none⟩ (.slice a3 (aa.length+1) LU)).frozen? ⟨hb,0,none⟩=false:=aK (hp.block 5 rfl)
      have HP:=Lib.hid hp
      clear ho1 hg1 hp))
 all_goals
  have hq:=HP.out.put 5 rfl 0 (.int .i64 (b.length:Int))
  have hr:In F0 w0 ((w3.setCell ⟨sb,0,none⟩ (.slice a3 (aa.length+1) LU)).setCell ⟨hb,0,none⟩ (.int .i64 (b.length:Int))) (ay 3 1 (.slice a3 (aa++[x]).length LU) (aa++[x]).length (cB (aa++[x]))::Cells sb #[.slice a3 (aa++[x]).length LU] 104::yD pn lb bd l::bJ bd d1::Cells hb #[.int .i64 (b.length:Int)] 3::R):=by
   rw [show (aa++[x]).length=aa.length+1 by simp,show cB (aa++[x])=cB aa++[.int .i64 (x:Int)] by simp [cB]]
   exact hq.aL (R1:=[_,_,_,_,_,_]) [1,2,3,4,5] (by decide) rfl
  have hs:In F0 w0 ((w3.setCell ⟨sb,0,none⟩ (.slice a3 (aa.length+1) LU)).setCell ⟨hb,0,none⟩ (.int .i64 (b.length:Int))) (gT pn lb bd sb hb l (d1,aa++[x],b.length) R):=hr.xz.aL (R1:=[_,_,_,_]) [1,2,0,3] (by decide) rfl
  clear hq hr z0 z1 z2 z3 z4 z5 z6 HP H2 g0 g1 d0 d1' hz1 hz2 G2
  have HS:=Lib.hid hs
  obtain⟨y0,y1⟩:=zb.out _ d1 _ _ hs
  clear hs
  go_wp2_with fail
  go_region_held3 (fun w'=>w'.cell? ⟨lx,0,none⟩=some (aF lb)∧w'.cell? ⟨lb,0,none⟩=some (aF bd)) (first | exact⟨hz1,hz2⟩ | exact⟨y0,y1⟩ | go_keep)
   (first
    | (go_at_call 123;refine (KN2.out _ (aa++[x],b.length) (HS.out.drewN _)).mono ?_;rintro e w4 ⟨rfl,g1⟩;obtain⟨hz1,hz2⟩:=zb.out w4 d1 _ _ g1;have K1:=Lib.hid (KA.out w4 _ g1);clear g1)
    | (go_at_call 145;refine K1.out.mono ?_;rintro e w5 ⟨rfl,g2⟩;obtain⟨hz1,hz2⟩:=zb.out w5 (aI d1 (ai x) b).1 (aa++[x]) b.length g2;have G3:=Lib.hid g2;clear g2))
  all_goals
   go_wp2_with fail
   go_ret
   refine⟨by rw [HE.out];rfl,?_⟩
   rw [HE.out]
   exact G3.out
end
section
variable {F0:List Nat} {w0 w:World} {R:List ax} {pn:Value} {bd lb sb:Nat} {d:ae} {l:bI} {aa:List Nat}
theorem VM {gb lx nb hb hv ty:Nat} (h:In F0 w0 w (gT pn lb bd sb hb l (d,aa,hv) R)) (j1 j2 j3:Nat) (hj1:R[j1]?=some (Cells gb #[.pointer (some ⟨sb,0,none⟩)] 232)) (hj2:R[j2]?=some (Cells lx #[aF lb] 94))
  (hj3:R[j3]?=some (Cells nb #[.func (.func 230) #[] #[.pointer (some ⟨gb,0,none⟩)]] ty)) (ho:d.ops≤99990000) (hne:aa≠[]) (hs:aa.length≤100) (hvv:∀ x∈aa,x < 4611686018427387904) :
  Calls Tryz.prog 231 #[.pointer (some ⟨lx,0,none⟩),.pointer (some ⟨nb,0,none⟩)] w fun e w'=>e=.returned (.int .i64 (aW d (newest aa)).2)∧In F0 w0 w' (gT pn lb bd sb hb l ((aW d (newest aa)).1,aa,hv) R):=by
 have zb:=Lib.hid (fun w' d' (h':In F0 w0 w' (gT pn lb bd sb hb l (d',aa,hv) R))=>And.intro (show w'.cell? ⟨lx,0,none⟩=some (aF lb) from cell_of (h'.block (j2+4) hj2) rfl) (And.intro h'.Cv.Lt (show w'.cell? ⟨nb,0,none⟩=some (.func (.func 230) #[] #[.pointer (some ⟨gb,0,none⟩)]) from cell_of (h'.block (j3+4) hj3) rfl)))
 have KN:=Lib.hid (fun w' (h':In F0 w0 w' (gT pn lb bd sb hb l (d,aa,hv) R))=>Gf (h'.aL (R1:=[_,_,_,_]) [2,0,1,3] (by decide) rfl) (j1+3) hj1 hne hs hvv)
 have KA:=Lib.hid (fun w' (h':In F0 w0 w' (gT pn lb bd sb hb l (d,aa,hv) R))=>oQ h' 1 rfl (Nat.le_trans ho (by decide)) (newest aa) (dx _))
 obtain⟨y0,y1,y2⟩:=zb.out _ d h
 have HH:=Lib.hid (fun n=>h.drewN n)
 clear h ho hne hs hvv
 go_enter Tryz.func231,Tryz.ntmps231
 go_wp2_with fail
 go_region_held3 (fun w'=>w'.cell? ⟨lx,0,none⟩=some (aF lb)∧w'.cell? ⟨lb,0,none⟩=some (aF bd)∧w'.cell? ⟨nb,0,none⟩=some (.func (.func 230) #[] #[.pointer (some ⟨gb,0,none⟩)])) (first | exact⟨hz1,hz2,hz3⟩ | exact⟨y0,y1,y2⟩ | go_keep)
  (first
   | (go_at_call 230;refine (KN.out _ (HH.out _)).mono ?_;rintro e w1 ⟨rfl,g1⟩;have g2:In F0 w0 w1 (gT pn lb bd sb hb l (d,aa,hv) R):=g1.aL (R1:=[_,_,_,_]) [1,2,0,3] (by decide) rfl;obtain⟨hz1,hz2,hz3⟩:=zb.out w1 d g2;have K1:=Lib.hid (KA.out w1 g2);clear g1 g2)
   | (go_at_call 122;refine K1.out.mono ?_;rintro e w2 ⟨rfl,g3⟩;obtain⟨hz1,hz2,hz3⟩:=zb.out w2 (aW d (newest aa)).1 g3;have G3:=Lib.hid g3;clear g3))
 all_goals
  go_wp2_with fail
  go_ret
  exact⟨rfl,G3.out⟩
end
section
variable {F0:List Nat} {w0 w:World} {R:List ax} {pn:Value} {bd lb sb:Nat} {d:ae} {l:bI} {aa:List Nat}
theorem VN {gb lx nb bb hb hv ty JB:Nat} {b:List UInt8} {A:Option Addr} {cA:Nat} (h:In F0 w0 w (gT pn lb bd sb hb l (d,aa,hv) R)) (j1 j2 j3 j4 j5:Nat) (hj1:R[j1]?=some (Cells gb #[.pointer (some ⟨sb,0,none⟩)] 232)) (hj2:R[j2]?=some (Cells lx #[aF lb] 94))
  (hB:R[j3]?=some (ay 5 1 (.slice A b.length cA) b.length (eB b))) (hj4:R[j4]?=some (Cells nb #[.func (.func 229) #[] #[.pointer (some ⟨gb,0,none⟩),.pointer (some ⟨lx,0,none⟩),.pointer (some ⟨hb,0,none⟩)]] ty)) (hj5:R[j5]?=some (Cells bb #[.slice A b.length cA] JB))
  (ho:d.ops≤99990000) (hb4:b.length≤5000) (hn:l.m.next≤1000000) :
  Calls Tryz.prog 232 #[.pointer (some ⟨nb,0,none⟩),.pointer (some ⟨bb,0,none⟩)] w fun e w'=>e=.returned (.int .i64 (dL l.m.next b (d,aa,hv)).2)∧In F0 w0 w' (gT pn lb bd sb hb l (dL l.m.next b (d,aa,hv)).1 R):=by
 have y0:w.cell? ⟨nb,0,none⟩=some (.func (.func 229) #[] #[.pointer (some ⟨gb,0,none⟩),.pointer (some ⟨lx,0,none⟩),.pointer (some ⟨hb,0,none⟩)]):=cell_of (h.block (j4+4) hj4) rfl
 have y1:w.cell? ⟨bb,0,none⟩=some (.slice A b.length cA):=cell_of (h.block (j5+4) hj5) rfl
 have KN:=Lib.hid (Gg h j1 j2 j3 hj1 hj2 hB ho hb4 hn)
 clear h ho hb4 hn
 go_enter Tryz.func232,Tryz.ntmps232
 go_wp2_with fail
 refine KN.out.mono ?_
 rintro e w1 ⟨rfl,g1⟩
 have G:=Lib.hid g1
 clear g1 KN
 go_wp2_with fail
 go_ret
 exact⟨rfl,G.out⟩
end
def bodB:List Value→List (List UInt8)→List ax
 | v::vs,b::bs=>ay 5 1 v b.length (eB b)::bodB vs bs
 | _,_=>[]
theorem Nb:∀ {vs:List Value} {bs:List (List UInt8)} {R:List ax} {k:Nat} {v:Value} {b:List UInt8},vs[k]?=some v→bs[k]?=some b→(bodB vs bs++R)[k]?=some (ay 5 1 v b.length (eB b))
 | [],_,_,_,_,_,h,_=>by simp at h
 | _::_,[],_,_,_,_,_,h=>by simp at h
 | v::vs,b::bs,R,0,_,_,h1,h2=>by simp at h1 h2;subst h1 h2;rfl
 | v::vs,b::bs,R,k+1,_,_,h1,h2=>by
  simp only [bodB,List.cons_append,List.getElem?_cons_succ]
  exact Nb (by simpa using h1) (by simpa using h2)
abbrev Gh:=ae×List Nat×Nat
theorem yE (l:bI):∀ (xs ys:List (List UInt8)) (s:Gh),rowsD l (xs++ys) s=bM (rowsD l xs s) (rowsD l ys)
 | [],ys,s=>by
  have e:rowsD l [] s=(s,0):=rfl
  rw [List.nil_append,e,aT rfl]
 | x::xs,ys,s=>by
  have e1:rowsD l (x::(xs++ys)) s=bM (jk l x s) (rowsD l (xs++ys)):=rfl
  have e2:rowsD l (x::xs) s=bM (jk l x s) (rowsD l xs):=rfl
  rw [List.cons_append,e1,e2]
  by_cases h:(jk l x s).2=0
  ·rw [aT h,aT h,yE l xs ys]
  ·rw [aZ h,aZ h,aZ h]
theorem OV (l:bI) (x:List UInt8) (s:Gh):rowsD l [x] s=jk l x s:=by
 have e:rowsD l [x] s=bM (jk l x s) (rowsD l []):=rfl
 rw [e]
 by_cases h:(jk l x s).2=0
 ·rw [aT h];exact Prod.ext rfl h.symm
 ·rw [aZ h]
theorem ze (d:ae) (n:ByteArray) (b:List UInt8):(aI d n b).1.ops≤d.ops+1:=by have:=(Et d n n b 0).1;omega
structure WS (l:bI) (d0:ae) (k:Nat) (s:Gh):Prop where
 ops:s.1.ops≤d0.ops+3 * k
 len:s.2.1.length≤64
 lt:∀ x∈s.2.1,x < l.m.next+64
 have':s.2.2≤5000 * k
theorem uD {nx:Nat} {b:List UInt8} {s:Gh} (h1:s.2.1.length≤64) (h2:∀ x∈s.2.1,x < nx+64) :
  (dL nx b s).1.1.ops≤s.1.ops+2∧(dL nx b s).1.2.1.length≤64∧(∀ x∈(dL nx b s).1.2.1,x < nx+64)∧((dL nx b s).1.2.2≤s.2.2∨(dL nx b s).1.2.2≤b.length)∧((dL nx b s).2=0→(dL nx b s).1.2.1≠[]):=by
 have c1:=kN (ai (nx+s.2.1.length)) s.1
 unfold dL
 split
 ·exact⟨by simp only;omega,h1,h2,Or.inl (Nat.le_refl _),fun h=>by simp at h⟩
 split
 ·rename_i h64 hc
  exact⟨by simp only;omega,h1,h2,Or.inl (Nat.le_refl _),fun h=>absurd h hc⟩
 ·rename_i h64 hc
  have c2:=ze (bH (ai (nx+s.2.1.length)) s.1).1 (ai (nx+s.2.1.length)) b
  refine⟨by simp only;omega,by simp;omega,fun x hx=>?_,Or.inr (Nat.le_refl _),fun _=>by simp⟩
  rcases List.mem_append.1 hx with hx | hx
  ·exact h2 x hx
  ·simp at hx;omega
theorem WS.row {l:bI} {d0:ae} {k:Nat} {s:Gh} (h:WS l d0 k s) {b:List UInt8} (hb:b.length≤5000):WS l d0 (k+1) (jk l b s).1:=by
 obtain⟨h1,h2,h3,h4⟩:=h
 unfold jk
 split
 ·obtain⟨n1,n2,n3,n4,_⟩:=uD (b:=b) h2 h3
  exact⟨by omega,n2,n3,by omega⟩
 split
 ·have c2:=ze s.1 (newest s.2.1) b
  exact⟨by simp only;omega,h2,h3,by simp only;omega⟩
 ·have c1:=fP s.1 (newest s.2.1)
  by_cases h:(aW s.1 (newest s.2.1)).2=0
  ·rw [aT (r:=(((aW s.1 (newest s.2.1)).1,s.2),(aW s.1 (newest s.2.1)).2)) h]
   obtain⟨n1,n2,n3,n4,_⟩:=uD (nx:=l.m.next) (b:=b) (s:=((aW s.1 (newest s.2.1)).1,s.2)) h2 h3
   simp only at n1 n4
   show WS l d0 (k+1) (dL l.m.next b ((aW s.1 (newest s.2.1)).1,s.2)).1
   exact⟨by omega,n2,n3,by omega⟩
  ·rw [aZ (r:=(((aW s.1 (newest s.2.1)).1,s.2),(aW s.1 (newest s.2.1)).2)) h]
   exact⟨by simp only;omega,h2,h3,by simp only;omega⟩
def nM (s:Gh):Gh×Int:=(((aW s.1 (newest s.2.1)).1,s.2),(aW s.1 (newest s.2.1)).2)
theorem Tc {l:bI} {bs:List (List UInt8)} {d:ae} (h:(rowsD l bs (d,[],0)).2≠0):fK l bs d=rowsD l bs (d,[],0):=by
 unfold fK
 rw [aZ h,aZ h]
theorem OW {l:bI} {bs:List (List UInt8)} {d:ae} {s:Gh} (h:rowsD l bs (d,[],0)=(s,0)) (hs:s.2.1≠[]):fK l bs d=nM s:=by
 unfold fK
 rw [h,aT (r:=(s,0)) rfl]
 simp only
 rw [if_neg hs,aT (r:=(s,0)) rfl];rfl
theorem Td {l:bI} {bs:List (List UInt8)} {d:ae} {s:Gh} (h:rowsD l bs (d,[],0)=(s,0)) (hs:s.2.1=[]):fK l bs d=bM (dL l.m.next [] s) nM:=by
 unfold fK
 rw [h,aT (r:=(s,0)) rfl]
 simp only
 rw [if_pos hs];rfl
section
variable {F0:List Nat} {w0 w:World} {R:List ax} {pn:Value} {bd lb sb:Nat} {d:ae} {l:bI}
def WT (gb lx hb:Nat):Value:=.func (.func 229) #[] #[.pointer (some ⟨gb,0,none⟩),.pointer (some ⟨lx,0,none⟩),.pointer (some ⟨hb,0,none⟩)]
def TR (gb:Nat):Value:=.func (.func 230) #[] #[.pointer (some ⟨gb,0,none⟩)]
theorem VO {fb lx gb hb nx nm bb:Nat} {s:Gh} {x:List UInt8} {A:Option Addr} {cA ty:Nat} (hs:s.2.1≠[]) (h1:s.1.ops≤99980000) (h2:s.2.1.length≤64) (h3:∀ y∈s.2.1,y < l.m.next+64) (hn:l.m.next≤1000000) (hx:x.length≤5000) {Q:List ax}
  (jg jl jm jn jb jx:Nat) (hg:Q[jg]?=some (Cells gb #[.pointer (some ⟨sb,0,none⟩)] 232)) (hl:Q[jl]?=some (Cells lx #[aF lb] 94)) (hm:Q[jm]?=some (Cells nm #[TR gb] 207)) (hnn:Q[jn]?=some (Cells nx #[WT gb lx hb] 268)) (hb':Q[jb]?=some (Cells bb #[.slice A x.length cA] 65)) (hxx:Q[jx]?=some (ay 5 1 (.slice A x.length cA) x.length (eB x)))
  (fs:List (FuncId×Array Value)) (hfs:fs=[(231,#[.pointer (some ⟨lx,0,none⟩),.pointer (some ⟨nm,0,none⟩)]),(232,#[.pointer (some ⟨nx,0,none⟩),.pointer (some ⟨bb,0,none⟩)])])
  (h:In F0 w0 w (Cells fb (fs.map Ez).toArray ty::gT pn lb bd sb hb l s Q)) :
  Calls Tryz.prog 118 #[.slice (some ⟨fb,0,none⟩) 2 2] w fun e w'=>e=.returned (.int .i64 (bM (nM s) (dL l.m.next x)).2)∧In F0 w0 w' (gT pn lb bd sb hb l (bM (nM s) (dL l.m.next x)).1 Q):=by
 have lV:∀ args w',(callFunc 231 args).run Tryz.prog w'=.ok (.enter 231 args) w':=enters_of Tryz.func231 (by kernel_rfl) rfl
 have lW:∀ args w',(callFunc 232 args).run Tryz.prog w'=.ok (.enter 232 args) w':=enters_of Tryz.func232 (by kernel_rfl) rfl
 have hlen:fs.length=2:=by rw [hfs];rfl
 have key:=AR (F0:=F0) (w0:=w0) (w:=w) (fun k (t:Gh)=>(k=0→t=s)∧(k=1→t.1.ops≤99980001∧t.2=s.2)) (fun t=>gT pn lb bd sb hb l t Q) fb ty [nM,dL l.m.next x] fs (by rw [hlen];rfl) (by omega) s 2
  ⟨fun _=>rfl,fun h=>by omega⟩ (fun k f hf t hI=>by
   refine⟨fun h=>by omega,fun h=>?_⟩
   obtain rfl:k=0:=by omega
   cases hf
   obtain rfl:=hI.1 rfl
   have:=fP t.1 (newest t.2.1)
   exact⟨by show (aW t.1 (newest t.2.1)).1.ops≤_;omega,rfl⟩)
  (fun f hf=>by
   rw [hfs] at hf
   simp only [List.mem_cons,List.not_mem_nil,or_false] at hf
   rcases hf with rfl | rfl
   ·exact lV
   ·exact lW)
  (fun k f g hf hgg w' t hI h'=>by
   rw [hfs] at hf
   rcases k with _ | _ | k
   ·obtain rfl:=hI.1 rfl
    cases hf;cases hgg
    obtain⟨t1,t2,t3⟩:=t
    have:=VM (F0:=F0) (w0:=w0) (d:=t1) (aa:=t2) (hv:=t3) (R:=Cells fb (fs.map Ez).toArray ty::Q) (h'.aL (R1:=[_,_,_,_,_]) [1,2,3,4,0] (by decide) rfl) (gb:=gb) (lx:=lx) (nb:=nm) (jg+1) (jl+1) (jm+1) hg hl hm (by simp only at h1;omega) hs (by simp only at h2;omega) (fun y hy=>by have:=h3 y hy;omega)
    exact this.mono fun e w'' ⟨he,hw⟩=>⟨he,hw.aL (R1:=[_,_,_,_,_]) [4,0,1,2,3] (by decide) rfl⟩
   ·obtain⟨i1,i2⟩:=hI.2 rfl
    cases hf;cases hgg
    obtain⟨t1,t2,t3⟩:=t
    have:=VN (F0:=F0) (w0:=w0) (d:=t1) (aa:=t2) (hv:=t3) (b:=x) (A:=A) (cA:=cA) (R:=Cells fb (fs.map Ez).toArray ty::Q) (h'.aL (R1:=[_,_,_,_,_]) [1,2,3,4,0] (by decide) rfl) (gb:=gb) (lx:=lx) (nb:=nx) (bb:=bb) (jg+1) (jl+1) (jx+1) (jn+1) (jb+1) hg hl hxx hnn hb' (by simp only at i1;omega) hx hn
    exact this.mono fun e w'' ⟨he,hw⟩=>⟨he,hw.aL (R1:=[_,_,_,_,_]) [4,0,1,2,3] (by decide) rfl⟩
   ·simp at hf) h
 rw [hlen] at key
 exact key.mono fun e w' ⟨he,hw⟩=>⟨he,hw.drop⟩
end
end Go.Proofs.YtanhdliaaccacaaGreat
