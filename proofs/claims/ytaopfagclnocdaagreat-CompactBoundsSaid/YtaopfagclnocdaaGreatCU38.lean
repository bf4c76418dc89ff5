/- Rows.CompactBoundsSaid -/
import Derived.Test.YtaopfagclnocdaaGreatCU34
import Derived.Test.YtaopfagclnocdaaGreatCU37
import Derived.Test.YtaopfagclnocdaaGreatCU4
import Derived.Test.YtaopfagclnocdaaGreatCU33
import Derived.StillTailTactics
import Derived.Deep.RegionHeld3
import Derived.Deep.DeepCutAuto
import Derived.Deep.AppendLies
namespace Go.Proofs.YtaopfagclnocdaaGreat
open Go.RowKit
set_option linter.unusedVariables false
set_option maxHeartbeats 64000000
set_option maxRecDepth 100000
def TrueP (w:World) (e:Ending) (w':World):Prop:=e=.returned (.bool true)∧Mod [] w w'
structure OpSt (M k:Nat) (kind ver:Nat) (size:Nat) (L:List (List UInt8)) (d:DiskD) (l:LogD):Prop where
 firm:Firm d l.m ((L.take k).map (fun b=>⟨kind,ver,b⟩)) 0
 loose:l.loose=false
 size:l.size=size
 ver:l.m.ver=ver
 rm:Rm d ((M - k) * 600+10000) ((M - k) * 2+20)
 segs:l.m.segs.length≤k+1
 next:l.m.next≤k+2
 ops:d.ops≤1000+20 * k
def empA:Asrt:=fun w F=>F=[]
section
variable {F0:List Nat} {w0 w:World} {R:List Asrt}
end
section
variable {H:Type} {enc:TypeId×Value→H} {w:World} {base:Nat} {spare:Nat→Bool} {held:Bool}
end
structure SuSt (M k z:Nat) (s:SD):Prop where
 rm:∃ Fr kk,SoRm s Fr kk (M - k)
 size:s.2.l.size=z
 ops:s.1.ops≤1000+20 * k
section
variable {W:World}
def SuRel (sb lb bd stb wb n:Nat) (W:World) (i:Value) (wr:World):Prop:=
 ∃ (k:Nat) (s:SD) (A:Option Addr) (a:Nat) (D:Option Addr) (d:Nat) (F:Option Addr) (f:Nat),k≤n∧i=.int .i64 k∧SuSt 61 k (sized 300) s∧In [] W wr (SoL sb lb bd stb s [Cells wb #[.int .i64 s.2.sure.gen,.slice A s.2.sure.bks.length a,.slice D s.2.sure.drs.length d,.slice F s.2.sure.fls.length f] 36,BkR (.slice A s.2.sure.bks.length a) s.2.sure.bks,DrR (.slice D s.2.sure.drs.length d) s.2.sure.drs,FlR (.slice F s.2.sure.fls.length f) s.2.sure.fls])
end
theorem dropD_snoc:∀ (l:List Nat) (s:Nat) (d:DiskD),dropD (l++[s]) d=(clearD (segName s) (dropD l d)).1
 | [],s,d=>rfl
 | x::r,s,d=>by simp only [List.cons_append,dropD];exact dropD_snoc r s _
theorem removeD_snoc:∀ (l:List Nat) (s:Nat) (d:DiskD),removeD (l++[s]) d=(dRemove (removeD l d) (segName s)).1
 | [],s,d=>rfl
 | x::r,s,d=>by simp only [List.cons_append,removeD];exact removeD_snoc r s _
theorem dropD_ops:∀ (l:List Nat) (d:DiskD),(dropD l d).ops≤d.ops+l.length
 | [],d=>Nat.le_refl _
 | x::r,d=>by
  have h1:=dropD_ops r (clearD (segName x) d).1
  have h2:=clearD_ops (segName x) d
  simp only [dropD,List.length_cons];omega
def LgP (pn:Value) (lb bd:Nat) (l:LogD):Asrt:=Star [Cells lb (lgC bd l pn) 167,RowA 3 1 pn l.m.segs.length (segV l.m.segs)]
theorem LgP.framed (pn:Value) (lb bd:Nat) (l:LogD):Framed (LgP pn lb bd l):=Framed.star (LgR_framed lb bd l pn)
theorem In.lgpA {F0:List Nat} {w0 w:World} {R:List Asrt} {pn:Value} {lb bd:Nat} {l:LogD} (h:In F0 w0 w (LgP pn lb bd l::R)):In F0 w0 w (LgA lb bd l::R):=
 h.imp (A':=LgA lb bd l) 0 rfl (LgA.framed _ _ _) (fun F hF=>⟨pn,hF⟩)
theorem In.lgpOpen {F0:List Nat} {w0 w:World} {R:List Asrt} {pn:Value} {lb bd:Nat} {l:LogD} (h:In F0 w0 w (LgP pn lb bd l::R)):In F0 w0 w (RowA 3 1 pn l.m.segs.length (segV l.m.segs)::Cells lb (lgC bd l pn) 167::R):=
 h.split (A:=Cells lb (lgC bd l pn) 167) (B:=RowA 3 1 pn l.m.segs.length (segV l.m.segs)) 0 rfl (Cells.framed _ _ _) (RowA.framed _ _ _ _ _)
theorem In.lgpClose {F0:List Nat} {w0 w:World} {R:List Asrt} {pn:Value} {lb bd:Nat} {l:LogD} (h:In F0 w0 w (RowA 3 1 pn l.m.segs.length (segV l.m.segs)::Cells lb (lgC bd l pn) 167::R)):In F0 w0 w (LgP pn lb bd l::R):=
 h.fold (C:=LgP pn lb bd l) 0 rfl (LgP.framed _ _ _ _) (fun F hF=>hF)
section
variable {F0:List Nat} {w0 w:World} {R:List Asrt} {bd lb:Nat} {d:DiskD} {l:LogD}
def DropRel (lb bd:Nat) (l:LogD) (d:DiskD) (segs:List Nat) (v:Value) (F0:List Nat) (w0:World) (R:List Asrt) (i:Value) (wr:World):Prop:=
 ∃ k:Nat,k≤segs.length∧i=.int .i64 k∧In F0 w0 wr (LgA lb bd l::DkA bd (dropD (segs.take k) d)::RowA 3 1 v segs.length (segV segs)::R)
theorem drop_step {segs:List Nat} {k x:Nat} {v:Value} (hx:segs[k]?=some x) (h:In F0 w0 w (LgA lb bd l::DkA bd (clearD (segName x) (dropD (segs.take k) d)).1::RowA 3 1 v segs.length (segV segs)::R)):DropRel lb bd l d segs v F0 w0 R (.int .i64 ((k:Int)+1)) w:=by
 have hk:=(List.getElem?_eq_some_iff.1 hx).1
 refine⟨k+1,hk,by rw [Int.natCast_add];rfl,?_⟩
 rw [List.take_add_one,hx]
 show In F0 w0 w (LgA lb bd l::DkA bd (dropD (segs.take k++[x]) d)::_)
 rw [dropD_snoc];exact h
theorem drop_ops {segs:List Nat} {k:Nat} (ho:d.ops≤99999000) (hs:segs.length≤100):(dropD (segs.take k) d).ops≤100000000:=by
 have:=dropD_ops (segs.take k) d
 rw [List.length_take] at this;omega
theorem segV_at {segs:List Nat} {k x:Nat} (hx:segs[k]?=some x):(segV segs)[k]?=some (.int .i64 x):=by simp [segV,hx]
theorem o_drop {segs:List Nat} {a:Option Addr} {c:Nat} (h:In F0 w0 w (LgA lb bd l::DkA bd d::RowA 3 1 (.slice a segs.length c) segs.length (segV segs)::R)) (ho:d.ops≤99999000) (hs:segs.length≤100) (hv:∀ x∈segs,x < 4611686018427387904) :
  Calls Tryz.prog 212 #[dptr lb,.slice a segs.length c] w fun e w'=>e=.returned (.tuple #[])∧In F0 w0 w' (LgA lb bd l::DkA bd (dropD segs d)::RowA 3 1 (.slice a segs.length c) segs.length (segV segs)::R):=by
 have HR:Hid (DropRel lb bd l d segs (.slice a segs.length c) F0 w0 R (.int .i64 0) w):=Lib.hid ⟨0,Nat.zero_le _,rfl,h⟩
 have HO:=Lib.hid ho
 have HS:=Lib.hid hs
 have HV:=Lib.hid hv
 clear h ho hv
 go_enter Tryz.func212,Tryz.ntmps212
 go_wp2_with fail
 go_loopw [8] (DropRel lb bd l d segs (.slice a segs.length c) F0 w0 R) (fun k _=>segs.length - (intOf k).toNat)
 case atStart=>exact HR.out
 case round=>
  obtain⟨k,hk,rfl,hio⟩:=hrel
  clear HR
  by_cases hlt:k < segs.length
  ·obtain⟨x,hx⟩:∃ x,segs[k]?=some x:=⟨segs[k],List.getElem?_eq_getElem hlt⟩
   obtain⟨Fs,hrow⟩:=hio.get 2 rfl
   obtain⟨b,rfl,c0⟩:=hrow.at.2 k _ (segV_at hx)
   have hlt':(k:Int) < (segs.length:Int):=Int.ofNat_lt.2 hlt
   have hw2:wrap64 ((k:Int)+1)=(k:Int)+1:=by unfold wrap64;omega
   have HN:=Lib.hid (fun w' h'=>drop_step (w:=w') (l:=l) (lb:=lb) (bd:=bd) (d:=d) (v:=.slice (some ⟨b,0,none⟩) segs.length c) (F0:=F0) (w0:=w0) (R:=R) hx h')
   have KN:=Lib.hid (o_name (hio.drewN 1) x (HV.out x (List.mem_of_getElem? hx)))
   have KC:=Lib.hid (fun w' h'=>o_clear (w:=w') (F0:=F0) (w0:=w0) (R:=LgA lb bd l::DkA bd (dropD (segs.take k) d)::RowA 3 1 (.slice (some ⟨b,0,none⟩) segs.length c) segs.length (segV segs)::R) h' 1 rfl (drop_ops HO.out HS.out) (segName x) (segName_size x))
   have hl0:=hio.lg0
   have HL0:=Lib.hid (fun w' (h':In F0 w0 w' (LgA lb bd l::DkA bd (dropD (segs.take k) d)::RowA 3 1 (.slice (some ⟨b,0,none⟩) segs.length c) segs.length (segV segs)::R))=>h'.lg0)
   clear hio hrow hk hlt hx hs
   go_wp2_with fail
   go_region_held3 (fun w'=>w'.cell? ⟨lb,0,none⟩=some (dptr bd)) (first | exact hl1 | go_keep)
    (first
     | (go_at_call 89;refine KN.out.mono ?_;rintro e w1 ⟨rfl,g1⟩;have hl1:=HL0.out w1 g1;have K1:=Lib.hid (KC.out w1 g1);clear g1)
     | (go_at_call 161;refine K1.out.mono ?_;rintro e w2 ⟨rfl,g2⟩;have hl1:=In.lg0 g2;have HN2:=Lib.hid (HN.out w2 g2);clear g2))
   go_wp2_with fail
   go_roundw
   case rel=>(try rw [hw2]);exact HN2.out
   case measure=>(try rw [hw2]);exact meas_lt hlt'
  ·have hge:(segs.length:Int)≤(k:Int):=Int.ofNat_le.2 (Nat.le_of_not_lt hlt)
   have hkl:segs.take k=segs:=List.take_of_length_le (Nat.le_of_not_lt hlt)
   rw [hkl] at hio
   have G:=Lib.hid hio
   clear hio hkl hlt hk
   go_wp2_with fail
   go_end0
   exact⟨rfl,G.out⟩
end
section
variable {F0:List Nat} {w0 w:World} {R:List Asrt} {pn:Value} {bd lb:Nat} {d:DiskD} {l:LogD}
def AdoptPostP (pn:Value) (lb bd:Nat) (m:ManD) (A:Option Addr) (c:Nat) (s:DL) (F0:List Nat) (w0:World) (R:List Asrt) (e:Ending) (w':World):Prop:=
 e=.returned (.tuple #[.bool (adoptL m s).2.1,.int .i64 (adoptL m s).2.2])∧((adoptL m s).2.1=true→In F0 w0 w' (LgA lb bd (adoptL m s).1.2::DkA bd (adoptL m s).1.1::RowA 3 1 pn s.2.m.segs.length (segV s.2.m.segs)::R)) ∧
  ((adoptL m s).2.1=false→In F0 w0 w' (LgP pn lb bd s.2::DkA bd (adoptL m s).1.1::SegR A c m.segs::R))
theorem o_adoptP (m:ManD) {A:Option Addr} {c:Nat} (h:In F0 w0 w (LgP pn lb bd l::DkA bd d::SegR A c m.segs::R)) (ho:d.ops≤99999990) (hn:m.segs.length≤1000000000) :
  Calls Tryz.prog 184 #[dptr lb,manAgg m A c] w (AdoptPostP pn lb bd m A c (d,l) F0 w0 R):=by
 have h1:=h.lgpOpen
 have h2:=h1.cells #[.int .i64 m.ver,.int .i64 m.next,.slice A m.segs.length c] 160
 have HW:Hid (∀ w',In F0 w0 w' (Cells w.heap.size #[.int .i64 m.ver,.int .i64 m.next,.slice A m.segs.length c] 160::RowA 3 1 pn l.m.segs.length (segV l.m.segs)::Cells lb (lgC bd l pn) 167::DkA bd (commitD m d).1::SegR A c m.segs::R) →
   (w'.cell? ⟨lb,0,none⟩=some (dptr bd)∧w'.cell? ⟨w.heap.size,0,none⟩=some (.int .i64 m.ver)∧w'.cell? ⟨w.heap.size,1,none⟩=some (.int .i64 m.next)∧w'.cell? ⟨w.heap.size,2,none⟩=some (.slice A m.segs.length c)) ∧
   (w'.frozen? ⟨lb,2,none⟩=false∧w'.frozen? ⟨lb,3,none⟩=false∧w'.frozen? ⟨lb,4,none⟩=false∧w'.frozen? ⟨lb,5,none⟩=false ∧
    ∃ x2 x3 x4 x5,w'.cell? ⟨lb,2,none⟩=some x2∧w'.cell? ⟨lb,3,none⟩=some x3∧w'.cell? ⟨lb,4,none⟩=some x4∧w'.cell? ⟨lb,5,none⟩=some x5)):=Lib.hid fun w' h'=>
  ⟨⟨cell_of (h'.block 2 rfl) rfl,cell_of (h'.block 0 rfl) rfl,cell_of (h'.block 0 rfl) rfl,cell_of (h'.block 0 rfl) rfl⟩,free_of (h'.block 2 rfl),free_of (h'.block 2 rfl),free_of (h'.block 2 rfl),free_of (h'.block 2 rfl),_,_,_,_,cell_of (h'.block 2 rfl) rfl,cell_of (h'.block 2 rfl) rfl,cell_of (h'.block 2 rfl) rfl,cell_of (h'.block 2 rfl) rfl⟩
 have HS0:Hid ((w.alloc (.cells #[.int .i64 m.ver,.int .i64 m.next,.slice A m.segs.length c] 160)).cell? ⟨lb,0,none⟩=some (dptr bd)∧(w.alloc (.cells #[.int .i64 m.ver,.int .i64 m.next,.slice A m.segs.length c] 160)).cell? ⟨w.heap.size,0,none⟩=some (.int .i64 m.ver)∧(w.alloc (.cells #[.int .i64 m.ver,.int .i64 m.next,.slice A m.segs.length c] 160)).cell? ⟨w.heap.size,1,none⟩=some (.int .i64 m.next)∧(w.alloc (.cells #[.int .i64 m.ver,.int .i64 m.next,.slice A m.segs.length c] 160)).cell? ⟨w.heap.size,2,none⟩=some (.slice A m.segs.length c)):=Lib.hid
  ⟨cell_of (h2.block 2 rfl) rfl,cell_of (h2.block 0 rfl) rfl,cell_of (h2.block 0 rfl) rfl,cell_of (h2.block 0 rfl) rfl⟩
 have C:=Lib.hid (fun n=>o_commit (h2.drewN n) 3 rfl ho m (A:=A) (c:=c) (fun w' h'=>by obtain⟨F',r'⟩:=h'.get 4 rfl;exact r'.all) hn)
 have HQ:Hid (adoptL m (d,l)=(((commitD m d).1,if (commitD m d).2.1 then { l with m:=m,loose:=decide ((commitD m d).2.2≠0) } else l),(commitD m d).2.1,(commitD m d).2.2)):=Lib.hid rfl
 have HT:Hid (∀ w',In F0 w0 w' (Cells w.heap.size #[.int .i64 m.ver,.int .i64 m.next,.slice A m.segs.length c] 160::RowA 3 1 pn l.m.segs.length (segV l.m.segs)::Cells lb (lgC bd l pn) 167::DkA bd (commitD m d).1::SegR A c m.segs::R) →
   In F0 w0 ((((w'.setCell ⟨lb,2,none⟩ (.int .i64 m.ver)).setCell ⟨lb,3,none⟩ (.int .i64 m.next)).setCell ⟨lb,4,none⟩ (.slice A m.segs.length c)).setCell ⟨lb,5,none⟩ (.bool ((commitD m d).2.2 != 0)))
    (LgA lb bd { l with m:=m,loose:=decide ((commitD m d).2.2≠0) }::DkA bd (commitD m d).1::RowA 3 1 pn l.m.segs.length (segV l.m.segs)::R)):=Lib.hid fun w' h'=>by
  have e:((commitD m d).2.2 != 0)=decide ((commitD m d).2.2≠0):=by simp [bne,Bool.beq_eq_decide_eq]
  have g:=(((h'.put (b:=lb) 2 rfl 2 (.int .i64 m.ver)).put (b:=lb) 2 rfl 3 (.int .i64 m.next)).put (b:=lb) 2 rfl 4 (.slice A m.segs.length c)).put (b:=lb) 2 rfl 5 (.bool ((commitD m d).2.2 != 0))
  have g2:=g.sel2 (R1:=[_,_,_,_,_]) [4,2,3,1] (by decide) rfl
  refine In.lgClose (l':={ l with m:=m,loose:=decide ((commitD m d).2.2≠0) }) (v:=.slice A m.segs.length c) ?_
  unfold lgC
  rw [← e]
  exact g2
 have HN:Hid (∀ w',In F0 w0 w' (Cells w.heap.size #[.int .i64 m.ver,.int .i64 m.next,.slice A m.segs.length c] 160::RowA 3 1 pn l.m.segs.length (segV l.m.segs)::Cells lb (lgC bd l pn) 167::DkA bd (commitD m d).1::SegR A c m.segs::R) →
   In F0 w0 w' (LgP pn lb bd l::DkA bd (commitD m d).1::SegR A c m.segs::R)):=Lib.hid fun w' h'=>h'.drop.lgpClose
 unfold manAgg at C ⊢
 clear h h1 h2 hn ho
 cases hq:(commitD m d).2.1 with
 | true=>
  have HF:Hid (∀ w',In F0 w0 w' (LgA lb bd { l with m:=m,loose:=decide ((commitD m d).2.2≠0) }::DkA bd (commitD m d).1::RowA 3 1 pn l.m.segs.length (segV l.m.segs)::R)→AdoptPostP pn lb bd m A c (d,l) F0 w0 R (.returned (.tuple #[.bool true,.int .i64 (commitD m d).2.2])) w'):=Lib.hid fun w' h'=>by
   unfold AdoptPostP
   rw [HQ.out,hq]
   exact⟨rfl,fun _=>h',fun e=>by cases e⟩
  rw [hq] at C
  clear HQ HN hq
  go_enter Tryz.func184,Tryz.ntmps184
  go_wp2_with fail
  go_region_held3 (fun w'=>w'.cell? ⟨lb,0,none⟩=some (dptr bd)∧w'.cell? ⟨w.heap.size,0,none⟩=some (.int .i64 m.ver)∧w'.cell? ⟨w.heap.size,1,none⟩=some (.int .i64 m.next)∧w'.cell? ⟨w.heap.size,2,none⟩=some (.slice A m.segs.length c)) (first | exact HS0.out | exact hc1) (first | (go_at_call 91;refine (C.out 1).mono ?_;rintro e w1 ⟨rfl,g1⟩;obtain⟨hc1,f2,f3,f4,f5,x2,x3,x4,x5,d2,d3,d4,d5⟩:=HW.out w1 g1;have G:=Lib.hid (HF.out _ (HT.out w1 g1));clear g1))
  go_wp2_with fail
  go_ret2
  exact G.out
 | false=>
  have HF:Hid (∀ w',In F0 w0 w' (LgP pn lb bd l::DkA bd (commitD m d).1::SegR A c m.segs::R)→AdoptPostP pn lb bd m A c (d,l) F0 w0 R (.returned (.tuple #[.bool false,.int .i64 (commitD m d).2.2])) w'):=Lib.hid fun w' h'=>by
   unfold AdoptPostP
   rw [HQ.out,hq]
   exact⟨rfl,fun e=>(by cases e),fun _=>h'⟩
  rw [hq] at C
  clear HQ HT hq
  go_enter Tryz.func184,Tryz.ntmps184
  go_wp2_with fail
  go_region_held3 (fun w'=>w'.cell? ⟨lb,0,none⟩=some (dptr bd)∧w'.cell? ⟨w.heap.size,0,none⟩=some (.int .i64 m.ver)∧w'.cell? ⟨w.heap.size,1,none⟩=some (.int .i64 m.next)∧w'.cell? ⟨w.heap.size,2,none⟩=some (.slice A m.segs.length c)) (first | exact HS0.out | exact hc1) (first | (go_at_call 91;refine (C.out 1).mono ?_;rintro e w1 ⟨rfl,g1⟩;obtain⟨hc1,-⟩:=HW.out w1 g1;have G:=Lib.hid (HF.out _ (HN.out w1 g1));clear g1))
  go_wp2_with fail
  go_ret2
  exact G.out
end
def SegA (sb:Nat) (segs:List Nat):Asrt:=fun w F=>∃ v,Star [Cells sb #[v] 105,RowA 3 1 v segs.length (segV segs)] w F
theorem SegR_framed (sb:Nat) (segs:List Nat) (v:Value):∀ A∈[Cells sb #[v] 105,RowA 3 1 v segs.length (segV segs)],Framed A:=by
 intro A hA
 simp only [List.mem_cons,List.not_mem_nil,or_false] at hA
 rcases hA with rfl | rfl
 ·exact Cells.framed _ _ _
 ·exact RowA.framed _ _ _ _ _
theorem SegA.framed (sb:Nat) (segs:List Nat):Framed (SegA sb segs):=
 ⟨fun ⟨v,h⟩ hk=>⟨v,(Framed.star (SegR_framed sb segs v)).keep h hk⟩,fun ⟨v,h⟩=>(Framed.star (SegR_framed sb segs v)).lt h⟩
section
variable {F0:List Nat} {w0 w:World} {R:List Asrt} {pn:Value} {bd lb sb:Nat} {d:DiskD} {l:LogD} {segs:List Nat}
theorem In.segOpen (h:In F0 w0 w (SegA sb segs::R)):∃ a c,In F0 w0 w (RowA 3 1 (.slice a segs.length c) segs.length (segV segs)::Cells sb #[.slice a segs.length c] 105::R):=by
 obtain⟨v,h1⟩:=h.ex (G:=fun v=>Star [Cells sb #[v] 105,RowA 3 1 v segs.length (segV segs)]) 0 rfl (fun v=>Framed.star (SegR_framed sb segs v))
 have h2:=h1.split (A:=Cells sb #[v] 105) (B:=RowA 3 1 v segs.length (segV segs)) 0 rfl (Cells.framed _ _ _) (RowA.framed _ _ _ _ _)
 obtain⟨F,hF⟩:=h2.get 0 rfl
 obtain⟨a,c,rfl,-,-,-⟩:=hF.shape
 exact⟨a,c,h2⟩
theorem In.segClose {v:Value} (h:In F0 w0 w (RowA 3 1 v segs.length (segV segs)::Cells sb #[v] 105::R)):In F0 w0 w (SegA sb segs::R):=
 h.fold (C:=SegA sb segs) 0 rfl (SegA.framed _ _) (fun F hF=>⟨v,hF⟩)
theorem newest_last {x:Nat} (h:segs[segs.length - 1]?=some x):newest segs=segName x:=by
 unfold newest
 rw [List.getLastD_eq_getLast?,List.getLast?_eq_getElem?,h];rfl
theorem o_rname {gb:Nat} (h:In F0 w0 w (SegA sb segs::R)) (j:Nat) (hj:R[j]?=some (Cells gb #[.pointer (some ⟨sb,0,none⟩)] 252)) (hne:segs≠[]) (hs:segs.length≤100) (hv:∀ x∈segs,x < 4611686018427387904) :
  Calls Tryz.prog 246 #[.pointer (some ⟨gb,0,none⟩)] w fun e w'=>e=.returned (.string (newest segs))∧In F0 w0 w' (SegA sb segs::R):=by
 obtain⟨a,c,h1⟩:=h.segOpen
 have hpos:0 < segs.length:=List.length_pos_iff.2 hne
 obtain⟨n,hn⟩:∃ n,segs.length=n+1:=⟨segs.length - 1,by omega⟩
 obtain⟨x,hx⟩:∃ x,segs[n]?=some x:=⟨segs[n]'(by omega),List.getElem?_eq_getElem _⟩
 have hnw:newest segs=segName x:=newest_last (by rw [hn];exact hx)
 obtain⟨Fr,hr⟩:=h1.get 0 rfl
 obtain⟨g,rfl,cx⟩:=hr.at.2 n _ (segV_at hx)
 have c0:w.cell? ⟨gb,0,none⟩=some (.pointer (some ⟨sb,0,none⟩)):=cell_of (h1.block (j+2) hj) rfl
 have c1:w.cell? ⟨sb,0,none⟩=some (.slice (some ⟨g,0,none⟩) segs.length c):=cell_of (h1.block 1 rfl) rfl
 rw [hn] at c1
 have hlen:segs.length≤100:=hs
 have q1:IntKind.i64.wrap (((n:Int)+1) - 1)=(n:Int):=by rw [IntWalk.i64_in _ (by omega)];omega
 have q2:(((n:Int)+1) - 1)=(n:Int):=by omega
 have q3:(n:Int) < (n:Int)+1:=by omega
 have q4:IntKind.i64.wrap (n:Int)=(n:Int):=IntWalk.i64_in _ (by omega)
 have HNW:=Lib.hid hnw
 have KN:=Lib.hid (o_name ((h1.segClose).drewN 1) x (hv x (List.mem_of_getElem? hx)))
 clear h h1 hr hx hnw hv hpos hne hn hlen hs
 go_enter Tryz.func246,Tryz.ntmps246
 go_wp2_with fail
 go_still_tail 10,(by kernel_rfl)
 change wpList _ _ _ _ _ w.drew
 go_wp2_with fail
 refine KN.out.mono ?_
 rintro e w1 ⟨rfl,g1⟩
 have G:=Lib.hid g1
 clear g1 KN
 go_wp2_with fail
 go_ret
 exact⟨by rw [HNW.out];rfl,G.out⟩
def RowsR (pn:Value) (lb bd sb hb:Nat) (l:LogD) (s:DiskD×List Nat×Nat) (R:List Asrt):List Asrt:=LgP pn lb bd l::DkA bd s.1::SegA sb s.2.1::Cells hb #[.int .i64 s.2.2] 3::R
theorem o_rnext {gb lx hb hv:Nat} {b:List UInt8} {A:Option Addr} {cA:Nat} (h:In F0 w0 w (RowsR pn lb bd sb hb l (d,segs,hv) R)) (j1 j2 j3:Nat) (hj1:R[j1]?=some (Cells gb #[.pointer (some ⟨sb,0,none⟩)] 252)) (hj2:R[j2]?=some (Cells lx #[dptr lb] 78))
  (hB:R[j3]?=some (RowA 5 1 (.slice A b.length cA) b.length (u8s b))) (ho:d.ops≤99990000) (hb4:b.length≤5000) (hn:l.m.next≤1000000) :
  Calls Tryz.prog 245 #[.slice A b.length cA,.pointer (some ⟨gb,0,none⟩),.pointer (some ⟨lx,0,none⟩),.pointer (some ⟨hb,0,none⟩)] w fun e w'=>e=.returned (.int .i64 (nextD l.m.next b (d,segs,hv)).2)∧In F0 w0 w' (RowsR pn lb bd sb hb l (nextD l.m.next b (d,segs,hv)).1 R):=by
 have c0:w.cell? ⟨gb,0,none⟩=some (.pointer (some ⟨sb,0,none⟩)):=cell_of (h.block (j1+4) hj1) rfl
 obtain⟨a,c,h1⟩:=(h.sel2 (R1:=[_,_,_,_]) [2,0,1,3] (by decide) rfl).segOpen
 have c1:w.cell? ⟨sb,0,none⟩=some (.slice a segs.length c):=cell_of (h1.block 1 rfl) rfl
 by_cases h64:64≤segs.length
 ·have e:nextD l.m.next b (d,segs,hv)=((d,segs,hv),4):=by unfold nextD;rw [if_pos h64]
  have q1:(64:Int)≤(segs.length:Int):=Int.ofNat_le.2 h64
  have HE:=Lib.hid e
  have G:=Lib.hid h
  clear h h1 h64 ho hb4 hn e
  go_enter Tryz.func245,Tryz.ntmps245
  go_wp2_with fail
  go_ret
  exact⟨by rw [HE.out];rfl,by rw [HE.out];exact G.out⟩
 have q1:decide ((64:Int)≤(segs.length:Int))=false:=decide_eq_false (fun e=>h64 (Int.ofNat_le.1 e))
 have q1n:decide (64≤segs.length)=false:=decide_eq_false h64
 have c2:w.cell? ⟨lx,0,none⟩=some (dptr lb):=cell_of (h.block (j2+4) hj2) rfl
 have c3:=h.lgpA.lg3
 have hw1:IntKind.i64.wrap ((l.m.next:Int)+(segs.length:Int))=(l.m.next:Int)+(segs.length:Int):=IntWalk.i64_in _ (by omega)
 have hsm:l.m.next+segs.length < 4611686018427387904:=by omega
 have hND:nextD l.m.next b (d,segs,hv)=(if (clearD (segName (l.m.next+segs.length)) d).2≠0 then (((clearD (segName (l.m.next+segs.length)) d).1,segs,hv),(clearD (segName (l.m.next+segs.length)) d).2)
   else (((dAppend (clearD (segName (l.m.next+segs.length)) d).1 (segName (l.m.next+segs.length)) b).1,segs++[l.m.next+segs.length],b.length),(dAppend (clearD (segName (l.m.next+segs.length)) d).1 (segName (l.m.next+segs.length)) b).2)):=by
  unfold nextD;rw [if_neg h64]
 have hcl:=clearD_ops (segName (l.m.next+segs.length)) d
 obtain⟨x,hx⟩:∃ x,x=l.m.next+segs.length:=⟨_,rfl⟩
 have hxi:(l.m.next:Int)+(segs.length:Int)=(x:Int):=by omega
 rw [← hx] at hND hcl hsm
 rw [hxi] at hw1
 have KN:=Lib.hid (fun w' h'=>o_name (w:=w') (F0:=F0) (w0:=w0) (R:=RowsR pn lb bd sb hb l (d,segs,hv) R) h' x hsm)
 have KC:=Lib.hid (fun w' h'=>o_clear (w:=w') (F0:=F0) (w0:=w0) (R:=RowsR pn lb bd sb hb l (d,segs,hv) R) h' 1 rfl (Nat.le_trans ho (by decide)) (segName x) (segName_size x))
 obtain⟨r1,hr1⟩:∃ r1,clearD (segName x) d=r1:=⟨_,rfl⟩
 rw [hr1] at KC hND hcl
 obtain⟨d1,e1⟩:=r1
 simp only at KC hND hcl
 have HO1:Hid (d1.ops≤99999000):=Lib.hid (by omega)
 have HL0:=Lib.hid (fun w' (h':In F0 w0 w' (RowsR pn lb bd sb hb l (d,segs,hv) R))=>h'.lgpA.lg0)
 have HLY:=Lib.hid (fun w' d' (s':List Nat) (v':Nat) (h':In F0 w0 w' (RowsR pn lb bd sb hb l (d',s',v') R))=>And.intro (show w'.cell? ⟨lx,0,none⟩=some (dptr lb) from cell_of (h'.block (j2+4) hj2) rfl) h'.lgpA.lg0)
 have HLX:=Lib.hid (fun w' d' (h':In F0 w0 w' (RowsR pn lb bd sb hb l (d',segs,hv) R))=>And.intro (show w'.cell? ⟨gb,0,none⟩=some (.pointer (some ⟨sb,0,none⟩)) from cell_of (h'.block (j1+4) hj1) rfl) (And.intro (show w'.cell? ⟨lx,0,none⟩=some (dptr lb) from cell_of (h'.block (j2+4) hj2) rfl) h'.lgpA.lg0))
 have HH:=Lib.hid (fun n=>h.drewN n)
 have HSM:=Lib.hid hsm
 have HS64:Hid (segs.length+1≤64):=Lib.hid (by omega)
 have HB4:=Lib.hid hb4
 have HND:=Lib.hid hND
 have HXI:=Lib.hid hxi
 clear h1 h64 h hND hcl hr1 hx ho hb4 hn hsm
 go_enter Tryz.func245,Tryz.ntmps245
 go_wp2_with fail
 go_quiet (fail)
 clear c1
 have KN1:=Lib.hid (KN.out _ (HH.out (nq+1)))
 obtain⟨y0,y1,y2⟩:=HLX.out _ d (HH.out nq)
 clear c0 c2 c3 hw1
 go_wp2_with fail
 go_region_held3 (fun w'=>w'.cell? ⟨lx,0,none⟩=some (dptr lb)∧w'.cell? ⟨lb,0,none⟩=some (dptr bd)) (first | exact⟨hz1,hz2⟩ | exact⟨y1,y2⟩ | go_keep)
  (first
   | (go_at_call 89;refine KN1.out.mono ?_;rintro e w1 ⟨rfl,g1⟩;obtain⟨-,hz1,hz2⟩:=HLX.out w1 d g1;have K1:=Lib.hid (KC.out w1 g1);clear g1)
   | (go_at_call 161;refine K1.out.mono ?_;rintro e w2 ⟨rfl,g2⟩;obtain⟨hz0,hz1,hz2⟩:=HLX.out w2 d1 g2;have G2:=Lib.hid g2;clear g2))
 clear hz0 hz1 hz2 KN KN1 KC K1 HL0 HH y0 y1 y2
 by_cases he1:e1=0
 case neg=>
  have qe:(e1 != 0)=true:=by rw [bne_iff_ne];exact he1
  have HE:=Lib.hid HND.out
  have HN1:=Lib.hid he1
  clear he1
  go_wp2_with fail
  go_ret
  refine⟨by rw [HE.out,if_pos HN1.out];rfl,?_⟩
  rw [HE.out,if_pos HN1.out]
  exact G2.out
 have qe:(e1 != 0)=false:=by rw [he1];rfl
 have HE:Hid (nextD l.m.next b (d,segs,hv)=(((dAppend d1 (segName x) b).1,segs++[x],b.length),(dAppend d1 (segName x) b).2)):=Lib.hid (by rw [HND.out,if_neg (by simp [he1])])
 clear he1 HND
 have KN2:=Lib.hid (fun w' s h'=>o_name (w:=w') (F0:=F0) (w0:=w0) (R:=RowsR pn lb bd sb hb l (d1,s) R) h' x HSM.out)
 have KA:=Lib.hid (fun w' s h'=>o_dappend (w:=w') (F0:=F0) (w0:=w0) (R:=RowsR pn lb bd sb hb l (d1,s) R) h' 1 rfl (Nat.le_trans HO1.out (by decide)) (segName x) (segName_size x) (j3+4) (by omega) hB (Nat.le_trans HB4.out (by decide)))
 obtain⟨a2,c2',h2⟩:=(G2.out.sel2 (R1:=[_,_,_,_]) [2,0,1,3] (by decide) rfl).segOpen
 have d0:w2.cell? ⟨gb,0,none⟩=some (.pointer (some ⟨sb,0,none⟩)):=cell_of (G2.out.block (j1+4) hj1) rfl
 have d1':w2.cell? ⟨sb,0,none⟩=some (.slice a2 segs.length c2'):=cell_of (h2.block 1 rfl) rfl
 have H2:=Lib.hid h2
 clear h2
 go_wp2_with fail
 have g1:∀ o,(w2.alloc o).cell? ⟨sb,0,none⟩=some (.slice a2 segs.length c2'):=fun o=>cell_of ((H2.out.alloc o).block 1 rfl) rfl
 have g0:∀ o,(w2.alloc o).cell? ⟨gb,0,none⟩=some (.pointer (some ⟨sb,0,none⟩)):=fun o=>cell_of ((H2.out.alloc o).block (j1+5) hj1) rfl
 go_region_law
  (first
   | (refine app_step rfl (R:=Cells _ _ 3::RowA 3 1 (.slice a2 segs.length c2') segs.length (segV segs)::Cells sb #[.slice a2 segs.length c2'] 105::LgP pn lb bd l::DkA bd d1::Cells hb #[.int .i64 hv] 3::R) (by exact (H2.out.drewN 1).cells _ _) 1 rfl (.tmp 36) (.tmp 38) 105 (by rfl) Tryz.underlying105 infoInt (by decide) (by decide) (by rfl) (by rfl) (by exact Src.of_block (((H2.out.drewN 1).cells _ _).block 0 rfl) rfl) (fun u hu=>by simp at hu;subst hu;rfl) (Nat.le_trans HS64.out (by decide)) ?_
      intro v1 w3 ho1 hg1
      have z0:w3.cell? ⟨gb,0,none⟩=some (.pointer (some ⟨sb,0,none⟩)):=cell_of (ho1.block (j1+6) hj1) rfl
      have z1:w3.cell? ⟨sb,0,none⟩=some (.slice a2 segs.length c2'):=cell_of (ho1.block 2 rfl) rfl
      have z2:w3.frozen? ⟨sb,0,none⟩=false:=free_of (ho1.block 2 rfl)
      have z3:w3.cell? ⟨hb,0,none⟩=some (.int .i64 hv):=cell_of (ho1.block 5 rfl) rfl
      have z4:w3.frozen? ⟨hb,0,none⟩=false:=free_of (ho1.block 5 rfl)
      obtain⟨F1,hr1⟩:=ho1.get 1 rfl
      obtain⟨a3,cap3,rfl,-,-,-⟩:=hr1.shape
      clear hr1
      have hp:=ho1.put 2 rfl 0 (.slice a3 (segs.length+1) cap3)
      have z5:(w3.setCell ⟨sb,0,none⟩ (.slice a3 (segs.length+1) cap3)).cell? ⟨hb,0,none⟩=some (.int .i64 hv):=cell_of (hp.block 5 rfl) rfl
      have z6:(w3.setCell ⟨sb,0,none⟩ (.slice a3 (segs.length+1) cap3)).frozen? ⟨hb,0,none⟩=false:=free_of (hp.block 5 rfl)
      have HP:=Lib.hid hp
      clear ho1 hg1 hp))
 all_goals
  have hq:=HP.out.put 5 rfl 0 (.int .i64 (b.length:Int))
  have hr:In F0 w0 ((w3.setCell ⟨sb,0,none⟩ (.slice a3 (segs.length+1) cap3)).setCell ⟨hb,0,none⟩ (.int .i64 (b.length:Int))) (RowA 3 1 (.slice a3 (segs++[x]).length cap3) (segs++[x]).length (segV (segs++[x]))::Cells sb #[.slice a3 (segs++[x]).length cap3] 105::LgP pn lb bd l::DkA bd d1::Cells hb #[.int .i64 (b.length:Int)] 3::R):=by
   rw [show (segs++[x]).length=segs.length+1 by simp,show segV (segs++[x])=segV segs++[.int .i64 (x:Int)] by simp [segV]]
   exact hq.sel2 (R1:=[_,_,_,_,_,_]) [1,2,3,4,5] (by decide) rfl
  have hs:In F0 w0 ((w3.setCell ⟨sb,0,none⟩ (.slice a3 (segs.length+1) cap3)).setCell ⟨hb,0,none⟩ (.int .i64 (b.length:Int))) (RowsR pn lb bd sb hb l (d1,segs++[x],b.length) R):=hr.segClose.sel2 (R1:=[_,_,_,_]) [1,2,0,3] (by decide) rfl
  clear hq hr z0 z1 z2 z3 z4 z5 z6 HP H2 g0 g1 d0 d1' hz1 hz2 G2
  have HS:=Lib.hid hs
  obtain⟨y0,y1⟩:=HLY.out _ d1 _ _ hs
  clear hs
  go_wp2_with fail
  go_region_held3 (fun w'=>w'.cell? ⟨lx,0,none⟩=some (dptr lb)∧w'.cell? ⟨lb,0,none⟩=some (dptr bd)) (first | exact⟨hz1,hz2⟩ | exact⟨y0,y1⟩ | go_keep)
   (first
    | (go_at_call 89;refine (KN2.out _ (segs++[x],b.length) (HS.out.drewN _)).mono ?_;rintro e w4 ⟨rfl,g1⟩;obtain⟨hz1,hz2⟩:=HLY.out w4 d1 _ _ g1;have K1:=Lib.hid (KA.out w4 _ g1);clear g1)
    | (go_at_call 114;refine K1.out.mono ?_;rintro e w5 ⟨rfl,g2⟩;obtain⟨hz1,hz2⟩:=HLY.out w5 (dAppend d1 (segName x) b).1 (segs++[x]) b.length g2;have G3:=Lib.hid g2;clear g2))
  all_goals
   go_wp2_with fail
   go_ret
   refine⟨by rw [HE.out];rfl,?_⟩
   rw [HE.out]
   exact G3.out
end
section
variable {F0:List Nat} {w0 w:World} {R:List Asrt} {pn:Value} {bd lb sb:Nat} {d:DiskD} {l:LogD} {segs:List Nat}
theorem o_rsync {gb lx nb hb hv ty:Nat} (h:In F0 w0 w (RowsR pn lb bd sb hb l (d,segs,hv) R)) (j1 j2 j3:Nat) (hj1:R[j1]?=some (Cells gb #[.pointer (some ⟨sb,0,none⟩)] 252)) (hj2:R[j2]?=some (Cells lx #[dptr lb] 78))
  (hj3:R[j3]?=some (Cells nb #[.func (.func 246) #[] #[.pointer (some ⟨gb,0,none⟩)]] ty)) (ho:d.ops≤99990000) (hne:segs≠[]) (hs:segs.length≤100) (hvv:∀ x∈segs,x < 4611686018427387904) :
  Calls Tryz.prog 247 #[.pointer (some ⟨lx,0,none⟩),.pointer (some ⟨nb,0,none⟩)] w fun e w'=>e=.returned (.int .i64 (dSync d (newest segs)).2)∧In F0 w0 w' (RowsR pn lb bd sb hb l ((dSync d (newest segs)).1,segs,hv) R):=by
 have HLY:=Lib.hid (fun w' d' (h':In F0 w0 w' (RowsR pn lb bd sb hb l (d',segs,hv) R))=>And.intro (show w'.cell? ⟨lx,0,none⟩=some (dptr lb) from cell_of (h'.block (j2+4) hj2) rfl) (And.intro h'.lgpA.lg0 (show w'.cell? ⟨nb,0,none⟩=some (.func (.func 246) #[] #[.pointer (some ⟨gb,0,none⟩)]) from cell_of (h'.block (j3+4) hj3) rfl)))
 have KN:=Lib.hid (fun w' (h':In F0 w0 w' (RowsR pn lb bd sb hb l (d,segs,hv) R))=>o_rname (h'.sel2 (R1:=[_,_,_,_]) [2,0,1,3] (by decide) rfl) (j1+3) hj1 hne hs hvv)
 have KA:=Lib.hid (fun w' (h':In F0 w0 w' (RowsR pn lb bd sb hb l (d,segs,hv) R))=>o_dsync h' 1 rfl (Nat.le_trans ho (by decide)) (newest segs) (segName_size _))
 obtain⟨y0,y1,y2⟩:=HLY.out _ d h
 have HH:=Lib.hid (fun n=>h.drewN n)
 clear h ho hne hs hvv
 go_enter Tryz.func247,Tryz.ntmps247
 go_wp2_with fail
 go_region_held3 (fun w'=>w'.cell? ⟨lx,0,none⟩=some (dptr lb)∧w'.cell? ⟨lb,0,none⟩=some (dptr bd)∧w'.cell? ⟨nb,0,none⟩=some (.func (.func 246) #[] #[.pointer (some ⟨gb,0,none⟩)])) (first | exact⟨hz1,hz2,hz3⟩ | exact⟨y0,y1,y2⟩ | go_keep)
  (first
   | (go_at_call 246;refine (KN.out _ (HH.out _)).mono ?_;rintro e w1 ⟨rfl,g1⟩;have g2:In F0 w0 w1 (RowsR pn lb bd sb hb l (d,segs,hv) R):=g1.sel2 (R1:=[_,_,_,_]) [1,2,0,3] (by decide) rfl;obtain⟨hz1,hz2,hz3⟩:=HLY.out w1 d g2;have K1:=Lib.hid (KA.out w1 g2);clear g1 g2)
   | (go_at_call 88;refine K1.out.mono ?_;rintro e w2 ⟨rfl,g3⟩;obtain⟨hz1,hz2,hz3⟩:=HLY.out w2 (dSync d (newest segs)).1 g3;have G3:=Lib.hid g3;clear g3))
 all_goals
  go_wp2_with fail
  go_ret
  exact⟨rfl,G3.out⟩
end
section
variable {F0:List Nat} {w0 w:World} {R:List Asrt} {pn:Value} {bd lb sb:Nat} {d:DiskD} {l:LogD} {segs:List Nat}
theorem o_rfour {gb lx nb bb hb hv ty ty2:Nat} {b:List UInt8} {A:Option Addr} {cA:Nat} (h:In F0 w0 w (RowsR pn lb bd sb hb l (d,segs,hv) R)) (j1 j2 j3 j4 j5:Nat) (hj1:R[j1]?=some (Cells gb #[.pointer (some ⟨sb,0,none⟩)] 252)) (hj2:R[j2]?=some (Cells lx #[dptr lb] 78))
  (hB:R[j3]?=some (RowA 5 1 (.slice A b.length cA) b.length (u8s b))) (hj4:R[j4]?=some (Cells nb #[.func (.func 245) #[] #[.pointer (some ⟨gb,0,none⟩),.pointer (some ⟨lx,0,none⟩),.pointer (some ⟨hb,0,none⟩)]] ty)) (hj5:R[j5]?=some (Cells bb #[.slice A b.length cA] ty2))
  (ho:d.ops≤99990000) (hb4:b.length≤5000) (hn:l.m.next≤1000000) :
  Calls Tryz.prog 248 #[.pointer (some ⟨nb,0,none⟩),.pointer (some ⟨bb,0,none⟩)] w fun e w'=>e=.returned (.int .i64 (nextD l.m.next b (d,segs,hv)).2)∧In F0 w0 w' (RowsR pn lb bd sb hb l (nextD l.m.next b (d,segs,hv)).1 R):=by
 have y0:w.cell? ⟨nb,0,none⟩=some (.func (.func 245) #[] #[.pointer (some ⟨gb,0,none⟩),.pointer (some ⟨lx,0,none⟩),.pointer (some ⟨hb,0,none⟩)]):=cell_of (h.block (j4+4) hj4) rfl
 have y1:w.cell? ⟨bb,0,none⟩=some (.slice A b.length cA):=cell_of (h.block (j5+4) hj5) rfl
 have KN:=Lib.hid (o_rnext h j1 j2 j3 hj1 hj2 hB ho hb4 hn)
 clear h ho hb4 hn
 go_enter Tryz.func248,Tryz.ntmps248
 go_wp2_with fail
 refine KN.out.mono ?_
 rintro e w1 ⟨rfl,g1⟩
 have G:=Lib.hid g1
 clear g1 KN
 go_wp2_with fail
 go_ret
 exact⟨rfl,G.out⟩
end
def bodB:List Value→List (List UInt8)→List Asrt
 | v::vs,b::bs=>RowA 5 1 v b.length (u8s b)::bodB vs bs
 | _,_=>[]
theorem bodB_at:∀ {vs:List Value} {bs:List (List UInt8)} {R:List Asrt} {k:Nat} {v:Value} {b:List UInt8},vs[k]?=some v→bs[k]?=some b→(bodB vs bs++R)[k]?=some (RowA 5 1 v b.length (u8s b))
 | [],_,_,_,_,_,h,_=>by simp at h
 | _::_,[],_,_,_,_,_,h=>by simp at h
 | v::vs,b::bs,R,0,_,_,h1,h2=>by simp at h1 h2;subst h1 h2;rfl
 | v::vs,b::bs,R,k+1,_,_,h1,h2=>by
  simp only [bodB,List.cons_append,List.getElem?_cons_succ]
  exact bodB_at (by simpa using h1) (by simpa using h2)
abbrev SLN:=DiskD×List Nat×Nat
theorem rowsD_app (l:LogD):∀ (xs ys:List (List UInt8)) (s:SLN),rowsD l (xs++ys) s=thenD (rowsD l xs s) (rowsD l ys)
 | [],ys,s=>by
  have e:rowsD l [] s=(s,0):=rfl
  rw [List.nil_append,e,thenD_ok rfl]
 | x::xs,ys,s=>by
  have e1:rowsD l (x::(xs++ys)) s=thenD (rowD l x s) (rowsD l (xs++ys)):=rfl
  have e2:rowsD l (x::xs) s=thenD (rowD l x s) (rowsD l xs):=rfl
  rw [List.cons_append,e1,e2]
  by_cases h:(rowD l x s).2=0
  ·rw [thenD_ok h,thenD_ok h,rowsD_app l xs ys]
  ·rw [thenD_err h,thenD_err h,thenD_err h]
theorem rowsD_one (l:LogD) (x:List UInt8) (s:SLN):rowsD l [x] s=rowD l x s:=by
 have e:rowsD l [x] s=thenD (rowD l x s) (rowsD l []):=rfl
 rw [e]
 by_cases h:(rowD l x s).2=0
 ·rw [thenD_ok h];exact Prod.ext rfl h.symm
 ·rw [thenD_err h]
theorem dAppend_ops (d:DiskD) (n:ByteArray) (b:List UInt8):(dAppend d n b).1.ops≤d.ops+1:=by have:=(dOps d n n b 0).1;omega
structure RwI (l:LogD) (d0:DiskD) (k:Nat) (s:SLN):Prop where
 ops:s.1.ops≤d0.ops+3 * k
 len:s.2.1.length≤64
 lt:∀ x∈s.2.1,x < l.m.next+64
 have':s.2.2≤5000 * k
theorem nextD_inv {nx:Nat} {b:List UInt8} {s:SLN} (h1:s.2.1.length≤64) (h2:∀ x∈s.2.1,x < nx+64) :
  (nextD nx b s).1.1.ops≤s.1.ops+2∧(nextD nx b s).1.2.1.length≤64∧(∀ x∈(nextD nx b s).1.2.1,x < nx+64)∧((nextD nx b s).1.2.2≤s.2.2∨(nextD nx b s).1.2.2≤b.length)∧((nextD nx b s).2=0→(nextD nx b s).1.2.1≠[]):=by
 have c1:=clearD_ops (segName (nx+s.2.1.length)) s.1
 unfold nextD
 split
 ·exact⟨by simp only;omega,h1,h2,Or.inl (Nat.le_refl _),fun h=>by simp at h⟩
 split
 ·rename_i h64 hc
  exact⟨by simp only;omega,h1,h2,Or.inl (Nat.le_refl _),fun h=>absurd h hc⟩
 ·rename_i h64 hc
  have c2:=dAppend_ops (clearD (segName (nx+s.2.1.length)) s.1).1 (segName (nx+s.2.1.length)) b
  refine⟨by simp only;omega,by simp;omega,fun x hx=>?_,Or.inr (Nat.le_refl _),fun _=>by simp⟩
  rcases List.mem_append.1 hx with hx | hx
  ·exact h2 x hx
  ·simp at hx;omega
theorem RwI.row {l:LogD} {d0:DiskD} {k:Nat} {s:SLN} (h:RwI l d0 k s) {b:List UInt8} (hb:b.length≤5000):RwI l d0 (k+1) (rowD l b s).1:=by
 obtain⟨h1,h2,h3,h4⟩:=h
 unfold rowD
 split
 ·obtain⟨n1,n2,n3,n4,_⟩:=nextD_inv (b:=b) h2 h3
  exact⟨by omega,n2,n3,by omega⟩
 split
 ·have c2:=dAppend_ops s.1 (newest s.2.1) b
  exact⟨by simp only;omega,h2,h3,by simp only;omega⟩
 ·have c1:=dSync_ops s.1 (newest s.2.1)
  by_cases h:(dSync s.1 (newest s.2.1)).2=0
  ·rw [thenD_ok (r:=(((dSync s.1 (newest s.2.1)).1,s.2),(dSync s.1 (newest s.2.1)).2)) h]
   obtain⟨n1,n2,n3,n4,_⟩:=nextD_inv (nx:=l.m.next) (b:=b) (s:=((dSync s.1 (newest s.2.1)).1,s.2)) h2 h3
   simp only at n1 n4
   show RwI l d0 (k+1) (nextD l.m.next b ((dSync s.1 (newest s.2.1)).1,s.2)).1
   exact⟨by omega,n2,n3,by omega⟩
  ·rw [thenD_err (r:=(((dSync s.1 (newest s.2.1)).1,s.2),(dSync s.1 (newest s.2.1)).2)) h]
   exact⟨by simp only;omega,h2,h3,by simp only;omega⟩
def syncNew (s:SLN):SLN×Int:=(((dSync s.1 (newest s.2.1)).1,s.2),(dSync s.1 (newest s.2.1)).2)
theorem layD_err {l:LogD} {bs:List (List UInt8)} {d:DiskD} (h:(rowsD l bs (d,[],0)).2≠0):layD l bs d=rowsD l bs (d,[],0):=by
 unfold layD
 rw [thenD_err h,thenD_err h]
theorem layD_some {l:LogD} {bs:List (List UInt8)} {d:DiskD} {s:SLN} (h:rowsD l bs (d,[],0)=(s,0)) (hs:s.2.1≠[]):layD l bs d=syncNew s:=by
 unfold layD
 rw [h,thenD_ok (r:=(s,0)) rfl]
 simp only
 rw [if_neg hs,thenD_ok (r:=(s,0)) rfl];rfl
theorem layD_nil {l:LogD} {bs:List (List UInt8)} {d:DiskD} {s:SLN} (h:rowsD l bs (d,[],0)=(s,0)) (hs:s.2.1=[]):layD l bs d=thenD (nextD l.m.next [] s) syncNew:=by
 unfold layD
 rw [h,thenD_ok (r:=(s,0)) rfl]
 simp only
 rw [if_pos hs];rfl
section
variable {F0:List Nat} {w0 w:World} {R:List Asrt} {pn:Value} {bd lb sb:Nat} {d:DiskD} {l:LogD}
def f1V (gb lx hb:Nat):Value:=.func (.func 245) #[] #[.pointer (some ⟨gb,0,none⟩),.pointer (some ⟨lx,0,none⟩),.pointer (some ⟨hb,0,none⟩)]
def f2V (gb:Nat):Value:=.func (.func 246) #[] #[.pointer (some ⟨gb,0,none⟩)]
theorem row_all {fb lx gb hb nx nm bb:Nat} {s:SLN} {x:List UInt8} {A:Option Addr} {cA ty:Nat} (hs:s.2.1≠[]) (h1:s.1.ops≤99980000) (h2:s.2.1.length≤64) (h3:∀ y∈s.2.1,y < l.m.next+64) (hn:l.m.next≤1000000) (hx:x.length≤5000) {Q:List Asrt}
  (jg jl jm jn jb jx:Nat) (hg:Q[jg]?=some (Cells gb #[.pointer (some ⟨sb,0,none⟩)] 252)) (hl:Q[jl]?=some (Cells lx #[dptr lb] 78)) (hm:Q[jm]?=some (Cells nm #[f2V gb] 182)) (hnn:Q[jn]?=some (Cells nx #[f1V gb lx hb] 280)) (hb':Q[jb]?=some (Cells bb #[.slice A x.length cA] 61)) (hxx:Q[jx]?=some (RowA 5 1 (.slice A x.length cA) x.length (u8s x)))
  (fs:List (FuncId×Array Value)) (hfs:fs=[(247,#[.pointer (some ⟨lx,0,none⟩),.pointer (some ⟨nm,0,none⟩)]),(248,#[.pointer (some ⟨nx,0,none⟩),.pointer (some ⟨bb,0,none⟩)])])
  (h:In F0 w0 w (Cells fb (fs.map fnV).toArray ty::RowsR pn lb bd sb hb l s Q)) :
  Calls Tryz.prog 84 #[.slice (some ⟨fb,0,none⟩) 2 2] w fun e w'=>e=.returned (.int .i64 (thenD (syncNew s) (nextD l.m.next x)).2)∧In F0 w0 w' (RowsR pn lb bd sb hb l (thenD (syncNew s) (nextD l.m.next x)).1 Q):=by
 have hent1:∀ args w',(callFunc 247 args).run Tryz.prog w'=.ok (.enter 247 args) w':=enters_of Tryz.func247 (by kernel_rfl) rfl
 have hent2:∀ args w',(callFunc 248 args).run Tryz.prog w'=.ok (.enter 248 args) w':=enters_of Tryz.func248 (by kernel_rfl) rfl
 have hlen:fs.length=2:=by rw [hfs];rfl
 have key:=all_fn (F0:=F0) (w0:=w0) (w:=w) (fun k (t:SLN)=>(k=0→t=s)∧(k=1→t.1.ops≤99980001∧t.2=s.2)) (fun t=>RowsR pn lb bd sb hb l t Q) fb ty [syncNew,nextD l.m.next x] fs (by rw [hlen];rfl) (by omega) s 2
  ⟨fun _=>rfl,fun h=>by omega⟩ (fun k f hf t hI=>by
   refine⟨fun h=>by omega,fun h=>?_⟩
   obtain rfl:k=0:=by omega
   cases hf
   obtain rfl:=hI.1 rfl
   have:=dSync_ops t.1 (newest t.2.1)
   exact⟨by show (dSync t.1 (newest t.2.1)).1.ops≤_;omega,rfl⟩)
  (fun f hf=>by
   rw [hfs] at hf
   simp only [List.mem_cons,List.not_mem_nil,or_false] at hf
   rcases hf with rfl | rfl
   ·exact hent1
   ·exact hent2)
  (fun k f g hf hgg w' t hI h'=>by
   rw [hfs] at hf
   rcases k with _ | _ | k
   ·obtain rfl:=hI.1 rfl
    cases hf;cases hgg
    obtain⟨t1,t2,t3⟩:=t
    have:=o_rsync (F0:=F0) (w0:=w0) (d:=t1) (segs:=t2) (hv:=t3) (R:=Cells fb (fs.map fnV).toArray ty::Q) (h'.sel2 (R1:=[_,_,_,_,_]) [1,2,3,4,0] (by decide) rfl) (gb:=gb) (lx:=lx) (nb:=nm) (jg+1) (jl+1) (jm+1) hg hl hm (by simp only at h1;omega) hs (by simp only at h2;omega) (fun y hy=>by have:=h3 y hy;omega)
    exact this.mono fun e w'' ⟨he,hw⟩=>⟨he,hw.sel2 (R1:=[_,_,_,_,_]) [4,0,1,2,3] (by decide) rfl⟩
   ·obtain⟨i1,i2⟩:=hI.2 rfl
    cases hf;cases hgg
    obtain⟨t1,t2,t3⟩:=t
    have:=o_rfour (F0:=F0) (w0:=w0) (d:=t1) (segs:=t2) (hv:=t3) (b:=x) (A:=A) (cA:=cA) (R:=Cells fb (fs.map fnV).toArray ty::Q) (h'.sel2 (R1:=[_,_,_,_,_]) [1,2,3,4,0] (by decide) rfl) (gb:=gb) (lx:=lx) (nb:=nx) (bb:=bb) (jg+1) (jl+1) (jx+1) (jn+1) (jb+1) hg hl hxx hnn hb' (by simp only at i1;omega) hx hn
    exact this.mono fun e w'' ⟨he,hw⟩=>⟨he,hw.sel2 (R1:=[_,_,_,_,_]) [4,0,1,2,3] (by decide) rfl⟩
   ·simp at hf) h
 rw [hlen] at key
 exact key.mono fun e w' ⟨he,hw⟩=>⟨he,hw.drop⟩
end
end Go.Proofs.YtaopfagclnocdaaGreat
